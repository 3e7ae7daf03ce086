/- The reference's Path and Names of layer 44. -/
import Derived.Test.YtcjejcbikgcnbaaGreedy
namespace Go.Proofs.Ytcjejcbikgcnbaa
open Go.RowKit Go.Shelf

/-- What the reference's Path leaves: the longest chain. -/
def RefPathPost (l : List Task) (w : World) (e : Ending) (w' : World) : Prop :=
  Below w.heap.size w w' ∧ ∃ (L : Int) (y : List Nat) (v : Value), Covers l [l.length] L y ∧ e = .returned (.tuple #[.int .i64 L, v]) ∧ w'.ownsRow w.heap.size 3 1 v y.length (nats y)

theorem own_open (w : World) (B e : Nat) (v : Value) (y : List Nat) (h : w.ownsRow B e 1 v y.length (nats y)) : ∃ A c, v = .slice A y.length c ∧ y.length ≤ c ∧ c ≤ 9223372036854775807 ∧ ∀ k (_ : k < y.length), ∃ b off, A = some ⟨b, off, none⟩ ∧ b < w.heap.size ∧ ∀ j (hj : j < y.length), w.cell? ⟨b, off + j, none⟩ = some (.int .i64 (y[j] : Nat)) := by
  have hbr : IntsAt w w.heap.size v (ints y) := RowAt.of_own (show w.ownsRow B e 1 v y.length ((ints y).map (Value.int .i64)) from h)
  obtain ⟨A2, c2, rfl, hy1, hy2, hcy⟩ := hbr.open_
  rw [length_ints] at *
  unfold maxLen at hy2
  refine ⟨A2, c2, rfl, hy1, hy2, fun k hk => ?_⟩
  obtain ⟨b, off, e1, hb, hc⟩ := hcy k (by rw [length_ints]; exact hk)
  refine ⟨b, off, e1, hb, fun j hj => ?_⟩
  rw [hc j (by rw [length_ints]; exact hj)]
  simp [ints]

set_option maxRecDepth 100000 in
set_option maxHeartbeats 4000000 in
theorem refPath (v : Value) (l : List Task) (w : World) (hR : RightT l) (hl : TasksAt w w.heap.size v l) :
    Calls Try.prog 20 #[v] w (RefPathPost l w) := by
  have HF : Hid (∀ (k : Nat) (n : Int) (wr : World), k < l.length → IsFrom l k n → Below w.heap.size w wr → Calls Try.prog 70 #[v, .int .i64 k] wr fun e w' => e = .returned (.int .i64 n) ∧ ∃ q, wr.drewN q = w') := fun k n wr hk hn hb => by
    refine (refFrom v l w.heap.size hR l.length k wr hk (fun z hz => hz.short hR) (hl.below hb (Nat.le_refl _))).mono ?_
    rintro e w' ⟨⟨m, rfl, hm⟩, hq⟩
    rw [hm.uniq hn]
    exact ⟨rfl, hq⟩
  have HB : Hid (∀ (i k : Nat) (wr : World) (hi : i < l.length) (hk : k < l.length), Below w.heap.size w wr → Calls Try.prog 71 #[v, .int .i64 i, .int .i64 k] wr fun e w' => e = .returned (.bool (decide (l[i].name ∈ l[k].bef))) ∧ ∃ q, wr.drewN q = w') := fun i k wr hi hk hb =>
    rbefore v l i k wr w.heap.size (hl.below hb (Nat.le_refl _)) hi hk
  have HL := Lib.hid hl
  have HRT := Lib.hid hR
  have h8 := hR.len
  obtain ⟨A, c, rfl, hc1, hc2, hcell⟩ := hl.open_
  unfold maxLen at hc2
  clear hl hcell hR
  go_enter Try.func20, Try.ntmps20
  go_wp2
  go_loopw [5, 4] (fun s m wr => ∃ (k : Nat) (n : Int), k ≤ l.length ∧ s = .int .i64 k ∧ m = .int .i64 n ∧ n ≤ 80000 ∧ Hid (MostUp l k n) ∧ ∃ q, wr = w.drewN q) (fun s _ _ => l.length - (intOf s).toNat)
  case atStart => exact ⟨0, 0, Nat.zero_le _, rfl, rfl, by omega, MostUp.start l, 0, rfl⟩
  case round =>
    obtain ⟨k, n, hk, rfl, rfl, hn, HM, q, rfl⟩ := hrel
    by_cases hkl : k < l.length
    · obtain ⟨m, hm⟩ := from_ex HRT.out hkl
      have hcall := HF.out k m (w.drewN q) hkl hm (below_drewN (Below.refl _ _) q)
      have hbm := hm.bd HRT.out
      have HY := Lib.hid (HM.out.next hm)
      have Hm := Lib.hid hm
      clear hm HM
      go_wp2_with (go_at_call 70; refine hcall.mono ?_; rintro e w' ⟨rfl, q2, rfl⟩)
      · have hlt : n < m := by assumption
        rw [if_pos hlt] at HY
        go_roundw
        case rel => exact ⟨k + 1, m, by omega, by go_num, rfl, hbm.2, HY, _, rfl⟩
        case measure => simp [intOf]; omega
      · have hlt : ¬ n < m := by omega
        rw [if_neg hlt] at HY
        go_roundw
        case rel => exact ⟨k + 1, n, by omega, by go_num, rfl, hn, HY, _, rfl⟩
        case measure => simp [intOf]; omega
    · have hke : k = l.length := by omega
      subst hke
      have HG := Lib.hid (Greedy.start HRT.out HM.out)
      clear HM
      go_wp2
      go_loopw [8, 7] (fun s o wo => ∃ (r : Int) (p : List Nat), s = .int .i64 r ∧ r ≤ 80000 ∧ Hid (Greedy l n p r) ∧ wo.ownsRow w.heap.size 3 1 o p.length (nats p) ∧ Below w.heap.size w wo) (fun s _ _ => (intOf s).toNat)
      case atStart => exact ⟨n, [], rfl, hn, HG, World.ownsRow_nil _ _ _ _, below_drewN (Below.refl _ _) _⟩
      case round =>
        clear HG
        obtain ⟨r, p, rfl, hr, HG, hown, hbel⟩ := hrel
        have hpl := HG.out.chain.short HRT.out
        have hr0 := HG.out.left
        by_cases h0 : 0 < r
        · obtain ⟨K, hK, hKn, hKf⟩ := HG.out.wit h0
          have HKn := Lib.hid hKn
          have HKf := Lib.hid hKf
          have hbr := own_open wr _ _ _ p hown
          obtain ⟨A2, c2, rfl, hy1, hy2, hcy⟩ := hbr
          clear hKn hKf
          go_wp2
          obtain ⟨wx, rfl⟩ : ∃ wx : World, wx = wr := ⟨_, rfl⟩
          go_loopw [9] (fun s wi => ∃ (k : Nat), k ≤ K ∧ s = .int .i64 k ∧ Hid (∀ j, j < k → nextOK l p j → ¬ IsFrom l j r) ∧ ∃ q, wi = wx.drewN q) (fun s _ => K - (intOf s).toNat)
          case atStart => exact ⟨0, Nat.zero_le _, rfl, fun j hj => absurd hj (Nat.not_lt_zero j), 0, rfl⟩
          case round =>
            obtain ⟨k, hk, rfl, Hno, q3, rfl⟩ := hrel
            have hkl : k < l.length := by omega
            obtain ⟨m, hm⟩ := from_ex HRT.out hkl
            have hcall := HF.out k m (wx.drewN q3) hkl hm (below_drewN hbel q3)
            have hbm := hm.bd HRT.out
            have Hm := Lib.hid hm
            clear hm
            have HE : Hid (k < l.length → nextOK l p k → IsFrom l k r → Greedy l n (p ++ [k]) (r - l[k].len)) := fun a b c => by rw [← lenAt_eq hkl]; exact HG.out.take HRT.out h0 a b c Hno.out
            obtain ⟨hpos, hmx⟩ := fieldB_len (HRT.out.field k hkl)
            have hsz := hbel.size
            by_cases hmr : m = r
            · subst hmr
              by_cases hp : p = []
              · subst hp
                have HY := Lib.hid (HE.out hkl (fun h => absurd rfl h) Hm.out)
                have hsz := hbel.size
                clear HE
                go_wp2_with (first | (go_at_call 70; refine hcall.mono ?_; rintro e w' ⟨rfl, q2, rfl⟩) | (at_builtin; refine wpList_push _ rfl (.tmp 50) (.tmp 52) 29 rfl w.heap.size 3 info_int Try.underlying29 rfl _ 0 _ rfl (own_drewN hown _) (.int .i64 k) rfl rfl (by unfold maxLen; omega) (by omega) (by simpa using hbel.size) ?_; intro g3 cap3 w3 hown3 hgrow3 hbg hgg; have hbel3 := (below_drewN hbel _).grown hgrow3 (by simpa using hbel.size) (fun k hk => (hown.lt k hk).1); have t1 := (TasksAt.cells (HL.out.below hbel3 (Nat.le_refl _)) hkl); obtain ⟨b, off, e1, hb, hcell⟩ := t1; subst e1; obtain ⟨-, t1, -, -, -⟩ := hcell k hkl))
                go_roundw
                case rel => exact ⟨_, [k], rfl, by omega, HY, hown3, hbel3⟩
                case measure => simp [intOf]; omega
              · have hpos1 : 0 < p.length := List.length_pos_iff.2 hp
                obtain ⟨b, off, rfl, hb, hcy⟩ := hcy (p.length - 1) (by omega)
                have hlast := hcy (p.length - 1) (by omega)
                clear hcy
                have hlk := HG.out.chain.1 _ (List.getElem_mem (show p.length - 1 < p.length by omega))
                have hbf := fun q => HB.out (p[p.length - 1]'(by omega)) k (wx.drewN q) hlk hkl (below_drewN hbel q)
                have eL : p.getLast hp = p[p.length - 1]'(by omega) := List.getLast_eq_getElem hp
                by_cases hed : l[p[p.length - 1]'(by omega)].name ∈ l[k].bef
                · simp only [decide_eq_true hed] at hbf
                  have HY := Lib.hid (HE.out hkl (fun h => by rw [eL]; exact ⟨hlk, hkl, hed⟩) Hm.out)
                  clear HE hed eL
                  generalize p[p.length - 1]'(by omega) = pl at *
                  go_wp2_with (first | (go_at_call 70; refine hcall.mono ?_; rintro e w' ⟨rfl, q2, rfl⟩) | (go_at_call 71; refine (hbf _).mono ?_; rintro e w' ⟨rfl, q5, rfl⟩) | (at_builtin; refine wpList_push _ rfl (.tmp 50) (.tmp 52) 29 rfl w.heap.size 3 info_int Try.underlying29 rfl _ p.length _ rfl (own_drewN hown _) (.int .i64 k) rfl rfl (by unfold maxLen; omega) (by omega) (by simpa using hbel.size) ?_; intro g3 cap3 w3 hown3 hgrow3 hbg hgg; have hbel3 := (below_drewN hbel _).grown hgrow3 (by simpa using hbel.size) (fun k hk => (hown.lt k hk).1); have t1 := (TasksAt.cells (HL.out.below hbel3 (Nat.le_refl _)) hkl); obtain ⟨b, off, e1, hb, hcell⟩ := t1; subst e1; obtain ⟨-, t1, -, -, -⟩ := hcell k hkl))
                  rw [← show nats (p ++ [k]) = nats p ++ [Value.int .i64 k] by simp [nats, ints]] at hown3
                  go_roundw
                  case rel => exact ⟨_, p ++ [k], rfl, by omega, HY, by rw [List.length_append]; exact hown3, hbel3⟩
                  case measure => simp [intOf]; omega
                · simp only [decide_eq_false hed] at hbf
                  have hnn : ¬ nextOK l p k := fun h => by have := h hp; rw [eL] at this; exact hed this.2.2
                  have HN : Hid (∀ j, j < k + 1 → nextOK l p j → ¬ IsFrom l j m) := fun j hj hj2 hj3 => by
                    by_cases e : j = k
                    · subst e; exact hnn hj2
                    · exact Hno.out j (by omega) hj2 hj3
                  have hkK : k < K := by
                    rcases Nat.lt_or_ge k K with h | h
                    · exact h
                    · have e : k = K := by omega
                      subst e
                      exact absurd HKn.out hnn
                  clear HE hed eL hnn Hno
                  generalize p[p.length - 1]'(by omega) = pl at *
                  go_wp2_with (first | (go_at_call 70; refine hcall.mono ?_; rintro e w' ⟨rfl, q2, rfl⟩) | (go_at_call 71; refine (hbf _).mono ?_; rintro e w' ⟨rfl, q5, rfl⟩))
                  go_roundw
                  case rel => exact ⟨k + 1, by omega, by go_num, HN, _, rfl⟩
                  case measure => simp [intOf]; omega
            · have HN : Hid (∀ j, j < k + 1 → nextOK l p j → ¬ IsFrom l j r) := fun j hj hj2 hj3 => by
                by_cases e : j = k
                · subst e; exact hmr (Hm.out.uniq hj3)
                · exact Hno.out j (by omega) hj2 hj3
              have hkK : k < K := by
                rcases Nat.lt_or_ge k K with h | h
                · exact h
                · have e : k = K := by omega
                  subst e
                  exact absurd (Hm.out.uniq HKf.out) hmr
              clear Hno HE
              go_wp2_with (go_at_call 70; refine hcall.mono ?_; rintro e w' ⟨rfl, q2, rfl⟩)
              go_roundw
              case rel => exact ⟨k + 1, by omega, by go_num, HN, _, rfl⟩
              case measure => simp [intOf]; omega
        · have HD := Lib.hid (HG.out.done h0)
          have hbr := own_open wr _ _ _ p hown
          obtain ⟨A2, c2, rfl, hy1, hy2, hcy⟩ := hbr
          clear hcy
          go_wp2
          refine bodyPost_ret (results_tmp2 rfl _ _ _) (by rfl) ?_
          exact ⟨hbel, n, p, _, HD.out, rfl, hown⟩

end Go.Proofs.Ytcjejcbikgcnbaa
