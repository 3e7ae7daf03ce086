/- The reference's Clique of layer 44. -/
import Derived.Test.YtcjejcbikgcnbaaRefExcl
import Derived.Test.YtcjejcbikgcnbaaBits
import Derived.Test.YtcjejcbikgcnbaaRefGiven
namespace Go.Proofs.Ytcjejcbikgcnbaa
open Go.RowKit Go.Shelf

theorem own_below {w w' : World} {B e s n : Nat} {v : Value} {xs : List Value} (h : w.ownsRow B e s v n xs) (hb : Below w.heap.size w w') : w'.ownsRow B e s v n xs := by
  refine h.kept (grown_below (row := none) hb) ?_
  cases v.ownBlock with
  | none => exact .inl rfl
  | some g => exact .inr (by simp)

theorem clique_next {l : List Task} {c p : Int} {S i : Nat} (hb : S.testBit i = true) : isClique l c p S (i + 1) ↔ isClique l c p S i ∧ ∀ y ∈ memb S i, excl l c p y i := by
  constructor
  · intro h
    refine ⟨fun x y hx hy hxs hys => h x y (by omega) hy hxs hys, fun y hy => ?_⟩
    obtain ⟨h1, h2⟩ := mem_memb.1 hy
    exact excl_symm (h i y (by omega) h1 hb h2)
  · rintro ⟨h, h'⟩ x y hx hy hxs hys
    rcases (show x < i ∨ x = i by omega) with hlt | rfl
    · exact h x y hlt hy hxs hys
    · exact excl_symm (h' y (mem_memb.2 ⟨hy, hys⟩))
theorem clique_skip {l : List Task} {c p : Int} {S i : Nat} (hb : S.testBit i = false) : isClique l c p S (i + 1) ↔ isClique l c p S i := by
  constructor
  · exact fun h x y hx hy hxs hys => h x y (by omega) hy hxs hys
  · intro h x y hx hy hxs hys
    rcases (show x < i ∨ x = i by omega) with hlt | rfl
    · exact h x y hlt hy hxs hys
    · rw [hb] at hxs; cases hxs
theorem memb_len (S n : Nat) : (memb S n).length ≤ n := by
  have := List.length_filter_le (fun i => S.testBit i) (List.range n)
  rw [List.length_range] at this
  exact this

def RefCliquePost (l : List Task) (c p : Int) (w : World) (e : Ending) (w' : World) : Prop :=
  Below w.heap.size w w' ∧ ∃ (L : Int) (s : Nat) (v : Value), Heavy l c p (2 ^ l.length) L s ∧ e = .returned (.tuple #[.int .i64 L, v]) ∧ w'.ownsRow w.heap.size 3 1 v (memb s l.length).length (nats (memb s l.length))

set_option maxRecDepth 100000 in
set_option maxHeartbeats 8000000 in
theorem refClique (v : Value) (l : List Task) (c p : Int) (w : World) (hR : RightT l) (hl : TasksAt w w.heap.size v l) :
    Calls Try.prog 27 #[v, .int .i64 c, .int .i64 p] w (RefCliquePost l c p w) := by
  have HX : Hid (∀ (i k : Nat) (wr : World) (hi : i < l.length) (hk : k < l.length), Below w.heap.size w wr → Calls Try.prog 77 #[v, .int .i64 c, .int .i64 p, .int .i64 i, .int .i64 k] wr fun e w' => e = .returned (.bool (exclB l c p i k l[i] l[k])) ∧ ∃ q, wr.drewN q = w') := fun i k wr hi hk hb =>
    refExclude v l c p w.heap.size i k wr hR (hl.below hb (Nat.le_refl _)) hi hk
  have HL := Lib.hid hl
  have HRT := Lib.hid hR
  have h8 := hR.len
  have hpow := pow_wrap h8
  have hpow2 := pow_small h8
  obtain ⟨N, hNe⟩ : ∃ N : Nat, N = 2 ^ l.length := ⟨_, rfl⟩
  rw [← hNe] at hpow hpow2
  have HN := Lib.hid hNe
  have Hpow := Lib.hid hpow
  clear hpow
  obtain ⟨A, cc, rfl, hc1, hc2, -⟩ := hl.open_
  unfold maxLen at hc2
  clear hl hR hNe
  go_enter Try.func27, Try.ntmps27
  go_wp2
  go_loopw [10, 8, 9] (fun s m o wr => ∃ (S bs : Nat) (L : Int), S ≤ N ∧ s = .int .i64 S ∧ m = .int .i64 L ∧ L ≤ 80000 ∧ Hid (Heavy l c p S L bs) ∧ wr.ownsRow w.heap.size 3 1 o (memb bs l.length).length (nats (memb bs l.length)) ∧ Below w.heap.size w wr) (fun s _ _ _ => N - (intOf s).toNat)
  case atStart => exact ⟨0, 0, 0, Nat.zero_le _, rfl, rfl, by omega, Heavy.start l c p, by rw [memb_none]; exact World.ownsRow_nil _ _ _ _, Below.refl _ _⟩
  case round =>
    obtain ⟨S, bs, L, hS, rfl, rfl, hL, HH, hown, hbel⟩ := hrel
    obtain ⟨wo, rfl⟩ : ∃ wo : World, wo = wr := ⟨_, rfl⟩
    have hSb : S ≤ 256 := by omega
    by_cases hSN : S < N
    · have hSNi : (S : Int) < (N : Int) := by omega
      have Hown := Lib.hid hown
      have hpow := Hpow.out
      clear hown
      go_wp2_with fail
      clear hpow
      go_loopw [14, 11, 12, 13] (fun s m sum ok wi => ∃ (i : Nat) (b : Bool), i ≤ l.length ∧ s = .int .i64 i ∧ wi.ownsRow wo.heap.size 3 1 m (memb S i).length (nats (memb S i)) ∧ sum = .int .i64 (sumAt l (memb S i)) ∧ ok = .bool b ∧ Hid (b = true ↔ isClique l c p S i) ∧ Below wo.heap.size wo wi) (fun s _ _ _ _ => l.length - (intOf s).toNat)
      case atStart => exact ⟨0, true, Nat.zero_le _, rfl, World.ownsRow_nil _ _ _ _, rfl, rfl, ⟨fun _ i k h => absurd h (Nat.not_lt_zero i), fun _ => rfl⟩, Below.refl _ _⟩
      case round =>
        obtain ⟨i, b, hi, rfl, hownm, rfl, rfl, HC, hbi⟩ := hrel
        have hml := memb_len S i
        have hsb := sumAt_bd HRT.out (memb S i)
        have hbx := hbel.trans (hbi.mono hbel.size)
        by_cases hil : i < l.length
        · cases hbit : S.testBit i with
          | false =>
            have hbz := bit_no0 hbit
            have Hm : Hid (memb S (i + 1) = memb S i) := by unfold Hid; rw [memb_succ, hbit]; rfl
            have HC' : Hid (b = true ↔ isClique l c p S (i + 1)) := HC.out.trans (clique_skip hbit).symm
            clear hbit
            go_wp2_with fail
            go_roundw
            case rel => exact ⟨i + 1, b, by omega, by go_num, by rw [Hm.out]; exact hownm, by rw [Hm.out], rfl, HC', hbi⟩
            case measure => simp [intOf]; omega
          | true =>
            have hbz := bit_yes0 hbit
            have Hm : Hid (memb S (i + 1) = memb S i ++ [i]) := by unfold Hid; rw [memb_succ, hbit]; rfl
            have Hbit := Lib.hid hbit
            have hbr := own_open wr _ _ _ (memb S i) hownm
            obtain ⟨A2, c2, rfl, hy1, hy2, hcy⟩ := hbr
            have hcy := Lib.hid hcy
            clear hbit
            go_wp2_with fail
            obtain ⟨wx, rfl⟩ : ∃ wx : World, wx = wr := ⟨_, rfl⟩
            go_loopw [15, 13] (fun s ok wi => ∃ (k : Nat) (b2 : Bool), k ≤ (memb S i).length ∧ s = .int .i64 k ∧ ok = .bool b2 ∧ Hid (b2 = true ↔ b = true ∧ ∀ y ∈ (memb S i).take k, excl l c p y i) ∧ ∃ q, wi = wx.drewN q) (fun s _ _ => (memb S i).length - (intOf s).toNat)
            case atStart => exact ⟨0, b, Nat.zero_le _, rfl, rfl, ⟨fun h => ⟨h, by simp⟩, fun h => h.1⟩, 0, rfl⟩
            case round =>
              obtain ⟨k, b2, hk, rfl, rfl, HE, q, rfl⟩ := hrel
              by_cases hkl : k < (memb S i).length
              · have hyk : (memb S i)[k] < l.length := by
                  have := (mem_memb.1 (List.getElem_mem hkl)).1
                  omega
                cases b2 with
                | false =>
                  have HE' : Hid (false = true ↔ b = true ∧ ∀ y ∈ (memb S i).take (k + 1), excl l c p y i) := by
                    refine ⟨fun h => by simp at h, fun h => HE.out.2 ⟨h.1, fun y hy => h.2 y ?_⟩⟩
                    rw [take_snoc _ k hkl]
                    exact List.mem_append_left _ hy
                  clear HE
                  go_wp2_with fail
                  go_roundw
                  case rel => exact ⟨k + 1, false, by omega, by go_num, rfl, HE', _, rfl⟩
                  case measure => simp [intOf]; omega
                | true =>
                  obtain ⟨b3, off3, rfl, hb3, hcy⟩ := hcy.out k hkl
                  have hyc := hcy k hkl
                  have hcall := HX.out ((memb S i)[k]) i (wx.drewN q) hyk hil (below_drewN hbx q)
                  have HE' : Hid (exclB l c p ((memb S i)[k]) i l[(memb S i)[k]] l[i] = true ↔ b = true ∧ ∀ y ∈ (memb S i).take (k + 1), excl l c p y i) := by
                    unfold Hid
                    rw [exclB_iff hyk hil, take_snoc _ k hkl]
                    constructor
                    · intro h
                      refine ⟨(HE.out.1 rfl).1, fun y hy => ?_⟩
                      rw [List.mem_append, List.mem_singleton] at hy
                      rcases hy with hy | rfl
                      · exact (HE.out.1 rfl).2 y hy
                      · exact h
                    · intro h
                      exact h.2 _ (List.mem_append_right _ (List.mem_singleton.2 rfl))
                  clear HE hcy
                  generalize exclB l c p ((memb S i)[k]) i l[(memb S i)[k]] l[i] = b4 at *
                  generalize (memb S i)[k] = yk at *
                  go_wp2_with (go_at_call 77; refine hcall.mono ?_; rintro e w9 ⟨rfl, q9, rfl⟩)
                  go_roundw
                  case rel => exact ⟨k + 1, b4, by omega, by go_num, rfl, HE', _, rfl⟩
                  case measure => simp [intOf]; omega
              · have hke : k = (memb S i).length := by omega
                subst hke
                have HC' : Hid (b2 = true ↔ isClique l c p S (i + 1)) := by
                  unfold Hid
                  rw [clique_next Hbit.out, HE.out, List.take_length, HC.out]
                have hsz := hbi.size
                have Hs : Hid (sumAt l (memb S (i + 1)) = sumAt l (memb S i) + l[i].len) := by unfold Hid; rw [Hm.out, sumAt_snoc, lenAt_eq hil]
                obtain ⟨hl1, hl2⟩ := fieldB_len (HRT.out.field i hil)
                have hbiq := below_drewN hbi q
                clear HE HC hcy
                go_wp2_with (at_builtin; refine wpList_push _ rfl (.tmp 52) (.tmp 54) 29 rfl wo.heap.size 3 info_int Try.underlying29 rfl _ (memb S i).length _ rfl (own_drewN hownm q) (.int .i64 i) rfl rfl (by unfold maxLen; omega) (by omega) (by simpa using hsz) ?_; intro g3 cap3 w3 hown3 hgrow3 hbg hgg; have hbi3 := hbiq.grown hgrow3 (by simpa using hsz) (fun k hk => (hownm.lt k hk).1); have t1 := (TasksAt.cells (HL.out.below (hbel.trans (hbi3.mono hbel.size)) (Nat.le_refl _)) hil); obtain ⟨b, off, e1, hb, hcell⟩ := t1; subst e1; obtain ⟨-, t1, -, -, -⟩ := hcell i hil)
                rw [← show nats (memb S i ++ [i]) = nats (memb S i) ++ [Value.int .i64 i] by simp [nats, ints], ← Hm.out] at hown3
                go_roundw
                case rel => exact ⟨i + 1, b2, by omega, by go_num, by rw [Hm.out, List.length_append, ← Hm.out]; exact hown3, by rw [Hs.out], rfl, HC', hbi3⟩
                case measure => simp [intOf]; omega
        · have hie : i = l.length := by omega
          subst hie
          have hownm' := own_mono hownm hbel.size
          have hown' := own_below Hown.out hbi
          clear hownm
          cases b with
          | false =>
            have HH' := Lib.hid (HH.out.no (fun hc => by have := HC.out.2 hc; cases this))
            clear HH HC
            go_wp2_with fail
            go_roundw
            case rel => exact ⟨S + 1, bs, L, by omega, by go_num, rfl, hL, HH', hown', hbx⟩
            case measure => simp [intOf]; omega
          | true =>
            by_cases hlt : L < sumAt l (memb S l.length)
            · have HH' := Lib.hid (HH.out.more (by rw [← HN.out]; exact hSN) (HC.out.1 rfl) hlt)
              clear HH HC
              go_wp2_with fail
              go_roundw
              case rel => exact ⟨S + 1, S, _, by omega, by go_num, rfl, by omega, HH', hownm', hbx⟩
              case measure => simp [intOf]; omega
            · have HH' := Lib.hid (HH.out.less hlt)
              have hltb : decide (L < sumAt l (memb S l.length)) = false := by simpa using hlt
              clear HH HC
              go_wp2_with fail
              go_roundw
              case rel => exact ⟨S + 1, bs, L, by omega, by go_num, rfl, hL, HH', hown', hbx⟩
              case measure => simp [intOf]; omega
    · have hSe : S = N := by omega
      subst hSe
      have hpow := Hpow.out
      go_wp2_with fail
      refine bodyPost_ret (results_tmp2 rfl _ _ _) (by rfl) ?_
      refine ⟨hbel, L, bs, _, ?_, rfl, hown⟩
      rw [← HN.out]
      exact HH.out

end Go.Proofs.Ytcjejcbikgcnbaa
