/- Parts of the proof, laid into one text: RefComes, RefExcl, RefCliqueW, RefBest, BestN, Emb, Gap, Bound, RightLaw, LawHolds. -/
import Derived.Test.YtcjejcbikgcnbaaG10
import Derived.Test.YtcjejcbikgcnbaaG2
import Derived.Test.YtcjejcbikgcnbaaG3
import Derived.Test.YtcjejcbikgcnbaaG4

/- The reference's Comes of layer 44. -/
namespace Go.Proofs.Ytcjejcbikgcnbaa
open Go.RowKit Go.Shelf

noncomputable def reachB (l : List Task) (i k : Nat) : Bool := @decide (reach l i k) (Classical.propDecidable _)
theorem reachB_iff {l : List Task} {i k : Nat} : reachB l i k = true ↔ reach l i k := by unfold reachB; exact @decide_eq_true_iff _ (Classical.propDecidable _)
theorem reachB_no {l : List Task} {i k : Nat} (h : ¬ reach l i k) : reachB l i k = false := by
  cases hb : reachB l i k with
  | false => rfl
  | true => exact absurd (reachB_iff.1 hb) h

set_option maxRecDepth 100000 in
set_option maxHeartbeats 2000000 in
theorem refComes (v : Value) (l : List Task) (B : Nat) : ∀ (f i k : Nat) (w : World), i < l.length → k < l.length → (∀ z, Chain l (z ++ [k]) → (z ++ [k]).length ≤ f) → TasksAt w B v l →
    Calls Try.prog 115 #[v, .int .i64 i, .int .i64 k] w fun e w' => e = .returned (.bool (reachB l i k)) ∧ ∃ q, w.drewN q = w' := by
  intro f
  induction f with
  | zero => intro i k w hi hk h; have := h [] (Chain.one hk); simp at this
  | succ f ih =>
    intro i k w hi hk hch hl
    have IH : Hid (∀ x, edge l x k → ∀ q, Calls Try.prog 115 #[v, .int .i64 i, .int .i64 x] (w.drewN q) fun e w' => e = .returned (.bool (reachB l i x)) ∧ ∃ q', (w.drewN q).drewN q' = w') := fun x he q => ih i x _ hi he.1 (fun z hz => by
      have h1 : Chain l ((z ++ [x]) ++ [k]) := hz.snoc hk (fun hx => by simpa using he)
      have := hch (z ++ [x]) h1
      simpa using this) (hl.drewN q)
    clear ih hch
    have HL := Lib.hid hl
    obtain ⟨A, c, rfl, hc1, hc2, hcell⟩ := hl.open_
    unfold maxLen at hc2
    clear hl hcell
    go_enter Try.func115, Try.ntmps115
    go_wp2
    go_loopw [7] (fun s wr => ∃ (x : Nat), x ≤ l.length ∧ s = .int .i64 x ∧ Hid (∀ y, y < x → edge l y k → ¬ (y = i ∨ reach l i y)) ∧ ∃ q, wr = w.drewN q) (fun s _ => l.length - (intOf s).toNat)
    case atStart => exact ⟨0, Nat.zero_le _, rfl, fun y hy => absurd hy (Nat.not_lt_zero y), 0, rfl⟩
    case round =>
      obtain ⟨x, hx, rfl, HN, q, rfl⟩ := hrel
      by_cases hxl : x < l.length
      · have hbf := rbefore _ l x k (w.drewN q) B (HL.out.drewN q) hxl hk
        by_cases hE : l[x].name ∈ l[k].bef
        · have he : edge l x k := ⟨hxl, hk, hE⟩
          have hcall := fun q => IH.out x he q
          rw [decide_eq_true hE] at hbf
          have He := Lib.hid he
          clear hE he
          by_cases hxi : x = i
          · subst hxi
            have hV : Hid (reachB l x k = true) := reachB_iff.2 (reach_iff.2 ⟨x, He.out, .inl rfl⟩)
            have hb : ((x : Int) == (x : Int)) = true := by simp
            go_wp2_with (go_at_call 71; refine hbf.mono ?_; rintro e w' ⟨rfl, q1, rfl⟩)
            go_ret
            exact ⟨ret_bool hV.out.symm, _, rfl⟩
          · have hb : ((x : Int) == (i : Int)) = false := by simp; omega
            have Hxi := Lib.hid hxi
            clear hxi
            cases hr : reachB l i x with
            | true =>
              have hV : Hid (reachB l i k = true) := reachB_iff.2 (reach_iff.2 ⟨x, He.out, .inr (reachB_iff.1 hr)⟩)
              rw [hr] at hcall
              clear hr
              go_wp2_with (first | (go_at_call 71; refine hbf.mono ?_; rintro e w' ⟨rfl, q1, rfl⟩) | (go_at_call 115; refine (hcall _).mono ?_; rintro e w' ⟨rfl, q2, rfl⟩))
              go_ret
              exact ⟨ret_bool hV.out.symm, _, rfl⟩
            | false =>
              have HN' : Hid (∀ y, y < x + 1 → edge l y k → ¬ (y = i ∨ reach l i y)) := fun y hy hey => by
                rcases (show y < x ∨ y = x by omega) with h | rfl
                · exact HN.out y h hey
                · rintro (h | h)
                  · exact Hxi.out h
                  · rw [reachB_iff.2 h] at hr; cases hr
              rw [hr] at hcall
              clear hr HN
              go_wp2_with (first | (go_at_call 71; refine hbf.mono ?_; rintro e w' ⟨rfl, q1, rfl⟩) | (go_at_call 115; refine (hcall _).mono ?_; rintro e w' ⟨rfl, q2, rfl⟩))
              go_roundw
              case rel => exact ⟨x + 1, by omega, by go_num, HN', _, rfl⟩
              case measure => simp [intOf]; omega
        · have HN' : Hid (∀ y, y < x + 1 → edge l y k → ¬ (y = i ∨ reach l i y)) := fun y hy hey => by
            rcases (show y < x ∨ y = x by omega) with h | rfl
            · exact HN.out y h hey
            · exact absurd hey.2.2 hE
          rw [decide_eq_false hE] at hbf
          clear hE HN
          go_wp2_with (go_at_call 71; refine hbf.mono ?_; rintro e w' ⟨rfl, q1, rfl⟩)
          go_roundw
          case rel => exact ⟨x + 1, by omega, by go_num, HN', _, rfl⟩
          case measure => simp [intOf]; omega
      · have hxe : x = l.length := by omega
        subst hxe
        have hV : Hid (reachB l i k = false) := reachB_no fun h => by
          obtain ⟨y, hy, hh⟩ := reach_iff.1 h
          exact HN.out y hy.1 hy hh
        clear HN
        go_wp2
        go_ret
        exact ⟨ret_bool hV.out.symm, q, rfl⟩

end Go.Proofs.Ytcjejcbikgcnbaa

/- The reference's Exclude of layer 44. -/
namespace Go.Proofs.Ytcjejcbikgcnbaa
open Go.RowKit Go.Shelf

noncomputable def exclB (l : List Task) (c p : Int) (i k : Nat) (t u : Task) : Bool := reachB l i k || reachB l k i || decide (c < t.crew + u.crew) || decide (p < t.pow + u.pow)
theorem exclB_iff {l : List Task} {c p : Int} {i k : Nat} (hi : i < l.length) (hk : k < l.length) : exclB l c p i k l[i] l[k] = true ↔ excl l c p i k := by
  unfold exclB
  simp only [Bool.or_eq_true, decide_eq_true_eq, reachB_iff]
  constructor
  · rintro (((h | h) | h) | h)
    · exact ⟨hi, hk, .inl h⟩
    · exact ⟨hi, hk, .inr (.inl h)⟩
    · exact ⟨hi, hk, .inr (.inr (.inl h))⟩
    · exact ⟨hi, hk, .inr (.inr (.inr h))⟩
  · rintro ⟨_, _, h | h | h | h⟩
    · exact .inl (.inl (.inl h))
    · exact .inl (.inl (.inr h))
    · exact .inl (.inr h)
    · exact .inr h

set_option maxRecDepth 100000 in
set_option maxHeartbeats 4000000 in
theorem refExclude (v : Value) (l : List Task) (c p : Int) (B : Nat) (i k : Nat) (w : World) (hR : RightT l) (hl : TasksAt w B v l) (hi : i < l.length) (hk : k < l.length) :
    Calls Try.prog 77 #[v, .int .i64 c, .int .i64 p, .int .i64 i, .int .i64 k] w
      fun e w' => e = .returned (.bool (exclB l c p i k l[i] l[k])) ∧ ∃ q, w.drewN q = w' := by
  have hci := fieldB_crew (hR.field i hi)
  have hck := fieldB_crew (hR.field k hk)
  have hpi := fieldB_pow (hR.field i hi)
  have hpk := fieldB_pow (hR.field k hk)
  have HC1 := fun q => quiet_left' (refComes v l B l.length i k (w.drewN q) hi hk (fun z hz => hz.short hR) (hl.drewN q))
  have HC2 := fun q => quiet_left' (refComes v l B l.length k i (w.drewN q) hk hi (fun z hz => hz.short hR) (hl.drewN q))
  obtain ⟨A, cc, rfl, hc1, hc2, -⟩ := hl.open_
  obtain ⟨b0, off, rfl, hb0, hcell⟩ := hl.cells hi
  obtain ⟨-, -, ti2, ti3, -⟩ := hcell i hi
  obtain ⟨-, -, tk2, tk3, -⟩ := hcell k hk
  have i1 : (0 : Int) ≤ (i : Int) := Int.natCast_nonneg _
  have i2 : (i : Int) < (l.length : Int) := by omega
  have i3 : (0 : Int) ≤ (k : Int) := Int.natCast_nonneg _
  have i4 : (k : Int) < (l.length : Int) := by omega
  clear hcell hl hR
  unfold exclB
  generalize l[i] = t at *
  generalize l[k] = u at *
  obtain ⟨tn, tl, tc, tp, ta, tb, tf⟩ := t
  obtain ⟨un, ul, uc, up, ua, ub, uf⟩ := u
  simp only at ti2 ti3 tk2 tk3 hci hck hpi hpk ⊢
  have hs1 := Lib.hid (bound_sum hci hck)
  have hs2 := Lib.hid (bound_sum hpi hpk)
  generalize reachB l i k = e1 at *
  generalize reachB l k i = e2 at *
  cases e1 with
  | true =>
    go_enter Try.func77, Try.ntmps77
    go_wp2_with fail
    go_quiet ((go_at_call 115; (first | with_reducible exact HC1 _ | with_reducible exact HC2 _)))
    go_wp2
    go_ret
    exact ⟨rfl, _, rfl⟩
  | false =>
    cases e2 with
    | true =>
      go_enter Try.func77, Try.ntmps77
      go_wp2_with fail
      go_quiet ((go_at_call 115; (first | with_reducible exact HC1 _ | with_reducible exact HC2 _)))
      go_wp2
      go_ret
      exact ⟨rfl, _, rfl⟩
    | false =>
      by_cases h1 : c < tc + uc
      · have hd : decide (c < tc + uc) = true := by simpa using h1
        rw [hd]
        have e1 := hs1.out
        go_enter Try.func77, Try.ntmps77
        go_wp2_with fail
        go_quiet ((go_at_call 115; (first | with_reducible exact HC1 _ | with_reducible exact HC2 _)))
        go_wp2
        go_ret
        exact ⟨rfl, _, rfl⟩
      · have hd : decide (c < tc + uc) = false := by simpa using h1
        rw [hd]
        have e1 := hs1.out
        have e2 := hs2.out
        go_enter Try.func77, Try.ntmps77
        go_wp2_with fail
        go_quiet ((go_at_call 115; (first | with_reducible exact HC1 _ | with_reducible exact HC2 _)))
        go_wp2
        go_ret
        exact ⟨rfl, _, rfl⟩

end Go.Proofs.Ytcjejcbikgcnbaa

/- The reference's Clique of layer 44. -/
namespace Go.Proofs.Ytcjejcbikgcnbaa
open Go.RowKit Go.Shelf

theorem own_below {w w' : World} {B e s n : Nat} {v : Value} {xs : List Value} (h : w.ownsRow B e s v n xs) (hb : Below w.heap.size w w') : w'.ownsRow B e s v n xs := by
  refine h.kept (grown_below (row := none) hb) ?_
  cases v.ownBlock with
  | none => exact .inl rfl
  | some g => exact .inr (by simp)

theorem clique_next {l : List Task} {c p : Int} {S i : Nat} (hb : S.testBit i = true) : isClique l c p S (i + 1) ↔ isClique l c p S i ∧ ∀ y ∈ memb S i, excl l c p y i := by
  constructor
  · intro h
    refine ⟨fun x y hx hy hxs hys => h x y (by omega) hy hxs hys, fun y hy => ?_⟩
    obtain ⟨h1, h2⟩ := mem_memb.1 hy
    exact excl_symm (h i y (by omega) h1 hb h2)
  · rintro ⟨h, h'⟩ x y hx hy hxs hys
    rcases (show x < i ∨ x = i by omega) with hlt | rfl
    · exact h x y hlt hy hxs hys
    · exact excl_symm (h' y (mem_memb.2 ⟨hy, hys⟩))
theorem clique_skip {l : List Task} {c p : Int} {S i : Nat} (hb : S.testBit i = false) : isClique l c p S (i + 1) ↔ isClique l c p S i := by
  constructor
  · exact fun h x y hx hy hxs hys => h x y (by omega) hy hxs hys
  · intro h x y hx hy hxs hys
    rcases (show x < i ∨ x = i by omega) with hlt | rfl
    · exact h x y hlt hy hxs hys
    · rw [hb] at hxs; cases hxs
theorem memb_len (S n : Nat) : (memb S n).length ≤ n := by
  have := List.length_filter_le (fun i => S.testBit i) (List.range n)
  rw [List.length_range] at this
  exact this

def RefCliquePost (l : List Task) (c p : Int) (w : World) (e : Ending) (w' : World) : Prop :=
  Below w.heap.size w w' ∧ ∃ (L : Int) (s : Nat) (v : Value), Heavy l c p (2 ^ l.length) L s ∧ e = .returned (.tuple #[.int .i64 L, v]) ∧ w'.ownsRow w.heap.size 3 1 v (memb s l.length).length (nats (memb s l.length))

set_option maxRecDepth 100000 in
set_option maxHeartbeats 8000000 in
theorem refClique (v : Value) (l : List Task) (c p : Int) (w : World) (hR : RightT l) (hl : TasksAt w w.heap.size v l) :
    Calls Try.prog 27 #[v, .int .i64 c, .int .i64 p] w (RefCliquePost l c p w) := by
  have HX : Hid (∀ (i k : Nat) (wr : World) (hi : i < l.length) (hk : k < l.length), Below w.heap.size w wr → Calls Try.prog 77 #[v, .int .i64 c, .int .i64 p, .int .i64 i, .int .i64 k] wr fun e w' => e = .returned (.bool (exclB l c p i k l[i] l[k])) ∧ ∃ q, wr.drewN q = w') := fun i k wr hi hk hb =>
    refExclude v l c p w.heap.size i k wr hR (hl.below hb (Nat.le_refl _)) hi hk
  have HL := Lib.hid hl
  have HRT := Lib.hid hR
  have h8 := hR.len
  have hpow := pow_wrap h8
  have hpow2 := pow_small h8
  obtain ⟨N, hNe⟩ : ∃ N : Nat, N = 2 ^ l.length := ⟨_, rfl⟩
  rw [← hNe] at hpow hpow2
  have HN := Lib.hid hNe
  have Hpow := Lib.hid hpow
  clear hpow
  obtain ⟨A, cc, rfl, hc1, hc2, -⟩ := hl.open_
  unfold maxLen at hc2
  clear hl hR hNe
  go_enter Try.func27, Try.ntmps27
  go_wp2
  go_loopw [10, 8, 9] (fun s m o wr => ∃ (S bs : Nat) (L : Int), S ≤ N ∧ s = .int .i64 S ∧ m = .int .i64 L ∧ L ≤ 80000 ∧ Hid (Heavy l c p S L bs) ∧ wr.ownsRow w.heap.size 3 1 o (memb bs l.length).length (nats (memb bs l.length)) ∧ Below w.heap.size w wr) (fun s _ _ _ => N - (intOf s).toNat)
  case atStart => exact ⟨0, 0, 0, Nat.zero_le _, rfl, rfl, by omega, Heavy.start l c p, by rw [memb_none]; exact World.ownsRow_nil _ _ _ _, Below.refl _ _⟩
  case round =>
    obtain ⟨S, bs, L, hS, rfl, rfl, hL, HH, hown, hbel⟩ := hrel
    obtain ⟨wo, rfl⟩ : ∃ wo : World, wo = wr := ⟨_, rfl⟩
    have hSb : S ≤ 256 := by omega
    by_cases hSN : S < N
    · have hSNi : (S : Int) < (N : Int) := by omega
      have Hown := Lib.hid hown
      have hpow := Hpow.out
      clear hown
      go_wp2_with fail
      clear hpow
      go_loopw [14, 11, 12, 13] (fun s m sum ok wi => ∃ (i : Nat) (b : Bool), i ≤ l.length ∧ s = .int .i64 i ∧ wi.ownsRow wo.heap.size 3 1 m (memb S i).length (nats (memb S i)) ∧ sum = .int .i64 (sumAt l (memb S i)) ∧ ok = .bool b ∧ Hid (b = true ↔ isClique l c p S i) ∧ Below wo.heap.size wo wi) (fun s _ _ _ _ => l.length - (intOf s).toNat)
      case atStart => exact ⟨0, true, Nat.zero_le _, rfl, World.ownsRow_nil _ _ _ _, rfl, rfl, ⟨fun _ i k h => absurd h (Nat.not_lt_zero i), fun _ => rfl⟩, Below.refl _ _⟩
      case round =>
        obtain ⟨i, b, hi, rfl, hownm, rfl, rfl, HC, hbi⟩ := hrel
        have hml := memb_len S i
        have hsb := sumAt_bd HRT.out (memb S i)
        have hbx := hbel.trans (hbi.mono hbel.size)
        by_cases hil : i < l.length
        · cases hbit : S.testBit i with
          | false =>
            have hbz := bit_no0 hbit
            have Hm : Hid (memb S (i + 1) = memb S i) := by unfold Hid; rw [memb_succ, hbit]; rfl
            have HC' : Hid (b = true ↔ isClique l c p S (i + 1)) := HC.out.trans (clique_skip hbit).symm
            clear hbit
            go_wp2_with fail
            go_roundw
            case rel => exact ⟨i + 1, b, by omega, by go_num, by rw [Hm.out]; exact hownm, by rw [Hm.out], rfl, HC', hbi⟩
            case measure => simp [intOf]; omega
          | true =>
            have hbz := bit_yes0 hbit
            have Hm : Hid (memb S (i + 1) = memb S i ++ [i]) := by unfold Hid; rw [memb_succ, hbit]; rfl
            have Hbit := Lib.hid hbit
            have hbr := own_open wr _ _ _ (memb S i) hownm
            obtain ⟨A2, c2, rfl, hy1, hy2, hcy⟩ := hbr
            have hcy := Lib.hid hcy
            clear hbit
            go_wp2_with fail
            obtain ⟨wx, rfl⟩ : ∃ wx : World, wx = wr := ⟨_, rfl⟩
            go_loopw [15, 13] (fun s ok wi => ∃ (k : Nat) (b2 : Bool), k ≤ (memb S i).length ∧ s = .int .i64 k ∧ ok = .bool b2 ∧ Hid (b2 = true ↔ b = true ∧ ∀ y ∈ (memb S i).take k, excl l c p y i) ∧ ∃ q, wi = wx.drewN q) (fun s _ _ => (memb S i).length - (intOf s).toNat)
            case atStart => exact ⟨0, b, Nat.zero_le _, rfl, rfl, ⟨fun h => ⟨h, by simp⟩, fun h => h.1⟩, 0, rfl⟩
            case round =>
              obtain ⟨k, b2, hk, rfl, rfl, HE, q, rfl⟩ := hrel
              by_cases hkl : k < (memb S i).length
              · have hyk : (memb S i)[k] < l.length := by
                  have := (mem_memb.1 (List.getElem_mem hkl)).1
                  omega
                cases b2 with
                | false =>
                  have HE' : Hid (false = true ↔ b = true ∧ ∀ y ∈ (memb S i).take (k + 1), excl l c p y i) := by
                    refine ⟨fun h => by simp at h, fun h => HE.out.2 ⟨h.1, fun y hy => h.2 y ?_⟩⟩
                    rw [take_snoc _ k hkl]
                    exact List.mem_append_left _ hy
                  clear HE
                  go_wp2_with fail
                  go_roundw
                  case rel => exact ⟨k + 1, false, by omega, by go_num, rfl, HE', _, rfl⟩
                  case measure => simp [intOf]; omega
                | true =>
                  obtain ⟨b3, off3, rfl, hb3, hcy⟩ := hcy.out k hkl
                  have hyc := hcy k hkl
                  have hcall := HX.out ((memb S i)[k]) i (wx.drewN q) hyk hil (below_drewN hbx q)
                  have HE' : Hid (exclB l c p ((memb S i)[k]) i l[(memb S i)[k]] l[i] = true ↔ b = true ∧ ∀ y ∈ (memb S i).take (k + 1), excl l c p y i) := by
                    unfold Hid
                    rw [exclB_iff hyk hil, take_snoc _ k hkl]
                    constructor
                    · intro h
                      refine ⟨(HE.out.1 rfl).1, fun y hy => ?_⟩
                      rw [List.mem_append, List.mem_singleton] at hy
                      rcases hy with hy | rfl
                      · exact (HE.out.1 rfl).2 y hy
                      · exact h
                    · intro h
                      exact h.2 _ (List.mem_append_right _ (List.mem_singleton.2 rfl))
                  clear HE hcy
                  generalize exclB l c p ((memb S i)[k]) i l[(memb S i)[k]] l[i] = b4 at *
                  generalize (memb S i)[k] = yk at *
                  go_wp2_with (go_at_call 77; refine hcall.mono ?_; rintro e w9 ⟨rfl, q9, rfl⟩)
                  go_roundw
                  case rel => exact ⟨k + 1, b4, by omega, by go_num, rfl, HE', _, rfl⟩
                  case measure => simp [intOf]; omega
              · have hke : k = (memb S i).length := by omega
                subst hke
                have HC' : Hid (b2 = true ↔ isClique l c p S (i + 1)) := by
                  unfold Hid
                  rw [clique_next Hbit.out, HE.out, List.take_length, HC.out]
                have hsz := hbi.size
                have Hs : Hid (sumAt l (memb S (i + 1)) = sumAt l (memb S i) + l[i].len) := by unfold Hid; rw [Hm.out, sumAt_snoc, lenAt_eq hil]
                obtain ⟨hl1, hl2⟩ := fieldB_len (HRT.out.field i hil)
                have hbiq := below_drewN hbi q
                clear HE HC hcy
                go_wp2_with (at_builtin; refine wpList_push _ rfl (.tmp 52) (.tmp 54) 29 rfl wo.heap.size 3 info_int Try.underlying29 rfl _ (memb S i).length _ rfl (own_drewN hownm q) (.int .i64 i) rfl rfl (by unfold maxLen; omega) (by omega) (by simpa using hsz) ?_; intro g3 cap3 w3 hown3 hgrow3 hbg hgg; have hbi3 := hbiq.grown hgrow3 (by simpa using hsz) (fun k hk => (hownm.lt k hk).1); have t1 := (TasksAt.cells (HL.out.below (hbel.trans (hbi3.mono hbel.size)) (Nat.le_refl _)) hil); obtain ⟨b, off, e1, hb, hcell⟩ := t1; subst e1; obtain ⟨-, t1, -, -, -⟩ := hcell i hil)
                rw [← show nats (memb S i ++ [i]) = nats (memb S i) ++ [Value.int .i64 i] by simp [nats, ints], ← Hm.out] at hown3
                go_roundw
                case rel => exact ⟨i + 1, b2, by omega, by go_num, by rw [Hm.out, List.length_append, ← Hm.out]; exact hown3, by rw [Hs.out], rfl, HC', hbi3⟩
                case measure => simp [intOf]; omega
        · have hie : i = l.length := by omega
          subst hie
          have hownm' := own_mono hownm hbel.size
          have hown' := own_below Hown.out hbi
          clear hownm
          cases b with
          | false =>
            have HH' := Lib.hid (HH.out.no (fun hc => by have := HC.out.2 hc; cases this))
            clear HH HC
            go_wp2_with fail
            go_roundw
            case rel => exact ⟨S + 1, bs, L, by omega, by go_num, rfl, hL, HH', hown', hbx⟩
            case measure => simp [intOf]; omega
          | true =>
            by_cases hlt : L < sumAt l (memb S l.length)
            · have HH' := Lib.hid (HH.out.more (by rw [← HN.out]; exact hSN) (HC.out.1 rfl) hlt)
              clear HH HC
              go_wp2_with fail
              go_roundw
              case rel => exact ⟨S + 1, S, _, by omega, by go_num, rfl, by omega, HH', hownm', hbx⟩
              case measure => simp [intOf]; omega
            · have HH' := Lib.hid (HH.out.less hlt)
              have hltb : decide (L < sumAt l (memb S l.length)) = false := by simpa using hlt
              clear HH HC
              go_wp2_with fail
              go_roundw
              case rel => exact ⟨S + 1, bs, L, by omega, by go_num, rfl, hL, HH', hown', hbx⟩
              case measure => simp [intOf]; omega
    · have hSe : S = N := by omega
      subst hSe
      have hpow := Hpow.out
      go_wp2_with fail
      refine bodyPost_ret (results_tmp2 rfl _ _ _) (by rfl) ?_
      refine ⟨hbel, L, bs, _, ?_, rfl, hown⟩
      rw [← HN.out]
      exact HH.out

end Go.Proofs.Ytcjejcbikgcnbaa

/- The reference's Best of layer 44. -/
namespace Go.Proofs.Ytcjejcbikgcnbaa
open Go.RowKit Go.Shelf

def RefBestPost (l : List Task) (c p : Int) (w : World) (e : Ending) (w' : World) : Prop :=
  Below w.heap.size w w' ∧ ∃ (L K : Int) (y : List Nat) (s : Nat), Covers l [l.length] L y ∧ Heavy l c p (2 ^ l.length) K s ∧ e = .returned (.int .i64 (max3 (workN l c p) L K))

set_option maxRecDepth 100000 in
set_option maxHeartbeats 4000000 in
theorem refBest (v : Value) (l : List Task) (c p : Int) (w : World) (hg : givenN l c p = 0) (hl : TasksAt w w.heap.size v l) :
    Calls Try.prog 29 #[v, .int .i64 c, .int .i64 p] w (RefBestPost l c p w) := by
  have hR := (givenN_zero hg).1
  have HT : ∀ w1, Below w.heap.size w w1 → TasksAt w1 w1.heap.size v l := fun w1 hb => (hl.below hb (Nat.le_refl _)).mono hb.size
  have hP := refPath v l w hR hl
  have hC := fun w1 hb => refClique v l c p w1 hR (HT w1 hb)
  have hW := fun w1 hb => refWork v l c p _ w1 (HT w1 hb) hg
  have HX : ∀ L K x, x = max3 (workN l c p) L K → Ending.returned (.int .i64 x) = .returned (.int .i64 (max3 (workN l c p) L K)) := fun L K x e => by rw [e]
  clear hl HT hg hR
  go_enter Try.func29, Try.ntmps29
  go_wp2_with fail
  refine hP.mono ?_
  rintro e w1 ⟨hb1, L, y, v1, hc, rfl, -⟩
  have Hc := Lib.hid hc
  clear hP hc
  go_wp2_with fail
  refine (hC _ hb1).mono ?_
  rintro e w2 ⟨hb2, K, s, v2, hh, rfl, -⟩
  have Hh := Lib.hid hh
  have hb := hb1.trans (hb2.mono hb1.size)
  clear hC hh hb1 hb2
  go_wp2_with (go_at_call 28; refine (hW _ hb).mono ?_; rintro e w3 ⟨rfl, q, rfl⟩)
  all_goals
    go_ret
    refine ⟨below_drewN hb q, L, K, y, s, Hc.out, Hh.out, HX _ _ _ ?_⟩
    unfold max3
    repeat' split
    all_goals omega

end Go.Proofs.Ytcjejcbikgcnbaa

/- The bounds as functions; Best, Path and Clique once more. -/
namespace Go.Proofs.Ytcjejcbikgcnbaa
open Go.RowKit Go.Shelf

noncomputable def pathN (l : List Task) : Int := Classical.epsilon fun L => ∃ y, Covers l [l.length] L y
noncomputable def cliqueN (l : List Task) (c p : Int) : Int := Classical.epsilon fun L => ∃ s, Heavy l c p (2 ^ l.length) L s
noncomputable def bestN (l : List Task) (c p : Int) : Int := max3 (workN l c p) (pathN l) (cliqueN l c p)
theorem pathN_eq {l : List Task} {L : Int} {y : List Nat} (h : Covers l [l.length] L y) : pathN l = L := by
  obtain ⟨y', h'⟩ := Classical.epsilon_spec (p := fun L => ∃ y, Covers l [l.length] L y) ⟨L, y, h⟩
  exact (h'.uniq h).1
theorem cliqueN_eq {l : List Task} {c p L : Int} {s : Nat} (h : Heavy l c p (2 ^ l.length) L s) : cliqueN l c p = L := by
  obtain ⟨s', h'⟩ := Classical.epsilon_spec (p := fun L => ∃ s, Heavy l c p (2 ^ l.length) L s) ⟨L, s, h⟩
  exact (h'.uniq h).1

theorem bestCall (v : Value) (l : List Task) (c p : Int) (w : World) (hl : TasksAt w w.heap.size v l) :
    Calls Try.prog 25 #[v, .int .i64 c, .int .i64 p] w fun e w' => e = .returned (.tuple #[.int .i64 (if givenN l c p = 0 then bestN l c p else 0), .int .i64 (givenN l c p)]) ∧ Below w.heap.size w w' :=
  (boundsBest v l c p w hl).mono fun e w' h => by
    obtain ⟨hb, ⟨hno, rfl⟩ | ⟨hz, L, K, y, s, hc, hh, rfl⟩⟩ := h
    · rw [if_neg hno]
      exact ⟨rfl, hb⟩
    · rw [if_pos hz, hz]
      unfold bestN
      rw [pathN_eq hc, cliqueN_eq hh]
      exact ⟨rfl, hb⟩
theorem upN_bd {n b m : Int} (hn : 0 ≤ n) (hm : n ≤ m) (hb : 0 < n → 1 ≤ b) : 0 ≤ upN n b ∧ upN n b ≤ m := by
  unfold upN
  by_cases h : n = 0
  · rw [if_pos h]; omega
  · have h0 : 0 < n := by omega
    have h1 := hb h0
    rw [if_neg h]
    have h2 : 1 ≤ (n + b - 1) / b := (Int.le_ediv_iff_mul_le (by omega)).2 (by omega)
    have h3 : (n + b - 1) / b < n + 1 := Int.ediv_lt_of_lt_mul (by omega) (by
      have : n * 1 ≤ n * b := Int.mul_le_mul_of_nonneg_left h1 (by omega)
      rw [Int.add_mul]
      omega)
    omega
theorem need_bd {l : List Task} (hR : RightT l) (f : Task → Int) (hf : ∀ t, fieldB t = true → 0 ≤ f t ∧ f t ≤ 100) : 0 ≤ needN f l ∧ needN f l ≤ 8000000 := by
  have h := needN_bd f l fun t ht => by
    have hx := field_mem hR ht
    have h' := fieldB_len hx
    exact mul_bd (hf t hx).1 (hf t hx).2 h'.1 h'.2
  have := hR.len
  omega
theorem work_bd {l : List Task} {c p : Int} (hg : givenN l c p = 0) : 0 ≤ workN l c p ∧ workN l c p ≤ 8000000 := by
  obtain ⟨hR, -, -, -, -, hfit⟩ := givenN_zero hg
  have hA := need_bd hR Task.crew fun t h => fieldB_crew h
  have hB := need_bd hR Task.pow fun t h => fieldB_pow h
  have hc : 0 < needN Task.crew l → 1 ≤ c := lim_of (fun t ht => (fieldB_crew (field_mem hR ht)).1) fun t ht => (hfit t ht).1
  have hp : 0 < needN Task.pow l → 1 ≤ p := lim_of (fun t ht => (fieldB_pow (field_mem hR ht)).1) fun t ht => (hfit t ht).2
  rw [workN_up hA.1 hB.1 hc]
  have h1 := upN_bd hA.1 hA.2 hc
  have h2 := upN_bd hB.1 hB.2 hp
  unfold max2
  split <;> omega
theorem covers_bd {l : List Task} (hR : RightT l) {L : Int} {y : List Nat} (h : Covers l [l.length] L y) : 0 ≤ L ∧ L ≤ 80000 := by
  have h1 := sumAt_bd hR y
  have h2 := h.chain.short hR
  have h3 := hR.len
  have h4 := h.sum
  omega
theorem heavy_bd {l : List Task} (hR : RightT l) {c p L : Int} {S s : Nat} (h : Heavy l c p S L s) : 0 ≤ L ∧ L ≤ 80000 := by
  have h1 := sumAt_bd hR (memb s l.length)
  have h2 := memb_len s l.length
  have h3 := hR.len
  have h4 := h.sum
  omega
theorem bestYes (v : Value) (l : List Task) (c p : Int) (w : World) (hl : TasksAt w w.heap.size v l) (hg : givenN l c p = 0) :
    Calls Try.prog 25 #[v, .int .i64 c, .int .i64 p] w fun e w' => e = .returned (.tuple #[.int .i64 (bestN l c p), .int .i64 0]) ∧ (0 ≤ bestN l c p ∧ bestN l c p ≤ 8000000) ∧ Below w.heap.size w w' :=
  (boundsBest v l c p w hl).mono fun e w' h => by
    obtain ⟨hb, ⟨hno, rfl⟩ | ⟨hz, L, K, y, s, hc, hh, rfl⟩⟩ := h
    · exact absurd hg hno
    · have hR := (givenN_zero hg).1
      have h1 := work_bd hg
      have h2 := covers_bd hR hc
      have h3 := heavy_bd hR hh
      unfold bestN
      rw [pathN_eq hc, cliqueN_eq hh]
      refine ⟨rfl, ?_, hb⟩
      unfold max3
      repeat' split
      all_goals omega
theorem bestNo (v : Value) (l : List Task) (c p : Int) (w : World) (hl : TasksAt w w.heap.size v l) (hg : givenN l c p ≠ 0) :
    Calls Try.prog 25 #[v, .int .i64 c, .int .i64 p] w fun e w' => e = .returned (.tuple #[.int .i64 0, .int .i64 (givenN l c p)]) ∧ Below w.heap.size w w' := by
  have := bestCall v l c p w hl
  rw [if_neg hg] at this
  exact this
theorem refBestN (v : Value) (l : List Task) (c p : Int) (w : World) (hg : givenN l c p = 0) (hl : TasksAt w w.heap.size v l) :
    Calls Try.prog 29 #[v, .int .i64 c, .int .i64 p] w fun e w' => e = .returned (.int .i64 (bestN l c p)) ∧ (0 ≤ bestN l c p ∧ bestN l c p ≤ 8000000) ∧ Below w.heap.size w w' :=
  (refBest v l c p w hg hl).mono fun e w' h => by
    obtain ⟨hb, L, K, y, s, hc, hh, rfl⟩ := h
    have hR := (givenN_zero hg).1
    have h1 := work_bd hg
    have h2 := covers_bd hR hc
    have h3 := heavy_bd hR hh
    unfold bestN
    rw [pathN_eq hc, cliqueN_eq hh]
    refine ⟨rfl, ?_, hb⟩
    unfold max3
    repeat' split
    all_goals omega

end Go.Proofs.Ytcjejcbikgcnbaa

/- Tasks among further tasks: chains and cliques stay. No program in sight. -/
namespace Go.Proofs.Ytcjejcbikgcnbaa

/-- The tasks l stand, by their indices φ, among the tasks m. -/
structure Emb (l m : List Task) (φ : Nat → Nat) : Prop where
  lt : ∀ i, i < l.length → φ i < m.length
  inj : ∀ i k, i < l.length → k < l.length → φ i = φ k → i = k
  get : ∀ i (h : i < l.length), m[φ i]'(lt i h) = l[i]
section
variable {l m : List Task} {φ : Nat → Nat}
theorem Emb.edge (h : Emb l m φ) {i k : Nat} (he : edge l i k) : edge m (φ i) (φ k) := by
  obtain ⟨hi, hk, hm⟩ := he
  exact ⟨h.lt i hi, h.lt k hk, by rw [h.get i hi, h.get k hk]; exact hm⟩
theorem Emb.chain (h : Emb l m φ) : ∀ {x : List Nat}, Chain l x → Chain m (x.map φ)
  | [], _ => Chain.nil m
  | [i], hx => Chain.one (h.lt i (hx.1 i (by simp)))
  | i :: j :: x, hx => by
    obtain ⟨h1, h2⟩ := Chain.cons_iff.1 hx
    exact Chain.cons_iff.2 ⟨h.edge h1, h.chain (x := j :: x) h2⟩
theorem Emb.lenAt (h : Emb l m φ) {i : Nat} (hi : i < l.length) : lenAt m (φ i) = lenAt l i := by
  rw [lenAt_eq (h.lt i hi), lenAt_eq hi, h.get i hi]
theorem Emb.sum (h : Emb l m φ) : ∀ {x : List Nat}, (∀ i ∈ x, i < l.length) → sumAt m (x.map φ) = sumAt l x
  | [], _ => rfl
  | i :: x, hx => by
    rw [List.map_cons, sumAt_cons, sumAt_cons, h.lenAt (hx i (by simp)), h.sum fun j hj => hx j (by simp [hj])]
theorem Emb.reach (h : Emb l m φ) {i k : Nat} (hr : reach l i k) : reach m (φ i) (φ k) := by
  obtain ⟨z, hz⟩ := hr
  exact ⟨z.map φ, by simpa using h.chain hz⟩
theorem Emb.excl (h : Emb l m φ) {c p : Int} {i k : Nat} (he : excl l c p i k) : excl m c p (φ i) (φ k) := by
  obtain ⟨hi, hk, he⟩ := he
  refine ⟨h.lt i hi, h.lt k hk, ?_⟩
  rw [h.get i hi, h.get k hk]
  rcases he with he | he | he | he
  · exact .inl (h.reach he)
  · exact .inr (.inl (h.reach he))
  · exact .inr (.inr (.inl he))
  · exact .inr (.inr (.inr he))
end
theorem covers_all {l : List Task} {L : Int} {y z : List Nat} (h : Covers l [l.length] L y) (hz : Chain l z) : sumAt l z ≤ L :=
  h.most z hz ((lex_top z [] l.length hz.1).2 (.inr List.nil_prefix))
theorem Emb.covers {l m : List Task} {φ : Nat → Nat} (h : Emb l m φ) {L M : Int} {y z : List Nat} (hl : Covers l [l.length] L y) (hm : Covers m [m.length] M z) : L ≤ M := by
  have := covers_all hm (h.chain hl.chain)
  rw [h.sum hl.chain.1, hl.sum] at this
  exact this

/-! ### Cliques as lists -/
def bitsOf : List Nat → Nat
  | [] => 0
  | i :: z => (2 ^ i) ||| bitsOf z
theorem bitsOf_test (z : List Nat) (i : Nat) : (bitsOf z).testBit i = decide (i ∈ z) := by
  induction z with
  | nil => simp [bitsOf]
  | cons j z ih =>
    rw [bitsOf, Nat.testBit_or, ih, Nat.testBit_two_pow]
    by_cases e : j = i
    · subst e; simp
    · have e' : ¬ i = j := fun h => e h.symm
      simp [e, e']
theorem bitsOf_lt (z : List Nat) (n : Nat) (h : ∀ i ∈ z, i < n) : bitsOf z < 2 ^ n := by
  induction z with
  | nil => exact Nat.two_pow_pos n
  | cons j z ih => exact Nat.or_lt_two_pow (Nat.pow_lt_pow_right (by omega) (h j (by simp))) (ih fun i hi => h i (by simp [hi]))
theorem memb_perm {z : List Nat} {n : Nat} (hn : z.Nodup) (h : ∀ i ∈ z, i < n) : (memb (bitsOf z) n).Perm z := by
  refine (List.perm_ext_iff_of_nodup ?_ hn).2 fun i => ?_
  · exact List.nodup_range.sublist List.filter_sublist
  · rw [mem_memb, bitsOf_test, decide_eq_true_iff]
    exact ⟨fun h => h.2, fun hi => ⟨h i hi, hi⟩⟩
theorem sumAt_perm {l : List Task} {x y : List Nat} (h : x.Perm y) : sumAt l x = sumAt l y := by
  induction h with
  | nil => rfl
  | cons i _ ih => rw [sumAt_cons, sumAt_cons, ih]
  | swap i j z => rw [sumAt_cons, sumAt_cons, sumAt_cons, sumAt_cons]; omega
  | trans _ _ ih1 ih2 => rw [ih1, ih2]
theorem nodup_memb (s n : Nat) : (memb s n).Nodup := List.nodup_range.sublist List.filter_sublist
/-- A list of tasks that exclude one another. -/
def Apart (l : List Task) (c p : Int) (z : List Nat) : Prop := ∀ i ∈ z, ∀ k ∈ z, i ≠ k → excl l c p i k
theorem heavy_all {l : List Task} {c p L : Int} {s : Nat} (h : Heavy l c p (2 ^ l.length) L s) {z : List Nat} (hn : z.Nodup) (hlt : ∀ i ∈ z, i < l.length) (hz : Apart l c p z) : sumAt l z ≤ L := by
  have := h.most (bitsOf z) (bitsOf_lt z _ hlt) fun i k hi hk hbi hbk => by
    rw [bitsOf_test, decide_eq_true_iff] at hbi hbk
    exact hz i hbi k hbk (by omega)
  rw [sumAt_perm (memb_perm hn hlt)] at this
  exact this
theorem heavy_apart {l : List Task} {c p L : Int} {S s : Nat} (h : Heavy l c p S L s) : Apart l c p (memb s l.length) := by
  intro i hi k hk hne
  obtain ⟨h1, h2⟩ := mem_memb.1 hi
  obtain ⟨h3, h4⟩ := mem_memb.1 hk
  rcases Nat.lt_or_gt_of_ne hne with hlt | hlt
  · exact excl_symm (h.clique k i h3 hlt h4 h2)
  · exact h.clique i k h1 hlt h2 h4
theorem Emb.heavy {l m : List Task} {φ : Nat → Nat} (h : Emb l m φ) {c p L M : Int} {s t : Nat} (hl : Heavy l c p (2 ^ l.length) L s) (hm : Heavy m c p (2 ^ m.length) M t) : L ≤ M := by
  have hlt : ∀ i ∈ memb s l.length, i < l.length := fun i hi => (mem_memb.1 hi).1
  have := heavy_all hm (z := (memb s l.length).map φ) (by
    rw [List.Nodup, List.pairwise_map]
    refine List.Pairwise.imp_of_mem ?_ (nodup_memb s l.length)
    intro a b ha hb hne e
    exact hne (h.inj a b (hlt a ha) (hlt b hb) e)) (by
    intro i hi
    obtain ⟨k, hk, rfl⟩ := List.mem_map.1 hi
    exact h.lt k (hlt k hk)) (by
    intro i hi k hk hne
    obtain ⟨a, ha, rfl⟩ := List.mem_map.1 hi
    obtain ⟨b, hb, rfl⟩ := List.mem_map.1 hk
    exact h.excl (heavy_apart hl a ha b hb fun e => hne (by rw [e])))
  rw [h.sum hlt, hl.sum] at this
  exact this
/-- More crew, or power: fewer tasks exclude one another. -/
theorem excl_less {l : List Task} {c p c' p' : Int} (hc : c ≤ c') (hp : p ≤ p') {i k : Nat} (h : excl l c' p' i k) : excl l c p i k := by
  obtain ⟨hi, hk, h⟩ := h
  refine ⟨hi, hk, ?_⟩
  rcases h with h | h | h | h
  · exact .inl h
  · exact .inr (.inl h)
  · exact .inr (.inr (.inl (by omega)))
  · exact .inr (.inr (.inr (by omega)))
theorem heavy_less {l : List Task} {c p c' p' L M : Int} {s t : Nat} (hc : c ≤ c') (hp : p ≤ p') (hl : Heavy l c p (2 ^ l.length) L s) (hm : Heavy l c' p' (2 ^ l.length) M t) : M ≤ L := by
  have := heavy_all hl (nodup_memb t l.length) (fun i hi => (mem_memb.1 hi).1) (fun i hi k hk hne => excl_less hc hp (heavy_apart hm i hi k hk hne))
  rw [hm.sum] at this
  exact this

/-! ### The work -/
theorem up_less {n b b' : Int} (hn : 0 ≤ n) (hb : 0 < n → 1 ≤ b) (h : b ≤ b') : upN n b' ≤ upN n b := by
  unfold upN
  by_cases h0 : n = 0
  · rw [if_pos h0, if_pos h0]; exact Int.le_refl _
  · rw [if_neg h0, if_neg h0]
    have h1 := hb (by omega)
    have hq1 : 1 ≤ (n + b - 1) / b := (Int.le_ediv_iff_mul_le (by omega)).2 (by omega)
    have hq : n + b - 1 < ((n + b - 1) / b + 1) * b := Int.lt_ediv_add_one_mul_self _ (by omega)
    generalize (n + b - 1) / b = q at *
    have hnq : n ≤ q * b := by rw [Int.add_mul] at hq; omega
    have hqb : q * b ≤ q * b' := Int.mul_le_mul_of_nonneg_left h (by omega)
    have : (n + b' - 1) / b' < q + 1 := Int.ediv_lt_of_lt_mul (by omega) (by rw [Int.add_mul]; omega)
    omega
theorem up_more {n n' b : Int} (hn : 0 ≤ n) (h : n ≤ n') (hb : 0 < n' → 1 ≤ b) : upN n b ≤ upN n' b := by
  unfold upN
  by_cases h0 : n' = 0
  · have : n = 0 := by omega
    rw [if_pos this, if_pos h0]; exact Int.le_refl _
  · have h1 := hb (by omega)
    rw [if_neg h0]
    by_cases h2 : n = 0
    · rw [if_pos h2]
      exact Int.ediv_nonneg (by omega) (by omega)
    · rw [if_neg h2]
      exact Int.ediv_le_ediv (by omega) (by omega)
/-- What right tasks with limits give on their needs. -/
theorem given_facts {l : List Task} {c p : Int} (hg : givenN l c p = 0) : (0 ≤ needN Task.crew l ∧ (0 < needN Task.crew l → 1 ≤ c)) ∧ (0 ≤ needN Task.pow l ∧ (0 < needN Task.pow l → 1 ≤ p)) := by
  obtain ⟨hR, -, -, -, -, hfit⟩ := givenN_zero hg
  refine ⟨⟨(needN_bd _ l fun t ht => ?_).1, lim_of (fun t ht => (fieldB_crew (field_mem hR ht)).1) fun t ht => (hfit t ht).1⟩, ⟨(needN_bd _ l fun t ht => ?_).1, lim_of (fun t ht => (fieldB_pow (field_mem hR ht)).1) fun t ht => (hfit t ht).2⟩⟩
  · have hx := field_mem hR ht
    have h1 := fieldB_crew hx
    have h2 := fieldB_len hx
    exact mul_bd h1.1 h1.2 h2.1 h2.2
  · have hx := field_mem hR ht
    have h1 := fieldB_pow hx
    have h2 := fieldB_len hx
    exact mul_bd h1.1 h1.2 h2.1 h2.2
theorem max2_mono {a b a' b' : Int} (h : a ≤ a') (h' : b ≤ b') : max2 a b ≤ max2 a' b' := by
  unfold max2
  repeat' split
  all_goals omega
theorem max3_mono {a b c a' b' c' : Int} (h : a ≤ a') (h' : b ≤ b') (h'' : c ≤ c') : max3 a b c ≤ max3 a' b' c' := by
  unfold max3
  repeat' split
  all_goals omega
theorem work_less {l : List Task} {c p c' p' : Int} (hg : givenN l c p = 0) (hg' : givenN l c' p' = 0) (hc : c ≤ c') (hp : p ≤ p') : workN l c' p' ≤ workN l c p := by
  obtain ⟨⟨a1, a2⟩, ⟨b1, b2⟩⟩ := given_facts hg
  obtain ⟨⟨-, a3⟩, ⟨-, b3⟩⟩ := given_facts hg'
  rw [workN_up a1 b1 a2, workN_up a1 b1 a3]
  exact max2_mono (up_less a1 a2 hc) (up_less b1 b2 hp)
theorem work_more {l m : List Task} {c p : Int} (hg : givenN l c p = 0) (hg' : givenN m c p = 0) (h1 : needN Task.crew l ≤ needN Task.crew m) (h2 : needN Task.pow l ≤ needN Task.pow m) : workN l c p ≤ workN m c p := by
  obtain ⟨⟨a1, a2⟩, ⟨b1, b2⟩⟩ := given_facts hg
  obtain ⟨⟨a3, a4⟩, ⟨b3, b4⟩⟩ := given_facts hg'
  rw [workN_up a1 b1 a2, workN_up a3 b3 a4]
  exact max2_mono (up_more a1 h1 a4) (up_more b1 h2 b4)

/-! ### The tasks the other way round; a further task -/
theorem emb_rev (l : List Task) : Emb l l.reverse (fun i => l.length - 1 - i) :=
  ⟨fun i hi => by rw [List.length_reverse]; omega, fun i k hi hk e => by omega, fun i hi => by
    rw [List.getElem_reverse]
    congr 1
    omega⟩
theorem emb_rev' (l : List Task) : Emb l.reverse l (fun i => l.length - 1 - i) :=
  ⟨fun i hi => by rw [List.length_reverse] at hi; omega, fun i k hi hk e => by rw [List.length_reverse] at hi hk; omega, fun i hi => by rw [List.getElem_reverse]⟩
theorem emb_more (l : List Task) (t : Task) : Emb l (l ++ [t]) id :=
  ⟨fun i hi => by simp; omega, fun i k _ _ e => e, fun i hi => by simp [List.getElem_append_left hi]⟩
theorem need_rev (f : Task → Int) (l : List Task) : needN f l.reverse = needN f l := by
  unfold needN
  rw [List.map_reverse, List.sum_reverse]
theorem need_more (f : Task → Int) (l : List Task) (t : Task) : needN f (l ++ [t]) = needN f l + f t * t.len := by
  unfold needN
  rw [List.map_append, List.sum_append]
  simp
theorem names_rev (l : List Task) : names l.reverse = (names l).reverse := by unfold names; rw [List.map_reverse]
theorem right_rev {l : List Task} (hR : RightT l) : RightT l.reverse := by
  have hd : distinct l.reverse = true := by
    have := hR.dist
    unfold distinct at *
    rw [names_rev]
    have h := of_decide_eq_true this
    refine decide_eq_true ?_
    rw [List.Nodup, List.pairwise_reverse]
    exact h.imp fun hne e => hne e.symm
  refine { len := by rw [List.length_reverse]; exact hR.len, field := fun i hi => ?_, dist := hd, bef := (befOK_iff _).2 fun t ht => ?_, acyc := ?_ }
  · rw [List.getElem_reverse]
    exact hR.field _ _
  · obtain ⟨h1, h2⟩ := (befOK_iff l).1 hR.bef t (List.mem_reverse.1 ht)
    exact ⟨h1, fun s hs => ⟨by rw [names_rev, List.mem_reverse]; exact (h2 s hs).1, (h2 s hs).2⟩⟩
  · obtain ⟨rank, hr⟩ := hR.acyc
    refine ⟨fun k => rank (l.length - 1 - k), fun k hk j hj => ?_⟩
    have hk' : k < l.length := by rw [List.length_reverse] at hk; exact hk
    rw [getD_rows hk] at hj
    unfold pls at hj
    rw [List.mem_map] at hj
    obtain ⟨s, hs, rfl⟩ := hj
    have hgood := ((befOK_iff l).1 hR.bef _ (List.mem_reverse.1 (List.getElem_mem hk))).2 s hs
    obtain ⟨i, hi, e1, e2⟩ := pl_mem hgood.1
    have hrev : pl l.reverse s = ((l.length - 1 - i : Nat) : Int) := by
      have h := pl_name hd (i := l.length - 1 - i) (by rw [List.length_reverse]; omega)
      rw [List.getElem_reverse] at h
      have e3 : l[l.length - 1 - (l.length - 1 - i)]'(by omega) = l[i] := by congr 1; omega
      rw [e3, e2] at h
      exact h
    rw [hrev, Int.toNat_natCast]
    have he : edge l i (l.length - 1 - k) := ⟨hi, by omega, by
      rw [e2]
      rw [List.getElem_reverse] at hs
      exact hs⟩
    have := hr (l.length - 1 - k) (by omega) _ (edge_row hR.dist he)
    rw [Int.toNat_natCast] at this
    show rank (l.length - 1 - (l.length - 1 - i)) < rank (l.length - 1 - k)
    rw [show l.length - 1 - (l.length - 1 - i) = i by omega]
    exact this
theorem given_rev {l : List Task} {c p : Int} (hg : givenN l c p = 0) : givenN l.reverse c p = 0 := by
  have hR := (givenN_zero hg).1
  have h := (right_iff _).2 (right_rev hR)
  have h0 := (right_iff _).2 hR
  unfold givenN at *
  have e : validB l.reverse c p = validB l c p := by unfold validB; rw [h, h0]
  rw [e, List.any_reverse]
  exact hg

end Go.Proofs.Ytcjejcbikgcnbaa

/- bounds.Gap and bounds.Proves. -/
namespace Go.Proofs.Ytcjejcbikgcnbaa
open Go.RowKit Go.Shelf

/-- The error's number of Gap. -/
noncomputable def gapE (l : List Task) (c p : Int) (s : List Int) : Int := if givenN l c p = 0 then (if checkE l c p s = 0 then (if checkB l c p s then 0 else 13) else checkE l c p s) else givenN l c p
noncomputable def gapN (l : List Task) (c p : Int) (s : List Int) : Int := if gapE l c p s = 0 then lenTo l s l.length - bestN l c p else 0
theorem given_valid {l : List Task} {c p : Int} (h : givenN l c p = 0) : validB l c p = true := by
  cases hv : validB l c p with
  | true => rfl
  | false => unfold givenN at h; rw [hv] at h; simp at h

set_option maxRecDepth 100000 in
set_option maxHeartbeats 4000000 in
theorem boundsGap (v u : Value) (l : List Task) (c p : Int) (s : List Int) (w : World) (hl : TasksAt w w.heap.size v l) (hs : IntsAt w w.heap.size u s) (hw : Wide s) :
    Calls Try.prog 33 #[v, .int .i64 c, .int .i64 p, u] w fun e w' => e = .returned (.tuple #[.int .i64 (gapN l c p s), .int .i64 (gapE l c p s)]) ∧ Below w.heap.size w w' := by
  have HT : Hid (∀ w1, Below w.heap.size w w1 → TasksAt w1 w1.heap.size v l) := fun w1 hb => (hl.below hb (Nat.le_refl _)).mono hb.size
  have HS : Hid (∀ w1, Below w.heap.size w w1 → IntsAt w1 w1.heap.size u s) := fun w1 hb => (hs.below hb (Nat.le_refl _)).mono hb.size
  have hC := fun w1 hb => schedCheck v u l c p s w1 (HT.out w1 hb) (HS.out w1 hb) hw
  unfold CheckPost at hC
  by_cases hg : givenN l c p = 0
  rotate_left
  · have hB := bestNo v l c p w hl hg
    have HE : Hid (gapE l c p s = givenN l c p) := by unfold Hid gapE; rw [if_neg hg]
    have HN : Hid (gapN l c p s = 0) := by unfold Hid gapN; rw [HE.out, if_neg hg]
    generalize givenN l c p = x at *
    have hb : (x != 0) = true := by simpa using hg
    clear hg hl hs hC
    go_enter Try.func33, Try.ntmps33
    go_wp2_with fail
    refine hB.mono ?_
    rintro e w1 ⟨rfl, hb1⟩
    go_wp2_with fail
    refine bodyPost_ret (results_tmp2 rfl _ _ _) (by rfl) ?_
    exact ⟨by rw [HE.out, HN.out]; rfl, hb1⟩
  have hB := bestYes v l c p w hl hg
  by_cases hce : checkE l c p s = 0
  rotate_left
  · have HE : Hid (gapE l c p s = checkE l c p s) := by unfold Hid gapE; rw [if_pos hg, if_neg hce]
    have HN : Hid (gapN l c p s = 0) := by unfold Hid gapN; rw [HE.out, if_neg hce]
    simp only [decide_eq_false hce, Bool.false_and] at hC
    generalize checkE l c p s = x at *
    have hb : (x != 0) = true := by simpa using hce
    clear hg hl hs hce
    go_enter Try.func33, Try.ntmps33
    go_wp2_with fail
    refine hB.mono ?_
    rintro e w1 ⟨rfl, -, hb1⟩
    go_wp2_with fail
    refine (hC _ hb1).mono ?_
    rintro e w2 ⟨hb2, rfl⟩
    go_wp2_with fail
    refine bodyPost_ret (results_tmp2 rfl _ _ _) (by rfl) ?_
    exact ⟨by rw [HE.out, HN.out]; rfl, hb1.trans (hb2.mono hb1.size)⟩
  simp only [hce, decide_true, Bool.true_and] at hC
  cases hcb : checkB l c p s with
  | false =>
    have HE : Hid (gapE l c p s = 13) := by unfold Hid gapE; rw [if_pos hg, if_pos hce, hcb]; rfl
    have HN : Hid (gapN l c p s = 0) := by unfold Hid gapN; rw [HE.out]; rfl
    simp only [hcb] at hC
    clear hg hl hs hce hcb
    go_enter Try.func33, Try.ntmps33
    go_wp2_with fail
    refine hB.mono ?_
    rintro e w1 ⟨rfl, -, hb1⟩
    go_wp2_with fail
    refine (hC _ hb1).mono ?_
    rintro e w2 ⟨hb2, rfl⟩
    go_wp2_with fail
    refine bodyPost_ret (results_tmp2 rfl _ _ _) (by rfl) ?_
    exact ⟨by rw [HE.out, HN.out]; rfl, hb1.trans (hb2.mono hb1.size)⟩
  | true =>
    have HE : Hid (gapE l c p s = 0) := by unfold Hid gapE; rw [if_pos hg, if_pos hce, hcb]; rfl
    have HN : Hid (gapN l c p s = lenTo l s l.length - bestN l c p) := by unfold Hid gapN; rw [HE.out]; rfl
    have hR := (givenN_zero hg).1
    have hst : startsN l s = 0 := by rw [checkE_yes (given_valid hg)] at hce; exact hce
    obtain ⟨hlen, hbd⟩ := startsN_zero hst
    have hlt := lenTo_bd hR hlen hbd l.length (Nat.le_refl _)
    have hrr := (right_iff l).2 hR
    have hL : ∀ w1, Below w.heap.size w w1 → Calls Try.prog 36 #[v, u] w1 fun e w' => e = .returned (.tuple #[.int .i64 (lenTo l s l.length), .int .i64 0]) ∧ Below w1.heap.size w1 w' := fun w1 hb => (schedLength v u l s w1 (HT.out w1 hb) (HS.out w1 hb) hw).mono fun e w' h => by
      obtain ⟨hb, ⟨hno, _⟩ | ⟨_, rfl⟩⟩ := h
      · rw [hrr] at hno; cases hno
      · rw [hst, if_pos rfl]
        exact ⟨rfl, hb⟩
    simp only [hcb] at hC
    clear hg hl hs hce hcb hst hR hrr hbd hlen
    generalize lenTo l s l.length = m at *
    go_enter Try.func33, Try.ntmps33
    go_wp2_with fail
    refine hB.mono ?_
    rintro e w1 ⟨rfl, hbb, hb1⟩
    generalize bestN l c p = b at *
    go_wp2_with fail
    refine (hC _ hb1).mono ?_
    rintro e w2 ⟨hb2, rfl⟩
    have hb12 := hb1.trans (hb2.mono hb1.size)
    go_wp2_with fail
    refine (hL _ hb12).mono ?_
    rintro e w3 ⟨rfl, hb3⟩
    go_wp2_with fail
    refine bodyPost_ret (results_tmp2 rfl _ _ _) (by rfl) ?_
    exact ⟨by rw [HE.out, HN.out]; rfl, hb12.trans (hb3.mono hb12.size)⟩

/-- The error's number of Proves. -/
noncomputable def provE (l : List Task) (c p n : Int) : Int := if givenN l c p = 0 then (if n < 0 ∨ 1000000 < n then 2 else 0) else givenN l c p
noncomputable def provB (l : List Task) (c p n : Int) : Bool := decide (provE l c p n = 0) && decide (n ≤ bestN l c p)

set_option maxRecDepth 100000 in
set_option maxHeartbeats 4000000 in
theorem boundsProves (v : Value) (l : List Task) (c p n : Int) (w : World) (hl : TasksAt w w.heap.size v l) :
    Calls Try.prog 34 #[v, .int .i64 c, .int .i64 p, .int .i64 n] w fun e w' => e = .returned (.tuple #[.bool (provB l c p n), .int .i64 (provE l c p n)]) ∧ Below w.heap.size w w' := by
  by_cases hg : givenN l c p = 0
  rotate_left
  · have hB := bestNo v l c p w hl hg
    have HE : Hid (provE l c p n = givenN l c p) := by unfold Hid provE; rw [if_neg hg]
    have HN : Hid (provB l c p n = false) := by unfold Hid provB; rw [HE.out, decide_eq_false hg]; rfl
    generalize givenN l c p = x at *
    have hb : (x != 0) = true := by simpa using hg
    clear hg hl
    go_enter Try.func34, Try.ntmps34
    go_wp2_with fail
    refine hB.mono ?_
    rintro e w1 ⟨rfl, hb1⟩
    go_wp2_with fail
    refine bodyPost_ret (results_tmp2 rfl _ _ _) (by rfl) ?_
    exact ⟨by rw [HE.out, HN.out]; rfl, hb1⟩
  have hB := bestYes v l c p w hl hg
  by_cases h1 : n < 0
  · have HE : Hid (provE l c p n = 2) := by unfold Hid provE; rw [if_pos hg, if_pos (.inl h1)]
    have HN : Hid (provB l c p n = false) := by unfold Hid provB; rw [HE.out]; rfl
    clear hg hl
    go_enter Try.func34, Try.ntmps34
    go_wp2_with fail
    refine hB.mono ?_
    rintro e w1 ⟨rfl, -, hb1⟩
    go_wp2_with fail
    refine bodyPost_ret (results_tmp2 rfl _ _ _) (by rfl) ?_
    exact ⟨by rw [HE.out, HN.out]; rfl, hb1⟩
  · have h1b : decide (n < 0) = false := by simpa using h1
    by_cases h2 : 1000000 < n
    · have HE : Hid (provE l c p n = 2) := by unfold Hid provE; rw [if_pos hg, if_pos (.inr h2)]
      have HN : Hid (provB l c p n = false) := by unfold Hid provB; rw [HE.out]; rfl
      clear hg hl
      go_enter Try.func34, Try.ntmps34
      go_wp2_with fail
      refine hB.mono ?_
      rintro e w1 ⟨rfl, -, hb1⟩
      go_wp2_with fail
      refine bodyPost_ret (results_tmp2 rfl _ _ _) (by rfl) ?_
      exact ⟨by rw [HE.out, HN.out]; rfl, hb1⟩
    · have h2b : decide (1000000 < n) = false := by simpa using h2
      have HE : Hid (provE l c p n = 0) := by unfold Hid provE; rw [if_pos hg, if_neg (by omega)]
      have HN : Hid (provB l c p n = decide (n ≤ bestN l c p)) := by unfold Hid provB; rw [HE.out]; simp
      clear hg hl
      go_enter Try.func34, Try.ntmps34
      go_wp2_with fail
      refine hB.mono ?_
      rintro e w1 ⟨rfl, -, hb1⟩
      generalize bestN l c p = b at *
      go_wp2_with fail
      refine bodyPost_ret (results_tmp2 rfl _ _ _) (by rfl) ?_
      exact ⟨by rw [HE.out, HN.out]; rfl, hb1⟩

end Go.Proofs.Ytcjejcbikgcnbaa

/- No schedule is shorter than the bounds. No program in sight. -/
namespace Go.Proofs.Ytcjejcbikgcnbaa
open Go.RowKit Go.Shelf

/-! ### Area -/
/-- The sum over the times below n. -/
def sumT (g : Int → Int) : Nat → Int
  | 0 => 0
  | n + 1 => sumT g n + g (n : Int)
theorem sumT_add (g h : Int → Int) : ∀ n, sumT (fun t => g t + h t) n = sumT g n + sumT h n
  | 0 => rfl
  | n + 1 => by
    rw [sumT, sumT, sumT, sumT_add g h n]
    omega
theorem sumT_le {g : Int → Int} {c : Int} : ∀ n : Nat, (∀ t : Int, 0 ≤ t → t < n → g t ≤ c) → sumT g n ≤ c * (n : Int)
  | 0, _ => by simp [sumT]
  | n + 1, h => by
    have h1 := sumT_le n (fun t h0 h1 => h t h0 (by omega))
    have h2 := h n (by omega) (by omega)
    rw [sumT]
    have : c * ((n + 1 : Nat) : Int) = c * n + c := by rw [show ((n + 1 : Nat) : Int) = (n : Int) + 1 from rfl, Int.mul_add, Int.mul_one]
    omega
theorem sumT_zero : ∀ n, sumT (fun _ => 0) n = 0
  | 0 => rfl
  | n + 1 => by rw [sumT, sumT_zero n]; rfl
/-- A task's own share. -/
theorem sumT_one (a : Int) (s e : Int) (hs : 0 ≤ s) (hse : s ≤ e) : ∀ n : Nat, sumT (fun t => if s ≤ t ∧ t < e then a else 0) n = a * (min e (max s n) - s)
  | 0 => by rw [sumT]; have : min e (max s (0 : Nat)) - s = 0 := by omega
            rw [this, Int.mul_zero]
  | n + 1 => by
    rw [sumT, sumT_one a s e hs hse n]
    by_cases h : s ≤ (n : Int) ∧ (n : Int) < e
    · rw [if_pos h]
      have h1 : min e (max s ((n + 1 : Nat) : Int)) - s = (min e (max s (n : Int)) - s) + 1 := by omega
      rw [h1, Int.mul_add, Int.mul_one]
    · rw [if_neg h]
      have h1 : min e (max s ((n + 1 : Nat) : Int)) - s = min e (max s (n : Int)) - s := by omega
      rw [h1, Int.add_zero]
def areaTo (f : Task → Int) (l : List Task) : Nat → Int
  | 0 => 0
  | k + 1 => areaTo f l k + fAt f l k * lenAt l k
theorem area_need {f : Task → Int} {l : List Task} : ∀ k, k ≤ l.length → areaTo f l k = needN f (l.take k)
  | 0, _ => rfl
  | k + 1, hk => by
    rw [areaTo, area_need k (by omega), needN_take f l k (by omega), fAt_get (by omega), lenAt_eq (by omega)]
theorem area_sum {f : Task → Int} {l : List Task} {s : List Int} {n : Nat} (hs : ∀ i, i < l.length → 0 ≤ atI s i ∧ endN l s i ≤ n) (hl : ∀ i, i < l.length → 0 ≤ lenAt l i) : ∀ k, k ≤ l.length → sumT (fun t => usedTo f l s t k) n = areaTo f l k
  | 0, _ => sumT_zero n
  | k + 1, hk => by
    have ih := area_sum (f := f) hs hl k (by omega)
    obtain ⟨h1, h2⟩ := hs k (by omega)
    have h3 := hl k (by omega)
    have e : (fun t => usedTo f l s t (k + 1)) = fun t => usedTo f l s t k + if atI s k ≤ t ∧ t < endN l s k then fAt f l k else 0 := by
      funext t
      rw [usedTo, onB_of_nonneg h1]
      by_cases h : onR l s t k = true
      · rw [if_pos h, if_pos (onR_iff.1 h)]
      · rw [if_neg h, if_neg (fun h' => h (onR_iff.2 h'))]
    rw [e, sumT_add, ih, sumT_one _ _ _ h1 (by unfold endN; omega), areaTo]
    congr 1
    have : min (endN l s k) (max (atI s k) (n : Int)) - atI s k = lenAt l k := by unfold endN at *; omega
    rw [this]
section
variable {l : List Task} {c p : Int}
theorem used_le (hR : RightT l) (hc : 0 ≤ c ∧ 0 ≤ p) {s : List Int} (hs : ∀ i, i < l.length → 0 ≤ atI s i) (hf : ∀ i, i < l.length → fitsB l c p s (atI s i) = true) (t : Int) : usedTo Task.crew l s t l.length ≤ c ∧ usedTo Task.pow l s t l.length ≤ p := by
  by_cases h : ∃ i, i < l.length ∧ onB l s t i = true
  · obtain ⟨i, hi, ho⟩ := h
    rw [onB_of_nonneg (hs i hi)] at ho
    exact keeps_at hR hs hf hi ho
  · have hno : ∀ j, j < l.length → onB l s t j = false := fun j hj => by
      cases hb : onB l s t j with
      | false => rfl
      | true => exact absurd ⟨j, hj, hb⟩ h
    rw [usedTo_none _ hno, usedTo_none _ hno]
    exact hc
theorem lenTo_nonneg {s : List Int} : ∀ k, 0 ≤ lenTo l s k
  | 0 => Int.le_refl _
  | k + 1 => by
    have := lenTo_nonneg (s := s) k
    unfold lenTo
    split <;> omega
theorem area_le (hR : RightT l) (hc : 0 ≤ c ∧ 0 ≤ p) {s : List Int} (hs : ∀ i, i < l.length → 0 ≤ atI s i) (hf : ∀ i, i < l.length → fitsB l c p s (atI s i) = true) : needN Task.crew l ≤ c * lenTo l s l.length ∧ needN Task.pow l ≤ p * lenTo l s l.length := by
  have h0 := lenTo_nonneg (l := l) (s := s) l.length
  obtain ⟨n, hn⟩ := Int.eq_ofNat_of_zero_le h0
  have hb : ∀ i, i < l.length → 0 ≤ atI s i ∧ endN l s i ≤ n := fun i hi => ⟨hs i hi, by have := lenTo_ge (l := l) (s := s) l.length i hi; omega⟩
  have hl : ∀ i, i < l.length → 0 ≤ lenAt l i := fun i _ => (lenAt_bd hR i).1
  have h1 := area_sum (f := Task.crew) hb hl l.length (Nat.le_refl _)
  have h2 := area_sum (f := Task.pow) hb hl l.length (Nat.le_refl _)
  have h3 := sumT_le (g := fun t => usedTo Task.crew l s t l.length) (c := c) n fun t _ _ => (used_le hR hc hs hf t).1
  have h4 := sumT_le (g := fun t => usedTo Task.pow l s t l.length) (c := p) n fun t _ _ => (used_le hR hc hs hf t).2
  rw [area_need _ (Nat.le_refl _), List.take_length] at h1 h2
  rw [hn]
  exact ⟨by omega, by omega⟩
theorem ceil_le {a b n : Int} (hb : 0 < b) (h : a ≤ b * n) : (a + b - 1) / b ≤ n := by
  have : (a + b - 1) / b < n + 1 := Int.ediv_lt_of_lt_mul hb (by rw [Int.add_mul, Int.mul_comm n b]; omega)
  omega
theorem given_lims (hg : givenN l c p = 0) : RightT l ∧ 0 ≤ c ∧ 0 ≤ p := by
  have h := valid_right (given_valid hg)
  exact ⟨h.1, h.2.1, h.2.2.2.1⟩
theorem work_le (hg : givenN l c p = 0) {s : List Int} (hs : ∀ i, i < l.length → 0 ≤ atI s i) (hf : ∀ i, i < l.length → fitsB l c p s (atI s i) = true) : workN l c p ≤ lenTo l s l.length := by
  obtain ⟨hR, hc0, hp0⟩ := given_lims hg
  obtain ⟨h1, h2⟩ := area_le hR ⟨hc0, hp0⟩ hs hf
  have h0 := lenTo_nonneg (l := l) (s := s) l.length
  generalize lenTo l s l.length = n at *
  unfold workN stepN
  have hcp : 0 < needN Task.crew l → 0 < c := fun h => by
    apply Classical.byContradiction
    intro hn
    have : c = 0 := by omega
    rw [this, Int.zero_mul] at h1
    omega
  have hpp : 0 < needN Task.pow l → 0 < p := fun h => by
    apply Classical.byContradiction
    intro hn
    have : p = 0 := by omega
    rw [this, Int.zero_mul] at h2
    omega
  by_cases ha : 0 < needN Task.crew l
  · have h3 := ceil_le (hcp ha) h1
    by_cases hb : 0 < needN Task.pow l
    · have h4 := ceil_le (hpp hb) h2
      rw [if_pos ha, if_pos hb]
      split <;> split <;> omega
    · rw [if_pos ha, if_neg hb]
      split <;> omega
  · by_cases hb : 0 < needN Task.pow l
    · have h4 := ceil_le (hpp hb) h2
      rw [if_neg ha, if_pos hb]
      split <;> omega
    · rw [if_neg ha, if_neg hb]
      exact h0

/-! ### Cliques -/
/-- What excludes runs one after the other. -/
theorem excl_apart (hR : RightT l) {s : List Int} (hlen : s.length = l.length) (hs : ∀ i, i < l.length → 0 ≤ atI s i) (hrow : ∀ i, i < l.length → ∀ k ∈ rowAt l i, endN l s k.toNat ≤ atI s i) (hf : ∀ i, i < l.length → fitsB l c p s (atI s i) = true) {i k : Nat} (hik : i ≠ k) (h : excl l c p i k) : endN l s i ≤ atI s k ∨ endN l s k ≤ atI s i := by
  obtain ⟨hi, hk, h⟩ := h
  have hln : ∀ i, 0 ≤ lenAt l i := fun i => (lenAt_bd hR i).1
  have hreach : ∀ i k, reach l i k → endN l s i ≤ atI s k := by
    intro i k ⟨z, hz⟩
    generalize hn : z.length = n
    induction n generalizing z k with
    | zero =>
      have : z = [] := List.length_eq_zero_iff.1 hn
      subst this
      have he := (Chain.cons_iff.1 hz).1
      have := hrow k he.2.1 _ (edge_rowAt hR he)
      rwa [Int.toNat_natCast] at this
    | succ n ih =>
      obtain ⟨z', x, rfl, hz'⟩ := snoc_cases hn
      have h1 : Chain l ((i :: z' ++ [x]) ++ [k]) := by simpa using hz
      have h2 := ih (z := z') (k := x) (by simpa using h1.front) hz'
      have he := h1.last_edge (by simp)
      rw [List.getLast_append_of_ne_nil _ (by simp)] at he
      have h3 := hrow k he.2.1 _ (edge_rowAt hR he)
      rw [Int.toNat_natCast] at h3
      have h4 := hln x
      unfold endN at h2 h3 ⊢
      simp only [List.getLast_singleton] at h3 h4
      omega
  have hover : ∀ t, onB l s t i = true → onB l s t k = true → fAt Task.crew l i + fAt Task.crew l k ≤ c ∧ fAt Task.pow l i + fAt Task.pow l k ≤ p := fun t h1 h2 => by
    rw [onB_of_nonneg (hs i hi)] at h1
    obtain ⟨g1, g2⟩ := keeps_at hR hs hf hi h1
    rw [onB_of_nonneg (hs k hk)] at h2
    have hn : ([i, k] : List Nat).Nodup := by simp [hik]
    have h5 := usedY_le (f := Task.crew) (fun i hi => (crew_bd hR i hi).1) (t := t) (y := [i, k]) hlen hs hn (by simp [hi, hk])
    have h6 := usedY_le (f := Task.pow) (fun i hi => (pow_bd hR i hi).1) (t := t) (y := [i, k]) hlen hs hn (by simp [hi, hk])
    rw [show [i, k] = ([] ++ [i]) ++ [k] from rfl, usedY_append, usedY_append, if_pos h1, if_pos h2] at h5 h6
    have e1 : ∀ f, usedY f l s t [] = 0 := fun _ => rfl
    rw [e1] at h5 h6
    omega
  by_cases ho : endN l s i ≤ atI s k ∨ endN l s k ≤ atI s i
  · exact ho
  · exfalso
    have hli : 1 ≤ lenAt l i := by rw [lenAt_eq hi]; exact (fieldB_len (hR.field i hi)).1
    have hlk : 1 ≤ lenAt l k := by rw [lenAt_eq hk]; exact (fieldB_len (hR.field k hk)).1
    have hmax : ∃ t, onB l s t i = true ∧ onB l s t k = true := by
      by_cases hle : atI s i ≤ atI s k
      · refine ⟨atI s k, ?_, ?_⟩
        · rw [onB_of_nonneg (hs i hi), onR_iff]; omega
        · rw [onB_of_nonneg (hs k hk), onR_iff]; unfold endN; omega
      · refine ⟨atI s i, ?_, ?_⟩
        · rw [onB_of_nonneg (hs i hi), onR_iff]; unfold endN; omega
        · rw [onB_of_nonneg (hs k hk), onR_iff]; omega
    obtain ⟨t, h1, h2⟩ := hmax
    obtain ⟨g1, g2⟩ := hover t h1 h2
    rw [fAt_get hi, fAt_get hk] at g1 g2
    rcases h with h | h | h | h
    · exact ho (.inl (hreach i k h))
    · exact ho (.inr (hreach k i h))
    · omega
    · omega
/-- Tasks that run one after the other take no longer than the schedule. -/
theorem apart_sum {s : List Int} {M : Int} (hl : ∀ i, 0 ≤ lenAt l i) : ∀ (n : Nat) {z : List Nat}, z.length = n → z.Nodup → (∀ i ∈ z, 1 ≤ lenAt l i ∧ 0 ≤ atI s i ∧ endN l s i ≤ M) → (∀ i ∈ z, ∀ k ∈ z, i ≠ k → endN l s i ≤ atI s k ∨ endN l s k ≤ atI s i) → 0 ≤ M → sumAt l z ≤ M
  | 0, z, hz, _, _, _, hM => by
    have : z = [] := List.length_eq_zero_iff.1 hz
    subst this
    rw [sumAt_nil]
    exact hM
  | n + 1, z, hz, hn, hb, hap, hM => by
    have hne : z ≠ [] := fun e => by rw [e] at hz; simp at hz
    obtain ⟨m, hm, hmost⟩ := most_mem (z.map (atI s)) (by simpa using hne)
    obtain ⟨j, hj, rfl⟩ := List.mem_map.1 hm
    have hperm := List.perm_cons_erase hj
    have hnd : (z.erase j).Nodup := hn.erase j
    have hsub : ∀ i ∈ z.erase j, i ∈ z ∧ i ≠ j := fun i hi => ⟨List.mem_of_mem_erase hi, fun e => by subst e; exact (List.Nodup.not_mem_erase hn) hi⟩
    have hlast : ∀ i ∈ z.erase j, endN l s i ≤ atI s j := fun i hi => by
      obtain ⟨h1, h2⟩ := hsub i hi
      have h3 := hmost (atI s i) (List.mem_map.2 ⟨i, h1, rfl⟩)
      have h4 := (hb j hj).1
      rcases hap i h1 j hj h2 with h | h
      · exact h
      · unfold endN at h
        omega
    have ih := apart_sum (s := s) (M := atI s j) hl n (z := z.erase j) (by rw [List.length_erase_of_mem hj]; omega) hnd (fun i hi => ⟨(hb i (hsub i hi).1).1, (hb i (hsub i hi).1).2.1, hlast i hi⟩) (fun i hi k hk hik => hap i (hsub i hi).1 k (hsub k hk).1 hik) (hb j hj).2.1
    rw [sumAt_perm hperm, sumAt_cons]
    have := (hb j hj).2.2
    unfold endN at this
    omega
theorem clique_le (hR : RightT l) {s : List Int} (hlen : s.length = l.length) (hs : ∀ i, i < l.length → 0 ≤ atI s i) (hk : checkB l c p s = true) {z : List Nat} (hn : z.Nodup) (hlt : ∀ i ∈ z, i < l.length) (hz : Apart l c p z) : sumAt l z ≤ lenTo l s l.length := by
  obtain ⟨hrow, hf⟩ := keeps_facts hlen hk
  refine apart_sum (fun i => (lenAt_bd hR i).1) _ rfl hn (fun i hi => ⟨by rw [lenAt_eq (hlt i hi)]; exact (fieldB_len (hR.field i (hlt i hi))).1, hs i (hlt i hi), lenTo_ge _ i (hlt i hi)⟩) (fun i hi k hk' hik => excl_apart hR hlen hs hrow hf hik (hz i hi k hk' hik)) (lenTo_nonneg _)
/-- No starts that keep the limits are shorter than the best bound. -/
theorem best_le (hg : givenN l c p = 0) {L K : Int} {y : List Nat} {z : Nat} (hc : Covers l [l.length] L y) (hh : Heavy l c p (2 ^ l.length) K z) {s : List Int} (hlen : s.length = l.length) (hs : ∀ i, i < l.length → 0 ≤ atI s i) (hk : checkB l c p s = true) : bestN l c p ≤ lenTo l s l.length := by
  obtain ⟨hR, hc0, hp0⟩ := given_lims hg
  obtain ⟨hrow, hf⟩ := keeps_facts hlen hk
  have h1 := work_le hg hs hf
  have h2 : L ≤ lenTo l s l.length := by
    rw [← hc.sum]
    by_cases e : y = []
    · rw [e, sumAt_nil]
      exact lenTo_nonneg _
    · have h3 := up_le_len hR hs hrow y.dropLast (y.getLast e) (by rw [List.dropLast_concat_getLast e]; exact hc.chain)
      rw [List.dropLast_concat_getLast e] at h3
      have h4 := lenTo_ge (l := l) (s := s) l.length _ (hc.chain.1 _ (List.getLast_mem e))
      omega
  have h3 : K ≤ lenTo l s l.length := by
    rw [← hh.sum]
    exact clique_le hR hlen hs hk (nodup_memb z _) (fun i hi => (mem_memb.1 hi).1) (heavy_apart hh)
  unfold bestN
  rw [pathN_eq hc, cliqueN_eq hh]
  unfold max3
  first | omega | (split <;> split <;> omega)
end

end Go.Proofs.Ytcjejcbikgcnbaa

/- The law's right. -/
namespace Go.Proofs.Ytcjejcbikgcnbaa
open Go.RowKit Go.Shelf

/-- Tasks and limits are right, and small. -/
noncomputable def smallB (l : List Task) (c p : Int) : Bool := !longL l && decide (l.length ≤ 6) && decide (givenN l c p = 0)
theorem smallB_yes {l : List Task} {c p : Int} (h : smallB l c p = true) : l.length ≤ 6 ∧ givenN l c p = 0 := by
  unfold smallB at h
  simp only [Bool.and_eq_true, decide_eq_true_eq] at h
  exact ⟨h.1.2, h.2⟩

set_option maxHeartbeats 2000000 in
theorem lawRight (v : Value) (l : List Task) (c p : Int) (w : World) (hl : TasksAt w w.heap.size v l) :
    Calls Try.prog 30 #[v, .int .i64 c, .int .i64 p] w fun e w' => e = .returned (.bool (smallB l c p)) ∧ Below w.heap.size w w' := by
  have hLong := lawLong v l w hl
  have hG : ∀ w1, Below w.heap.size w w1 → Calls Try.prog 26 #[v, .int .i64 c, .int .i64 p] w1 fun e w' => e = .returned (.int .i64 (givenN l c p)) ∧ Below w1.heap.size w1 w' := fun w1 hb => refGiven v l c p w1 ((hl.below hb (Nat.le_refl _)).mono hb.size)
  obtain ⟨A, cc, rfl, h1, h2, -⟩ := hl.open_
  unfold maxLen at h2
  clear hl
  cases hlg : longL l with
  | true =>
    have HV : Hid (smallB l c p = false) := by unfold Hid smallB; rw [hlg]; rfl
    rw [hlg] at hLong
    clear hlg hG
    go_enter Try.func30, Try.ntmps30
    go_wp2_with (go_at_call 17; refine hLong.mono ?_; rintro e w1 ⟨rfl, hb1⟩)
    go_ret
    exact ⟨ret_bool HV.out.symm, hb1⟩
  | false =>
    rw [hlg] at hLong
    by_cases h6 : l.length ≤ 6
    · have hb6 : decide ((l.length : Int) ≤ 6) = true := by simp; omega
      have HV : Hid (smallB l c p = decide (givenN l c p = 0)) := by unfold Hid smallB; rw [hlg, decide_eq_true h6]; rfl
      clear hlg
      generalize givenN l c p = g at *
      go_enter Try.func30, Try.ntmps30
      go_wp2_with (first | (go_at_call 17; refine hLong.mono ?_; rintro e w1 ⟨rfl, hb1⟩) | (go_at_call 26; refine (hG _ hb1).mono ?_; rintro e w2 ⟨rfl, hb2⟩))
      go_ret
      exact ⟨ret_bool (by rw [HV.out]; rfl), hb1.trans (hb2.mono hb1.size)⟩
    · have hb6 : decide ((l.length : Int) ≤ 6) = false := by simp; omega
      have HV : Hid (smallB l c p = false) := by unfold Hid smallB; rw [decide_eq_false h6]; simp
      clear hlg hG
      go_enter Try.func30, Try.ntmps30
      go_wp2_with (go_at_call 17; refine hLong.mono ?_; rintro e w1 ⟨rfl, hb1⟩)
      go_ret
      exact ⟨ret_bool HV.out.symm, hb1⟩

end Go.Proofs.Ytcjejcbikgcnbaa

/- The law BoundsHolds: the walk. -/
namespace Go.Proofs.Ytcjejcbikgcnbaa
open Go.RowKit Go.Shelf

theorem best_nonneg {l : List Task} {c p : Int} (hg : givenN l c p = 0) : 0 ≤ bestN l c p := by
  have h := work_bd hg
  unfold bestN max3
  split <;> split at * <;> omega
theorem len_bd {l : List Task} (hR : RightT l) {s : List Int} (hs : ∀ i, i < l.length → 0 ≤ atI s i ∧ atI s i ≤ 80000) : ∀ k, k ≤ l.length → 0 ≤ lenTo l s k ∧ lenTo l s k ≤ 90000
  | 0, _ => by simp [lenTo]
  | k + 1, hk => by
    have h := len_bd hR hs k (by omega)
    have h1 := hs k (by omega)
    have h2 := lenAt_bd hR k
    unfold lenTo endN
    split <;> omega

set_option maxRecDepth 100000 in
set_option maxHeartbeats 8000000 in
theorem lawBoundsHolds (v u : Value) (l : List Task) (c p : Int) (s : List Int) (w : World) (hl : TasksAt w w.heap.size v l) (hs : IntsAt w w.heap.size u s) (hw : Wide s) :
    Calls Try.prog 15 #[v, .int .i64 c, .int .i64 p, u] w fun e w' => e = .returned (.bool true) ∧ Below w.heap.size w w' := by
  have hA := lawAwake w
  have HT : Hid (∀ w1, Below w.heap.size w w1 → TasksAt w1 w1.heap.size v l) := fun w1 hb => (hl.below hb (Nat.le_refl _)).mono hb.size
  have HS : Hid (∀ w1, Below w.heap.size w w1 → IntsAt w1 w1.heap.size u s) := fun w1 hb => (hs.below hb (Nat.le_refl _)).mono hb.size
  obtain ⟨A1, c1, rfl, hB1, hB2, -⟩ := hs.open_
  have hRt := fun w1 hb => lawRight v l c p w1 (HT.out w1 hb)
  have HBe : Hid (∀ w1, Below w.heap.size w w1 → Calls Try.prog 25 #[v, .int .i64 c, .int .i64 p] w1 fun e w' => e = .returned (.tuple #[.int .i64 (if givenN l c p = 0 then bestN l c p else 0), .int .i64 (givenN l c p)]) ∧ Below w1.heap.size w1 w') := fun w1 hb => bestCall v l c p w1 (HT.out w1 hb)
  have HLe : Hid (∀ w1, Below w.heap.size w w1 → Calls Try.prog 41 #[v, .int .i64 c, .int .i64 p] w1 (LeastPost l c p w1)) := fun w1 hb => schedLeast v l c p w1 (HT.out w1 hb)
  have HGs : Hid (∀ w1, Below w.heap.size w w1 → Calls Try.prog 33 #[v, .int .i64 c, .int .i64 p, .slice A1 s.length c1] w1 fun e w' => e = .returned (.tuple #[.int .i64 (gapN l c p s), .int .i64 (gapE l c p s)]) ∧ Below w1.heap.size w1 w') := fun w1 hb => boundsGap v _ l c p s w1 (HT.out w1 hb) (HS.out w1 hb) hw
  have HGb : Hid (∀ (A : Option Addr) (cap : Nat) (x : List Int) w1, Wide x → Below w.heap.size w w1 → IntsAt w1 w1.heap.size (.slice A x.length cap) x → Calls Try.prog 33 #[v, .int .i64 c, .int .i64 p, .slice A x.length cap] w1 fun e w' => e = .returned (.tuple #[.int .i64 (gapN l c p x), .int .i64 (gapE l c p x)]) ∧ Below w1.heap.size w1 w') := fun A cap x w1 hx hb hi => boundsGap v _ l c p x w1 (HT.out w1 hb) hi hx
  have HPr : Hid (∀ n w1, Below w.heap.size w w1 → Calls Try.prog 34 #[v, .int .i64 c, .int .i64 p, .int .i64 n] w1 fun e w' => e = .returned (.tuple #[.bool (provB l c p n), .int .i64 (provE l c p n)]) ∧ Below w1.heap.size w1 w') := fun n w1 hb => boundsProves v l c p n w1 (HT.out w1 hb)
  have HPath : Hid (∃ L y, Covers l [l.length] L y) ∨ ¬ Hid (∃ L y, Covers l [l.length] L y) := Classical.em _
  have HClq : Hid (∃ K z, Heavy l c p (2 ^ l.length) K z) ∨ ¬ Hid (∃ K z, Heavy l c p (2 ^ l.length) K z) := Classical.em _
  have HBd : Hid (∀ w1, Below w.heap.size w w1 → Calls Try.prog 25 #[v, .int .i64 c, .int .i64 p] w1 (BestPost l c p w1)) := fun w1 hb => boundsBest v l c p w1 (HT.out w1 hb)
  clear HPath HClq HBe
  obtain ⟨A, cc, rfl, hA1, hA2, -⟩ := hl.open_
  unfold maxLen at hA2 hB2
  clear hl hs hw
  cases hlg : smallB l c p with
  | false =>
    rw [hlg] at hRt
    clear hlg
    go_enter Try.func15, Try.ntmps15
    go_wp2_with (first
      | (go_at_call 16; refine hA.mono ?_; rintro e w1 ⟨rfl, hb1⟩)
      | (go_at_call 30; refine (hRt _ hb1).mono ?_; rintro e w2 ⟨rfl, hb2⟩))
    go_ret
    exact ⟨rfl, hb1.trans (hb2.mono hb1.size)⟩
  | true =>
    obtain ⟨h6, hg⟩ := smallB_yes hlg
    rw [hlg] at hRt
    clear hlg
    by_cases h12 : 12 < s.length
    · have h12b : decide ((12 : Int) < s.length) = true := by simp; omega
      have Hg := Lib.hid hg
      clear hg
      go_enter Try.func15, Try.ntmps15
      go_wp2_with (first
        | (go_at_call 16; refine hA.mono ?_; rintro e w1 ⟨rfl, hb1⟩)
        | (go_at_call 30; refine (hRt _ hb1).mono ?_; rintro e w2 ⟨rfl, hb2⟩))
      go_ret
      exact ⟨rfl, hb1.trans (hb2.mono hb1.size)⟩
    have h12b : decide ((12 : Int) < s.length) = false := by simp; omega
    have Hg := Lib.hid hg
    have hbn := best_nonneg hg
    have hv := given_valid hg
    have hgl := given_lims hg
    have hfit : l.any (tooMuch c p) = false := by
      have := givenN_no hv
      rw [hg] at this
      cases hq : l.any (tooMuch c p) with
      | false => rfl
      | true => rw [hq] at this; simp at this
    have Hv := Lib.hid hv
    have Hfit := Lib.hid hfit
    have HR := Lib.hid hgl.1
    have hcp := hgl.2
    clear hg hv hfit hgl
    go_enter Try.func15, Try.ntmps15
    go_wp2_with (first
      | (go_at_call 16; refine hA.mono ?_; rintro e w1 ⟨rfl, hb1⟩)
      | (go_at_call 30; refine (hRt _ hb1).mono ?_; rintro e w2 ⟨rfl, hb2⟩))
    have hbx := hb1.trans (hb2.mono hb1.size)
    clear hb1 hb2 hA hRt
    refine (HBd.out _ hbx).mono ?_
    rintro e w3 ⟨hb3, hpost⟩
    have hbx3 := hbx.trans (hb3.mono hbx.size)
    rcases hpost with ⟨hno, _⟩ | ⟨_, L, K, y, z, hc, hh, rfl⟩
    · exact absurd Hg.out hno
    have hbe : max3 (workN l c p) L K = bestN l c p := by unfold bestN; rw [pathN_eq hc, cliqueN_eq hh]
    rw [hbe]
    have HLow : Hid (∀ x : List Int, startsN l x = 0 → checkB l c p x = true → bestN l c p ≤ lenTo l x l.length) := fun x hst hk => by
      obtain ⟨h1, h2⟩ := startsN_zero hst
      exact best_le Hg.out hc hh h1 (fun i hi => by rw [atI_get (by omega)]; exact (h2 _ (List.getElem_mem _)).1) hk
    have HOpt : Hid (∀ x : List Int, startsN l x = 0 → checkB l c p x = true → (leastN l c p).1 ≤ lenTo l x l.length) := fun x hst hk => by
      obtain ⟨h1, h2⟩ := startsN_zero hst
      exact least_opt HR.out hcp Hfit.out h1 (fun i hi => by rw [atI_get (by omega)]; exact (h2 _ (List.getElem_mem _)).1) hk
    clear hbe hc hh hb3 hbx
    go_wp2_with fail
    refine (HLe.out _ hbx3).mono ?_
    rintro e w4 ⟨hb4, hpost⟩
    have hbx4 := hbx3.trans (hb4.mono hbx3.size)
    rcases hpost with ⟨hno, _⟩ | ⟨_, hno, _⟩ | ⟨_, _, A7, cap7, rfl, hown7⟩
    · rw [Hv.out] at hno; cases hno
    · rw [Hfit.out] at hno; cases hno
    obtain ⟨k1, k2, k3, k4⟩ := least_keeps HR.out hcp Hfit.out
    have hst0 : startsN l (leastN l c p).2 = 0 := startsN_ok k2 fun x hx => by have := k3 x hx; omega
    have hs4 : IntsAt w4 w4.heap.size (.slice A7 (leastN l c p).2.length cap7) (leastN l c p).2 := RowAt.of_own hown7
    have hGb := HGb.out A7 cap7 _ w4 (wide_of (M := 80000) (by omega) k3) hbx4 hs4
    have hge : gapE l c p (leastN l c p).2 = 0 := by
      unfold gapE
      rw [if_pos Hg.out, checkE_yes Hv.out, hst0, if_pos rfl, k1]
      rfl
    have hgn : gapN l c p (leastN l c p).2 = (leastN l c p).1 - bestN l c p := by
      unfold gapN
      rw [if_pos hge, k4]
    rw [hge, hgn] at hGb
    have hlow := HLow.out _ hst0 k1
    rw [← k4] at hlow
    have hnb := len_bd HR.out (s := (leastN l c p).2) (fun i hi => by rw [atI_get (by omega)]; exact k3 _ (List.getElem_mem _)) l.length (Nat.le_refl _)
    rw [← k4] at hnb
    have HPe : Hid (provE l c p (leastN l c p).1 = 0) := by
      unfold Hid provE
      rw [if_pos Hg.out, if_neg (by omega)]
    have HPb : Hid (provB l c p (leastN l c p).1 = decide ((leastN l c p).1 ≤ bestN l c p)) := by
      unfold Hid provB
      rw [HPe.out]
      rfl
    have hP := HPr.out (leastN l c p).1
    rw [HPe.out, HPb.out] at hP
    have HGE : Hid (gapE l c p s = 0 → gapN l c p s = lenTo l s l.length - bestN l c p ∧ (leastN l c p).1 ≤ lenTo l s l.length) := fun he => by
      refine ⟨by unfold gapN; rw [if_pos he], ?_⟩
      unfold gapE at he
      rw [if_pos Hg.out, checkE_yes Hv.out] at he
      split at he
      · rename_i hst
        split at he
        · rename_i hk
          exact HOpt.out s hst hk
        · cases he
      · exact absurd he (by assumption)
    have hGs := HGs.out
    clear k1 k2 k3 k4 hst0 hs4 hge hgn hown7 HPe HPb HLow HOpt hb4 HGs HGb HPr
    generalize leastN l c p = r at *
    obtain ⟨n, sl⟩ := r
    simp only at hGb hP HGE hlow hnb ⊢
    generalize bestN l c p = b at *
    generalize gapN l c p s = gn at *
    generalize gapE l c p s = ge at *
    generalize lenTo l s l.length = ls at *
    have hw1 : IntKind.i64.wrap (n - b) = n - b := IntWalk.i64_in _ (by omega)
    have hnn : ((n - b) != (n - b)) = false := by simp
    have hz : (0 : Int) ≤ n - b := by omega
    go_wp2_with fail
    refine hGb.mono ?_
    rintro e w5 ⟨rfl, hb5⟩
    have hbx5 := hbx4.trans (hb5.mono hbx4.size)
    go_wp2_with fail
    refine (hP _ hbx5).mono ?_
    rintro e w6 ⟨rfl, hb6⟩
    have hbx6 := hbx5.trans (hb6.mono hbx5.size)
    have hGs6 := hGs _ hbx6
    clear hGb hP hGs
    by_cases hle : n ≤ b
    · have e1 : decide (n ≤ b) = true := by simpa using hle
      have e2 : ((n - b) == 0) = true := by simp; omega
      by_cases hge : ge = 0
      · obtain ⟨g1, g2⟩ := HGE.out hge
        subst hge
        have hge2 : n - b ≤ gn := by omega
        clear g1 HGE
        go_wp2_with fail
        refine hGs6.mono ?_
        rintro e w7 ⟨rfl, hb7⟩
        go_wp2_with fail
        go_ret
        exact ⟨rfl, hbx6.trans (hb7.mono hbx6.size)⟩
      · have hgeb : (ge != 0) = true := by simpa using hge
        clear HGE hge
        go_wp2_with fail
        refine hGs6.mono ?_
        rintro e w7 ⟨rfl, hb7⟩
        go_wp2_with fail
        go_ret
        exact ⟨rfl, hbx6.trans (hb7.mono hbx6.size)⟩
    · have e1 : decide (n ≤ b) = false := by simpa using hle
      have e2 : ((n - b) == 0) = false := by simp; omega
      by_cases hge : ge = 0
      · obtain ⟨g1, g2⟩ := HGE.out hge
        subst hge
        have hge2 : n - b ≤ gn := by omega
        clear g1 HGE
        go_wp2_with fail
        refine hGs6.mono ?_
        rintro e w7 ⟨rfl, hb7⟩
        go_wp2_with fail
        go_ret
        exact ⟨rfl, hbx6.trans (hb7.mono hbx6.size)⟩
      · have hgeb : (ge != 0) = true := by simpa using hge
        clear HGE hge
        go_wp2_with fail
        refine hGs6.mono ?_
        rintro e w7 ⟨rfl, hb7⟩
        go_wp2_with fail
        go_ret
        exact ⟨rfl, hbx6.trans (hb7.mono hbx6.size)⟩

end Go.Proofs.Ytcjejcbikgcnbaa
