/- The reference's Comes of layer 44. -/
import Derived.Test.YtcjejcbikgcnbaaHeavy
namespace Go.Proofs.Ytcjejcbikgcnbaa
open Go.RowKit Go.Shelf

noncomputable def reachB (l : List Task) (i k : Nat) : Bool := @decide (reach l i k) (Classical.propDecidable _)
theorem reachB_iff {l : List Task} {i k : Nat} : reachB l i k = true ↔ reach l i k := by unfold reachB; exact @decide_eq_true_iff _ (Classical.propDecidable _)
theorem reachB_no {l : List Task} {i k : Nat} (h : ¬ reach l i k) : reachB l i k = false := by
  cases hb : reachB l i k with
  | false => rfl
  | true => exact absurd (reachB_iff.1 hb) h

set_option maxRecDepth 100000 in
set_option maxHeartbeats 2000000 in
theorem refComes (v : Value) (l : List Task) (B : Nat) : ∀ (f i k : Nat) (w : World), i < l.length → k < l.length → (∀ z, Chain l (z ++ [k]) → (z ++ [k]).length ≤ f) → TasksAt w B v l →
    Calls Try.prog 115 #[v, .int .i64 i, .int .i64 k] w fun e w' => e = .returned (.bool (reachB l i k)) ∧ ∃ q, w.drewN q = w' := by
  intro f
  induction f with
  | zero => intro i k w hi hk h; have := h [] (Chain.one hk); simp at this
  | succ f ih =>
    intro i k w hi hk hch hl
    have IH : Hid (∀ x, edge l x k → ∀ q, Calls Try.prog 115 #[v, .int .i64 i, .int .i64 x] (w.drewN q) fun e w' => e = .returned (.bool (reachB l i x)) ∧ ∃ q', (w.drewN q).drewN q' = w') := fun x he q => ih i x _ hi he.1 (fun z hz => by
      have h1 : Chain l ((z ++ [x]) ++ [k]) := hz.snoc hk (fun hx => by simpa using he)
      have := hch (z ++ [x]) h1
      simpa using this) (hl.drewN q)
    clear ih hch
    have HL := Lib.hid hl
    obtain ⟨A, c, rfl, hc1, hc2, hcell⟩ := hl.open_
    unfold maxLen at hc2
    clear hl hcell
    go_enter Try.func115, Try.ntmps115
    go_wp2
    go_loopw [7] (fun s wr => ∃ (x : Nat), x ≤ l.length ∧ s = .int .i64 x ∧ Hid (∀ y, y < x → edge l y k → ¬ (y = i ∨ reach l i y)) ∧ ∃ q, wr = w.drewN q) (fun s _ => l.length - (intOf s).toNat)
    case atStart => exact ⟨0, Nat.zero_le _, rfl, fun y hy => absurd hy (Nat.not_lt_zero y), 0, rfl⟩
    case round =>
      obtain ⟨x, hx, rfl, HN, q, rfl⟩ := hrel
      by_cases hxl : x < l.length
      · have hbf := rbefore _ l x k (w.drewN q) B (HL.out.drewN q) hxl hk
        by_cases hE : l[x].name ∈ l[k].bef
        · have he : edge l x k := ⟨hxl, hk, hE⟩
          have hcall := fun q => IH.out x he q
          rw [decide_eq_true hE] at hbf
          have He := Lib.hid he
          clear hE he
          by_cases hxi : x = i
          · subst hxi
            have hV : Hid (reachB l x k = true) := reachB_iff.2 (reach_iff.2 ⟨x, He.out, .inl rfl⟩)
            have hb : ((x : Int) == (x : Int)) = true := by simp
            go_wp2_with (go_at_call 71; refine hbf.mono ?_; rintro e w' ⟨rfl, q1, rfl⟩)
            go_ret
            exact ⟨ret_bool hV.out.symm, _, rfl⟩
          · have hb : ((x : Int) == (i : Int)) = false := by simp; omega
            have Hxi := Lib.hid hxi
            clear hxi
            cases hr : reachB l i x with
            | true =>
              have hV : Hid (reachB l i k = true) := reachB_iff.2 (reach_iff.2 ⟨x, He.out, .inr (reachB_iff.1 hr)⟩)
              rw [hr] at hcall
              clear hr
              go_wp2_with (first | (go_at_call 71; refine hbf.mono ?_; rintro e w' ⟨rfl, q1, rfl⟩) | (go_at_call 115; refine (hcall _).mono ?_; rintro e w' ⟨rfl, q2, rfl⟩))
              go_ret
              exact ⟨ret_bool hV.out.symm, _, rfl⟩
            | false =>
              have HN' : Hid (∀ y, y < x + 1 → edge l y k → ¬ (y = i ∨ reach l i y)) := fun y hy hey => by
                rcases (show y < x ∨ y = x by omega) with h | rfl
                · exact HN.out y h hey
                · rintro (h | h)
                  · exact Hxi.out h
                  · rw [reachB_iff.2 h] at hr; cases hr
              rw [hr] at hcall
              clear hr HN
              go_wp2_with (first | (go_at_call 71; refine hbf.mono ?_; rintro e w' ⟨rfl, q1, rfl⟩) | (go_at_call 115; refine (hcall _).mono ?_; rintro e w' ⟨rfl, q2, rfl⟩))
              go_roundw
              case rel => exact ⟨x + 1, by omega, by go_num, HN', _, rfl⟩
              case measure => simp [intOf]; omega
        · have HN' : Hid (∀ y, y < x + 1 → edge l y k → ¬ (y = i ∨ reach l i y)) := fun y hy hey => by
            rcases (show y < x ∨ y = x by omega) with h | rfl
            · exact HN.out y h hey
            · exact absurd hey.2.2 hE
          rw [decide_eq_false hE] at hbf
          clear hE HN
          go_wp2_with (go_at_call 71; refine hbf.mono ?_; rintro e w' ⟨rfl, q1, rfl⟩)
          go_roundw
          case rel => exact ⟨x + 1, by omega, by go_num, HN', _, rfl⟩
          case measure => simp [intOf]; omega
      · have hxe : x = l.length := by omega
        subst hxe
        have hV : Hid (reachB l i k = false) := reachB_no fun h => by
          obtain ⟨y, hy, hh⟩ := reach_iff.1 h
          exact HN.out y hy.1 hy hh
        clear HN
        go_wp2
        go_ret
        exact ⟨ret_bool hV.out.symm, q, rfl⟩

end Go.Proofs.Ytcjejcbikgcnbaa
