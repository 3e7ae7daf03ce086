/- The reference's Exclude of layer 44. -/
import Derived.Test.YtcjejcbikgcnbaaRefComes
namespace Go.Proofs.Ytcjejcbikgcnbaa
open Go.RowKit Go.Shelf

noncomputable def exclB (l : List Task) (c p : Int) (i k : Nat) (t u : Task) : Bool := reachB l i k || reachB l k i || decide (c < t.crew + u.crew) || decide (p < t.pow + u.pow)
theorem exclB_iff {l : List Task} {c p : Int} {i k : Nat} (hi : i < l.length) (hk : k < l.length) : exclB l c p i k l[i] l[k] = true ↔ excl l c p i k := by
  unfold exclB
  simp only [Bool.or_eq_true, decide_eq_true_eq, reachB_iff]
  constructor
  · rintro (((h | h) | h) | h)
    · exact ⟨hi, hk, .inl h⟩
    · exact ⟨hi, hk, .inr (.inl h)⟩
    · exact ⟨hi, hk, .inr (.inr (.inl h))⟩
    · exact ⟨hi, hk, .inr (.inr (.inr h))⟩
  · rintro ⟨_, _, h | h | h | h⟩
    · exact .inl (.inl (.inl h))
    · exact .inl (.inl (.inr h))
    · exact .inl (.inr h)
    · exact .inr h

set_option maxRecDepth 100000 in
set_option maxHeartbeats 4000000 in
theorem refExclude (v : Value) (l : List Task) (c p : Int) (B : Nat) (i k : Nat) (w : World) (hR : RightT l) (hl : TasksAt w B v l) (hi : i < l.length) (hk : k < l.length) :
    Calls Try.prog 77 #[v, .int .i64 c, .int .i64 p, .int .i64 i, .int .i64 k] w
      fun e w' => e = .returned (.bool (exclB l c p i k l[i] l[k])) ∧ ∃ q, w.drewN q = w' := by
  have hci := fieldB_crew (hR.field i hi)
  have hck := fieldB_crew (hR.field k hk)
  have hpi := fieldB_pow (hR.field i hi)
  have hpk := fieldB_pow (hR.field k hk)
  have HC1 := fun q => quiet_left' (refComes v l B l.length i k (w.drewN q) hi hk (fun z hz => hz.short hR) (hl.drewN q))
  have HC2 := fun q => quiet_left' (refComes v l B l.length k i (w.drewN q) hk hi (fun z hz => hz.short hR) (hl.drewN q))
  obtain ⟨A, cc, rfl, hc1, hc2, -⟩ := hl.open_
  obtain ⟨b0, off, rfl, hb0, hcell⟩ := hl.cells hi
  obtain ⟨-, -, ti2, ti3, -⟩ := hcell i hi
  obtain ⟨-, -, tk2, tk3, -⟩ := hcell k hk
  have i1 : (0 : Int) ≤ (i : Int) := Int.natCast_nonneg _
  have i2 : (i : Int) < (l.length : Int) := by omega
  have i3 : (0 : Int) ≤ (k : Int) := Int.natCast_nonneg _
  have i4 : (k : Int) < (l.length : Int) := by omega
  clear hcell hl hR
  unfold exclB
  generalize l[i] = t at *
  generalize l[k] = u at *
  obtain ⟨tn, tl, tc, tp, ta, tb, tf⟩ := t
  obtain ⟨un, ul, uc, up, ua, ub, uf⟩ := u
  simp only at ti2 ti3 tk2 tk3 hci hck hpi hpk ⊢
  have hs1 := Lib.hid (bound_sum hci hck)
  have hs2 := Lib.hid (bound_sum hpi hpk)
  generalize reachB l i k = e1 at *
  generalize reachB l k i = e2 at *
  cases e1 with
  | true =>
    go_enter Try.func77, Try.ntmps77
    go_wp2_with fail
    go_quiet ((go_at_call 115; (first | with_reducible exact HC1 _ | with_reducible exact HC2 _)))
    go_wp2
    go_ret
    exact ⟨rfl, _, rfl⟩
  | false =>
    cases e2 with
    | true =>
      go_enter Try.func77, Try.ntmps77
      go_wp2_with fail
      go_quiet ((go_at_call 115; (first | with_reducible exact HC1 _ | with_reducible exact HC2 _)))
      go_wp2
      go_ret
      exact ⟨rfl, _, rfl⟩
    | false =>
      by_cases h1 : c < tc + uc
      · have hd : decide (c < tc + uc) = true := by simpa using h1
        rw [hd]
        have e1 := hs1.out
        go_enter Try.func77, Try.ntmps77
        go_wp2_with fail
        go_quiet ((go_at_call 115; (first | with_reducible exact HC1 _ | with_reducible exact HC2 _)))
        go_wp2
        go_ret
        exact ⟨rfl, _, rfl⟩
      · have hd : decide (c < tc + uc) = false := by simpa using h1
        rw [hd]
        have e1 := hs1.out
        have e2 := hs2.out
        go_enter Try.func77, Try.ntmps77
        go_wp2_with fail
        go_quiet ((go_at_call 115; (first | with_reducible exact HC1 _ | with_reducible exact HC2 _)))
        go_wp2
        go_ret
        exact ⟨rfl, _, rfl⟩

end Go.Proofs.Ytcjejcbikgcnbaa
