/- Clique's closure: whether two tasks exclude one another. -/
import Derived.Test.YtcjejcbikgcnbaaComes
namespace Go.Proofs.Ytcjejcbikgcnbaa
open Go.RowKit Go.Shelf

/-- Two tasks exclude one another: by the table b. -/
def exclT (b : Nat → Nat → Bool) (t u : Task) (c p : Int) (i k : Nat) : Bool := b i k || b k i || decide (c < t.crew + u.crew) || decide (p < t.pow + u.pow)

/-- The boxes of Clique: the tasks, the limits, the table. -/
structure CliqueBox (w : World) (P0 P1 P2 P3 : Nat) (v : Value) (c p : Int) (M n : Nat) : Prop where
  b0 : w.cell? ⟨P0, 0, none⟩ = some (.slice (some ⟨M, 0, none⟩) n n)
  b1 : w.cell? ⟨P1, 0, none⟩ = some v
  b2 : w.cell? ⟨P2, 0, none⟩ = some (.int .i64 c)
  b3 : w.cell? ⟨P3, 0, none⟩ = some (.int .i64 p)

theorem bound_sum {a b : Int} (h1 : 0 ≤ a ∧ a ≤ 100) (h2 : 0 ≤ b ∧ b ≤ 100) : IntKind.i64.wrap (a + b) = a + b := IntWalk.i64_in _ (by omega)

set_option maxRecDepth 100000 in
set_option maxHeartbeats 4000000 in
theorem cliqueClosure (v : Value) (l : List Task) (c p : Int) (P0 P1 P2 P3 B B' M : Nat) (D : Nat → Nat) (b : Nat → Nat → Bool) (i k : Nat) (w : World) (hR : RightT l)
    (hbox : CliqueBox w P0 P1 P2 P3 v c p M l.length) (hl : TasksAt w B v l) (hM : MatR w B' M D l.length l.length b) (hi : i < l.length) (hk : k < l.length) :
    Calls Try.prog 76 #[.int .i64 i, .int .i64 k, .pointer (some ⟨P0, 0, none⟩), .pointer (some ⟨P1, 0, none⟩), .pointer (some ⟨P2, 0, none⟩), .pointer (some ⟨P3, 0, none⟩)] w
      fun e w' => e = .returned (.bool (exclT b l[i] l[k] c p i k)) ∧ ∃ q, w.drewN q = w' := by
  have hci := fieldB_crew (hR.field i hi)
  have hck := fieldB_crew (hR.field k hk)
  have hpi := fieldB_pow (hR.field i hi)
  have hpk := fieldB_pow (hR.field k hk)
  obtain ⟨A, cc, rfl, hc1, hc2, -⟩ := hl.open_
  obtain ⟨b0, off, rfl, hb0, hcell⟩ := hl.cells hi
  obtain ⟨-, -, ti2, ti3, -⟩ := hcell i hi
  obtain ⟨-, -, tk2, tk3, -⟩ := hcell k hk
  obtain ⟨x0, x1, x2, x3⟩ := hbox
  have r0 := hM.topCell hi
  have r1 := hM.topCell hk
  have r2 := hM.cell hi hk
  have r3 := hM.cell hk hi
  have i1 : (0 : Int) ≤ (i : Int) := Int.natCast_nonneg _
  have i2 : (i : Int) < (l.length : Int) := by omega
  have i3 : (0 : Int) ≤ (k : Int) := Int.natCast_nonneg _
  have i4 : (k : Int) < (l.length : Int) := by omega
  clear hM hcell hl
  generalize l[i] = t at *
  generalize l[k] = u at *
  obtain ⟨tn, tl, tc, tp, ta, tb, tf⟩ := t
  obtain ⟨un, ul, uc, up, ua, ub, uf⟩ := u
  simp only at ti2 ti3 tk2 tk3 hci hck hpi hpk
  have hs1 := Lib.hid (bound_sum hci hck)
  have hs2 := Lib.hid (bound_sum hpi hpk)
  unfold exclT
  simp only
  generalize b i k = e1 at *
  generalize b k i = e2 at *
  cases e1 with
  | true =>
    go_enter Try.func76, Try.ntmps76
    go_wp2_with fail
    go_quiet (fail)
    go_wp2
    go_ret
    exact ⟨rfl, _, rfl⟩
  | false =>
    cases e2 with
    | true =>
      go_enter Try.func76, Try.ntmps76
      go_wp2_with fail
      go_quiet (fail)
      go_wp2
      go_ret
      exact ⟨rfl, _, rfl⟩
    | false =>
      by_cases h1 : c < tc + uc
      · have hd : decide (c < tc + uc) = true := by simpa using h1
        rw [hd]
        have e1 := hs1.out
        go_enter Try.func76, Try.ntmps76
        go_wp2_with fail
        go_quiet (fail)
        go_wp2
        go_ret
        exact ⟨rfl, _, rfl⟩
      · have hd : decide (c < tc + uc) = false := by simpa using h1
        rw [hd]
        have e1 := hs1.out
        have e2 := hs2.out
        go_enter Try.func76, Try.ntmps76
        go_wp2_with fail
        go_quiet (fail)
        go_wp2
        go_ret
        exact ⟨rfl, _, rfl⟩

end Go.Proofs.Ytcjejcbikgcnbaa
