/- The law's bound on its tasks. -/
import Derived.Test.YtcjejcbikgcnbaaSl
namespace Go.Proofs.Ytcjejcbikgcnbaa
open Go.RowKit Go.Shelf

theorem entersLongS : ∀ args w, (callFunc 64 args).run Try.prog w = .ok (.enter 64 args) w := enters_of Try.func64 (by kernel_rfl) rfl
theorem entersLongT : ∀ args w, (callFunc 62 args).run Try.prog w = .ok (.enter 62 args) w := enters_of Try.func62 (by kernel_rfl) rfl

def longS (s : ByteArray) : Bool := decide (60 < s.size)
def longT (t : Task) : Bool := decide (60 < t.name.size) || decide (12 < t.bef.length) || t.bef.any longS
def longL (l : List Task) : Bool := decide (10 < l.length) || l.any longT

set_option maxHeartbeats 1000000 in
theorem longStr (s : ByteArray) (w : World) (hs : s.size ≤ maxLen) : Calls Try.prog 64 #[.string s] w fun e w' => e = .returned (.bool (longS s)) ∧ Below w.heap.size w w' := by
  unfold maxLen at hs
  by_cases h : 60 < s.size
  · have HV : Hid (longS s = true) := by unfold Hid longS; simp [h]
    have hb : decide ((60 : Int) < s.size) = true := by simp; omega
    go_enter Try.func64, Try.ntmps64
    go_wp2
    go_ret
    exact ⟨ret_bool HV.out.symm, Below.refl _ _⟩
  · have HV : Hid (longS s = false) := by unfold Hid longS; simp [h]
    have hb : decide ((60 : Int) < s.size) = false := by simp; omega
    go_enter Try.func64, Try.ntmps64
    go_wp2
    go_ret
    exact ⟨ret_bool HV.out.symm, Below.refl _ _⟩

set_option maxHeartbeats 2000000 in
theorem longTask (t : Task) (w : World) (ht : t.ok) (hb : StrsAt w w.heap.size t.bv t.bef) : Calls Try.prog 62 #[t.val] w fun e w' => e = .returned (.bool (longT t)) ∧ Below w.heap.size w w' := by
  have hn := ht.name
  unfold maxLen at hn
  have hl := hb.open_
  obtain ⟨A0, c0, hA, hc1, hc2, -⟩ := hl
  unfold maxLen at hc2
  have hC : ∀ o, Calls Try.prog 63 #[t.bv, .func (.func 64) #[] #[]] (w.alloc o) fun e w' => e = .returned (.bool (t.bef.any longS)) ∧ Below (w.alloc o).heap.size (w.alloc o) w' := fun o =>
    containsFuncStr t.bv t.bef 64 #[] longS entersLongS (w.alloc o) ((hb.below ((Below.refl _ _).alloc (Nat.le_refl _) o) (Nat.le_refl _)).mono (by simp)) (fun s hs w' _ => longStr s w' (ht.bef s hs))
  clear hb ht hA
  obtain ⟨name, len, crew, pow, ba, bc, bef⟩ := t
  unfold Task.val
  unfold Task.bv at hC
  simp only at *
  have hbo : ∀ o, Below w.heap.size w (w.alloc o) := fun o => (Below.refl _ _).alloc (Nat.le_refl _) _
  by_cases h1 : 60 < name.size
  · have HV : Hid (longT ⟨name, len, crew, pow, ba, bc, bef⟩ = true) := by unfold Hid longT; simp [h1]
    clear hC
    go_enter Try.func62, Try.ntmps62
    go_wp2
    go_ret
    exact ⟨ret_bool HV.out.symm, hbo _⟩
  · have h1' : name.size ≤ 60 := by omega
    by_cases h2 : 12 < bef.length
    · have HV : Hid (longT ⟨name, len, crew, pow, ba, bc, bef⟩ = true) := by unfold Hid longT; simp [h2]
      clear hC
      go_enter Try.func62, Try.ntmps62
      go_wp2
      go_ret
      exact ⟨ret_bool HV.out.symm, hbo _⟩
    · have h2' : bef.length ≤ 12 := by omega
      have HV : Hid (longT ⟨name, len, crew, pow, ba, bc, bef⟩ = bef.any longS) := by unfold Hid longT; simp [h1, h2]
      have b1 : decide ((60 : Int) < name.size) = false := by simp; omega
      have b2 : decide ((12 : Int) < bef.length) = false := by simp; omega
      generalize bef.any longS = x at *
      go_enter Try.func62, Try.ntmps62
      go_wp2_with (go_at_call 63; refine (hC _).mono ?_; rintro e w1 ⟨rfl, hb1⟩)
      go_ret
      exact ⟨ret_bool HV.out.symm, (hbo _).trans (hb1.mono (by simp))⟩

set_option maxHeartbeats 2000000 in
theorem lawLong (v : Value) (l : List Task) (w : World) (hl : TasksAt w w.heap.size v l) : Calls Try.prog 17 #[v] w fun e w' => e = .returned (.bool (longL l)) ∧ Below w.heap.size w w' := by
  have hC := containsFuncTask v l 62 #[] longT entersLongT w hl (fun t ht w' hb => longTask t w' (hl.2.2 t ht) (((hl.2.1 t ht).below hb (Nat.le_refl _)).mono hb.size))
  obtain ⟨A, c, rfl, hc1, hc2, -⟩ := hl.open_
  unfold maxLen at hc2
  clear hl
  by_cases h : 10 < l.length
  · have HV : Hid (longL l = true) := by unfold Hid longL; simp [h]
    clear hC
    go_enter Try.func17, Try.ntmps17
    go_wp2
    go_ret
    exact ⟨ret_bool HV.out.symm, Below.refl _ _⟩
  · have h' : l.length ≤ 10 := by omega
    have HV : Hid (longL l = l.any longT) := by unfold Hid longL; simp [h]
    have b1 : decide ((10 : Int) < l.length) = false := by simp; omega
    generalize l.any longT = x at *
    go_enter Try.func17, Try.ntmps17
    go_wp2_with (go_at_call 49; refine hC.mono ?_; rintro e w1 ⟨rfl, hb1⟩)
    go_ret
    exact ⟨ret_bool HV.out.symm, hb1⟩

end Go.Proofs.Ytcjejcbikgcnbaa
