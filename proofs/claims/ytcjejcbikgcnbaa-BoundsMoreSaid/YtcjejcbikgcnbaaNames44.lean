/- The reference's Names of layer 44. -/
import Derived.Test.YtcjejcbikgcnbaaPath44
namespace Go.Proofs.Ytcjejcbikgcnbaa
open Go.RowKit Go.Shelf

def RefNamesPost (l : List Task) (y : List Nat) (w : World) (e : Ending) (w' : World) : Prop :=
  Below w.heap.size w w' ∧ ∃ v, e = .returned v ∧ w'.ownsRow w.heap.size 9 1 v y.length ((nmsAt l y).map Value.string)

set_option maxRecDepth 100000 in
set_option maxHeartbeats 1000000 in
theorem refNames (v u : Value) (l : List Task) (y : List Nat) (w : World) (hl : TasksAt w w.heap.size v l) (hu : IntsAt w w.heap.size u (ints y)) (hy : ∀ i ∈ y, i < l.length) (hlen : y.length ≤ 1000) :
    Calls Try.prog 22 #[v, u] w (RefNamesPost l y w) := by
  have HL := Lib.hid hl
  obtain ⟨A, c, rfl, hc1, hc2, hcell⟩ := hl.open_
  obtain ⟨A2, c2, rfl, hy1, hy2, hcy⟩ := hu.open_
  rw [length_ints] at *
  unfold maxLen at hc2 hy2
  clear hl hu hcell
  go_enter Try.func22, Try.ntmps22
  go_wp2
  go_loopw [6, 5] (fun s o wi => ∃ (j : Nat), j ≤ y.length ∧ s = .int .i64 j ∧ wi.ownsRow w.heap.size 9 1 o j ((nmsAt l (y.take j)).map Value.string) ∧ Below w.heap.size w wi) (fun s _ _ => y.length - (intOf s).toNat)
  case atStart => exact ⟨0, Nat.zero_le _, rfl, World.ownsRow_nil _ _ _ _, Below.refl _ _⟩
  case round =>
    obtain ⟨j, hj, rfl, hown, hbi⟩ := hrel
    have hTb := HL.out.below hbi (Nat.le_refl _)
    by_cases hjl : j < y.length
    · obtain ⟨b2, off2, rfl, hb2, hcy⟩ := hcy j (by rw [length_ints]; exact hjl)
      have hyj := (hbi.cell (p := ⟨b2, off2 + j, none⟩) hb2).trans (hcy j (by rw [length_ints]; exact hjl))
      clear hcy
      have hyn := hy _ (List.getElem_mem hjl)
      obtain ⟨b, off, rfl, hb, hcell⟩ := hTb.cells hyn
      obtain ⟨t0, -, -, -, -⟩ := hcell _ hyn
      clear hcell
      rw [show (ints y)[j]'(by rw [length_ints]; exact hjl) = ((y[j] : Nat) : Int) by simp [ints]] at hyj
      have HN : Hid (nmsAt l (y.take (j + 1)) = nmsAt l (y.take j) ++ [l[y[j]].name]) := by unfold Hid; rw [take_snoc y j hjl, nmsAt_snoc l _ hyn]
      have hsz2 := hbi.size
      go_wp2_with (at_builtin; refine wpList_push _ rfl (.tmp 13) (.tmp 22) 25 rfl w.heap.size 9 info_str Try.underlying25 rfl _ j _ rfl hown (.string l[y[j]].name) rfl rfl (by unfold maxLen; omega) (by omega) (by omega) ?_; intro g3 cap3 w3 hown3 hgrow3 hbg hgg)
      have hown4 : w3.ownsRow w.heap.size 9 1 (.slice (some ⟨g3, 0, none⟩) (j + 1) cap3) (j + 1) ((nmsAt l (y.take (j + 1))).map Value.string) := by rw [HN.out, List.map_append]; exact hown3
      have hb3 := hbi.grown hgrow3 hbi.size (fun k hk => (hown.lt k hk).1)
      clear hown3 hgrow3 hgg hown HN t0 hyj hbi
      go_roundw
      case rel => exact ⟨j + 1, by omega, by go_num, hown4, hb3⟩
      case measure => simp [intOf]; omega
    · have hje : j = y.length := by omega
      subst hje
      rw [List.take_length] at hown
      clear hcy
      go_wp2
      go_ret
      exact ⟨hbi, _, rfl, hown⟩

end Go.Proofs.Ytcjejcbikgcnbaa
