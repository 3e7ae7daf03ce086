/- Parts of the proof, laid into one text: Copy, PutP, Put29. -/
import Derived.Deep.Cut
import Derived.Deep.MidRow
import Derived.Test.YtpnongeibpkbhaaGreatDoorC2
import Derived.Test.YtpnongeibpkbhaaGreatDoorD3
import Derived.Test.YtpnongeibpkbhaaGreatDoorD4
import Derived.Test.YtpnongeibpkbhaaGreatDoorG1

/- Copies of items, of bricks, of a line set; a further item. Written by gen_copy.py. -/
namespace Go.Proofs.YtpnongeibpkbhaaGreatDoor
open Go.RowKit Go.Shelf

theorem flatLen {α : Type} (f : α → List Value) (k : Nat) (hf : ∀ x, (f x).length = k) (l : List α) : (l.flatMap f).length = l.length * k := by
  induction l with
  | nil => simp
  | cons t l ih => rw [List.flatMap_cons, List.length_append, ih, hf, List.length_cons, Nat.succ_mul]; omega
theorem flatOneItem (l : List ItemT) : ∀ u ∈ l.flatMap ItemT.cells, u.oneCell' = true := fun u hu => by
  obtain ⟨x, _, hx⟩ := List.mem_flatMap.1 hu
  simp only [ItemT.cells, List.mem_cons, List.not_mem_nil, or_false] at hx
  rcases hx with rfl | rfl | rfl | rfl | rfl | rfl | rfl <;> rfl
theorem flatOneBrick (l : List BrickT) : ∀ u ∈ l.flatMap BrickT.cells, u.oneCell' = true := fun u hu => by
  obtain ⟨x, _, hx⟩ := List.mem_flatMap.1 hu
  simp only [BrickT.cells, List.mem_cons, List.not_mem_nil, or_false] at hx
  rcases hx with rfl | rfl | rfl <;> rfl
theorem info_item : (Tryz.prog.info? 57).map (fun i => (i.zero, i.size, i.bytes)) = some (some (.agg #[.string ⟨#[]⟩, .int .i64 0, .int .i64 0, .int .i64 0, .int .i64 0, .int .i64 0, .int .i64 0]), 7, 64) := by kernel_rfl
theorem info_brick : (Tryz.prog.info? 88).map (fun i => (i.zero, i.size, i.bytes)) = some (some (.agg #[.string ⟨#[]⟩, .int .i64 0, .int .i64 0]), 3, 32) := by kernel_rfl
set_option maxHeartbeats 1000000 in
theorem cloneItem (v : Value) (l : List ItemT) (w : World) (hl : ItemsAt w w.heap.size v l) (hlen : l.length ≤ 1000000) :
    Calls Tryz.prog 77 #[v] w fun e w' => ∃ v', e = .returned v' ∧ w'.ownsRow w.heap.size 57 7 v' l.length (l.flatMap ItemT.cells) ∧ Below w.heap.size w w' := by
  have HL := Lib.hid hl
  obtain ⟨A, c, rfl, hc1, hc2, hcell⟩ := hl.open_
  clear hl
  cases A with
  | none =>
    have hl0 : l = [] := by
      cases l with
      | nil => rfl
      | cons x r => obtain ⟨b, off, e, _⟩ := hcell 0 (by simp); cases e
    subst hl0
    have heq := fun W => Lib.run_eql_slice_nil (P := Tryz.prog) W 23 57 none 0 c 0 0 Tryz.underlying23
    clear hcell
    go_enter Tryz.func77, Tryz.ntmps77
    go_wp2
    go_ret
    exact ⟨_, rfl, World.ownsRow_nil _ _ _ _, Below.refl _ _⟩
  | some ad =>
    have heq := fun W => Lib.run_eql_slice_nil (P := Tryz.prog) W 23 57 (some ad) l.length c 0 0 Tryz.underlying23
    clear hcell
    go_enter Tryz.func77, Tryz.ntmps77
    go_wp2_with (at_builtin; refine wpList_appendAll _ rfl (.tmp 5) (.tmp 6) 23 rfl w.heap.size 57 info_item Tryz.underlying23 rfl (by decide) (.slice (some ⟨w.heap.size, 0, none⟩) 0 0) 0 [] rfl (World.ownsRow_made w #[] 0 (Nat.le_refl _) (Nat.zero_le _) rfl) w.heap.size l.length (.slice (some ad) l.length c) (l.flatMap ItemT.cells) rfl (ItemsAt.below HL.out ((Below.refl _ _).alloc (Nat.le_refl _) _) (Nat.le_refl _)) (flatLen ItemT.cells 7 (fun _ => rfl) l) (flatOneItem l) (by unfold maxLen; omega) (by omega) (by simp) ?_; intro v1 w1 hown1 hg1 hat1)
    go_ret
    refine ⟨_, rfl, by simpa using hown1, ?_⟩
    exact ((Below.refl w.heap.size w).alloc (Nat.le_refl _) _).grown hg1 (by simp) (fun k hk => by simp [Value.ownBlock] at hk; omega)

set_option maxHeartbeats 1000000 in
theorem cloneBrick (v : Value) (l : List BrickT) (w : World) (hl : BricksAt w w.heap.size v l) (hlen : l.length ≤ 1000000) :
    Calls Tryz.prog 78 #[v] w fun e w' => ∃ v', e = .returned v' ∧ w'.ownsRow w.heap.size 88 3 v' l.length (l.flatMap BrickT.cells) ∧ Below w.heap.size w w' := by
  have HL := Lib.hid hl
  obtain ⟨A, c, rfl, hc1, hc2, hcell⟩ := hl.open_
  clear hl
  cases A with
  | none =>
    have hl0 : l = [] := by
      cases l with
      | nil => rfl
      | cons x r => obtain ⟨b, off, e, _⟩ := hcell 0 (by simp); cases e
    subst hl0
    have heq := fun W => Lib.run_eql_slice_nil (P := Tryz.prog) W 24 88 none 0 c 0 0 Tryz.underlying24
    clear hcell
    go_enter Tryz.func78, Tryz.ntmps78
    go_wp2
    go_ret
    exact ⟨_, rfl, World.ownsRow_nil _ _ _ _, Below.refl _ _⟩
  | some ad =>
    have heq := fun W => Lib.run_eql_slice_nil (P := Tryz.prog) W 24 88 (some ad) l.length c 0 0 Tryz.underlying24
    clear hcell
    go_enter Tryz.func78, Tryz.ntmps78
    go_wp2_with (at_builtin; refine wpList_appendAll _ rfl (.tmp 5) (.tmp 6) 24 rfl w.heap.size 88 info_brick Tryz.underlying24 rfl (by decide) (.slice (some ⟨w.heap.size, 0, none⟩) 0 0) 0 [] rfl (World.ownsRow_made w #[] 0 (Nat.le_refl _) (Nat.zero_le _) rfl) w.heap.size l.length (.slice (some ad) l.length c) (l.flatMap BrickT.cells) rfl (BricksAt.below HL.out ((Below.refl _ _).alloc (Nat.le_refl _) _) (Nat.le_refl _)) (flatLen BrickT.cells 3 (fun _ => rfl) l) (flatOneBrick l) (by unfold maxLen; omega) (by omega) (by simp) ?_; intro v1 w1 hown1 hg1 hat1)
    go_ret
    refine ⟨_, rfl, by simpa using hown1, ?_⟩
    exact ((Below.refl w.heap.size w).alloc (Nat.le_refl _) _).grown hg1 (by simp) (fun k hk => by simp [Value.ownBlock] at hk; omega)


/-- A row, the call's own. -/
def gRow (B : Nat) (t : TypeId) (k n : Nat) (xs : List Value) : GPost := ⟨fun v => ∃ A c, v = .slice A n c, fun v w => w.ownsRow B t k v n xs, ⟨_, none, 0, rfl⟩, fun _ _ _ hb h => ownsRow_of h hb, false⟩
theorem row_g {f : FuncId} {args : Array Value} {w : World} {t : TypeId} {k n B : Nat} {xs : List Value} (h : Calls Tryz.prog f args w fun e w' => ∃ v', e = .returned v' ∧ w'.ownsRow w.heap.size t k v' n xs ∧ Below w.heap.size w w') (hB : B ≤ w.heap.size) :
    Calls Tryz.prog f args w fun e w' => ∃ u, e = .returned u ∧ Below w.heap.size w w' ∧ (gRow B t k n xs).σ u ∧ (gRow B t k n xs).φ u w' :=
  h.mono fun _ _ ⟨u, he, hO, hb⟩ => ⟨u, he, hb, (by obtain ⟨A, c, h⟩ := own_formB hO; exact ⟨A, c, h⟩), own_mono hO hB⟩
theorem grown_setCells (g : Nat) : ∀ (vs : List Value) (o : Nat) (w : World), w.grownBy (w.setCells g o vs) (some g)
  | [], _, w => World.grownBy.refl w _
  | v :: vs, o, w => grown_trans (setG_grownB w g o v) (grown_setCells g vs (o + 1) _)
theorem blk_range {w : World} {g : Nat} {t : TypeId} {cs : List Value} (h : Blk w g t cs.toArray) : w.rangeAt g 0 cs := fun j v hv => by
  rw [Nat.zero_add, h.cell, List.getElem?_toArray]
  exact hv
theorem blk_there {w : World} {g n : Nat} {t : TypeId} {cs : Array Value} (h : Blk w g t cs) (hn : cs.size = n) : w.there g 0 n := fun j hj => by
  rw [Nat.zero_add]
  refine ⟨?_, h.frozen j⟩
  rw [h.cell, Array.getElem?_eq_getElem (by omega)]
  rfl
def CopyPost (s : SetT) (w : World) (e : Ending) (w' : World) : Prop :=
  Below w.heap.size w w' ∧ ∃ Al cl Ai ci Ab cb, e = .returned (setVal s Al cl Ai ci Ab cb) ∧ w'.ownsRow w.heap.size 3 1 (.slice Al s.lines.length cl) s.lines.length (s.lines.map (Value.int .i64)) ∧
    w'.ownsRow w.heap.size 57 7 (.slice Ai s.items.length ci) s.items.length (s.items.flatMap ItemT.cells) ∧ w'.ownsRow w.heap.size 88 3 (.slice Ab s.bricks.length cb) s.bricks.length (s.bricks.flatMap BrickT.cells)
theorem own_not {w : World} {B e s n g : Nat} {v : Value} {L : List Value} {t : TypeId} {cs : Array Value} (h : w.ownsRow B e s v n L) (hb : Blk w g t cs) (ht : t ≠ e) : v.ownBlock = none ∨ v.ownBlock ≠ some g := by
  rcases h.2 with ⟨rfl, _⟩ | ⟨g', cap, cur, rfl, _, hg, _⟩
  · exact .inl rfl
  · refine .inr fun e' => ?_
    obtain rfl : g' = g := by simpa [Value.ownBlock] using e'
    unfold Blk at hb
    rw [hg] at hb
    injection hb with hb
    injection hb with _ hb _
    exact ht hb.symm
set_option maxRecDepth 100000 in
set_option maxHeartbeats 4000000 in
theorem batCopy (v : Value) (s : SetT) (w : World) (hv : SetAt w w.heap.size v s) (h1 : s.lines.length ≤ 1000) (h2 : s.items.length ≤ 1000) (h3 : s.bricks.length ≤ 1000) : Calls Tryz.prog 57 #[v] w (CopyPost s w) := by
  obtain ⟨Al, cl, Ai, ci, Ab, cb, rfl, hL, hI, hB⟩ := hv
  have HL := Lib.hid hL
  have HI := Lib.hid hI
  have HK := Lib.hid hB
  clear hL hI hB
  unfold setVal at *
  go_enter Tryz.func57, Tryz.ntmps57
  go_wp2_with (exact Go.WalkKit.wp_stop)
  have hd0 := (Blk.new w 26 #[.string s.name, .int .i64 s.depth, .int .i64 s.low, .int .i64 s.high, .int .i64 s.len, .slice Al s.lines.length cl, .int .i64 s.pipe, .int .i64 s.arbor, .int .i64 s.purch, .int .i64 s.most, .int .i64 s.brake, .slice Ai s.items.length ci, .slice Ab s.bricks.length cb]).alloc (.cells #[.string ⟨#[]⟩, .int .i64 0, .int .i64 0, .int .i64 0, .int .i64 0, .slice none 0 0, .int .i64 0, .int .i64 0, .int .i64 0, .int .i64 0, .int .i64 0, .slice none 0 0, .slice none 0 0] 26)
  have hd1 := Blk.new (w.alloc (.cells #[.string s.name, .int .i64 s.depth, .int .i64 s.low, .int .i64 s.high, .int .i64 s.len, .slice Al s.lines.length cl, .int .i64 s.pipe, .int .i64 s.arbor, .int .i64 s.purch, .int .i64 s.most, .int .i64 s.brake, .slice Ai s.items.length ci, .slice Ab s.bricks.length cb] 26)) 26 #[.string ⟨#[]⟩, .int .i64 0, .int .i64 0, .int .i64 0, .int .i64 0, .slice none 0 0, .int .i64 0, .int .i64 0, .int .i64 0, .int .i64 0, .int .i64 0, .slice none 0 0, .slice none 0 0]
  rw [World.size_alloc] at hd1
  have hB2 := ((Below.refl _ w).alloc (Nat.le_refl _) (.cells #[.string s.name, .int .i64 s.depth, .int .i64 s.low, .int .i64 s.high, .int .i64 s.len, .slice Al s.lines.length cl, .int .i64 s.pipe, .int .i64 s.arbor, .int .i64 s.purch, .int .i64 s.most, .int .i64 s.brake, .slice Ai s.items.length ci, .slice Ab s.bricks.length cb] 26)).alloc (by simp) (.cells #[.string ⟨#[]⟩, .int .i64 0, .int .i64 0, .int .i64 0, .int .i64 0, .slice none 0 0, .int .i64 0, .int .i64 0, .int .i64 0, .int .i64 0, .int .i64 0, .slice none 0 0, .slice none 0 0] 26)
  generalize (w.alloc (.cells #[.string s.name, .int .i64 s.depth, .int .i64 s.low, .int .i64 s.high, .int .i64 s.len, .slice Al s.lines.length cl, .int .i64 s.pipe, .int .i64 s.arbor, .int .i64 s.purch, .int .i64 s.most, .int .i64 s.brake, .slice Ai s.items.length ci, .slice Ab s.bricks.length cb] 26)).alloc (.cells #[.string ⟨#[]⟩, .int .i64 0, .int .i64 0, .int .i64 0, .int .i64 0, .slice none 0 0, .int .i64 0, .int .i64 0, .int .i64 0, .int .i64 0, .int .i64 0, .slice none 0 0, .slice none 0 0] 26) = W2 at *
  have HD0 := Lib.hid hd0
  have HD1 := Lib.hid hd1
  have HB2 := Lib.hid hB2
  clear hd0 hd1 hB2
  have y5 := HD0.out.cell 5
  have y11 := HD0.out.cell 11
  have y12 := HD0.out.cell 12
  simp only [List.getElem?_toArray, List.getElem?_cons_succ, List.getElem?_cons_zero] at y5 y11 y12
  have u5 := HeldB.cell y5
  have u11 := HeldB.cell y11
  have u12 := HeldB.cell y12
  clear y5 y11 y12
  refine wp_region_grow 10 (fun jx => if jx = 2 then some (gO w.heap.size s.lines) else if jx = 5 then some (gRow w.heap.size 57 7 s.items.length (s.items.flatMap ItemT.cells)) else if jx = 8 then some (gRow w.heap.size 88 3 s.bricks.length (s.bricks.flatMap BrickT.cells)) else none) (by kernel_rfl) (by kernel_rfl) ?_
  simp only [List.take_succ_cons, List.take_zero, List.drop_succ_cons, List.drop_zero]
  refine wpG_quiet 2 (by kernel_rfl) (by rfl) (by decide) ?_
  simp only [List.take_succ_cons, List.take_zero, List.drop_succ_cons, List.drop_zero]
  repeat (go_big_quiet_step (fail))
  refine wpQuiet_nil ?_
  refine wpG_call rfl rfl ?_ ?_
  · intro w1 hb1 hk
    have hb := HB2.out.trans (hb1.mono HB2.out.size)
    have hC := clone_g (B := w.heap.size) (RowAt.mono (RowAt.below HL.out hb (Nat.le_refl _)) hb.size) (by omega) hb.size
    exact ⟨66, #[.slice Al s.lines.length cl], by go_simp, hC⟩
  rintro _ ⟨A1, k1, rfl⟩
  simp only [Act.put, List.setIfInBounds_toArray, List.set_cons_zero, List.set_cons_succ]
  refine wpG_quiet 2 (by kernel_rfl) (by rfl) (by decide) ?_
  simp only [List.take_succ_cons, List.take_zero, List.drop_succ_cons, List.drop_zero]
  repeat (go_big_quiet_step (fail))
  refine wpQuiet_nil ?_
  refine wpG_call rfl rfl ?_ ?_
  · intro w1 hb1 hk
    have hb := HB2.out.trans (hb1.mono HB2.out.size)
    have hC := row_g (B := w.heap.size) (cloneItem _ s.items w1 (ItemsAt.mono (ItemsAt.below HI.out hb (Nat.le_refl _)) hb.size) (by omega)) hb.size
    exact ⟨77, #[.slice Ai s.items.length ci], by go_simp, hC⟩
  rintro _ ⟨A2, k2, rfl⟩
  simp only [Act.put, List.setIfInBounds_toArray, List.set_cons_zero, List.set_cons_succ]
  refine wpG_quiet 2 (by kernel_rfl) (by rfl) (by decide) ?_
  simp only [List.take_succ_cons, List.take_zero, List.drop_succ_cons, List.drop_zero]
  repeat (go_big_quiet_step (fail))
  refine wpQuiet_nil ?_
  refine wpG_call rfl rfl ?_ ?_
  · intro w1 hb1 hk
    have hb := HB2.out.trans (hb1.mono HB2.out.size)
    have hC := row_g (B := w.heap.size) (cloneBrick _ s.bricks w1 (BricksAt.mono (BricksAt.below HK.out hb (Nat.le_refl _)) hb.size) (by omega)) hb.size
    exact ⟨78, #[.slice Ab s.bricks.length cb], by go_simp, hC⟩
  rintro _ ⟨A3, k3, rfl⟩
  simp only [Act.put, List.setIfInBounds_toArray, List.set_cons_zero, List.set_cons_succ]
  refine wpG_quiet 1 (by kernel_rfl) (by rfl) (by decide) ?_
  simp only [List.take_succ_cons, List.take_zero, List.drop_succ_cons, List.drop_zero]
  repeat (go_big_quiet_step (fail))
  refine wpQuiet_nil ?_
  refine wpG_nil ?_
  intro w8 hb8 hF
  have o1 : w8.ownsRow w.heap.size 3 1 (.slice A1 s.lines.length k1) s.lines.length (s.lines.map (Value.int .i64)) := hF 5
  have o2 : w8.ownsRow w.heap.size 57 7 (.slice A2 s.items.length k2) s.items.length (s.items.flatMap ItemT.cells) := hF 8
  have o3 : w8.ownsRow w.heap.size 88 3 (.slice A3 s.bricks.length k3) s.bricks.length (s.bricks.flatMap BrickT.cells) := hF 11
  have d0 := HD0.out.below hb8 HD0.out.lt
  have d1 := HD1.out.below hb8 HD1.out.lt
  have HB8 := Lib.hid (HB2.out.trans (hb8.mono HB2.out.size))
  have e1 := d0.set_ 5 (.slice A1 s.lines.length k1)
  have e2 := e1.set_ 11 (.slice A2 s.items.length k2)
  have e3 : Blk (((w8.setCell ⟨w.heap.size, 5, none⟩ (.slice A1 s.lines.length k1)).setCell ⟨w.heap.size, 11, none⟩ (.slice A2 s.items.length k2)).setCell ⟨w.heap.size, 12, none⟩ (.slice A3 s.bricks.length k3)) w.heap.size 26 #[.string s.name, .int .i64 s.depth, .int .i64 s.low, .int .i64 s.high, .int .i64 s.len, .slice A1 s.lines.length k1, .int .i64 s.pipe, .int .i64 s.arbor, .int .i64 s.purch, .int .i64 s.most, .int .i64 s.brake, .slice A2 s.items.length k2, .slice A3 s.bricks.length k3] := e2.set_ 12 (.slice A3 s.bricks.length k3)
  have c5 := d0.cell 5
  have f5 := d0.frozen 5
  have c11 := e1.cell 11
  have f11 := e1.frozen 11
  have c12 := e2.cell 12
  have f12 := e2.frozen 12
  simp only [List.setIfInBounds_toArray, List.set_cons_zero, List.set_cons_succ] at c11 c12
  simp only [List.getElem?_toArray, List.getElem?_cons_succ, List.getElem?_cons_zero] at c5 c11 c12
  have hne : w.heap.size + 1 ≠ w.heap.size := by omega
  have d3 := ((d1.far (p := ⟨w.heap.size, 5, none⟩) hne (.slice A1 s.lines.length k1)).far (p := ⟨w.heap.size, 11, none⟩) hne (.slice A2 s.items.length k2)).far (p := ⟨w.heap.size, 12, none⟩) hne (.slice A3 s.bricks.length k3)
  have hG3 := grown_trans (grown_trans (setG_grownB w8 w.heap.size 5 (.slice A1 s.lines.length k1)) (setG_grownB _ w.heap.size 11 (.slice A2 s.items.length k2))) (setG_grownB _ w.heap.size 12 (.slice A3 s.bricks.length k3))
  have q1 := o1.kept hG3 (own_not o1 d0 (by decide))
  have q2 := o2.kept hG3 (own_not o2 d0 (by decide))
  have q3 := o3.kept hG3 (own_not o3 d0 (by decide))
  have hB3 := HB8.out.grown hG3 HB8.out.size (fun k e => by obtain rfl : w.heap.size = k := by simpa using e
                                                            exact Nat.le_refl _)
  have E3 := Lib.hid e3
  have D3 := Lib.hid d3
  have HB3 := Lib.hid hB3
  have Q1 := Lib.hid q1
  have Q2 := Lib.hid q2
  have Q3 := Lib.hid q3
  have hth : World.there (((w8.setCell ⟨w.heap.size, 5, none⟩ (.slice A1 s.lines.length k1)).setCell ⟨w.heap.size, 11, none⟩ (.slice A2 s.items.length k2)).setCell ⟨w.heap.size, 12, none⟩ (.slice A3 s.bricks.length k3)) (w.heap.size + 1) 0 13 := blk_there d3 rfl
  have HTh := Lib.hid hth
  have ER := Lib.hid (blk_range e3)
  have HR := Lib.hid (World.rangeAt_setCells_same (((w8.setCell ⟨w.heap.size, 5, none⟩ (.slice A1 s.lines.length k1)).setCell ⟨w.heap.size, 11, none⟩ (.slice A2 s.items.length k2)).setCell ⟨w.heap.size, 12, none⟩ (.slice A3 s.bricks.length k3)) (w.heap.size + 1) 0 [.string s.name, .int .i64 s.depth, .int .i64 s.low, .int .i64 s.high, .int .i64 s.len, .slice A1 s.lines.length k1, .int .i64 s.pipe, .int .i64 s.arbor, .int .i64 s.purch, .int .i64 s.most, .int .i64 s.brake, .slice A2 s.items.length k2, .slice A3 s.bricks.length k3] hth)
  clear o1 o2 o3 d0 d1 e1 e2 e3 d3 hG3 q1 q2 q3 hB3 HB8 hF hb8 u5 u11 u12 HD0 HD1 HB2 HL HI HK E3 hth
  go_upto_region 2 with fail
  refine wp_region_lit ?_
  refine wpList_load_mid rfl 26 (.tmp 1) rfl w.heap.size 0 rfl [.string s.name, .int .i64 s.depth, .int .i64 s.low, .int .i64 s.high, .int .i64 s.len, .slice A1 s.lines.length k1, .int .i64 s.pipe, .int .i64 s.arbor, .int .i64 s.purch, .int .i64 s.most, .int .i64 s.brake, .slice A2 s.items.length k2, .slice A3 s.bricks.length k3] _ ER.out Tryz.underlying26 rfl (by kernel_rfl) ?_
  refine wpList_store_mid rfl 26 (.tmp 2) (.tmp 15) rfl (w.heap.size + 1) 0 #[.string s.name, .int .i64 s.depth, .int .i64 s.low, .int .i64 s.high, .int .i64 s.len, .slice A1 s.lines.length k1, .int .i64 s.pipe, .int .i64 s.arbor, .int .i64 s.purch, .int .i64 s.most, .int .i64 s.brake, .slice A2 s.items.length k2, .slice A3 s.bricks.length k3] rfl rfl HTh.out (by kernel_rfl) (by simp [Value.oneCell']) ?_
  refine wpList_nil ?_
  simp only [Act.put, List.setIfInBounds_toArray, List.set_cons_zero, List.set_cons_succ]
  clear ER HTh
  generalize (((w8.setCell ⟨w.heap.size, 5, none⟩ (.slice A1 s.lines.length k1)).setCell ⟨w.heap.size, 11, none⟩ (.slice A2 s.items.length k2)).setCell ⟨w.heap.size, 12, none⟩ (.slice A3 s.bricks.length k3)) = W3 at *
  have hG9 := grown_setCells (w.heap.size + 1) [.string s.name, .int .i64 s.depth, .int .i64 s.low, .int .i64 s.high, .int .i64 s.len, .slice A1 s.lines.length k1, .int .i64 s.pipe, .int .i64 s.arbor, .int .i64 s.purch, .int .i64 s.most, .int .i64 s.brake, .slice A2 s.items.length k2, .slice A3 s.bricks.length k3] 0 W3
  have hB9 := HB3.out.grown hG9 HB3.out.size (fun k e => by obtain rfl : w.heap.size + 1 = k := by simpa using e
                                                            omega)
  have r1 := Q1.out.kept hG9 (own_not Q1.out D3.out (by decide))
  have r2 := Q2.out.kept hG9 (own_not Q2.out D3.out (by decide))
  have r3 := Q3.out.kept hG9 (own_not Q3.out D3.out (by decide))
  have p0 := HR.out 0 _ rfl
  have p1 := HR.out 1 _ rfl
  have p2 := HR.out 2 _ rfl
  have p3 := HR.out 3 _ rfl
  have p4 := HR.out 4 _ rfl
  have p5 := HR.out 5 _ rfl
  have p6 := HR.out 6 _ rfl
  have p7 := HR.out 7 _ rfl
  have p8 := HR.out 8 _ rfl
  have p9 := HR.out 9 _ rfl
  have p10 := HR.out 10 _ rfl
  have p11 := HR.out 11 _ rfl
  have p12 := HR.out 12 _ rfl
  simp only [Nat.zero_add] at p0 p1 p2 p3 p4 p5 p6 p7 p8 p9 p10 p11 p12
  generalize World.setCells W3 (w.heap.size + 1) 0 [.string s.name, .int .i64 s.depth, .int .i64 s.low, .int .i64 s.high, .int .i64 s.len, .slice A1 s.lines.length k1, .int .i64 s.pipe, .int .i64 s.arbor, .int .i64 s.purch, .int .i64 s.most, .int .i64 s.brake, .slice A2 s.items.length k2, .slice A3 s.bricks.length k3] = W9 at *
  clear hG9 HR Q1 Q2 Q3 D3 HB3
  go_wp2_with fail
  refine bodyPost_ret (v := .agg #[.string s.name, .int .i64 s.depth, .int .i64 s.low, .int .i64 s.high, .int .i64 s.len, .slice A1 s.lines.length k1, .int .i64 s.pipe, .int .i64 s.arbor, .int .i64 s.purch, .int .i64 s.most, .int .i64 s.brake, .slice A2 s.items.length k2, .slice A3 s.bricks.length k3]) (by simp [results, Tryz.results57, go_sem, p0, p1, p2, p3, p4, p5, p6, p7, p8, p9, p10, p11, p12]) rfl ?_
  exact ⟨hB9, A1, k1, A2, k2, A3, k3, rfl, r1, r2, r3⟩
end Go.Proofs.YtpnongeibpkbhaaGreatDoor

/- A further item: the plain law. No program in sight. -/
namespace Go.Proofs.YtpnongeibpkbhaaGreatDoor

def addS (s : SetT) (x : ItemT) : SetT := { s with items := s.items ++ [x] }
theorem dnam_pre (L M : List ByteArray) : ∀ j, j ≤ L.length → dnam (L ++ M) j = dnam L j
  | 0, _ => rfl
  | j + 1, hj => by
    have e : (L ++ M).getD j default = L.getD j default := by
      rw [List.getD_eq_getElem?_getD, List.getD_eq_getElem?_getD, List.getElem?_append_left (by omega)]
    have e2 : (L ++ M).take j = L.take j := by rw [List.take_append_of_le_length (by omega)]
    rw [dnam, dnam, e, e2, dnam_pre L M j (by omega)]
theorem twice_add {L : List ByteArray} {n : ByteArray} (h : twiceB L = false) (hn : n ∉ L) : twiceB (L ++ [n]) = false := by
  unfold twiceB at *
  rw [decide_eq_false_iff_not] at *
  have h1 := dnam_le L L.length
  have h2 : dnam (L ++ [n]) (L.length + 1) = L.length + 1 := by
    have e : (L ++ [n]).getD L.length default = n := by
      rw [List.getD_eq_getElem?_getD, List.getElem?_append_right (Nat.le_refl _)]
      simp
    have e2 : (L ++ [n]).take L.length = L := by rw [List.take_append_of_le_length (Nat.le_refl _), List.take_length]
    rw [dnam, e, e2, if_neg hn, dnam_pre L [n] L.length (Nat.le_refl _)]
    omega
  rw [List.length_append, List.length_singleton, h2]
  omega
theorem items_add {l : List ItemT} {x : ItemT} {len : Int} (h : itemsB l len = true) (h40 : l.length ≠ 40) (hn : ∀ y ∈ l, y.name ≠ x.name) (ha : alone1 x = true) (hi : inside1 x len = true) (hap : (l.any fun y => !apartB x y) = false) : itemsB (l ++ [x]) len = true := by
  unfold itemsB at *
  simp only [Bool.and_eq_true, decide_eq_true_eq, Bool.not_eq_true'] at *
  obtain ⟨h1, h2, h3⟩ := h
  refine ⟨by rw [List.length_append, List.length_singleton]; omega, ?_, ?_⟩
  · rw [List.map_append]
    refine twice_add h2 fun hm => ?_
    rw [List.mem_map] at hm
    obtain ⟨y, hy, e⟩ := hm
    exact hn y hy e
  · unfold itTo at *
    rw [decide_eq_true_iff] at *
    intro i hil
    rw [List.length_append, List.length_singleton] at hil
    rcases Nat.lt_succ_iff_lt_or_eq.1 hil with h4 | h4
    · have h5 := h3 i h4
      unfold itGood at *
      rw [List.getElem?_append_left h4, List.take_append_of_le_length (by omega)]
      exact h5
    · subst h4
      unfold itGood
      rw [List.getElem?_append_right (Nat.le_refl _), Nat.sub_self, List.take_append_of_le_length (Nat.le_refl _), List.take_length]
      simp only [List.getElem?_cons_zero, ha, hi, hap]
      rfl
theorem addS_ok {s : SetT} {x : ItemT} (h : setB s = true) (h40 : s.items.length ≠ 40) (hn : ∀ y ∈ s.items, y.name ≠ x.name) (ha : alone1 x = true) (hi : inside1 x s.len = true) (hap : (s.items.any fun y => !apartB x y) = false) : setB (addS s x) = true := by
  unfold setB at *
  simp only [Bool.and_eq_true] at *
  obtain ⟨a1, a2, a3, a4, a5, a6, a7, a8, a9, a10, a11, a12, a13, a14, a15⟩ := h
  exact ⟨a1, a2, a3, a4, a5, a6, a7, a8, a9, a10, a11, a12, a13, items_add a14 h40 hn ha hi hap, a15⟩
theorem total_add (s : SetT) (x : ItemT) : totalN (addS s x) = totalN s + x.wt := by
  unfold totalN totalTo
  show weightN (addS s x) + s.arbor + brickW s.bricks s.bricks.length = _
  have : weightN (addS s x) = weightN s + x.wt := by
    unfold weightN wtTo
    show pipeN s + (((s.items ++ [x]).take (s.items ++ [x]).length).map ItemT.wt).sum = _
    rw [List.take_length, List.take_length, List.map_append, List.sum_append]
    simp
    omega
  omega
theorem total_balance (s : SetT) (h : s.purch = 1) : totalN s = 2 * weightN s - balanceN s := by
  unfold totalN totalTo balanceN neededN
  rw [h]
  omega
theorem total_ge {s : SetT} (h : setB s = true) : weightN s ≤ totalN s := by
  have h1 := setB_ok h
  have h2 := h1.arbor
  have h3 := (brickW_bd h1.brk.2 _ (Nat.le_refl _)).1
  unfold totalN totalTo
  omega
end Go.Proofs.YtpnongeibpkbhaaGreatDoor

/- package batten: Put. Written by gen_put.py. -/
namespace Go.Proofs.YtpnongeibpkbhaaGreatDoor
open Go.RowKit Go.Shelf

theorem entersP1 : ∀ args w, (callFunc 52 args).run Tryz.prog w = .ok (.enter 52 args) w := enters_of Tryz.func52 (by kernel_rfl) rfl
theorem entersP2 : ∀ args w, (callFunc 55 args).run Tryz.prog w = .ok (.enter 55 args) w := enters_of Tryz.func55 (by kernel_rfl) rfl
theorem below_setG {o W : World} (h : Below o.heap.size o W) {g : Nat} (hg : o.heap.size ≤ g) (vs : List Value) (k : Nat) : Below o.heap.size o (W.setCells g k vs) :=
  h.grown (grown_setCells g vs k W) h.size (fun j e => by
    obtain rfl : g = j := by simpa using e
    exact hg)
theorem wpList_val {P : Program} {ops : Array Oper} {rest : List Oper} {o : Oper} {a : Act} {w : World} {Q : Exit → Act → World → Prop} {v : Value} (hgd : o.guard = none) (h1 : (execOp a.eval o).run P w = .ok (.value v) w)
    (h : wpList P ops Q rest (a.put o.dst v) w) : wpList P ops Q (o :: rest) a w :=
  wpList_plain hgd fun K hK => by
    unfold Oper.wp
    rw [h1]
    exact hK _ _ h
theorem own_notB {w : World} {B e s n g : Nat} {v : Value} {L : List Value} {t : TypeId} {cs : Array Value} (h : w.ownsRow B e s v n L) (hb : Blk w g t cs) (ht : t ≠ e) : some g ≠ v.ownBlock := fun e' => by
  rcases own_not h hb ht with h1 | h1
  · rw [h1] at e'; cases e'
  · exact h1 e'.symm
def sameB (x y : ItemT) : Bool := y.name.toList == x.name.toList
set_option maxRecDepth 100000 in
theorem batPut1 (x y : ItemT) (D : Nat) (w : World) (h : w.cell? ⟨D, 0, none⟩ = some (.string x.name)) (hD : D < w.heap.size) :
    Calls Tryz.prog 52 (#[y.val] ++ #[.pointer (some ⟨D, 0, none⟩)]) w fun e w' => e = .returned (.bool (sameB x y)) ∧ Below w.heap.size w w' := by
  have HB := Lib.hid ((Below.refl _ w).alloc (Nat.le_refl _) (.cells #[.string y.name, .int .i64 y.pos, .int .i64 y.width, .int .i64 y.wt, .int .i64 y.hang, .int .i64 y.front, .int .i64 y.back] 57))
  have h' := (HB.out.cell (p := ⟨D, 0, none⟩) hD).trans h
  have HV : Hid (sameB x y = (y.name.toList == x.name.toList)) := rfl
  clear h
  show Calls Tryz.prog 52 #[.agg #[.string y.name, .int .i64 y.pos, .int .i64 y.width, .int .i64 y.wt, .int .i64 y.hang, .int .i64 y.front, .int .i64 y.back], .pointer (some ⟨D, 0, none⟩)] w _
  go_enter Tryz.func52, Tryz.ntmps52
  go_wp2_with fail
  go_ret
  exact ⟨by rw [HV.out]; rfl, HB.out⟩
set_option maxRecDepth 100000 in
theorem batPut2 (x y : ItemT) (D : Nat) (w : World) (hD : Blk w D 57 #[.string x.name, .int .i64 x.pos, .int .i64 x.width, .int .i64 x.wt, .int .i64 x.hang, .int .i64 x.front, .int .i64 x.back]) (hx : PosOk x) (hy : PosOk y) :
    Calls Tryz.prog 55 #[y.val, .pointer (some ⟨D, 0, none⟩)] w fun e w' => e = .returned (.bool (!apartB x y)) ∧ Below w.heap.size w w' := by
  have HA := Lib.hid fun W => batApart x y W hx hy
  have HB : Hid (Below w.heap.size w (w.alloc (.cells #[.string y.name, .int .i64 y.pos, .int .i64 y.width, .int .i64 y.wt, .int .i64 y.hang, .int .i64 y.front, .int .i64 y.back] 57))) := (Below.refl _ _).alloc (Nat.le_refl _) _
  have HY := Lib.hid (Blk.new w 57 #[.string y.name, .int .i64 y.pos, .int .i64 y.width, .int .i64 y.wt, .int .i64 y.hang, .int .i64 y.front, .int .i64 y.back])
  have HX := Lib.hid (hD.below HB.out hD.lt)
  clear hD hx hy
  go_enter Tryz.func55, Tryz.ntmps55
  have x0 := HX.out.cell 0
  have x1 := HX.out.cell 1
  have x2 := HX.out.cell 2
  have x3 := HX.out.cell 3
  have x4 := HX.out.cell 4
  have x5 := HX.out.cell 5
  have x6 := HX.out.cell 6
  have y0 := HY.out.cell 0
  have y1 := HY.out.cell 1
  have y2 := HY.out.cell 2
  have y3 := HY.out.cell 3
  have y4 := HY.out.cell 4
  have y5 := HY.out.cell 5
  have y6 := HY.out.cell 6
  simp only [List.getElem?_toArray, List.getElem?_cons_succ, List.getElem?_cons_zero] at x0 x1 x2 x3 x4 x5 x6 y0 y1 y2 y3 y4 y5 y6
  go_wp2_with (go_at_call 56; refine (HA.out _).mono ?_; rintro e w' ⟨rfl, hb'⟩)
  go_ret
  exact ⟨rfl, HB.out.trans (hb'.mono HB.out.size)⟩
def PutPost (s : SetT) (x : ItemT) (w : World) (e : Ending) (w' : World) : Prop :=
  Below w.heap.size w w' ∧ ((∃ v, e = .returned (.tuple #[v, .int .i64 0]) ∧ SetAt w' w'.heap.size v (addS s x) ∧ setB (addS s x) = true) ∨ (∃ v k, (k != 0) = true ∧ v = Value.agg #[.string ⟨#[]⟩, .int .i64 0, .int .i64 0, .int .i64 0, .int .i64 0, .slice none 0 0, .int .i64 0, .int .i64 0, .int .i64 0, .int .i64 0, .int .i64 0, .slice none 0 0, .slice none 0 0] ∧ e = .returned (.tuple #[v, .int .i64 k])))
theorem three_boxes' (w : World) (t1 t2 t3 : TypeId) (c1 c2 c3 : Array Value) :
    (((w.alloc (.cells c1 t1)).alloc (.cells c2 t2)).alloc (.cells c3 t3)).heap.size = w.heap.size + 1 + 1 + 1 := by simp
set_option maxRecDepth 100000 in
set_option maxHeartbeats 8000000 in
theorem batPut (v : Value) (s : SetT) (x : ItemT) (w : World) (hv : SetAt w w.heap.size v s) (hn : SetNames s) (hnx : x.name.size ≤ maxLen) : Calls Tryz.prog 27 #[v, x.val] w (PutPost s x w) := by
  have HSA : Hid (∀ W, Below w.heap.size w W → SetAt W W.heap.size v s) := fun W hb => (hv.below hb (Nat.le_refl _)).mono hb.size
  have HN := Lib.hid hn
  obtain ⟨Al, cl, Ai, ci, Ab, cb, rfl, -, hI, -⟩ := hv
  have HI := Lib.hid hI
  obtain ⟨_, _, e, hi1, hi2, -⟩ := hI.open_
  injection e with e1 _ e2
  subst e1 e2
  unfold maxLen at hi2
  obtain ⟨B1, B2, B3, HbW⟩ := three_boxes w 26 57 26 #[.string s.name, .int .i64 s.depth, .int .i64 s.low, .int .i64 s.high, .int .i64 s.len, .slice Al s.lines.length cl, .int .i64 s.pipe, .int .i64 s.arbor, .int .i64 s.purch, .int .i64 s.most, .int .i64 s.brake, .slice Ai s.items.length ci, .slice Ab s.bricks.length cb] #[.string x.name, .int .i64 x.pos, .int .i64 x.width, .int .i64 x.wt, .int .i64 x.hang, .int .i64 x.front, .int .i64 x.back] #[.string ⟨#[]⟩, .int .i64 0, .int .i64 0, .int .i64 0, .int .i64 0, .slice none 0 0, .int .i64 0, .int .i64 0, .int .i64 0, .int .i64 0, .int .i64 0, .slice none 0 0, .slice none 0 0]
  have hs3 := three_boxes' w 26 57 26 #[.string s.name, .int .i64 s.depth, .int .i64 s.low, .int .i64 s.high, .int .i64 s.len, .slice Al s.lines.length cl, .int .i64 s.pipe, .int .i64 s.arbor, .int .i64 s.purch, .int .i64 s.most, .int .i64 s.brake, .slice Ai s.items.length ci, .slice Ab s.bricks.length cb] #[.string x.name, .int .i64 x.pos, .int .i64 x.width, .int .i64 x.wt, .int .i64 x.hang, .int .i64 x.front, .int .i64 x.back] #[.string ⟨#[]⟩, .int .i64 0, .int .i64 0, .int .i64 0, .int .i64 0, .slice none 0 0, .int .i64 0, .int .i64 0, .int .i64 0, .int .i64 0, .int .i64 0, .slice none 0 0, .slice none 0 0]
  clear hI hn
  unfold setVal at *
  go_enter Tryz.func27, Tryz.ntmps27
  go_wp2_with fail
  generalize ((w.alloc (.cells #[.string s.name, .int .i64 s.depth, .int .i64 s.low, .int .i64 s.high, .int .i64 s.len, .slice Al s.lines.length cl, .int .i64 s.pipe, .int .i64 s.arbor, .int .i64 s.purch, .int .i64 s.most, .int .i64 s.brake, .slice Ai s.items.length ci, .slice Ab s.bricks.length cb] 26)).alloc (.cells #[.string x.name, .int .i64 x.pos, .int .i64 x.width, .int .i64 x.wt, .int .i64 x.hang, .int .i64 x.front, .int .i64 x.back] 57)).alloc (.cells #[.string ⟨#[]⟩, .int .i64 0, .int .i64 0, .int .i64 0, .int .i64 0, .slice none 0 0, .int .i64 0, .int .i64 0, .int .i64 0, .int .i64 0, .int .i64 0, .slice none 0 0, .slice none 0 0] 26) = W3 at *
  have HA : Hid (∀ W, Below W3.heap.size W3 W → Blk W w.heap.size 26 #[.string s.name, .int .i64 s.depth, .int .i64 s.low, .int .i64 s.high, .int .i64 s.len, .slice Al s.lines.length cl, .int .i64 s.pipe, .int .i64 s.arbor, .int .i64 s.purch, .int .i64 s.most, .int .i64 s.brake, .slice Ai s.items.length ci, .slice Ab s.bricks.length cb] ∧ Blk W (w.heap.size + 1) 57 #[.string x.name, .int .i64 x.pos, .int .i64 x.width, .int .i64 x.wt, .int .i64 x.hang, .int .i64 x.front, .int .i64 x.back] ∧ Blk W (w.heap.size + 1 + 1) 26 #[.string ⟨#[]⟩, .int .i64 0, .int .i64 0, .int .i64 0, .int .i64 0, .slice none 0 0, .int .i64 0, .int .i64 0, .int .i64 0, .int .i64 0, .int .i64 0, .slice none 0 0, .slice none 0 0] ∧ Below w.heap.size w W) := fun W hb => ⟨B1.below hb B1.lt, B2.below hb B2.lt, B3.below hb B3.lt, HbW.trans (hb.mono HbW.size)⟩
  have hva := batValid _ s W3 (HSA.out _ HbW) HN.out
  clear B1 B2 B3 HbW
  refine hva.mono ?_
  rintro e w4 ⟨rfl, hb4⟩
  have HS : Hid (Blk w4 w.heap.size 26 #[.string s.name, .int .i64 s.depth, .int .i64 s.low, .int .i64 s.high, .int .i64 s.len, .slice Al s.lines.length cl, .int .i64 s.pipe, .int .i64 s.arbor, .int .i64 s.purch, .int .i64 s.most, .int .i64 s.brake, .slice Ai s.items.length ci, .slice Ab s.bricks.length cb] ∧ Blk w4 (w.heap.size + 1) 57 #[.string x.name, .int .i64 x.pos, .int .i64 x.width, .int .i64 x.wt, .int .i64 x.hang, .int .i64 x.front, .int .i64 x.back] ∧ Blk w4 (w.heap.size + 1 + 1) 26 #[.string ⟨#[]⟩, .int .i64 0, .int .i64 0, .int .i64 0, .int .i64 0, .slice none 0 0, .int .i64 0, .int .i64 0, .int .i64 0, .int .i64 0, .int .i64 0, .slice none 0 0, .slice none 0 0] ∧ Below w.heap.size w w4) := HA.out w4 hb4
  have HW4 := Lib.hid hb4
  clear hva hb4
  have z0 := HS.out.1.cell 0
  have z1 := HS.out.1.cell 1
  have z2 := HS.out.1.cell 2
  have z3 := HS.out.1.cell 3
  have z4 := HS.out.1.cell 4
  have z5 := HS.out.1.cell 5
  have z6 := HS.out.1.cell 6
  have z7 := HS.out.1.cell 7
  have z8 := HS.out.1.cell 8
  have z9 := HS.out.1.cell 9
  have z10 := HS.out.1.cell 10
  have z11 := HS.out.1.cell 11
  have z12 := HS.out.1.cell 12
  have i0 := HS.out.2.1.cell 0
  have i1 := HS.out.2.1.cell 1
  have i2 := HS.out.2.1.cell 2
  have i3 := HS.out.2.1.cell 3
  have i4 := HS.out.2.1.cell 4
  have i5 := HS.out.2.1.cell 5
  have i6 := HS.out.2.1.cell 6
  simp only [List.getElem?_toArray, List.getElem?_cons_succ, List.getElem?_cons_zero] at z0 z1 z2 z3 z4 z5 z6 z7 z8 z9 z10 z11 z12 i0 i1 i2 i3 i4 i5 i6
  cases hok : setB s with
  | false =>
    have hth := Lib.hid (blk_there (HS.out.2.2.1) (show (#[.string ⟨#[]⟩, .int .i64 0, .int .i64 0, .int .i64 0, .int .i64 0, .slice none 0 0, .int .i64 0, .int .i64 0, .int .i64 0, .int .i64 0, .int .i64 0, .slice none 0 0, .slice none 0 0] : Array Value).size = 13 from rfl))
    have HR := Lib.hid (World.rangeAt_setCells_same w4 (w.heap.size + 1 + 1) 0 [.string ⟨#[]⟩, .int .i64 0, .int .i64 0, .int .i64 0, .int .i64 0, .slice none 0 0, .int .i64 0, .int .i64 0, .int .i64 0, .int .i64 0, .int .i64 0, .slice none 0 0, .slice none 0 0] hth.out)
    have HBz := Lib.hid (below_setG HS.out.2.2.2 (show w.heap.size ≤ w.heap.size + 1 + 1 by omega) [.string ⟨#[]⟩, .int .i64 0, .int .i64 0, .int .i64 0, .int .i64 0, .slice none 0 0, .int .i64 0, .int .i64 0, .int .i64 0, .int .i64 0, .int .i64 0, .slice none 0 0, .slice none 0 0] 0)
    clear HS
    go_upto_region 2 with fail
    refine wp_region_lit ?_
    refine wpList_val (v := .agg #[.string ⟨#[]⟩, .int .i64 0, .int .i64 0, .int .i64 0, .int .i64 0, .slice none 0 0, .int .i64 0, .int .i64 0, .int .i64 0, .int .i64 0, .int .i64 0, .slice none 0 0, .slice none 0 0]) rfl (by go_simp) ?_
    refine wpList_store_mid rfl 26 (.tmp 4) (.tmp 11) rfl (w.heap.size + 1 + 1) 0 #[.string ⟨#[]⟩, .int .i64 0, .int .i64 0, .int .i64 0, .int .i64 0, .slice none 0 0, .int .i64 0, .int .i64 0, .int .i64 0, .int .i64 0, .int .i64 0, .slice none 0 0, .slice none 0 0] rfl rfl hth.out (by kernel_rfl) (by simp [Value.oneCell']) ?_
    generalize World.setCells w4 (w.heap.size + 1 + 1) 0 [.string ⟨#[]⟩, .int .i64 0, .int .i64 0, .int .i64 0, .int .i64 0, .slice none 0 0, .int .i64 0, .int .i64 0, .int .i64 0, .int .i64 0, .int .i64 0, .slice none 0 0, .slice none 0 0] = W9 at *
    simp only [Act.put, List.setIfInBounds_toArray, List.set_cons_zero, List.set_cons_succ]
    clear hth
    go_wp2_with fail
    have p0 := HR.out 0 _ rfl
    have p1 := HR.out 1 _ rfl
    have p2 := HR.out 2 _ rfl
    have p3 := HR.out 3 _ rfl
    have p4 := HR.out 4 _ rfl
    have p5 := HR.out 5 _ rfl
    have p6 := HR.out 6 _ rfl
    have p7 := HR.out 7 _ rfl
    have p8 := HR.out 8 _ rfl
    have p9 := HR.out 9 _ rfl
    have p10 := HR.out 10 _ rfl
    have p11 := HR.out 11 _ rfl
    have p12 := HR.out 12 _ rfl
    simp only [Nat.zero_add] at p0 p1 p2 p3 p4 p5 p6 p7 p8 p9 p10 p11 p12
    refine bodyPost_ret (v := .tuple #[.agg #[.string ⟨#[]⟩, .int .i64 0, .int .i64 0, .int .i64 0, .int .i64 0, .slice none 0 0, .int .i64 0, .int .i64 0, .int .i64 0, .int .i64 0, .int .i64 0, .slice none 0 0, .slice none 0 0], .int .i64 1]) (by simp [results, Tryz.results27, go_sem, p0, p1, p2, p3, p4, p5, p6, p7, p8, p9, p10, p11, p12]) rfl ?_
    exact ⟨HBz.out, .inr ⟨_, 1, rfl, rfl, rfl⟩⟩
  | true =>
    have hk := setB_ok hok
    have hlen := hk.len
    have h40 := hk.wts.1
    have Hok := Lib.hid hok
    have eg1 := entersP1
    have eg2 := entersP2
    have hc1 := containsFuncItem (.slice Ai s.items.length ci) s.items 52 #[.pointer (some ⟨w.heap.size + 1, 0, none⟩)] (sameB x) entersP1 w4 (ItemsAt.mono (ItemsAt.below HI.out HS.out.2.2.2 (Nat.le_refl _)) HS.out.2.2.2.size) (fun t _ w' hb => batPut1 x t (w.heap.size + 1) w' ((HS.out.2.1.below hb HS.out.2.1.lt).cell 0) ((HS.out.2.1.below hb HS.out.2.1.lt).lt))
    clear hok hk
    go_wp2_with fail
    refine hc1.mono ?_
    rintro e w5 ⟨rfl, hb5⟩
    have HW5 := Lib.hid (HW4.out.trans (hb5.mono HW4.out.size))
    have HS5 : Hid (Blk w5 w.heap.size 26 #[.string s.name, .int .i64 s.depth, .int .i64 s.low, .int .i64 s.high, .int .i64 s.len, .slice Al s.lines.length cl, .int .i64 s.pipe, .int .i64 s.arbor, .int .i64 s.purch, .int .i64 s.most, .int .i64 s.brake, .slice Ai s.items.length ci, .slice Ab s.bricks.length cb] ∧ Blk w5 (w.heap.size + 1) 57 #[.string x.name, .int .i64 x.pos, .int .i64 x.width, .int .i64 x.wt, .int .i64 x.hang, .int .i64 x.front, .int .i64 x.back] ∧ Blk w5 (w.heap.size + 1 + 1) 26 #[.string ⟨#[]⟩, .int .i64 0, .int .i64 0, .int .i64 0, .int .i64 0, .slice none 0 0, .int .i64 0, .int .i64 0, .int .i64 0, .int .i64 0, .int .i64 0, .slice none 0 0, .slice none 0 0] ∧ Below w.heap.size w w5) := HA.out w5 HW5.out
    clear z0 z1 z2 z3 z4 z5 z6 z7 z8 z9 z10 z11 z12 i0 i1 i2 i3 i4 i5 i6
    clear HS hb5 hc1 HW4
    have HS := HS5
    clear HS5
    have z0 := HS.out.1.cell 0
    have z1 := HS.out.1.cell 1
    have z2 := HS.out.1.cell 2
    have z3 := HS.out.1.cell 3
    have z4 := HS.out.1.cell 4
    have z5 := HS.out.1.cell 5
    have z6 := HS.out.1.cell 6
    have z7 := HS.out.1.cell 7
    have z8 := HS.out.1.cell 8
    have z9 := HS.out.1.cell 9
    have z10 := HS.out.1.cell 10
    have z11 := HS.out.1.cell 11
    have z12 := HS.out.1.cell 12
    have i0 := HS.out.2.1.cell 0
    have i1 := HS.out.2.1.cell 1
    have i2 := HS.out.2.1.cell 2
    have i3 := HS.out.2.1.cell 3
    have i4 := HS.out.2.1.cell 4
    have i5 := HS.out.2.1.cell 5
    have i6 := HS.out.2.1.cell 6
    simp only [List.getElem?_toArray, List.getElem?_cons_succ, List.getElem?_cons_zero] at z0 z1 z2 z3 z4 z5 z6 z7 z8 z9 z10 z11 z12 i0 i1 i2 i3 i4 i5 i6
    cases hany : s.items.any (sameB x) with
    | true =>
      have hth := Lib.hid (blk_there (HS.out.2.2.1) (show (#[.string ⟨#[]⟩, .int .i64 0, .int .i64 0, .int .i64 0, .int .i64 0, .slice none 0 0, .int .i64 0, .int .i64 0, .int .i64 0, .int .i64 0, .int .i64 0, .slice none 0 0, .slice none 0 0] : Array Value).size = 13 from rfl))
      have HR := Lib.hid (World.rangeAt_setCells_same w5 (w.heap.size + 1 + 1) 0 [.string ⟨#[]⟩, .int .i64 0, .int .i64 0, .int .i64 0, .int .i64 0, .slice none 0 0, .int .i64 0, .int .i64 0, .int .i64 0, .int .i64 0, .int .i64 0, .slice none 0 0, .slice none 0 0] hth.out)
      have HBz := Lib.hid (below_setG HS.out.2.2.2 (show w.heap.size ≤ w.heap.size + 1 + 1 by omega) [.string ⟨#[]⟩, .int .i64 0, .int .i64 0, .int .i64 0, .int .i64 0, .slice none 0 0, .int .i64 0, .int .i64 0, .int .i64 0, .int .i64 0, .int .i64 0, .slice none 0 0, .slice none 0 0] 0)
      clear HS
      go_upto_region 4 with fail
      refine wp_region_lit ?_
      refine wpList_val (v := .agg #[.string ⟨#[]⟩, .int .i64 0, .int .i64 0, .int .i64 0, .int .i64 0, .slice none 0 0, .int .i64 0, .int .i64 0, .int .i64 0, .int .i64 0, .int .i64 0, .slice none 0 0, .slice none 0 0]) rfl (by go_simp) ?_
      refine wpList_store_mid rfl 26 (.tmp 4) (.tmp 17) rfl (w.heap.size + 1 + 1) 0 #[.string ⟨#[]⟩, .int .i64 0, .int .i64 0, .int .i64 0, .int .i64 0, .slice none 0 0, .int .i64 0, .int .i64 0, .int .i64 0, .int .i64 0, .int .i64 0, .slice none 0 0, .slice none 0 0] rfl rfl hth.out (by kernel_rfl) (by simp [Value.oneCell']) ?_
      generalize World.setCells w5 (w.heap.size + 1 + 1) 0 [.string ⟨#[]⟩, .int .i64 0, .int .i64 0, .int .i64 0, .int .i64 0, .slice none 0 0, .int .i64 0, .int .i64 0, .int .i64 0, .int .i64 0, .int .i64 0, .slice none 0 0, .slice none 0 0] = W9 at *
      simp only [Act.put, List.setIfInBounds_toArray, List.set_cons_zero, List.set_cons_succ]
      clear hth
      go_wp2_with fail
      have p0 := HR.out 0 _ rfl
      have p1 := HR.out 1 _ rfl
      have p2 := HR.out 2 _ rfl
      have p3 := HR.out 3 _ rfl
      have p4 := HR.out 4 _ rfl
      have p5 := HR.out 5 _ rfl
      have p6 := HR.out 6 _ rfl
      have p7 := HR.out 7 _ rfl
      have p8 := HR.out 8 _ rfl
      have p9 := HR.out 9 _ rfl
      have p10 := HR.out 10 _ rfl
      have p11 := HR.out 11 _ rfl
      have p12 := HR.out 12 _ rfl
      simp only [Nat.zero_add] at p0 p1 p2 p3 p4 p5 p6 p7 p8 p9 p10 p11 p12
      refine bodyPost_ret (v := .tuple #[.agg #[.string ⟨#[]⟩, .int .i64 0, .int .i64 0, .int .i64 0, .int .i64 0, .slice none 0 0, .int .i64 0, .int .i64 0, .int .i64 0, .int .i64 0, .int .i64 0, .slice none 0 0, .slice none 0 0], .int .i64 15]) (by simp [results, Tryz.results27, go_sem, p0, p1, p2, p3, p4, p5, p6, p7, p8, p9, p10, p11, p12]) rfl ?_
      exact ⟨HBz.out, .inr ⟨_, 15, rfl, rfl, rfl⟩⟩
    | false =>
      have Hany := Lib.hid hany
      clear hany
      by_cases hfl : s.items.length = 40
      · have hd : ((s.items.length : Int) == 40) = true := beq_iff_eq.2 (by omega)
        clear h40
        have hth := Lib.hid (blk_there (HS.out.2.2.1) (show (#[.string ⟨#[]⟩, .int .i64 0, .int .i64 0, .int .i64 0, .int .i64 0, .slice none 0 0, .int .i64 0, .int .i64 0, .int .i64 0, .int .i64 0, .int .i64 0, .slice none 0 0, .slice none 0 0] : Array Value).size = 13 from rfl))
        have HR := Lib.hid (World.rangeAt_setCells_same w5 (w.heap.size + 1 + 1) 0 [.string ⟨#[]⟩, .int .i64 0, .int .i64 0, .int .i64 0, .int .i64 0, .slice none 0 0, .int .i64 0, .int .i64 0, .int .i64 0, .int .i64 0, .int .i64 0, .slice none 0 0, .slice none 0 0] hth.out)
        have HBz := Lib.hid (below_setG HS.out.2.2.2 (show w.heap.size ≤ w.heap.size + 1 + 1 by omega) [.string ⟨#[]⟩, .int .i64 0, .int .i64 0, .int .i64 0, .int .i64 0, .slice none 0 0, .int .i64 0, .int .i64 0, .int .i64 0, .int .i64 0, .int .i64 0, .slice none 0 0, .slice none 0 0] 0)
        clear HS
        go_upto_region 6 with fail
        refine wp_region_lit ?_
        refine wpList_val (v := .agg #[.string ⟨#[]⟩, .int .i64 0, .int .i64 0, .int .i64 0, .int .i64 0, .slice none 0 0, .int .i64 0, .int .i64 0, .int .i64 0, .int .i64 0, .int .i64 0, .slice none 0 0, .slice none 0 0]) rfl (by go_simp) ?_
        refine wpList_store_mid rfl 26 (.tmp 4) (.tmp 23) rfl (w.heap.size + 1 + 1) 0 #[.string ⟨#[]⟩, .int .i64 0, .int .i64 0, .int .i64 0, .int .i64 0, .slice none 0 0, .int .i64 0, .int .i64 0, .int .i64 0, .int .i64 0, .int .i64 0, .slice none 0 0, .slice none 0 0] rfl rfl hth.out (by kernel_rfl) (by simp [Value.oneCell']) ?_
        generalize World.setCells w5 (w.heap.size + 1 + 1) 0 [.string ⟨#[]⟩, .int .i64 0, .int .i64 0, .int .i64 0, .int .i64 0, .slice none 0 0, .int .i64 0, .int .i64 0, .int .i64 0, .int .i64 0, .int .i64 0, .slice none 0 0, .slice none 0 0] = W9 at *
        simp only [Act.put, List.setIfInBounds_toArray, List.set_cons_zero, List.set_cons_succ]
        clear hth
        go_wp2_with fail
        have p0 := HR.out 0 _ rfl
        have p1 := HR.out 1 _ rfl
        have p2 := HR.out 2 _ rfl
        have p3 := HR.out 3 _ rfl
        have p4 := HR.out 4 _ rfl
        have p5 := HR.out 5 _ rfl
        have p6 := HR.out 6 _ rfl
        have p7 := HR.out 7 _ rfl
        have p8 := HR.out 8 _ rfl
        have p9 := HR.out 9 _ rfl
        have p10 := HR.out 10 _ rfl
        have p11 := HR.out 11 _ rfl
        have p12 := HR.out 12 _ rfl
        simp only [Nat.zero_add] at p0 p1 p2 p3 p4 p5 p6 p7 p8 p9 p10 p11 p12
        refine bodyPost_ret (v := .tuple #[.agg #[.string ⟨#[]⟩, .int .i64 0, .int .i64 0, .int .i64 0, .int .i64 0, .slice none 0 0, .int .i64 0, .int .i64 0, .int .i64 0, .int .i64 0, .int .i64 0, .slice none 0 0, .slice none 0 0], .int .i64 4]) (by simp [results, Tryz.results27, go_sem, p0, p1, p2, p3, p4, p5, p6, p7, p8, p9, p10, p11, p12]) rfl ?_
        exact ⟨HBz.out, .inr ⟨_, 4, rfl, rfl, rfl⟩⟩
      · have hd : ((s.items.length : Int) == 40) = false := beq_eq_false_iff_ne.2 (by omega)
        have Hfl := Lib.hid hfl
        have hal := batAlone x w5 hnx
        clear hfl
        go_wp2_with fail
        refine hal.mono ?_
        rintro e w6 ⟨rfl, hb6⟩
        have HW6 := Lib.hid (HW5.out.trans (hb6.mono HW5.out.size))
        have HS6 : Hid (Blk w6 w.heap.size 26 #[.string s.name, .int .i64 s.depth, .int .i64 s.low, .int .i64 s.high, .int .i64 s.len, .slice Al s.lines.length cl, .int .i64 s.pipe, .int .i64 s.arbor, .int .i64 s.purch, .int .i64 s.most, .int .i64 s.brake, .slice Ai s.items.length ci, .slice Ab s.bricks.length cb] ∧ Blk w6 (w.heap.size + 1) 57 #[.string x.name, .int .i64 x.pos, .int .i64 x.width, .int .i64 x.wt, .int .i64 x.hang, .int .i64 x.front, .int .i64 x.back] ∧ Blk w6 (w.heap.size + 1 + 1) 26 #[.string ⟨#[]⟩, .int .i64 0, .int .i64 0, .int .i64 0, .int .i64 0, .slice none 0 0, .int .i64 0, .int .i64 0, .int .i64 0, .int .i64 0, .int .i64 0, .slice none 0 0, .slice none 0 0] ∧ Below w.heap.size w w6) := HA.out w6 HW6.out
        clear z0 z1 z2 z3 z4 z5 z6 z7 z8 z9 z10 z11 z12 i0 i1 i2 i3 i4 i5 i6
        clear HS hb6 hal HW5
        have HS := HS6
        clear HS6
        have z0 := HS.out.1.cell 0
        have z1 := HS.out.1.cell 1
        have z2 := HS.out.1.cell 2
        have z3 := HS.out.1.cell 3
        have z4 := HS.out.1.cell 4
        have z5 := HS.out.1.cell 5
        have z6 := HS.out.1.cell 6
        have z7 := HS.out.1.cell 7
        have z8 := HS.out.1.cell 8
        have z9 := HS.out.1.cell 9
        have z10 := HS.out.1.cell 10
        have z11 := HS.out.1.cell 11
        have z12 := HS.out.1.cell 12
        have i0 := HS.out.2.1.cell 0
        have i1 := HS.out.2.1.cell 1
        have i2 := HS.out.2.1.cell 2
        have i3 := HS.out.2.1.cell 3
        have i4 := HS.out.2.1.cell 4
        have i5 := HS.out.2.1.cell 5
        have i6 := HS.out.2.1.cell 6
        simp only [List.getElem?_toArray, List.getElem?_cons_succ, List.getElem?_cons_zero] at z0 z1 z2 z3 z4 z5 z6 z7 z8 z9 z10 z11 z12 i0 i1 i2 i3 i4 i5 i6
        cases ha : alone1 x with
        | false =>
          have hth := Lib.hid (blk_there (HS.out.2.2.1) (show (#[.string ⟨#[]⟩, .int .i64 0, .int .i64 0, .int .i64 0, .int .i64 0, .slice none 0 0, .int .i64 0, .int .i64 0, .int .i64 0, .int .i64 0, .int .i64 0, .slice none 0 0, .slice none 0 0] : Array Value).size = 13 from rfl))
          have HR := Lib.hid (World.rangeAt_setCells_same w6 (w.heap.size + 1 + 1) 0 [.string ⟨#[]⟩, .int .i64 0, .int .i64 0, .int .i64 0, .int .i64 0, .slice none 0 0, .int .i64 0, .int .i64 0, .int .i64 0, .int .i64 0, .int .i64 0, .slice none 0 0, .slice none 0 0] hth.out)
          have HBz := Lib.hid (below_setG HS.out.2.2.2 (show w.heap.size ≤ w.heap.size + 1 + 1 by omega) [.string ⟨#[]⟩, .int .i64 0, .int .i64 0, .int .i64 0, .int .i64 0, .slice none 0 0, .int .i64 0, .int .i64 0, .int .i64 0, .int .i64 0, .int .i64 0, .slice none 0 0, .slice none 0 0] 0)
          clear HS
          go_upto_region 8 with fail
          refine wp_region_lit ?_
          refine wpList_val (v := .agg #[.string ⟨#[]⟩, .int .i64 0, .int .i64 0, .int .i64 0, .int .i64 0, .slice none 0 0, .int .i64 0, .int .i64 0, .int .i64 0, .int .i64 0, .int .i64 0, .slice none 0 0, .slice none 0 0]) rfl (by go_simp) ?_
          refine wpList_store_mid rfl 26 (.tmp 4) (.tmp 35) rfl (w.heap.size + 1 + 1) 0 #[.string ⟨#[]⟩, .int .i64 0, .int .i64 0, .int .i64 0, .int .i64 0, .slice none 0 0, .int .i64 0, .int .i64 0, .int .i64 0, .int .i64 0, .int .i64 0, .slice none 0 0, .slice none 0 0] rfl rfl hth.out (by kernel_rfl) (by simp [Value.oneCell']) ?_
          generalize World.setCells w6 (w.heap.size + 1 + 1) 0 [.string ⟨#[]⟩, .int .i64 0, .int .i64 0, .int .i64 0, .int .i64 0, .slice none 0 0, .int .i64 0, .int .i64 0, .int .i64 0, .int .i64 0, .int .i64 0, .slice none 0 0, .slice none 0 0] = W9 at *
          simp only [Act.put, List.setIfInBounds_toArray, List.set_cons_zero, List.set_cons_succ]
          clear hth
          go_wp2_with fail
          have p0 := HR.out 0 _ rfl
          have p1 := HR.out 1 _ rfl
          have p2 := HR.out 2 _ rfl
          have p3 := HR.out 3 _ rfl
          have p4 := HR.out 4 _ rfl
          have p5 := HR.out 5 _ rfl
          have p6 := HR.out 6 _ rfl
          have p7 := HR.out 7 _ rfl
          have p8 := HR.out 8 _ rfl
          have p9 := HR.out 9 _ rfl
          have p10 := HR.out 10 _ rfl
          have p11 := HR.out 11 _ rfl
          have p12 := HR.out 12 _ rfl
          simp only [Nat.zero_add] at p0 p1 p2 p3 p4 p5 p6 p7 p8 p9 p10 p11 p12
          refine bodyPost_ret (v := .tuple #[.agg #[.string ⟨#[]⟩, .int .i64 0, .int .i64 0, .int .i64 0, .int .i64 0, .slice none 0 0, .int .i64 0, .int .i64 0, .int .i64 0, .int .i64 0, .int .i64 0, .slice none 0 0, .slice none 0 0], .int .i64 1]) (by simp [results, Tryz.results27, go_sem, p0, p1, p2, p3, p4, p5, p6, p7, p8, p9, p10, p11, p12]) rfl ?_
          exact ⟨HBz.out, .inr ⟨_, 1, rfl, rfl, rfl⟩⟩
        | true =>
          have Ha := Lib.hid ha
          clear ha
          have hin := batInside x s.len w6 hlen
          go_wp2_with fail
          refine hin.mono ?_
          rintro e w7 ⟨rfl, hb7⟩
          have HW7 := Lib.hid (HW6.out.trans (hb7.mono HW6.out.size))
          have HS7 : Hid (Blk w7 w.heap.size 26 #[.string s.name, .int .i64 s.depth, .int .i64 s.low, .int .i64 s.high, .int .i64 s.len, .slice Al s.lines.length cl, .int .i64 s.pipe, .int .i64 s.arbor, .int .i64 s.purch, .int .i64 s.most, .int .i64 s.brake, .slice Ai s.items.length ci, .slice Ab s.bricks.length cb] ∧ Blk w7 (w.heap.size + 1) 57 #[.string x.name, .int .i64 x.pos, .int .i64 x.width, .int .i64 x.wt, .int .i64 x.hang, .int .i64 x.front, .int .i64 x.back] ∧ Blk w7 (w.heap.size + 1 + 1) 26 #[.string ⟨#[]⟩, .int .i64 0, .int .i64 0, .int .i64 0, .int .i64 0, .slice none 0 0, .int .i64 0, .int .i64 0, .int .i64 0, .int .i64 0, .int .i64 0, .slice none 0 0, .slice none 0 0] ∧ Below w.heap.size w w7) := HA.out w7 HW7.out
          clear z0 z1 z2 z3 z4 z5 z6 z7 z8 z9 z10 z11 z12 i0 i1 i2 i3 i4 i5 i6
          clear HS hb7 hin HW6
          have HS := HS7
          clear HS7
          have z0 := HS.out.1.cell 0
          have z1 := HS.out.1.cell 1
          have z2 := HS.out.1.cell 2
          have z3 := HS.out.1.cell 3
          have z4 := HS.out.1.cell 4
          have z5 := HS.out.1.cell 5
          have z6 := HS.out.1.cell 6
          have z7 := HS.out.1.cell 7
          have z8 := HS.out.1.cell 8
          have z9 := HS.out.1.cell 9
          have z10 := HS.out.1.cell 10
          have z11 := HS.out.1.cell 11
          have z12 := HS.out.1.cell 12
          have i0 := HS.out.2.1.cell 0
          have i1 := HS.out.2.1.cell 1
          have i2 := HS.out.2.1.cell 2
          have i3 := HS.out.2.1.cell 3
          have i4 := HS.out.2.1.cell 4
          have i5 := HS.out.2.1.cell 5
          have i6 := HS.out.2.1.cell 6
          simp only [List.getElem?_toArray, List.getElem?_cons_succ, List.getElem?_cons_zero] at z0 z1 z2 z3 z4 z5 z6 z7 z8 z9 z10 z11 z12 i0 i1 i2 i3 i4 i5 i6
          cases hi : inside1 x s.len with
          | false =>
            have hth := Lib.hid (blk_there (HS.out.2.2.1) (show (#[.string ⟨#[]⟩, .int .i64 0, .int .i64 0, .int .i64 0, .int .i64 0, .slice none 0 0, .int .i64 0, .int .i64 0, .int .i64 0, .int .i64 0, .int .i64 0, .slice none 0 0, .slice none 0 0] : Array Value).size = 13 from rfl))
            have HR := Lib.hid (World.rangeAt_setCells_same w7 (w.heap.size + 1 + 1) 0 [.string ⟨#[]⟩, .int .i64 0, .int .i64 0, .int .i64 0, .int .i64 0, .slice none 0 0, .int .i64 0, .int .i64 0, .int .i64 0, .int .i64 0, .int .i64 0, .slice none 0 0, .slice none 0 0] hth.out)
            have HBz := Lib.hid (below_setG HS.out.2.2.2 (show w.heap.size ≤ w.heap.size + 1 + 1 by omega) [.string ⟨#[]⟩, .int .i64 0, .int .i64 0, .int .i64 0, .int .i64 0, .slice none 0 0, .int .i64 0, .int .i64 0, .int .i64 0, .int .i64 0, .int .i64 0, .slice none 0 0, .slice none 0 0] 0)
            clear HS
            go_upto_region 8 with fail
            refine wp_region_lit ?_
            refine wpList_val (v := .agg #[.string ⟨#[]⟩, .int .i64 0, .int .i64 0, .int .i64 0, .int .i64 0, .slice none 0 0, .int .i64 0, .int .i64 0, .int .i64 0, .int .i64 0, .int .i64 0, .slice none 0 0, .slice none 0 0]) rfl (by go_simp) ?_
            refine wpList_store_mid rfl 26 (.tmp 4) (.tmp 35) rfl (w.heap.size + 1 + 1) 0 #[.string ⟨#[]⟩, .int .i64 0, .int .i64 0, .int .i64 0, .int .i64 0, .slice none 0 0, .int .i64 0, .int .i64 0, .int .i64 0, .int .i64 0, .int .i64 0, .slice none 0 0, .slice none 0 0] rfl rfl hth.out (by kernel_rfl) (by simp [Value.oneCell']) ?_
            generalize World.setCells w7 (w.heap.size + 1 + 1) 0 [.string ⟨#[]⟩, .int .i64 0, .int .i64 0, .int .i64 0, .int .i64 0, .slice none 0 0, .int .i64 0, .int .i64 0, .int .i64 0, .int .i64 0, .int .i64 0, .slice none 0 0, .slice none 0 0] = W9 at *
            simp only [Act.put, List.setIfInBounds_toArray, List.set_cons_zero, List.set_cons_succ]
            clear hth
            go_wp2_with fail
            have p0 := HR.out 0 _ rfl
            have p1 := HR.out 1 _ rfl
            have p2 := HR.out 2 _ rfl
            have p3 := HR.out 3 _ rfl
            have p4 := HR.out 4 _ rfl
            have p5 := HR.out 5 _ rfl
            have p6 := HR.out 6 _ rfl
            have p7 := HR.out 7 _ rfl
            have p8 := HR.out 8 _ rfl
            have p9 := HR.out 9 _ rfl
            have p10 := HR.out 10 _ rfl
            have p11 := HR.out 11 _ rfl
            have p12 := HR.out 12 _ rfl
            simp only [Nat.zero_add] at p0 p1 p2 p3 p4 p5 p6 p7 p8 p9 p10 p11 p12
            refine bodyPost_ret (v := .tuple #[.agg #[.string ⟨#[]⟩, .int .i64 0, .int .i64 0, .int .i64 0, .int .i64 0, .slice none 0 0, .int .i64 0, .int .i64 0, .int .i64 0, .int .i64 0, .int .i64 0, .slice none 0 0, .slice none 0 0], .int .i64 1]) (by simp [results, Tryz.results27, go_sem, p0, p1, p2, p3, p4, p5, p6, p7, p8, p9, p10, p11, p12]) rfl ?_
            exact ⟨HBz.out, .inr ⟨_, 1, rfl, rfl, rfl⟩⟩
          | true =>
            have Hi := Lib.hid hi
            have hpx : PosOk x := inside_pos hi hlen.2
            have hpy : ∀ y ∈ s.items, PosOk y := fun y hy => inside_pos ((setB_ok Hok.out).wts.2 y hy).2 hlen.2
            have hc2 := containsFuncItem (.slice Ai s.items.length ci) s.items 55 #[.pointer (some ⟨w.heap.size + 1, 0, none⟩)] (fun y => !apartB x y) entersP2 w7 (ItemsAt.mono (ItemsAt.below HI.out HS.out.2.2.2 (Nat.le_refl _)) HS.out.2.2.2.size) (fun t ht w' hb => batPut2 x t (w.heap.size + 1) w' (HS.out.2.1.below hb HS.out.2.1.lt) hpx (hpy t ht))
            clear hi hpx hpy
            go_wp2_with fail
            refine hc2.mono ?_
            rintro e w8 ⟨rfl, hb8⟩
            have HW8 := Lib.hid (HW7.out.trans (hb8.mono HW7.out.size))
            have HS8 : Hid (Blk w8 w.heap.size 26 #[.string s.name, .int .i64 s.depth, .int .i64 s.low, .int .i64 s.high, .int .i64 s.len, .slice Al s.lines.length cl, .int .i64 s.pipe, .int .i64 s.arbor, .int .i64 s.purch, .int .i64 s.most, .int .i64 s.brake, .slice Ai s.items.length ci, .slice Ab s.bricks.length cb] ∧ Blk w8 (w.heap.size + 1) 57 #[.string x.name, .int .i64 x.pos, .int .i64 x.width, .int .i64 x.wt, .int .i64 x.hang, .int .i64 x.front, .int .i64 x.back] ∧ Blk w8 (w.heap.size + 1 + 1) 26 #[.string ⟨#[]⟩, .int .i64 0, .int .i64 0, .int .i64 0, .int .i64 0, .slice none 0 0, .int .i64 0, .int .i64 0, .int .i64 0, .int .i64 0, .int .i64 0, .slice none 0 0, .slice none 0 0] ∧ Below w.heap.size w w8) := HA.out w8 HW8.out
            clear z0 z1 z2 z3 z4 z5 z6 z7 z8 z9 z10 z11 z12 i0 i1 i2 i3 i4 i5 i6
            clear HS hb8 hc2 HW7
            have HS := HS8
            clear HS8
            have z0 := HS.out.1.cell 0
            have z1 := HS.out.1.cell 1
            have z2 := HS.out.1.cell 2
            have z3 := HS.out.1.cell 3
            have z4 := HS.out.1.cell 4
            have z5 := HS.out.1.cell 5
            have z6 := HS.out.1.cell 6
            have z7 := HS.out.1.cell 7
            have z8 := HS.out.1.cell 8
            have z9 := HS.out.1.cell 9
            have z10 := HS.out.1.cell 10
            have z11 := HS.out.1.cell 11
            have z12 := HS.out.1.cell 12
            have i0 := HS.out.2.1.cell 0
            have i1 := HS.out.2.1.cell 1
            have i2 := HS.out.2.1.cell 2
            have i3 := HS.out.2.1.cell 3
            have i4 := HS.out.2.1.cell 4
            have i5 := HS.out.2.1.cell 5
            have i6 := HS.out.2.1.cell 6
            simp only [List.getElem?_toArray, List.getElem?_cons_succ, List.getElem?_cons_zero] at z0 z1 z2 z3 z4 z5 z6 z7 z8 z9 z10 z11 z12 i0 i1 i2 i3 i4 i5 i6
            cases hap : s.items.any fun y => !apartB x y with
            | true =>
              have hth := Lib.hid (blk_there (HS.out.2.2.1) (show (#[.string ⟨#[]⟩, .int .i64 0, .int .i64 0, .int .i64 0, .int .i64 0, .slice none 0 0, .int .i64 0, .int .i64 0, .int .i64 0, .int .i64 0, .int .i64 0, .slice none 0 0, .slice none 0 0] : Array Value).size = 13 from rfl))
              have HR := Lib.hid (World.rangeAt_setCells_same w8 (w.heap.size + 1 + 1) 0 [.string ⟨#[]⟩, .int .i64 0, .int .i64 0, .int .i64 0, .int .i64 0, .slice none 0 0, .int .i64 0, .int .i64 0, .int .i64 0, .int .i64 0, .int .i64 0, .slice none 0 0, .slice none 0 0] hth.out)
              have HBz := Lib.hid (below_setG HS.out.2.2.2 (show w.heap.size ≤ w.heap.size + 1 + 1 by omega) [.string ⟨#[]⟩, .int .i64 0, .int .i64 0, .int .i64 0, .int .i64 0, .slice none 0 0, .int .i64 0, .int .i64 0, .int .i64 0, .int .i64 0, .int .i64 0, .slice none 0 0, .slice none 0 0] 0)
              clear HS
              go_upto_region 10 with fail
              refine wp_region_lit ?_
              refine wpList_val (v := .agg #[.string ⟨#[]⟩, .int .i64 0, .int .i64 0, .int .i64 0, .int .i64 0, .slice none 0 0, .int .i64 0, .int .i64 0, .int .i64 0, .int .i64 0, .int .i64 0, .slice none 0 0, .slice none 0 0]) rfl (by go_simp) ?_
              refine wpList_store_mid rfl 26 (.tmp 4) (.tmp 41) rfl (w.heap.size + 1 + 1) 0 #[.string ⟨#[]⟩, .int .i64 0, .int .i64 0, .int .i64 0, .int .i64 0, .slice none 0 0, .int .i64 0, .int .i64 0, .int .i64 0, .int .i64 0, .int .i64 0, .slice none 0 0, .slice none 0 0] rfl rfl hth.out (by kernel_rfl) (by simp [Value.oneCell']) ?_
              generalize World.setCells w8 (w.heap.size + 1 + 1) 0 [.string ⟨#[]⟩, .int .i64 0, .int .i64 0, .int .i64 0, .int .i64 0, .slice none 0 0, .int .i64 0, .int .i64 0, .int .i64 0, .int .i64 0, .int .i64 0, .slice none 0 0, .slice none 0 0] = W9 at *
              simp only [Act.put, List.setIfInBounds_toArray, List.set_cons_zero, List.set_cons_succ]
              clear hth
              go_wp2_with fail
              have p0 := HR.out 0 _ rfl
              have p1 := HR.out 1 _ rfl
              have p2 := HR.out 2 _ rfl
              have p3 := HR.out 3 _ rfl
              have p4 := HR.out 4 _ rfl
              have p5 := HR.out 5 _ rfl
              have p6 := HR.out 6 _ rfl
              have p7 := HR.out 7 _ rfl
              have p8 := HR.out 8 _ rfl
              have p9 := HR.out 9 _ rfl
              have p10 := HR.out 10 _ rfl
              have p11 := HR.out 11 _ rfl
              have p12 := HR.out 12 _ rfl
              simp only [Nat.zero_add] at p0 p1 p2 p3 p4 p5 p6 p7 p8 p9 p10 p11 p12
              refine bodyPost_ret (v := .tuple #[.agg #[.string ⟨#[]⟩, .int .i64 0, .int .i64 0, .int .i64 0, .int .i64 0, .slice none 0 0, .int .i64 0, .int .i64 0, .int .i64 0, .int .i64 0, .int .i64 0, .slice none 0 0, .slice none 0 0], .int .i64 22]) (by simp [results, Tryz.results27, go_sem, p0, p1, p2, p3, p4, p5, p6, p7, p8, p9, p10, p11, p12]) rfl ?_
              exact ⟨HBz.out, .inr ⟨_, 22, rfl, rfl, rfl⟩⟩
            | false =>
              have Hap := Lib.hid hap
              clear hap
              have hcp := batCopy _ s w8 (HSA.out _ HS.out.2.2.2) (Nat.le_trans (set_two Hok.out).2 (by decide)) (Nat.le_trans h40 (by decide)) (Nat.le_trans (setB_ok Hok.out).brk.1 (by decide))
              go_wp2_with fail
              refine hcp.mono ?_
              rintro e w9 ⟨hb9, A1, k1, A2, k2, A3, k3, rfl, r1, r2, r3⟩
              unfold setVal
              have HW9 := Lib.hid (HW8.out.trans (hb9.mono HW8.out.size))
              have hS9 := HA.out w9 HW9.out
              have HS9 : Hid (Blk w9 w.heap.size 26 #[.string s.name, .int .i64 s.depth, .int .i64 s.low, .int .i64 s.high, .int .i64 s.len, .slice Al s.lines.length cl, .int .i64 s.pipe, .int .i64 s.arbor, .int .i64 s.purch, .int .i64 s.most, .int .i64 s.brake, .slice Ai s.items.length ci, .slice Ab s.bricks.length cb] ∧ Blk w9 (w.heap.size + 1) 57 #[.string x.name, .int .i64 x.pos, .int .i64 x.width, .int .i64 x.wt, .int .i64 x.hang, .int .i64 x.front, .int .i64 x.back] ∧ Blk w9 (w.heap.size + 1 + 1) 26 #[.string ⟨#[]⟩, .int .i64 0, .int .i64 0, .int .i64 0, .int .i64 0, .slice none 0 0, .int .i64 0, .int .i64 0, .int .i64 0, .int .i64 0, .int .i64 0, .slice none 0 0, .slice none 0 0] ∧ Below w.heap.size w w9) := hS9
              clear z0 z1 z2 z3 z4 z5 z6 z7 z8 z9 z10 z11 z12 i0 i1 i2 i3 i4 i5 i6
              have j0 := fun o => (hS9.2.1.alloc o).cell 0
              have j1 := fun o => (hS9.2.1.alloc o).cell 1
              have j2 := fun o => (hS9.2.1.alloc o).cell 2
              have j3 := fun o => (hS9.2.1.alloc o).cell 3
              have j4 := fun o => (hS9.2.1.alloc o).cell 4
              have j5 := fun o => (hS9.2.1.alloc o).cell 5
              have j6 := fun o => (hS9.2.1.alloc o).cell 6
              simp only [List.getElem?_toArray, List.getElem?_cons_succ, List.getElem?_cons_zero] at j0 j1 j2 j3 j4 j5 j6
              have HO1 := Lib.hid r1
              have HO3 := Lib.hid r3
              have HO2 := Lib.hid ((r2.alloc (.cells #[.string s.name, .int .i64 s.depth, .int .i64 s.low, .int .i64 s.high, .int .i64 s.len, .slice A1 s.lines.length k1, .int .i64 s.pipe, .int .i64 s.arbor, .int .i64 s.purch, .int .i64 s.most, .int .i64 s.brake, .slice A2 s.items.length k2, .slice A3 s.bricks.length k3] 26)).alloc (.cells #[.string x.name, .int .i64 x.pos, .int .i64 x.width, .int .i64 x.wt, .int .i64 x.hang, .int .i64 x.front, .int .i64 x.back] 57))
              have hbx := (Blk.new w9 26 #[.string s.name, .int .i64 s.depth, .int .i64 s.low, .int .i64 s.high, .int .i64 s.len, .slice A1 s.lines.length k1, .int .i64 s.pipe, .int .i64 s.arbor, .int .i64 s.purch, .int .i64 s.most, .int .i64 s.brake, .slice A2 s.items.length k2, .slice A3 s.bricks.length k3]).alloc (.cells #[.string x.name, .int .i64 x.pos, .int .i64 x.width, .int .i64 x.wt, .int .i64 x.hang, .int .i64 x.front, .int .i64 x.back] 57)
              have HBx := Lib.hid hbx
              have hnew := World.news_of_block (Blk.new (w9.alloc (.cells #[.string s.name, .int .i64 s.depth, .int .i64 s.low, .int .i64 s.high, .int .i64 s.len, .slice A1 s.lines.length k1, .int .i64 s.pipe, .int .i64 s.arbor, .int .i64 s.purch, .int .i64 s.most, .int .i64 s.brake, .slice A2 s.items.length k2, .slice A3 s.bricks.length k3] 26)) 57 #[.string x.name, .int .i64 x.pos, .int .i64 x.width, .int .i64 x.wt, .int .i64 x.hang, .int .i64 x.front, .int .i64 x.back])
              rw [World.size_alloc] at hnew
              have Hnew := Lib.hid hnew
              have hb10 : Below w9.heap.size w9 ((w9.alloc (.cells #[.string s.name, .int .i64 s.depth, .int .i64 s.low, .int .i64 s.high, .int .i64 s.len, .slice A1 s.lines.length k1, .int .i64 s.pipe, .int .i64 s.arbor, .int .i64 s.purch, .int .i64 s.most, .int .i64 s.brake, .slice A2 s.items.length k2, .slice A3 s.bricks.length k3] 26)).alloc (.cells #[.string x.name, .int .i64 x.pos, .int .i64 x.width, .int .i64 x.wt, .int .i64 x.hang, .int .i64 x.front, .int .i64 x.back] 57)) := ((Below.refl _ _).alloc (Nat.le_refl _) _).alloc (by simp) _
              have HB10 := Lib.hid hb10
              have hsz : w8.heap.size ≤ ((w9.alloc (.cells #[.string s.name, .int .i64 s.depth, .int .i64 s.low, .int .i64 s.high, .int .i64 s.len, .slice A1 s.lines.length k1, .int .i64 s.pipe, .int .i64 s.arbor, .int .i64 s.purch, .int .i64 s.most, .int .i64 s.brake, .slice A2 s.items.length k2, .slice A3 s.bricks.length k3] 26)).alloc (.cells #[.string x.name, .int .i64 x.pos, .int .i64 x.width, .int .i64 x.wt, .int .i64 x.hang, .int .i64 x.front, .int .i64 x.back] 57)).heap.size := by have := hb9.size; simp; omega
              have Hw8 := Lib.hid HS.out.2.2.2.size
              obtain ⟨iI, hiI, hzI0, hzI1, hzI2⟩ := info_parts info_item
              clear hS9 hcp hb9 r1 r2 r3 hbx hnew hb10 HS HW8
              go_upto_region 13 with (at_builtin; refine wpList_append_own _ rfl _ _ 23 rfl w8.heap.size 57 iI (.agg #[.string ⟨#[]⟩, .int .i64 0, .int .i64 0, .int .i64 0, .int .i64 0, .int .i64 0, .int .i64 0]) 7 64 Tryz.underlying23 hiI hzI0 hzI1 hzI2 rfl (by decide) _ _ _ rfl HO2.out ⟨w9.heap.size + 1, 0, none⟩ 1 1 [.string x.name, .int .i64 x.pos, .int .i64 x.width, .int .i64 x.wt, .int .i64 x.hang, .int .i64 x.front, .int .i64 x.back] rfl rfl Hnew.out (by simp [Value.oneCell']) (by unfold maxLen; omega) (by omega) hsz ?_; intro v' w11 hown' hgrow _; obtain ⟨g', cap', rfl⟩ := ownsRow_succ hown'; have hbk := HBx.out.kept hgrow (own_notB HO2.out HBx.out (by decide)); have HOw := Lib.hid hown'; have HGr := Lib.hid hgrow; have HBk := Lib.hid hbk; have yb := hbk.cell 11; have fb := hbk.frozen 11; simp only [List.getElem?_toArray, List.getElem?_cons_succ, List.getElem?_cons_zero] at yb; clear hown' hgrow hbk)
              have e12 : Blk (w11.setCell ⟨w9.heap.size, 11, none⟩ (.slice (some ⟨g', 0, none⟩) (s.items.length + 1) cap')) w9.heap.size 26 #[.string s.name, .int .i64 s.depth, .int .i64 s.low, .int .i64 s.high, .int .i64 s.len, .slice A1 s.lines.length k1, .int .i64 s.pipe, .int .i64 s.arbor, .int .i64 s.purch, .int .i64 s.most, .int .i64 s.brake, .slice (some ⟨g', 0, none⟩) (s.items.length + 1) cap', .slice A3 s.bricks.length k3] := HBk.out.set_ 11 _
              have z9 := HS9.out.2.2.1
              have hzl := z9.lt
              have z10' := z9.below HB10.out hzl
              have z11' := z10'.kept HGr.out (own_notB HO2.out z10' (by decide))
              have z12' := z11'.far (p := ⟨w9.heap.size, 11, none⟩) (by show w.heap.size + 1 + 1 ≠ w9.heap.size; omega) (.slice (some ⟨g', 0, none⟩) (s.items.length + 1) cap')
              have a1 := ownsRow_of HO1.out HB10.out
              have a3 := ownsRow_of HO3.out HB10.out
              have b1 := a1.kept HGr.out (own_row_none a1 fun r e c f hh => by
                obtain ⟨c', hc⟩ := own_at HO2.out e
                rw [hh] at hc
                injection hc with hc
                injection hc with _ hc _
                exact absurd hc (by decide))
              have b3 := a3.kept HGr.out (own_row_none a3 fun r e c f hh => by
                obtain ⟨c', hc⟩ := own_at HO2.out e
                rw [hh] at hc
                injection hc with hc
                injection hc with _ hc _
                exact absurd hc (by decide))
              have hg12 := HBk.out.setGrown 11 (.slice (some ⟨g', 0, none⟩) (s.items.length + 1) cap')
              have c1 := b1.kept hg12 (own_not b1 HBk.out (by decide))
              have c2 := HOw.out.kept hg12 (own_not HOw.out HBk.out (by decide))
              have c3 := b3.kept hg12 (own_not b3 HBk.out (by decide))
              have hB11 := (HS9.out.2.2.2.trans (HB10.out.mono HS9.out.2.2.2.size)).grown HGr.out (HS9.out.2.2.2.trans (HB10.out.mono HS9.out.2.2.2.size)).size (fun k e => Nat.le_trans Hw8.out (HO2.out.lt k e).1)
              have hB12 := hB11.setCell (p := ⟨w9.heap.size, 11, none⟩) HS9.out.2.2.2.size (.slice (some ⟨g', 0, none⟩) (s.items.length + 1) cap')
              have hth := blk_there z12' (show (#[.string s.name, .int .i64 s.depth, .int .i64 s.low, .int .i64 s.high, .int .i64 s.len, .slice A1 s.lines.length k1, .int .i64 s.pipe, .int .i64 s.arbor, .int .i64 s.purch, .int .i64 s.most, .int .i64 s.brake, .slice (some ⟨g', 0, none⟩) (s.items.length + 1) cap', .slice A3 s.bricks.length k3] : Array Value).size = 13 from rfl)
              have HR := Lib.hid (World.rangeAt_setCells_same (w11.setCell ⟨w9.heap.size, 11, none⟩ (.slice (some ⟨g', 0, none⟩) (s.items.length + 1) cap')) (w.heap.size + 1 + 1) 0 [.string s.name, .int .i64 s.depth, .int .i64 s.low, .int .i64 s.high, .int .i64 s.len, .slice A1 s.lines.length k1, .int .i64 s.pipe, .int .i64 s.arbor, .int .i64 s.purch, .int .i64 s.most, .int .i64 s.brake, .slice (some ⟨g', 0, none⟩) (s.items.length + 1) cap', .slice A3 s.bricks.length k3] hth)
              have hgz := grown_setCells (w.heap.size + 1 + 1) [.string s.name, .int .i64 s.depth, .int .i64 s.low, .int .i64 s.high, .int .i64 s.len, .slice A1 s.lines.length k1, .int .i64 s.pipe, .int .i64 s.arbor, .int .i64 s.purch, .int .i64 s.most, .int .i64 s.brake, .slice (some ⟨g', 0, none⟩) (s.items.length + 1) cap', .slice A3 s.bricks.length k3] 0 (w11.setCell ⟨w9.heap.size, 11, none⟩ (.slice (some ⟨g', 0, none⟩) (s.items.length + 1) cap'))
              have f1 := c1.kept hgz (own_not c1 z12' (by decide))
              have f2 := c2.kept hgz (own_not c2 z12' (by decide))
              have f3 := c3.kept hgz (own_not c3 z12' (by decide))
              have hBz := below_setG hB12 (show w.heap.size ≤ w.heap.size + 1 + 1 by omega) [.string s.name, .int .i64 s.depth, .int .i64 s.low, .int .i64 s.high, .int .i64 s.len, .slice A1 s.lines.length k1, .int .i64 s.pipe, .int .i64 s.arbor, .int .i64 s.purch, .int .i64 s.most, .int .i64 s.brake, .slice (some ⟨g', 0, none⟩) (s.items.length + 1) cap', .slice A3 s.bricks.length k3] 0
              refine wp_region_lit ?_
              refine wpList_load_mid rfl 26 (.tmp 6) rfl w9.heap.size 0 rfl [.string s.name, .int .i64 s.depth, .int .i64 s.low, .int .i64 s.high, .int .i64 s.len, .slice A1 s.lines.length k1, .int .i64 s.pipe, .int .i64 s.arbor, .int .i64 s.purch, .int .i64 s.most, .int .i64 s.brake, .slice (some ⟨g', 0, none⟩) (s.items.length + 1) cap', .slice A3 s.bricks.length k3] _ (blk_range e12) Tryz.underlying26 rfl (by kernel_rfl) ?_
              refine wpList_store_mid rfl 26 (.tmp 4) (.tmp 50) rfl (w.heap.size + 1 + 1) 0 #[.string s.name, .int .i64 s.depth, .int .i64 s.low, .int .i64 s.high, .int .i64 s.len, .slice A1 s.lines.length k1, .int .i64 s.pipe, .int .i64 s.arbor, .int .i64 s.purch, .int .i64 s.most, .int .i64 s.brake, .slice (some ⟨g', 0, none⟩) (s.items.length + 1) cap', .slice A3 s.bricks.length k3] rfl rfl hth (by kernel_rfl) (by simp [Value.oneCell']) ?_
              have F1 := Lib.hid f1
              have F2 := Lib.hid f2
              have F3 := Lib.hid f3
              have HBz := Lib.hid hBz
              clear f1 f2 f3 hBz hgz hth hB12 hB11 c1 c2 c3 hg12 b1 b3 a1 a3 z12' z11' z10' z9 hzl e12 HS9
              generalize World.setCells (w11.setCell ⟨w9.heap.size, 11, none⟩ (.slice (some ⟨g', 0, none⟩) (s.items.length + 1) cap')) (w.heap.size + 1 + 1) 0 [.string s.name, .int .i64 s.depth, .int .i64 s.low, .int .i64 s.high, .int .i64 s.len, .slice A1 s.lines.length k1, .int .i64 s.pipe, .int .i64 s.arbor, .int .i64 s.purch, .int .i64 s.most, .int .i64 s.brake, .slice (some ⟨g', 0, none⟩) (s.items.length + 1) cap', .slice A3 s.bricks.length k3] = W13 at *
              simp only [Act.put, List.setIfInBounds_toArray, List.set_cons_zero, List.set_cons_succ]
              go_wp2_with fail
              have p0 := HR.out 0 _ rfl
              have p1 := HR.out 1 _ rfl
              have p2 := HR.out 2 _ rfl
              have p3 := HR.out 3 _ rfl
              have p4 := HR.out 4 _ rfl
              have p5 := HR.out 5 _ rfl
              have p6 := HR.out 6 _ rfl
              have p7 := HR.out 7 _ rfl
              have p8 := HR.out 8 _ rfl
              have p9 := HR.out 9 _ rfl
              have p10 := HR.out 10 _ rfl
              have p11 := HR.out 11 _ rfl
              have p12 := HR.out 12 _ rfl
              simp only [Nat.zero_add] at p0 p1 p2 p3 p4 p5 p6 p7 p8 p9 p10 p11 p12
              refine bodyPost_ret (v := .tuple #[.agg #[.string s.name, .int .i64 s.depth, .int .i64 s.low, .int .i64 s.high, .int .i64 s.len, .slice A1 s.lines.length k1, .int .i64 s.pipe, .int .i64 s.arbor, .int .i64 s.purch, .int .i64 s.most, .int .i64 s.brake, .slice (some ⟨g', 0, none⟩) (s.items.length + 1) cap', .slice A3 s.bricks.length k3], .int .i64 0]) (by simp [results, Tryz.results27, go_sem, p0, p1, p2, p3, p4, p5, p6, p7, p8, p9, p10, p11, p12]) rfl ?_
              refine ⟨HBz.out, .inl ⟨_, rfl, ⟨A1, k1, some ⟨g', 0, none⟩, cap', A3, k3, by simp [setVal, addS], RowAt.of_own F1.out, ?_, Flat.of_own F3.out⟩, addS_ok Hok.out Hfl.out (fun y hy he => ?_) Ha.out Hi.out Hap.out⟩⟩
              · have h := Flat.of_own F2.out
                unfold ItemsAt
                show Flat W13 W13.heap.size (.slice (some ⟨g', 0, none⟩) (s.items ++ [x]).length cap') (s.items ++ [x]).length ((s.items ++ [x]).flatMap ItemT.cells)
                rw [List.length_append, List.flatMap_append]
                exact h
              · have h := List.any_eq_false.1 Hany.out y hy
                unfold sameB at h
                rw [he] at h
                exact h (beq_self_eq_true _)
end Go.Proofs.YtpnongeibpkbhaaGreatDoor
