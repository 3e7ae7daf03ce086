/- Parts of the proof, laid into one text: NumK, NumL, NumQ, NumM, NumR, NumS, NumT. -/
import Derived.BigQuiet
import Derived.Deep.AppendLies
import Derived.Deep.Draws
import Derived.Deep.LoopGhost
import Derived.Deep.QuietTactic
import Derived.Laws.Bits64b
import Derived.Lib.Hide
import Derived.Maps.AppendAt
import Derived.Outline
import Derived.Shelf.Abstract
import Derived.StillTail
import Derived.StillTailTactics
import Derived.Test.YtknkhnahflmjiaaGreatDoorB1
import Derived.Test.YtknkhnahflmjiaaGreatDoorE1
import Derived.Test.YtknkhnahflmjiaaGreatDoorE2
import Derived.Test.YtknkhnahflmjiaaGreatDoorProg
import Derived.WalkKit
import Derived.WalkLawsBesides
import Derived.WalkSpells

namespace Go.Proofs.YtknkhnahflmjiaaGreatDoor
open Go.RowKit Go.Shelf
def ExactAt (w : World) (v : Value) (q : Rat) : Prop := ∃ n1 s1 n2 s2,v = .agg #[.bool n1,s1,.bool n2,s2] ∧ NumAt w (.agg #[.bool n1,s1]) q.num ∧ NumAt w (.agg #[.bool n2,s2]) (q.den : Int)
theorem ExactAt.grow {w w' : World} {v : Value} {q : Rat} (h : ExactAt w v q) (hb : Below w.heap.size w w') : ExactAt w' v q := by
 obtain ⟨n1,s1,n2,s2,h1,h2,h3⟩ := h
 exact ⟨n1,s1,n2,s2,h1,h2.grow hb,h3.grow hb⟩
theorem ExactAt.setBox {w : World} {v : Value} {q : Rat} {D : Nat} {t : TypeId} {cs : Array Value} (h : ExactAt w v q) (hD : Blk w D t cs) (ht : t ≠ 232) (i : Nat) (x : Value) : ExactAt (w.setCell ⟨D,i,none⟩ x) v q := by
 obtain ⟨n1,s1,n2,s2,h1,h2,h3⟩ := h
 exact ⟨n1,s1,n2,s2,h1,h2.setBox hD ht i x,h3.setBox hD ht i x⟩
theorem ExactAt.kept {w w' : World} {v : Value} {q : Rat} {row : Option Nat} {t : TypeId} (h : ExactAt w v q) (hgr : w.grownBy w' row) (hg : ∀ g,row = some g → ∃ cs r,w.heap[g]? = some (.cells cs t r)) (ht : t ≠ 232) : ExactAt w' v q := by
 obtain ⟨n1,s1,n2,s2,h1,h2,h3⟩ := h
 exact ⟨n1,s1,n2,s2,h1,h2.kept hgr hg ht,h3.kept hgr hg ht⟩
theorem ExactAt.form {w : World} {v : Value} {q : Rat} (h : ExactAt w v q) : ∃ n1 A1 l1 c1 n2 A2 l2 c2,v = .agg #[.bool n1,.slice A1 l1 c1,.bool n2,.slice A2 l2 c2] ∧ NumAt w (.agg #[.bool n1,.slice A1 l1 c1]) q.num ∧ NumAt w (.agg #[.bool n2,.slice A2 l2 c2]) (q.den : Int) := by
 obtain ⟨n1,s1,n2,s2,rfl,h2,h3⟩ := h
 obtain ⟨n1,A1,l1,c1,e1,-⟩ := h2.form
 obtain ⟨n2,A2,l2,c2,e2,-⟩ := h3.form
 simp only [Value.agg.injEq,Array.mk.injEq,List.cons.injEq,and_true] at e1 e2
 obtain ⟨e11,e12⟩ := e1
 obtain ⟨e21,e22⟩ := e2
 subst e12 e22
 exact ⟨_,A1,l1,c1,_,A2,l2,c2,rfl,h2,h3⟩
def MakesE (q : Rat) (w : World) (e : Ending) (w' : World) : Prop := Below w.heap.size w w' ∧ ∃ v,e = .returned v ∧ ExactAt w' v q
def gE (q : Rat) : GPost := ⟨fun v => ∃ n1 A1 l1 c1 n2 A2 l2 c2,v = .agg #[.bool n1,.slice A1 l1 c1,.bool n2,.slice A2 l2 c2],fun v w => ExactAt w v q,⟨.agg #[.bool false,.slice none 0 0,.bool false,.slice none 0 0],false,none,0,0,false,none,0,0,rfl⟩,fun _ _ _ hb h => ExactAt.grow h hb,false⟩
theorem MakesE.g {P : Program} {f : FuncId} {args : Array Value} {w : World} {q : Rat} (h : Calls P f args w (MakesE q w)) : Calls P f args w fun e w' => ∃ v,e = .returned v ∧ Below w.heap.size w w' ∧ (gE q).σ v ∧ (gE q).φ v w' :=
 h.mono fun _ _ ⟨hb,v,he,hN⟩ => ⟨v,he,hb,(by obtain ⟨n1,A1,l1,c1,n2,A2,l2,c2,h1,_,_⟩ := hN.form;exact ⟨n1,A1,l1,c1,n2,A2,l2,c2,h1⟩),hN⟩
theorem ExactAt.stored {w : World} {v : Value} {q : Rat} {D : Nat} {cs : Array Value} (h : ExactAt w v q) (hD : Blk w D 223 cs) (x0 x1 x2 x3 : Value) : ExactAt ((((w.setCell ⟨D,0,none⟩ x0).setCell ⟨D,1,none⟩ x1).setCell ⟨D,2,none⟩ x2).setCell ⟨D,3,none⟩ x3) v q :=
 (((h.setBox hD (by decide) 0 x0).setBox (hD.set_ 0 x0) (by decide) 1 x1).setBox ((hD.set_ 0 x0).set_ 1 x1) (by decide) 2 x2).setBox (((hD.set_ 0 x0).set_ 1 x1).set_ 2 x2) (by decide) 3 x3
theorem below_stored {B D : Nat} {w0 w : World} (h : Below B w0 w) (hD : B ≤ D) (x0 x1 x2 x3 : Value) : Below B w0 ((((w.setCell ⟨D,0,none⟩ x0).setCell ⟨D,1,none⟩ x1).setCell ⟨D,2,none⟩ x2).setCell ⟨D,3,none⟩ x3) :=
 (((h.setCell (p := ⟨D,0,none⟩) hD x0).setCell (p := ⟨D,1,none⟩) hD x1).setCell (p := ⟨D,2,none⟩) hD x2).setCell (p := ⟨D,3,none⟩) hD x3
set_option maxRecDepth 100000 in
set_option maxHeartbeats 1000000 in
theorem bmWhole (n : Int) (w : World) (h0 : -4611686018427387904 ≤ n) (h1 : n ≤ 4611686018427387904) : Calls Tryz.prog 192 #[.int .i64 n] w (MakesE ((n : Int) : Rat) w) := by
 have HD := Lib.hid (Blk.new w 223 #[.bool false,.slice none 0 0,.bool false,.slice none 0 0])
 have HB := Lib.hid ((Below.refl _ w).alloc (Nat.le_refl _) (.cells #[.bool false,.slice none 0 0,.bool false,.slice none 0 0] 223))
 go_enter Tryz.func192,Tryz.ntmps192
 go_wp2_with fail
 generalize w.alloc (.cells #[.bool false,.slice none 0 0,.bool false,.slice none 0 0] 223) = W at *
 refine (bmInt n W h0 h1).mono ?_
 rintro e w5 ⟨hb5,v5,rfl,hN5⟩
 obtain ⟨n5,A5,l5,c5,rfl,-⟩ := hN5.form
 have HN5 := Lib.hid hN5
 have HD5 := Lib.hid (HD.out.below hb5 HD.out.lt)
 have HB5 := Lib.hid (HB.out.trans (hb5.mono HB.out.size))
 clear hb5 hN5 HD HB
 go_wp2_with fail
 refine (bmInt 1 w5 (by decide) (by decide)).mono ?_
 rintro e w6 ⟨hb6,v6,rfl,hN6⟩
 obtain ⟨n6,A6,l6,c6,rfl,-⟩ := hN6.form
 have HN6 := Lib.hid hN6
 have HN56 := Lib.hid (HN5.out.grow hb6)
 have HD6 := Lib.hid (HD5.out.below hb6 HD5.out.lt)
 have HB6 := Lib.hid (HB5.out.trans (hb6.mono HB5.out.size))
 have q0 := HD6.out.cell 0
 have q1 := HD6.out.cell 1
 have q2 := HD6.out.cell 2
 have q3 := HD6.out.cell 3
 have f0 := HD6.out.frozen 0
 have f1 := HD6.out.frozen 1
 have f2 := HD6.out.frozen 2
 have f3 := HD6.out.frozen 3
 simp only [List.getElem?_toArray,List.getElem?_cons_succ,List.getElem?_cons_zero] at q0 q1 q2 q3
 clear hb6 hN6 HD5 HB5 HN5
 go_wp2_with fail
 refine bodyPost_ret (v := .agg #[.bool n5,.slice A5 l5 c5,.bool n6,.slice A6 l6 c6]) (by simp [results,Tryz.results192,go_sem,q0,q1,q2,q3]) rfl ?_
 have hE : ExactAt w6 (.agg #[.bool n5,.slice A5 l5 c5,.bool n6,.slice A6 l6 c6]) ((n : Int) : Rat) := ⟨_,_,_,_,rfl,by rw [Rat.num_intCast];exact HN56.out,by rw [Rat.den_intCast];exact HN6.out⟩
 exact ⟨below_stored HB6.out (Nat.le_refl _) _ _ _ _,_,rfl,hE.stored HD6.out _ _ _ _⟩
end Go.Proofs.YtknkhnahflmjiaaGreatDoor

namespace Go.Proofs.YtknkhnahflmjiaaGreatDoor
open Go.RowKit Go.Shelf
theorem NumAt.parts {w : World} {nn : Bool} {s : Value} {z : Int} (h : NumAt w (.agg #[.bool nn,s]) z) : WAt w s z.natAbs ∧ (z ≠ 0 → (nn = true ↔ z < 0)) := by
 obtain ⟨neg,s',m,e,h2,h3⟩ := h
 simp only [Value.agg.injEq,Array.mk.injEq,List.cons.injEq,and_true,Value.bool.injEq] at e
 obtain ⟨e1,e2⟩ := e
 subst e1 e2
 have hm : z.natAbs = m := by rw [h3];cases nn <;> simp
 rw [hm]
 refine ⟨h2,fun hz => ?_⟩
 cases nn <;> simp at h3 ⊢ <;> omega
theorem low_is {n d : Int} (hd : d ≠ 0) (hn : n ≠ 0) {nn : Bool} (h : nn = true ↔ ((n < 0 ∧ 0 < d) ∨ (0 < n ∧ d < 0))) :
  (Rat.divInt n d).num = if nn = true then -((n.natAbs / Nat.gcd n.natAbs d.natAbs : Nat) : Int) else ((n.natAbs / Nat.gcd n.natAbs d.natAbs : Nat) : Int) := by
 have h1 := (low_num (n := n) hd).1
 have h2 := low_neg hd hn
 rw [← h1]
 by_cases e : nn = true
 ·have := h2.2 (h.1 e)
  rw [if_pos e]
  omega
 ·have h3 : ¬ (Rat.divInt n d).num < 0 := fun h3 => e (h.2 (h2.1 h3))
  rw [if_neg e]
  omega
theorem boxes_set {w : World} {D1 D2 D3 : Nat} {t1 t2 t3 : TypeId} {a1 b1 a2 b2 : Value} {cs3 : Array Value} (h1 : Blk w D1 t1 #[a1,b1]) (h2 : Blk w D2 t2 #[a2,b2]) (h3 : Blk w D3 t3 cs3) (h12 : D1 ≠ D2) (h13 : D1 ≠ D3) (h23 : D2 ≠ D3) (x1 y1 x2 y2 : Value) :
  Blk ((((w.setCell ⟨D1,0,none⟩ x1).setCell ⟨D1,1,none⟩ y1).setCell ⟨D2,0,none⟩ x2).setCell ⟨D2,1,none⟩ y2) D1 t1 #[x1,y1] ∧ Blk ((((w.setCell ⟨D1,0,none⟩ x1).setCell ⟨D1,1,none⟩ y1).setCell ⟨D2,0,none⟩ x2).setCell ⟨D2,1,none⟩ y2) D2 t2 #[x2,y2] ∧
   Blk ((((w.setCell ⟨D1,0,none⟩ x1).setCell ⟨D1,1,none⟩ y1).setCell ⟨D2,0,none⟩ x2).setCell ⟨D2,1,none⟩ y2) D3 t3 cs3 :=
 ⟨(((h1.set_ 0 x1).set_ 1 y1).far (p := ⟨D2,0,none⟩) h12 x2).far (p := ⟨D2,1,none⟩) h12 y2,(((h2.far (p := ⟨D1,0,none⟩) (Ne.symm h12) x1).far (p := ⟨D1,1,none⟩) (Ne.symm h12) y1).set_ 0 x2).set_ 1 y2,
  (((h3.far (p := ⟨D1,0,none⟩) (Ne.symm h13) x1).far (p := ⟨D1,1,none⟩) (Ne.symm h13) y1).far (p := ⟨D2,0,none⟩) (Ne.symm h23) x2).far (p := ⟨D2,1,none⟩) (Ne.symm h23) y2⟩
theorem NumAt.set2 {w : World} {v : Value} {z : Int} {D1 D2 : Nat} {t1 t2 : TypeId} {cs1 cs2 : Array Value} (h : NumAt w v z) (h1 : Blk w D1 t1 cs1) (h2 : Blk w D2 t2 cs2) (h12 : D1 ≠ D2) (ht1 : t1 ≠ 232) (ht2 : t2 ≠ 232) (x1 y1 x2 y2 : Value) :
  NumAt ((((w.setCell ⟨D1,0,none⟩ x1).setCell ⟨D1,1,none⟩ y1).setCell ⟨D2,0,none⟩ x2).setCell ⟨D2,1,none⟩ y2) v z :=
 (((h.setBox h1 ht1 0 x1).setBox (h1.set_ 0 x1) ht1 1 y1).setBox ((h2.far (p := ⟨D1,0,none⟩) (Ne.symm h12) x1).far (p := ⟨D1,1,none⟩) (Ne.symm h12) y1) ht2 0 x2).setBox (((h2.far (p := ⟨D1,0,none⟩) (Ne.symm h12) x1).far (p := ⟨D1,1,none⟩) (Ne.symm h12) y1).set_ 0 x2) ht2 1 y2
theorem divInt_zero (d : Int) : Rat.divInt 0 d = ((0 : Int) : Rat) := by rw [Rat.zero_divInt];rfl
set_option maxRecDepth 100000 in
set_option maxHeartbeats 4000000 in
theorem bmLowest (v u : Value) (n d : Int) (K : Nat) (w : World) (hv : NumAt w v n) (hu : NumAt w u d) (hd0 : d ≠ 0) (hK : K ≤ 400000) (hx : n.natAbs < 4294967296 ^ K) (hy : d.natAbs < 4294967296 ^ K) :
  Calls Tryz.prog 239 #[v,u] w (MakesE (Rat.divInt n d) w) := by
 obtain ⟨n1,A1,l1,c1,rfl,-⟩ := hv.form
 obtain ⟨n2,A2,l2,c2,rfl,-⟩ := hu.form
 have HV := Lib.hid hv
 have HU := Lib.hid hu
 have HBx := Lib.hid (three_boxes w 221 221 223 #[.bool n1,.slice A1 l1 c1] #[.bool n2,.slice A2 l2 c2] #[.bool false,.slice none 0 0,.bool false,.slice none 0 0])
 have HK1 : Hid (K ≤ 500000) := by unfold Hid;omega
 have HX := Lib.hid hx
 have HY := Lib.hid hy
 have HD0 := Lib.hid hd0
 clear hx hy hK hd0 hv hu
 go_enter Tryz.func239,Tryz.ntmps239
 go_wp2_with fail
 generalize ((w.alloc (.cells #[.bool n1,.slice A1 l1 c1] 221)).alloc (.cells #[.bool n2,.slice A2 l2 c2] 221)).alloc (.cells #[.bool false,.slice none 0 0,.bool false,.slice none 0 0] 223) = W3 at *
 obtain ⟨B1,B2,B3,HbW⟩ := HBx.out
 have q10 := B1.cell 0
 have q11 := B1.cell 1
 simp only [List.getElem?_toArray,List.getElem?_cons_succ,List.getElem?_cons_zero] at q10 q11
 have B1 := Lib.hid B1
 have B2 := Lib.hid B2
 have B3 := Lib.hid B3
 have HbW := Lib.hid HbW
 clear HBx
 go_wp2_with fail
 refine (bmSign _ n W3 (HV.out.grow HbW.out)).mono ?_
 rintro e w4 ⟨rfl,hb4⟩
 have B14 := Lib.hid (B1.out.below hb4 B1.out.lt)
 have B24 := Lib.hid (B2.out.below hb4 B2.out.lt)
 have B34 := Lib.hid (B3.out.below hb4 B3.out.lt)
 have Hb4 := Lib.hid (HbW.out.trans (hb4.mono HbW.out.size))
 clear B1 B2 B3 HbW hb4 q10 q11
 by_cases hn : n = 0
 ·have hs : signZ n = 0 := by unfold signZ;rw [if_pos hn]
  rw [hs]
  have HE : Hid (Rat.divInt n d = ((0 : Int) : Rat)) := by unfold Hid;rw [hn,divInt_zero]
  clear hn hs
  go_wp2_with fail
  refine (bmWhole 0 w4 (by decide) (by decide)).mono ?_
  rintro e w5 ⟨hb5,v5,rfl,hE5⟩
  obtain ⟨n5,A5,l5,c5,n6,A6,l6,c6,rfl,-,-⟩ := hE5.form
  have HE5 := Lib.hid hE5
  have HD6 := Lib.hid (B34.out.below hb5 B34.out.lt)
  have HB6 := Lib.hid (Hb4.out.trans (hb5.mono Hb4.out.size))
  have q0 := HD6.out.cell 0
  have q1 := HD6.out.cell 1
  have q2 := HD6.out.cell 2
  have q3 := HD6.out.cell 3
  have f0 := HD6.out.frozen 0
  have f1 := HD6.out.frozen 1
  have f2 := HD6.out.frozen 2
  have f3 := HD6.out.frozen 3
  simp only [List.getElem?_toArray,List.getElem?_cons_succ,List.getElem?_cons_zero] at q0 q1 q2 q3
  clear hE5 hb5 B14 B24 B34 Hb4
  go_wp2_with fail
  refine bodyPost_ret (v := .agg #[.bool n5,.slice A5 l5 c5,.bool n6,.slice A6 l6 c6]) (by simp [results,Tryz.results239,go_sem,q0,q1,q2,q3]) rfl ?_
  exact ⟨below_stored HB6.out (by omega) _ _ _ _,_,rfl,by rw [HE.out];exact HE5.out.stored HD6.out _ _ _ _⟩
 ·have hs : (signZ n == 0) = false := by
   unfold signZ
   rw [if_neg hn]
   split <;> rfl
  have HN := Lib.hid hn
  have q20 := B24.out.cell 0
  have q21 := B24.out.cell 1
  simp only [List.getElem?_toArray,List.getElem?_cons_succ,List.getElem?_cons_zero] at q20 q21
  clear hn
  generalize signZ n = sn at *
  cases n2
  case' true =>
   have HDn : Hid (d < 0) := (HU.out.parts.2 HD0.out).1 rfl
   have q10 := B14.out.cell 0
   have q11 := B14.out.cell 1
   simp only [List.getElem?_toArray,List.getElem?_cons_succ,List.getElem?_cons_zero] at q10 q11
   go_wp2_with fail
   have u10 := HeldB.cell q10
   have u11 := HeldB.cell q11
   have u20 := HeldB.cell q20
   have u21 := HeldB.cell q21
   clear q10 q11 q20 q21
   refine wp_region_grow 4 (fun i => if i = 1 then some (gN (-n)) else if i = 3 then some (gN (-d)) else none) (by kernel_rfl) (by kernel_rfl) ?_
   simp only [List.take_succ_cons,List.take_zero,List.drop_succ_cons,List.drop_zero]
   refine wpG_quiet 1 (by kernel_rfl) (by rfl) (by decide) ?_
   simp only [List.take_succ_cons,List.take_zero,List.drop_succ_cons,List.drop_zero]
   repeat (go_big_quiet_step (fail))
   refine wpQuiet_nil ?_
   refine wpG_call rfl rfl (fun w1 hb1 _ => ⟨243,#[.agg #[.bool n1,.slice A1 l1 c1]],by go_simp,MakesN.g (bmOpp _ n w1 (HV.out.grow (Hb4.out.trans (hb1.mono Hb4.out.size))))⟩) ?_
   rintro v1 ⟨n5,A5,l5,c5,rfl⟩
   simp only [Act.put,List.setIfInBounds_toArray,List.set_cons_zero,List.set_cons_succ]
   refine wpG_quiet 1 (by kernel_rfl) (by rfl) (by decide) ?_
   simp only [List.take_succ_cons,List.take_zero,List.drop_succ_cons,List.drop_zero]
   repeat (go_big_quiet_step (fail))
   refine wpQuiet_nil ?_
   refine wpG_call rfl rfl (fun w1 hb1 _ => ⟨243,#[.agg #[.bool true,.slice A2 l2 c2]],by go_simp,MakesN.g (bmOpp _ d w1 (HU.out.grow (Hb4.out.trans (hb1.mono Hb4.out.size))))⟩) ?_
   rintro v2 ⟨n6,A6,l6,c6,rfl⟩
   simp only [Act.put,List.setIfInBounds_toArray,List.set_cons_zero,List.set_cons_succ]
   refine wpG_nil ?_
   intro w5 hb5 hF
   have h13 : NumAt w5 (.agg #[.bool n5,.slice A5 l5 c5]) (-n) := hF 13
   have h15 : NumAt w5 (.agg #[.bool n6,.slice A6 l6 c6]) (-d) := hF 15
   have B15 := B14.out.below hb5 B14.out.lt
   have B25 := B24.out.below hb5 B24.out.lt
   have B35 := B34.out.below hb5 B34.out.lt
   have Hb5 := Lib.hid (Hb4.out.trans (hb5.mono Hb4.out.size))
   have p10 := B15.cell 0
   have p11 := B15.cell 1
   have p20 := B25.cell 0
   have p21 := B25.cell 1
   have f10 := B15.frozen 0
   have f11 := B15.frozen 1
   have f20 := B25.frozen 0
   have f21 := B25.frozen 1
   simp only [List.getElem?_toArray,List.getElem?_cons_succ,List.getElem?_cons_zero] at p10 p11 p20 p21
   have B15 := Lib.hid B15
   have B25 := Lib.hid B25
   have B35 := Lib.hid B35
   have H13 := Lib.hid h13
   have H15 := Lib.hid h15
   clear hF u10 u11 u20 u21 h13 h15 hb5
   go_wp2_with fail
   have hBs := boxes_set B15.out B25.out B35.out (by omega) (by omega) (by omega) (.bool n5) (.slice A5 l5 c5) (.bool n6) (.slice A6 l6 c6)
   have hN5 := H13.out.set2 B15.out B25.out (by omega) (by decide) (by decide) (.bool n5) (.slice A5 l5 c5) (.bool n6) (.slice A6 l6 c6)
   have hN6 := H15.out.set2 B15.out B25.out (by omega) (by decide) (by decide) (.bool n5) (.slice A5 l5 c5) (.bool n6) (.slice A6 l6 c6)
   have hB6 := (((Hb5.out.setCell (p := ⟨w.heap.size,0,none⟩) (Nat.le_refl _) (.bool n5)).setCell (p := ⟨w.heap.size,1,none⟩) (Nat.le_refl _) (.slice A5 l5 c5)).setCell (p := ⟨w.heap.size + 1,0,none⟩) (Nat.le_succ _) (.bool n6)).setCell (p := ⟨w.heap.size + 1,1,none⟩) (Nat.le_succ _) (.slice A6 l6 c6)
   have hS : n5 = true ↔ (n < 0 ∧ 0 < d) ∨ (0 < n ∧ d < 0) := by
    have h1 := H13.out.parts.2 (by have := HN.out;omega)
    have h2 := HDn.out
    rw [h1]
    omega
   have hP := hN5.parts.1
   have hQ := hN6.parts.1
   rw [Int.natAbs_neg] at hP hQ
   generalize (((w5.setCell ⟨w.heap.size,0,none⟩ (.bool n5)).setCell ⟨w.heap.size,1,none⟩ (.slice A5 l5 c5)).setCell ⟨w.heap.size + 1,0,none⟩ (.bool n6)).setCell ⟨w.heap.size + 1,1,none⟩ (.slice A6 l6 c6) = W6 at *
   have K10 := hBs.1.cell 0
   have K11 := hBs.1.cell 1
   have K21 := hBs.2.1.cell 1
   simp only [List.getElem?_toArray,List.getElem?_cons_succ,List.getElem?_cons_zero] at K10 K11 K21
   have B36 := Lib.hid hBs.2.2
   have HB6 := Lib.hid hB6
   have HP := Lib.hid hP
   have HQ := Lib.hid hQ
   have HS := Lib.hid hS
   clear hBs hN5 hN6 hB6 hS hP hQ p10 p11 p20 p21 f10 f11 f20 f21 B15 B25 B35 H13 H15 Hb5 B14 B24 B34 Hb4 HV HU HDn
  case' false =>
   have HDn : Hid (0 < d) := by
    have h1 := HU.out.parts.2 HD0.out
    have h2 := HD0.out
    have h3 : ¬ d < 0 := fun h => by cases h1.2 h
    unfold Hid
    omega
   have K10 := B14.out.cell 0
   have K11 := B14.out.cell 1
   have K21 := B24.out.cell 1
   simp only [List.getElem?_toArray,List.getElem?_cons_succ,List.getElem?_cons_zero] at K10 K11 K21
   have hS : n1 = true ↔ (n < 0 ∧ 0 < d) ∨ (0 < n ∧ d < 0) := by
    have h1 := HV.out.parts.2 HN.out
    have h2 := HDn.out
    rw [h1]
    omega
   have HP := Lib.hid (HV.out.parts.1.grow Hb4.out)
   have HQ := Lib.hid (HU.out.parts.1.grow Hb4.out)
   have HS := Lib.hid hS
   have B36 := B34
   have HB6 := Hb4
   clear hS B14 B24 B34 Hb4 HV HU HDn q21
   go_wp2_with fail
   clear q20
   obtain ⟨W6,rfl⟩ : ∃ W,W = w4 := ⟨_,rfl⟩
   obtain ⟨n5,rfl⟩ : ∃ n5,n5 = n1 := ⟨_,rfl⟩
   obtain ⟨A5,rfl⟩ : ∃ A5,A5 = A1 := ⟨_,rfl⟩
   obtain ⟨l5,rfl⟩ : ∃ l5,l5 = l1 := ⟨_,rfl⟩
   obtain ⟨c5,rfl⟩ : ∃ c5,c5 = c1 := ⟨_,rfl⟩
   obtain ⟨A6,rfl⟩ : ∃ A6,A6 = A2 := ⟨_,rfl⟩
   obtain ⟨l6,rfl⟩ : ∃ l6,l6 = l2 := ⟨_,rfl⟩
   obtain ⟨c6,rfl⟩ : ∃ c6,c6 = c2 := ⟨_,rfl⟩
  all_goals
   refine (bmCommon _ _ n.natAbs d.natAbs K W6 HP.out HQ.out HK1.out HX.out HY.out (Int.natAbs_pos.2 HN.out) (Int.natAbs_pos.2 HD0.out)).mono ?_
   rintro e w7 ⟨hb7,v7,rfl,hW7⟩
   have hg0 : 0 < Nat.gcd n.natAbs d.natAbs := Nat.gcd_pos_of_pos_left _ (Int.natAbs_pos.2 HN.out)
   have hgK : Nat.gcd n.natAbs d.natAbs < 4294967296 ^ K := Nat.lt_of_le_of_lt (Nat.gcd_le_left _ (Int.natAbs_pos.2 HN.out)) HX.out
   have hF := low_is HD0.out HN.out HS.out
   have hF2 := (low_num (n := n) HD0.out).2
   generalize Nat.gcd n.natAbs d.natAbs = G at *
   have HG0 := Lib.hid hg0
   have HGK := Lib.hid hgK
   have HF := Lib.hid hF
   have HF2 := Lib.hid hF2
   have HW7 := Lib.hid hW7
   have HP7 := Lib.hid (HP.out.grow hb7)
   have HQ7 := Lib.hid (HQ.out.grow hb7)
   have HD7 := Lib.hid (B36.out.below hb7 B36.out.lt)
   have HB7 := Lib.hid (HB6.out.trans (hb7.mono HB6.out.size))
   obtain ⟨⟨A7,c7,L7,rfl,-⟩,-⟩ := hW7
   have k10 := (hb7.cell (p := ⟨w.heap.size,0,none⟩) (World.block_lt_of_cell? _ _ K10)).trans K10
   have k11 := (hb7.cell (p := ⟨w.heap.size,1,none⟩) (World.block_lt_of_cell? _ _ K11)).trans K11
   have k21 := (hb7.cell (p := ⟨w.heap.size + 1,1,none⟩) (World.block_lt_of_cell? _ _ K21)).trans K21
   clear K10 K11 K21 hg0 hgK hF hF2 hb7 HP HQ B36 HB6 HN HD0 HS
   go_wp2_with fail
   have u10 := HeldB.cell k10
   have u11 := HeldB.cell k11
   have u21 := HeldB.cell k21
   clear k10 k11 k21
   refine wp_region_grow 13 (fun i => if i = 5 then some (gW (n.natAbs / G)) else if i = 10 then some (gW (d.natAbs / G)) else none) (by kernel_rfl) (by kernel_rfl) ?_
   simp only [List.take_succ_cons,List.take_zero,List.drop_succ_cons,List.drop_zero]
   refine wpG_quiet 5 (by kernel_rfl) (by rfl) (by decide) ?_
   simp only [List.take_succ_cons,List.take_zero,List.drop_succ_cons,List.drop_zero]
   repeat (go_big_quiet_step (fail))
   refine wpQuiet_nil ?_
   refine wpG_call rfl rfl (fun w1 hb1 _ => ⟨268,#[.slice A5 l5 c5,.slice A7 L7.length c7],by go_simp,MakesW.g (bmDiv _ _ n.natAbs G K w1 (HP7.out.grow hb1) (HW7.out.grow hb1) HK1.out HX.out HGK.out HG0.out)⟩) ?_
   rintro v1 ⟨A8,l8,c8,rfl⟩
   simp only [Act.put,List.setIfInBounds_toArray,List.set_cons_zero,List.set_cons_succ]
   refine wpG_quiet 4 (by kernel_rfl) (by rfl) (by decide) ?_
   simp only [List.take_succ_cons,List.take_zero,List.drop_succ_cons,List.drop_zero]
   repeat (go_big_quiet_step (fail))
   refine wpQuiet_nil ?_
   refine wpG_call rfl rfl (fun w1 hb1 _ => ⟨268,#[.slice A6 l6 c6,.slice A7 L7.length c7],by go_simp,MakesW.g (bmDiv _ _ d.natAbs G K w1 (HQ7.out.grow hb1) (HW7.out.grow hb1) HK1.out HY.out HGK.out HG0.out)⟩) ?_
   rintro v2 ⟨A9,l9,c9,rfl⟩
   simp only [Act.put,List.setIfInBounds_toArray,List.set_cons_zero,List.set_cons_succ]
   refine wpG_quiet 2 (by kernel_rfl) (by rfl) (by decide) ?_
   simp only [List.take_succ_cons,List.take_zero,List.drop_succ_cons,List.drop_zero]
   repeat (go_big_quiet_step (fail))
   refine wpQuiet_nil ?_
   refine wpG_nil ?_
   intro w8 hb8 hF
   have h26 : WAt w8 (.slice A8 l8 c8) (n.natAbs / G) := hF 26
   have h31 : WAt w8 (.slice A9 l9 c9) (d.natAbs / G) := hF 31
   have H26 := Lib.hid h26
   have H31 := Lib.hid h31
   have HD8 := Lib.hid (HD7.out.below hb8 HD7.out.lt)
   have HB8 := Lib.hid (HB7.out.trans (hb8.mono HB7.out.size))
   have q0 := HD8.out.cell 0
   have q1 := HD8.out.cell 1
   have q2 := HD8.out.cell 2
   have q3 := HD8.out.cell 3
   have f0 := HD8.out.frozen 0
   have f1 := HD8.out.frozen 1
   have f2 := HD8.out.frozen 2
   have f3 := HD8.out.frozen 3
   simp only [List.getElem?_toArray,List.getElem?_cons_succ,List.getElem?_cons_zero] at q0 q1 q2 q3
   clear hF u10 u11 u21 h26 h31 hb8 HD7 HB7
   go_wp2_with fail
   refine bodyPost_ret (v := .agg #[.bool n5,.slice A8 l8 c8,.bool false,.slice A9 l9 c9]) (by simp [results,Tryz.results239,go_sem,q0,q1,q2,q3]) rfl ?_
   have hE : ExactAt w8 (.agg #[.bool n5,.slice A8 l8 c8,.bool false,.slice A9 l9 c9]) (Rat.divInt n d) :=
    ⟨n5,_,false,_,rfl,⟨n5,_,_,rfl,H26.out,HF.out⟩,⟨false,_,_,rfl,H31.out,by rw [HF2.out];rfl⟩⟩
   exact ⟨below_stored HB8.out (by omega) _ _ _ _,_,rfl,hE.stored HD8.out _ _ _ _⟩
end Go.Proofs.YtknkhnahflmjiaaGreatDoor

namespace Go.Proofs.YtknkhnahflmjiaaGreatDoor
open Go.RowKit Go.Shelf
def fracOk (q : Rat) : Bool := decide (q.num.natAbs ≤ 1152921504606846976) && decide (q.den ≤ 1152921504606846976)
def fracV (q : Rat) : Value := if fracOk q = true then .tuple #[.agg #[.int .i64 q.num,.int .i64 (q.den : Int)],.int .i64 0] else .tuple #[.agg #[.int .i64 0,.int .i64 0],.int .i64 5]
def frX (x : Rat) (i : Int) : Nat := if 1 ≤ i then x.num.natAbs else 0
def frY (x : Rat) (i : Int) : Nat := if 2 ≤ i then x.den else 0
def frC (x : Rat) (i : Int) : Prop := (1 ≤ i → x.num.natAbs ≤ 1152921504606846976) ∧ (2 ≤ i → x.den ≤ 1152921504606846976)
structure FrSt (w wr : World) (b1 b2 : Bool) (s1 s2 : Value) (x0 x1 : Nat) : Prop where
 a : Blk wr w.heap.size 223 #[.bool b1,s1,.bool b2,s2]
 r : Blk wr (w.heap.size + 1) 23 #[.int .i64 0,.int .i64 0]
 n : Blk wr (w.heap.size + 1 + 1) 269 #[.int .u64 (x0 : Int),.int .u64 (x1 : Int)]
 b : Below w.heap.size w wr
theorem FrSt.alloc {w wr : World} {b1 b2 : Bool} {s1 s2 : Value} {x0 x1 : Nat} (h : FrSt w wr b1 b2 s1 s2 x0 x1) (o : Obj) : FrSt w (wr.alloc o) b1 b2 s1 s2 x0 x1 :=
 ⟨h.a.alloc o,h.r.alloc o,h.n.alloc o,h.b.alloc h.b.size o⟩
theorem FrSt.set0 {w wr : World} {b1 b2 : Bool} {s1 s2 : Value} {x0 x1 : Nat} (h : FrSt w wr b1 b2 s1 s2 x0 x1) (y : Nat) : FrSt w (wr.setCell ⟨w.heap.size + 1 + 1,0,none⟩ (.int .u64 (y : Int))) b1 b2 s1 s2 y x1 :=
 ⟨h.a.far (p := ⟨w.heap.size + 1 + 1,0,none⟩) (by show w.heap.size ≠ w.heap.size + 1 + 1;omega) _,h.r.far (p := ⟨w.heap.size + 1 + 1,0,none⟩) (by show w.heap.size + 1 ≠ w.heap.size + 1 + 1;omega) _,h.n.set_ 0 _,h.b.setCell (p := ⟨w.heap.size + 1 + 1,0,none⟩) (by show w.heap.size ≤ w.heap.size + 1 + 1;omega) _⟩
theorem FrSt.set1 {w wr : World} {b1 b2 : Bool} {s1 s2 : Value} {x0 x1 : Nat} (h : FrSt w wr b1 b2 s1 s2 x0 x1) (y : Nat) : FrSt w (wr.setCell ⟨w.heap.size + 1 + 1,1,none⟩ (.int .u64 (y : Int))) b1 b2 s1 s2 x0 y :=
 ⟨h.a.far (p := ⟨w.heap.size + 1 + 1,1,none⟩) (by show w.heap.size ≠ w.heap.size + 1 + 1;omega) _,h.r.far (p := ⟨w.heap.size + 1 + 1,1,none⟩) (by show w.heap.size + 1 ≠ w.heap.size + 1 + 1;omega) _,h.n.set_ 1 _,h.b.setCell (p := ⟨w.heap.size + 1 + 1,1,none⟩) (by show w.heap.size ≤ w.heap.size + 1 + 1;omega) _⟩
theorem FrSt.drew {w wr : World} {b1 b2 : Bool} {s1 s2 : Value} {x0 x1 : Nat} (h : FrSt w wr b1 b2 s1 s2 x0 x1) : FrSt w wr.drew b1 b2 s1 s2 x0 x1 := ⟨h.a,h.r,h.n,h.b.drew⟩
theorem WAt.long {w : World} {A : Option Addr} {l c z : Nat} (h : WAt w (.slice A l c) z) (hl : 2 < l) : 18446744073709551616 ≤ z := by
 obtain ⟨⟨A',c',L,e,_,_,hLt,rfl⟩,-⟩ := h
 injection e with _ e2 _
 subst e2
 have h1 := wv_ge hLt (fun e => by rw [e] at hl;simp at hl)
 have h2 : 4294967296 ^ 2 ≤ 4294967296 ^ (L.length - 1) := Nat.pow_le_pow_right (by decide) (by omega)
 omega
theorem WAt.words {w : World} {A : Option Addr} {l c z : Nat} (h : WAt w (.slice A l c) z) : ∃ L,L.length = l ∧ Wok L ∧ wv L = z ∧ ∀ k,k < l → ∃ b off,A = some ⟨b,off,none⟩ ∧ w.cell? ⟨b,off + k,none⟩ = some (.int .u32 ((wAt L k : Nat) : Int)) := by
 obtain ⟨⟨A',c',L,e,hl,hLo,_,rfl⟩,-⟩ := h
 injection e with e1 e2 e3
 subst e1 e2 e3
 obtain ⟨_,_,e,_,_,hcell⟩ := hl.open_
 injection e with e1 _ e2
 subst e1 e2
 refine ⟨L,rfl,hLo,rfl,fun k hk => ?_⟩
 obtain ⟨b,off,rfl,-,hx⟩ := hcell k hk
 exact ⟨b,off,rfl,by rw [wAt_get hk];exact hx k hk⟩
theorem frac_no {x : Rat} (h : 1152921504606846976 < x.num.natAbs ∨ 1152921504606846976 < x.den) : fracV x = .tuple #[.agg #[.int .i64 0,.int .i64 0],.int .i64 5] := by
 unfold fracV
 rw [if_neg]
 unfold fracOk
 simp only [Bool.and_eq_true,decide_eq_true_eq]
 omega
theorem frac_yes {x : Rat} (h1 : x.num.natAbs ≤ 1152921504606846976) (h2 : x.den ≤ 1152921504606846976) : fracV x = .tuple #[.agg #[.int .i64 x.num,.int .i64 (x.den : Int)],.int .i64 0] := by
 unfold fracV
 rw [if_pos]
 unfold fracOk
 simp only [Bool.and_eq_true,decide_eq_true_eq]
 exact ⟨h1,h2⟩
theorem or_word {f : Nat → Nat} (hf : ∀ i,f i < 4294967296) {k : Nat} (hk : k ≤ 1) : bits .or .u64 ((wsum f k : Nat) : Int) (IntKind.u64.wrap (((f k : Nat) : Int) * 2 ^ (32 * k))) = ((wsum f (k + 1) : Nat) : Int) := by
 have h0 := hf 0
 have h1 := hf 1
 have ew : ∀ n : Int,IntKind.u64.wrap n = n % 18446744073709551616 := fun n => by simp [IntKind.wrap,IntKind.bits,IntKind.signed]
 obtain rfl | rfl : k = 0 ∨ k = 1 := by omega
 ·have e : IntKind.u64.wrap (((f 0 : Nat) : Int) * 2 ^ (32 * 0)) = ((f 0 : Nat) : Int) := by rw [ew,Nat.mul_zero,Int.pow_zero,Int.mul_one];omega
  have e0 : wsum f 0 = 0 := rfl
  rw [e,e0,bits_or_u64_nat 0 (f 0) (by decide) (by omega)]
  show (((0 ||| f 0 : Nat)) : Int) = ((0 + 4294967296 ^ 0 * f 0 : Nat) : Int)
  rw [Nat.zero_or,Nat.pow_zero,Nat.one_mul,Nat.zero_add]
 ·have e : IntKind.u64.wrap (((f 1 : Nat) : Int) * 2 ^ (32 * 1)) = ((4294967296 * f 1 : Nat) : Int) := by rw [ew];omega
  have e2 : wsum f 1 = f 0 := by show 0 + 4294967296 ^ 0 * f 0 = _;rw [Nat.pow_zero,Nat.one_mul,Nat.zero_add]
  rw [e,e2,bits_or_u64_nat _ _ (by omega) (by omega)]
  show _ = ((wsum f 1 + 4294967296 ^ 1 * f 1 : Nat) : Int)
  have h := Nat.two_pow_add_eq_or_of_lt (i := 32) (b := f 0) (by omega) (f 1)
  have e3 : (2 : Nat) ^ 32 = 4294967296 := by decide
  rw [e3] at h
  rw [e2,Nat.or_comm,← h,Nat.pow_one,Nat.add_comm]
set_option maxRecDepth 100000 in
set_option maxHeartbeats 4000000 in
theorem bmFrac (v : Value) (x : Rat) (w : World) (hv : ExactAt w v x) : Calls Tryz.prog 191 #[v] w fun e w' => e = .returned (fracV x) ∧ Below w.heap.size w w' := by
 obtain ⟨b1,A1,l1,c1,b2,A2,l2,c2,rfl,hx1,hx2⟩ := hv.form
 have HX1 := Lib.hid hx1
 have HX2 := Lib.hid hx2
 clear hv hx1 hx2
 go_enter Tryz.func191,Tryz.ntmps191
 go_wp2_with fail
 have HSt : Hid (FrSt w (((w.alloc (.cells #[.bool b1,.slice A1 l1 c1,.bool b2,.slice A2 l2 c2] 223)).alloc (.cells #[.int .i64 0,.int .i64 0] 23)).alloc (.cells #[.int .u64 0,.int .u64 0] 269)) b1 b2 (.slice A1 l1 c1) (.slice A2 l2 c2) (frX x 0) (frY x 0)) := by
  obtain ⟨h1,h2,h3,h4⟩ := three_boxes w 223 23 269 #[.bool b1,.slice A1 l1 c1,.bool b2,.slice A2 l2 c2] #[.int .i64 0,.int .i64 0] #[.int .u64 0,.int .u64 0]
  exact ⟨h1,h2,h3,h4⟩
 have i0 : ∀ w',(Instr.index 270 (.agg #[.bool b1,.slice A1 l1 c1,.bool b2,.slice A2 l2 c2]) (.int .i64 0)).run Tryz.prog w' = .ok (.agg #[.bool b1,.slice A1 l1 c1]) w' := fun _ => by kernel_rfl
 have i1 : ∀ w',(Instr.index 270 (.agg #[.bool b1,.slice A1 l1 c1,.bool b2,.slice A2 l2 c2]) (.int .i64 1)).run Tryz.prog w' = .ok (.agg #[.bool b2,.slice A2 l2 c2]) w' := fun _ => by kernel_rfl
 go_loopw [15] (fun ix wr => ∃ i : Int,(i = 0 ∨ i = 1 ∨ i = 2) ∧ ix = .int .i64 i ∧ Hid (FrSt w wr b1 b2 (.slice A1 l1 c1) (.slice A2 l2 c2) (frX x i) (frY x i)) ∧ Hid (frC x i)) (fun ix _ => (2 - intOf ix).toNat)
 case atStart => exact ⟨0,.inl rfl,rfl,HSt,⟨fun h => absurd h (by decide),fun h => absurd h (by decide)⟩⟩
 case round =>
  clear HSt
  obtain ⟨i,hi,rfl,HSt,HC⟩ := hrel
  rcases hi with rfl | rfl | rfl
  ·have HW : Hid (WAt wr (.slice A1 l1 c1) x.num.natAbs) := HX1.out.parts.1.grow HSt.out.b
   have HSt1 := Lib.hid (HSt.out.alloc (.cells #[.bool b1,.slice A1 l1 c1] 221))
   have HW1 := Lib.hid (HW.out.grow ((Below.refl _ wr).alloc (Nat.le_refl _) (.cells #[.bool b1,.slice A1 l1 c1] 221)))
   clear HSt HW
   by_cases hl : 2 < l1
   ·have q0 := HSt1.out.r.cell 0
    have q1 := HSt1.out.r.cell 1
    have f0 := HSt1.out.r.frozen 0
    have f1 := HSt1.out.r.frozen 1
    simp only [List.getElem?_toArray,List.getElem?_cons_succ,List.getElem?_cons_zero] at q0 q1
    have HV : Hid (fracV x = .tuple #[.agg #[.int .i64 0,.int .i64 0],.int .i64 5]) := frac_no (.inl (Nat.lt_of_lt_of_le (by decide) (HW1.out.long hl)))
    have hli : 2 < (l1 : Int) := by omega
    clear hl
    go_wp2_with fail
    generalize wr.alloc (.cells #[.bool b1,.slice A1 l1 c1] 221) = W1 at *
    refine bodyPost_ret (v := .tuple #[.agg #[.int .i64 0,.int .i64 0],.int .i64 5]) (by simp [results,Tryz.results191,go_sem,q0,q1]) rfl ?_
    exact ⟨by rw [HV.out],(HSt1.out.b.setCell (p := ⟨w.heap.size + 1,0,none⟩) (Nat.le_succ _) _).setCell (p := ⟨w.heap.size + 1,1,none⟩) (Nat.le_succ _) _⟩
   ·have hli : (l1 : Int) ≤ 2 := by omega
    obtain ⟨L,hL1,hL2,hL3,hL4⟩ := HX1.out.parts.1.words
    have HL2 := Lib.hid hL2
    have HL3 := Lib.hid hL3
    have HL4 := Lib.hid hL4
    have hl2 : l1 ≤ 2 := by omega
    have HLl := Lib.hid hL1
    clear hl hL2 hL3 hL4 hL1
    go_wp2_with fail
    obtain ⟨wo,rfl⟩ : ∃ wo : World,wo = wr := ⟨_,rfl⟩
    obtain ⟨W1,hW1⟩ : ∃ W1,wo.alloc (.cells #[.bool b1,.slice A1 l1 c1] 221) = W1 := ⟨_,rfl⟩
    rw [hW1] at HSt1 HW1
    simp only [hW1]
    clear hW1
    go_loopw [27] (fun kx wr => ∃ k : Nat,k ≤ l1 ∧ kx = .int .i64 k ∧ Hid (FrSt w wr b1 b2 (.slice A1 l1 c1) (.slice A2 l2 c2) (wsum (wAt L) k) (frY x 0)) ) (fun kx _ => l1 - (intOf kx).toNat)
    case atStart => exact ⟨0,Nat.zero_le _,rfl,HSt1⟩
    case round =>
     clear HSt1
     obtain ⟨k,hk,rfl,HSt⟩ := hrel
     have k0 : (0 : Int) ≤ (k : Int) := Int.natCast_nonneg _
     by_cases hkl : k < l1
     ·have k1 : (k : Int) < (l1 : Int) := by omega
      have k2 : (32 * (k : Int)).toNat = 32 * k := by omega
      obtain ⟨bb,oo,rfl,hx⟩ := HL4.out k hkl
      have hx := (HSt.out.b.cell (p := ⟨bb,oo + k,none⟩) (World.block_lt_of_cell? _ _ hx)).trans hx
      have x0 : wAt L k < 4294967296 := wAt_lt HL2.out k
      have HOr := Lib.hid (or_word (f := wAt L) (fun i => wAt_lt HL2.out i) (show k ≤ 1 by omega))
      have z1 := HSt.out.n.cell 0
      have z2 := HSt.out.n.frozen 0
      simp only [List.getElem?_toArray,List.getElem?_cons_zero] at z1
      obtain ⟨S2,hS2⟩ : ∃ S2,wsum (wAt L) (k + 1) = S2 := ⟨_,rfl⟩
      rw [hS2] at HOr
      have HS2 := Lib.hid hS2
      clear hS2
      generalize wsum (wAt L) k = S1 at *
      generalize wAt L k = x1 at *
      have x2 : (x1 : Int) < 4294967296 := by omega
      have x3 : (0 : Int) ≤ (x1 : Int) := Int.natCast_nonneg _
      go_wp2_with fail
      refine wp_region_tail 10 (by kernel_rfl) (by kernel_rfl) ?_
      simp only [List.take_succ_cons,List.take_zero,List.drop_succ_cons,List.drop_zero]
      repeat (go_big_quiet_step (fail))
      refine wpQuiet_nil ?_
      go_wp2_with fail
      rw [HOr.out]
      have HS5 := Lib.hid ((HSt.out.set0 S2).drew)
      clear HSt z1 z2 hx
      go_roundw
      case rel => exact ⟨k + 1,by omega,by go_num,by rw [HS2.out];exact HS5⟩
      case measure => simp [intOf];omega
     ·obtain rfl : k = l1 := by omega
      have HZ : Hid (wsum (wAt L) k = x.num.natAbs) := by
       unfold Hid
       rw [← HLl.out]
       exact HL3.out
      rw [HZ.out] at HSt
      have z1 := HSt.out.n.cell 0
      simp only [List.getElem?_toArray,List.getElem?_cons_zero] at z1
      clear HZ HL2 HL3 HL4 HLl HW1
      by_cases hbig : 1152921504606846976 < x.num.natAbs
      ·have HV : Hid (fracV x = .tuple #[.agg #[.int .i64 0,.int .i64 0],.int .i64 5]) := frac_no (.inl hbig)
       have q0 := HSt.out.r.cell 0
       have q1 := HSt.out.r.cell 1
       have f0 := HSt.out.r.frozen 0
       have f1 := HSt.out.r.frozen 1
       simp only [List.getElem?_toArray,List.getElem?_cons_succ,List.getElem?_cons_zero] at q0 q1
       have hd : decide (1152921504606846976 < ((x.num.natAbs : Nat) : Int)) = true := decide_eq_true (by omega)
       have hd2 : decide (1152921504606846976 < x.num.natAbs) = true := decide_eq_true hbig
       clear hbig
       go_wp2_with fail
       refine bodyPost_ret (v := .tuple #[.agg #[.int .i64 0,.int .i64 0],.int .i64 5]) (by simp [results,Tryz.results191,go_sem,q0,q1]) rfl ?_
       exact ⟨by rw [HV.out],(HSt.out.b.setCell (p := ⟨w.heap.size + 1,0,none⟩) (Nat.le_succ _) _).setCell (p := ⟨w.heap.size + 1,1,none⟩) (Nat.le_succ _) _⟩
      ·have hd : decide (1152921504606846976 < ((x.num.natAbs : Nat) : Int)) = false := decide_eq_false (by omega)
       have hd2 : decide (1152921504606846976 < x.num.natAbs) = false := decide_eq_false hbig
       have HC5 : Hid (frC x 1) := ⟨fun _ => by omega,fun h => absurd h (by decide)⟩
       clear hbig
       go_wp2_with fail
       clear z1
       go_roundw
       case rel => exact ⟨1,.inr (.inl rfl),rfl,HSt,HC5⟩
       case measure => simp [intOf]
  ·have HW : Hid (WAt wr (.slice A2 l2 c2) x.den) := (Int.natAbs_natCast x.den) ▸ HX2.out.parts.1.grow HSt.out.b
   have HSt1 := Lib.hid (HSt.out.alloc (.cells #[.bool b2,.slice A2 l2 c2] 221))
   have HW1 := Lib.hid (HW.out.grow ((Below.refl _ wr).alloc (Nat.le_refl _) (.cells #[.bool b2,.slice A2 l2 c2] 221)))
   clear HSt HW
   by_cases hl : 2 < l2
   ·have q0 := HSt1.out.r.cell 0
    have q1 := HSt1.out.r.cell 1
    have f0 := HSt1.out.r.frozen 0
    have f1 := HSt1.out.r.frozen 1
    simp only [List.getElem?_toArray,List.getElem?_cons_succ,List.getElem?_cons_zero] at q0 q1
    have HV : Hid (fracV x = .tuple #[.agg #[.int .i64 0,.int .i64 0],.int .i64 5]) := frac_no (.inr (Nat.lt_of_lt_of_le (by decide) (HW1.out.long hl)))
    have hli : 2 < (l2 : Int) := by omega
    clear hl
    go_wp2_with fail
    generalize wr.alloc (.cells #[.bool b2,.slice A2 l2 c2] 221) = W1 at *
    refine bodyPost_ret (v := .tuple #[.agg #[.int .i64 0,.int .i64 0],.int .i64 5]) (by simp [results,Tryz.results191,go_sem,q0,q1]) rfl ?_
    exact ⟨by rw [HV.out],(HSt1.out.b.setCell (p := ⟨w.heap.size + 1,0,none⟩) (Nat.le_succ _) _).setCell (p := ⟨w.heap.size + 1,1,none⟩) (Nat.le_succ _) _⟩
   ·have hli : (l2 : Int) ≤ 2 := by omega
    obtain ⟨L,hL1,hL2,hL3,hL4⟩ := HX2.out.parts.1.words
    have HL2 := Lib.hid hL2
    have HL3 := Lib.hid hL3
    have HL4 := Lib.hid hL4
    have hl2 : l2 ≤ 2 := by omega
    have HLl := Lib.hid hL1
    clear hl hL2 hL3 hL4 hL1
    go_wp2_with fail
    obtain ⟨wo,rfl⟩ : ∃ wo : World,wo = wr := ⟨_,rfl⟩
    obtain ⟨W1,hW1⟩ : ∃ W1,wo.alloc (.cells #[.bool b2,.slice A2 l2 c2] 221) = W1 := ⟨_,rfl⟩
    rw [hW1] at HSt1 HW1
    simp only [hW1]
    clear hW1
    go_loopw [27] (fun kx wr => ∃ k : Nat,k ≤ l2 ∧ kx = .int .i64 k ∧ Hid (FrSt w wr b1 b2 (.slice A1 l1 c1) (.slice A2 l2 c2) (frX x 1) (wsum (wAt L) k)) ) (fun kx _ => l2 - (intOf kx).toNat)
    case atStart => exact ⟨0,Nat.zero_le _,rfl,HSt1⟩
    case round =>
     clear HSt1
     obtain ⟨k,hk,rfl,HSt⟩ := hrel
     have k0 : (0 : Int) ≤ (k : Int) := Int.natCast_nonneg _
     by_cases hkl : k < l2
     ·have k1 : (k : Int) < (l2 : Int) := by omega
      have k2 : (32 * (k : Int)).toNat = 32 * k := by omega
      obtain ⟨bb,oo,rfl,hx⟩ := HL4.out k hkl
      have hx := (HSt.out.b.cell (p := ⟨bb,oo + k,none⟩) (World.block_lt_of_cell? _ _ hx)).trans hx
      have x0 : wAt L k < 4294967296 := wAt_lt HL2.out k
      have HOr := Lib.hid (or_word (f := wAt L) (fun i => wAt_lt HL2.out i) (show k ≤ 1 by omega))
      have z1 := HSt.out.n.cell 1
      have z2 := HSt.out.n.frozen 1
      simp only [List.getElem?_toArray,List.getElem?_cons_succ,List.getElem?_cons_zero] at z1
      obtain ⟨S2,hS2⟩ : ∃ S2,wsum (wAt L) (k + 1) = S2 := ⟨_,rfl⟩
      rw [hS2] at HOr
      have HS2 := Lib.hid hS2
      clear hS2
      generalize wsum (wAt L) k = S1 at *
      generalize wAt L k = x1 at *
      have x2 : (x1 : Int) < 4294967296 := by omega
      have x3 : (0 : Int) ≤ (x1 : Int) := Int.natCast_nonneg _
      go_wp2_with fail
      refine wp_region_tail 10 (by kernel_rfl) (by kernel_rfl) ?_
      simp only [List.take_succ_cons,List.take_zero,List.drop_succ_cons,List.drop_zero]
      repeat (go_big_quiet_step (fail))
      refine wpQuiet_nil ?_
      go_wp2_with fail
      rw [HOr.out]
      have HS5 := Lib.hid ((HSt.out.set1 S2).drew)
      clear HSt z1 z2 hx
      go_roundw
      case rel => exact ⟨k + 1,by omega,by go_num,by rw [HS2.out];exact HS5⟩
      case measure => simp [intOf];omega
     ·obtain rfl : k = l2 := by omega
      have HZ : Hid (wsum (wAt L) k = x.den) := by
       unfold Hid
       rw [← HLl.out]
       exact HL3.out
      rw [HZ.out] at HSt
      have z1 := HSt.out.n.cell 1
      simp only [List.getElem?_toArray,List.getElem?_cons_succ,List.getElem?_cons_zero] at z1
      clear HZ HL2 HL3 HL4 HLl HW1
      by_cases hbig : 1152921504606846976 < x.den
      ·have HV : Hid (fracV x = .tuple #[.agg #[.int .i64 0,.int .i64 0],.int .i64 5]) := frac_no (.inr hbig)
       have q0 := HSt.out.r.cell 0
       have q1 := HSt.out.r.cell 1
       have f0 := HSt.out.r.frozen 0
       have f1 := HSt.out.r.frozen 1
       simp only [List.getElem?_toArray,List.getElem?_cons_succ,List.getElem?_cons_zero] at q0 q1
       have hd : decide (1152921504606846976 < ((x.den : Nat) : Int)) = true := decide_eq_true (by omega)
       have hd2 : decide (1152921504606846976 < x.den) = true := decide_eq_true hbig
       clear hbig
       go_wp2_with fail
       refine bodyPost_ret (v := .tuple #[.agg #[.int .i64 0,.int .i64 0],.int .i64 5]) (by simp [results,Tryz.results191,go_sem,q0,q1]) rfl ?_
       exact ⟨by rw [HV.out],(HSt.out.b.setCell (p := ⟨w.heap.size + 1,0,none⟩) (Nat.le_succ _) _).setCell (p := ⟨w.heap.size + 1,1,none⟩) (Nat.le_succ _) _⟩
      ·have hd : decide (1152921504606846976 < ((x.den : Nat) : Int)) = false := decide_eq_false (by omega)
       have hd2 : decide (1152921504606846976 < x.den) = false := decide_eq_false hbig
       have HC5 : Hid (frC x 2) := ⟨fun _ => HC.out.1 (by decide),fun _ => by omega⟩
       clear hbig
       go_wp2_with fail
       clear z1
       go_roundw
       case rel => exact ⟨2,.inr (.inr rfl),rfl,HSt,HC5⟩
       case measure => simp [intOf]
  ·have n0 := HSt.out.n.cell 0
   have n1 := HSt.out.n.cell 1
   simp only [List.getElem?_toArray,List.getElem?_cons_succ,List.getElem?_cons_zero] at n0 n1
   have m1 : ((frX x 2 : Nat) : Int) ≤ 1152921504606846976 := by have := HC.out.1 (by decide);show (((if (1 : Int) ≤ 2 then x.num.natAbs else 0 : Nat)) : Int) ≤ _;rw [if_pos (by decide)];omega
   have m2 : ((frY x 2 : Nat) : Int) ≤ 1152921504606846976 := by have := HC.out.2 (by decide);show (((if (2 : Int) ≤ 2 then x.den else 0 : Nat)) : Int) ≤ _;rw [if_pos (by decide)];omega
   have HV : Hid (fracV x = .tuple #[.agg #[.int .i64 x.num,.int .i64 ((frY x 2 : Nat) : Int)],.int .i64 0]) := frac_yes (HC.out.1 (by decide)) (HC.out.2 (by decide))
   have HN : Hid (x.num = if b1 = true then -((frX x 2 : Nat) : Int) else ((frX x 2 : Nat) : Int)) := by
    obtain ⟨neg,s',m,e,h2,h3⟩ := HX1.out
    simp only [Value.agg.injEq,Array.mk.injEq,List.cons.injEq,and_true,Value.bool.injEq] at e
    have hm : x.num.natAbs = m := by rw [h3];cases neg <;> simp
    show x.num = if b1 = true then -((x.num.natAbs : Nat) : Int) else ((x.num.natAbs : Nat) : Int)
    rw [e.1,hm]
    exact h3
   have m3 : (0 : Int) ≤ ((frX x 2 : Nat) : Int) := Int.natCast_nonneg _
   have m4 : (0 : Int) ≤ ((frY x 2 : Nat) : Int) := Int.natCast_nonneg _
   generalize ((frX x 2 : Nat) : Int) = X at *
   generalize ((frY x 2 : Nat) : Int) = Y at *
   cases b1
   ·have HA := HSt.out.alloc (.cells #[.int .i64 (X),.int .i64 Y] 23)
    have a0 := HA.a.cell 0
    have r0 := HA.r.cell 0
    have r1 := HA.r.cell 1
    have g0 := HA.r.frozen 0
    have g1 := HA.r.frozen 1
    simp only [List.getElem?_toArray,List.getElem?_cons_succ,List.getElem?_cons_zero] at a0 r0 r1
    have HA := Lib.hid HA
    go_wp2_with fail
    refine bodyPost_ret (v := .tuple #[.agg #[.int .i64 (X),.int .i64 Y],.int .i64 0]) (by simp [results,Tryz.results191,go_sem,r0,r1]) rfl ?_
    exact ⟨by rw [HV.out,HN.out];rfl,(HA.out.b.setCell (p := ⟨w.heap.size + 1,0,none⟩) (Nat.le_succ _) _).setCell (p := ⟨w.heap.size + 1,1,none⟩) (Nat.le_succ _) _⟩
   ·have HA := HSt.out.alloc (.cells #[.int .i64 (X),.int .i64 Y] 23)
    have a0 := HA.a.cell 0
    have r0 := HA.r.cell 0
    have r1 := HA.r.cell 1
    have g0 := HA.r.frozen 0
    have g1 := HA.r.frozen 1
    simp only [List.getElem?_toArray,List.getElem?_cons_succ,List.getElem?_cons_zero] at a0 r0 r1
    have HA := Lib.hid HA
    have HAn := HSt.out.alloc (.cells #[.int .i64 (-X),.int .i64 Y] 23)
    have a0n := HAn.a.cell 0
    have r0n := HAn.r.cell 0
    have r1n := HAn.r.cell 1
    have g0n := HAn.r.frozen 0
    have g1n := HAn.r.frozen 1
    simp only [List.getElem?_toArray,List.getElem?_cons_succ,List.getElem?_cons_zero] at a0n r0n r1n
    have HAn := Lib.hid HAn
    go_wp2_with fail
    refine bodyPost_ret (v := .tuple #[.agg #[.int .i64 (-X),.int .i64 Y],.int .i64 0]) (by simp [results,Tryz.results191,go_sem,r0n,r1n]) rfl ?_
    exact ⟨by rw [HV.out,HN.out];rfl,(HAn.out.b.setCell (p := ⟨w.heap.size + 1,0,none⟩) (Nat.le_succ _) _).setCell (p := ⟨w.heap.size + 1,1,none⟩) (Nat.le_succ _) _⟩
end Go.Proofs.YtknkhnahflmjiaaGreatDoor

namespace Go.Proofs.YtknkhnahflmjiaaGreatDoor
open Go.RowKit Go.Shelf
theorem up_pow {a K M : Nat} (h : a < 4294967296 ^ K) (hM : K ≤ M) : a < 4294967296 ^ M := Nat.lt_of_lt_of_le h (Nat.pow_le_pow_right (by decide) hM)
theorem den_abs {n K : Nat} (h : n < 4294967296 ^ K) : (n : Int).natAbs < 4294967296 ^ K := by rw [Int.natAbs_natCast];exact h
theorem abs_add {x y : Int} {K : Nat} (hx : x.natAbs < 4294967296 ^ K) (hy : y.natAbs < 4294967296 ^ K) : (x + y).natAbs < 4294967296 ^ (K + 1) := by
 have h := Int.natAbs_add_le x y
 rw [Nat.pow_succ]
 omega
set_option maxRecDepth 100000 in
set_option maxHeartbeats 4000000 in
theorem bmEPlus (v u : Value) (x y : Rat) (K M : Nat) (w : World) (hv : ExactAt w v x) (hu : ExactAt w u y) (hx : fits x K) (hy : fits y M) (hK : K + M + 1 ≤ 400000) :
  Calls Tryz.prog 193 #[v,u] w (MakesE (x + y) w) := by
 obtain ⟨pb1,pA1,pl1,pc1,pb2,pA2,pl2,pc2,rfl,hx1,hx2⟩ := hv.form
 obtain ⟨qb1,qA1,ql1,qc1,qb2,qA2,ql2,qc2,rfl,hy1,hy2⟩ := hu.form
 have HV := Lib.hid hv
 have HU := Lib.hid hu
 have HX := Lib.hid hx
 have HY := Lib.hid hy
 have HS1 := Lib.hid (abs_mul hx.1 (den_abs hy.2))
 have HS2 : Hid ((y.num * (x.den : Int)).natAbs < 4294967296 ^ (K + M)) := by
  unfold Hid
  rw [Nat.add_comm]
  exact abs_mul hy.1 (den_abs hx.2)
 have HS3 := Lib.hid (abs_add HS1.out HS2.out)
 have HS4 : Hid (((x.den : Int) * (y.den : Int)).natAbs < 4294967296 ^ (K + M + 1)) := up_pow (abs_mul (den_abs hx.2) (den_abs hy.2)) (Nat.le_succ _)
 have HD : Hid ((x.den : Int) * (y.den : Int) ≠ 0) := Int.mul_ne_zero (den_ne x) (den_ne y)
 have HE : Hid (Rat.divInt (x.num * (y.den : Int) + y.num * (x.den : Int)) ((x.den : Int) * (y.den : Int)) = x + y) := by
  unfold Hid
  rw [rat_add,Int.natCast_mul]
 have HX1 := Lib.hid hx1
 have HX2 := Lib.hid hx2
 have HY1 := Lib.hid hy1
 have HY2 := Lib.hid hy2
 have HK := Lib.hid hK
 have HBx := Lib.hid (three_boxes w 223 223 223 #[.bool pb1,.slice pA1 pl1 pc1,.bool pb2,.slice pA2 pl2 pc2] #[.bool qb1,.slice qA1 ql1 qc1,.bool qb2,.slice qA2 ql2 qc2] #[.bool false,.slice none 0 0,.bool false,.slice none 0 0])
 clear hv hu hx1 hx2 hy1 hy2 hx hy hK
 go_enter Tryz.func193,Tryz.ntmps193
 go_wp2_with fail
 generalize ((w.alloc (.cells #[.bool pb1,.slice pA1 pl1 pc1,.bool pb2,.slice pA2 pl2 pc2] 223)).alloc (.cells #[.bool qb1,.slice qA1 ql1 qc1,.bool qb2,.slice qA2 ql2 qc2] 223)).alloc (.cells #[.bool false,.slice none 0 0,.bool false,.slice none 0 0] 223) = W3 at *
 obtain ⟨B1,B2,B3,HbW⟩ := HBx.out
 have q10 := B1.cell 0
 have q11 := B1.cell 1
 have q12 := B1.cell 2
 have q13 := B1.cell 3
 have q20 := B2.cell 0
 have q21 := B2.cell 1
 have q22 := B2.cell 2
 have q23 := B2.cell 3
 simp only [List.getElem?_toArray,List.getElem?_cons_succ,List.getElem?_cons_zero] at q10 q11 q12 q13 q20 q21 q22 q23
 have u10 := HeldB.cell q10
 have u11 := HeldB.cell q11
 have u12 := HeldB.cell q12
 have u13 := HeldB.cell q13
 have u20 := HeldB.cell q20
 have u21 := HeldB.cell q21
 have u22 := HeldB.cell q22
 have u23 := HeldB.cell q23
 have B3 := Lib.hid B3
 have HbW := Lib.hid HbW
 clear HBx B1 B2 q10 q11 q12 q13 q20 q21 q22 q23
 refine wp_region_grow 17 (fun i => if i = 4 then some (gN (x.num * (y.den : Int))) else if i = 9 then some (gN (y.num * (x.den : Int))) else if i = 10 then some (gN (x.num * (y.den : Int) + y.num * (x.den : Int))) else if i = 15 then some (gN ((x.den : Int) * (y.den : Int))) else if i = 16 then some (gE (x + y)) else none) (by kernel_rfl) (by kernel_rfl) ?_
 simp only [List.take_succ_cons,List.take_zero,List.drop_succ_cons,List.drop_zero]
 refine wpG_quiet 4 (by kernel_rfl) (by rfl) (by decide) ?_
 simp only [List.take_succ_cons,List.take_zero,List.drop_succ_cons,List.drop_zero]
 repeat (go_big_quiet_step (fail))
 refine wpQuiet_nil ?_
 refine wpG_call rfl rfl ?_ ?_
 ·intro w1 hb1 hk
  have hb := HbW.out.trans (hb1.mono HbW.out.size)
  have hC := MakesN.g (bmTimes _ _ _ _ (K + M) w1 (HX1.out.grow hb) (HY2.out.grow hb) (by have := HK.out;omega) ((up_pow HX.out.1 (Nat.le_add_right K M))) ((up_pow (den_abs HY.out.2) (Nat.le_add_left M K))))
  exact ⟨240,#[.agg #[.bool pb1,.slice pA1 pl1 pc1],.agg #[.bool qb2,.slice qA2 ql2 qc2]],by go_simp,hC⟩
 rintro _ ⟨r9b,r9A,r9l,r9c,rfl⟩
 simp only [Act.put,List.setIfInBounds_toArray,List.set_cons_zero,List.set_cons_succ]
 refine wpG_quiet 4 (by kernel_rfl) (by rfl) (by decide) ?_
 simp only [List.take_succ_cons,List.take_zero,List.drop_succ_cons,List.drop_zero]
 repeat (go_big_quiet_step (fail))
 refine wpQuiet_nil ?_
 refine wpG_call rfl rfl ?_ ?_
 ·intro w1 hb1 hk
  have hb := HbW.out.trans (hb1.mono HbW.out.size)
  have hC := MakesN.g (bmTimes _ _ _ _ (K + M) w1 (HY1.out.grow hb) (HX2.out.grow hb) (by have := HK.out;omega) ((up_pow HY.out.1 (Nat.le_add_left M K))) ((up_pow (den_abs HX.out.2) (Nat.le_add_right K M))))
  exact ⟨240,#[.agg #[.bool qb1,.slice qA1 ql1 qc1],.agg #[.bool pb2,.slice pA2 pl2 pc2]],by go_simp,hC⟩
 rintro _ ⟨r14b,r14A,r14l,r14c,rfl⟩
 simp only [Act.put,List.setIfInBounds_toArray,List.set_cons_zero,List.set_cons_succ]
 refine wpG_call rfl rfl ?_ ?_
 ·intro w1 hb1 hk
  have hb := HbW.out.trans (hb1.mono HbW.out.size)
  have h9 : NumAt w1 (.agg #[.bool r9b,.slice r9A r9l r9c]) (x.num * (y.den : Int)) := hk 9 (by decide)
  have h14 : NumAt w1 (.agg #[.bool r14b,.slice r14A r14l r14c]) (y.num * (x.den : Int)) := hk 14 (by decide)
  have hC := MakesN.g (bmPlus _ _ _ _ (K + M) w1 h9 h14 (by have := HK.out;omega) HS1.out HS2.out)
  exact ⟨241,#[.agg #[.bool r9b,.slice r9A r9l r9c],.agg #[.bool r14b,.slice r14A r14l r14c]],by go_simp,hC⟩
 rintro _ ⟨r15b,r15A,r15l,r15c,rfl⟩
 simp only [Act.put,List.setIfInBounds_toArray,List.set_cons_zero,List.set_cons_succ]
 refine wpG_quiet 4 (by kernel_rfl) (by rfl) (by decide) ?_
 simp only [List.take_succ_cons,List.take_zero,List.drop_succ_cons,List.drop_zero]
 repeat (go_big_quiet_step (fail))
 refine wpQuiet_nil ?_
 refine wpG_call rfl rfl ?_ ?_
 ·intro w1 hb1 hk
  have hb := HbW.out.trans (hb1.mono HbW.out.size)
  have hC := MakesN.g (bmTimes _ _ _ _ (K + M) w1 (HX2.out.grow hb) (HY2.out.grow hb) (by have := HK.out;omega) ((up_pow (den_abs HX.out.2) (Nat.le_add_right K M))) ((up_pow (den_abs HY.out.2) (Nat.le_add_left M K))))
  exact ⟨240,#[.agg #[.bool pb2,.slice pA2 pl2 pc2],.agg #[.bool qb2,.slice qA2 ql2 qc2]],by go_simp,hC⟩
 rintro _ ⟨r20b,r20A,r20l,r20c,rfl⟩
 simp only [Act.put,List.setIfInBounds_toArray,List.set_cons_zero,List.set_cons_succ]
 refine wpG_call rfl rfl ?_ ?_
 ·intro w1 hb1 hk
  have hb := HbW.out.trans (hb1.mono HbW.out.size)
  have h15 : NumAt w1 (.agg #[.bool r15b,.slice r15A r15l r15c]) (x.num * (y.den : Int) + y.num * (x.den : Int)) := hk 15 (by decide)
  have h20 : NumAt w1 (.agg #[.bool r20b,.slice r20A r20l r20c]) ((x.den : Int) * (y.den : Int)) := hk 20 (by decide)
  have hC := MakesE.g (HE.out ▸ bmLowest _ _ _ _ (K + M + 1) w1 h15 h20 HD.out HK.out HS3.out HS4.out)
  exact ⟨239,#[.agg #[.bool r15b,.slice r15A r15l r15c],.agg #[.bool r20b,.slice r20A r20l r20c]],by go_simp,hC⟩
 rintro _ ⟨r21b1,r21A1,r21l1,r21c1,r21b2,r21A2,r21l2,r21c2,rfl⟩
 simp only [Act.put,List.setIfInBounds_toArray,List.set_cons_zero,List.set_cons_succ]
 refine wpG_nil ?_
 intro w8 hb8 hF
 have hL : ExactAt w8 (.agg #[.bool r21b1,.slice r21A1 r21l1 r21c1,.bool r21b2,.slice r21A2 r21l2 r21c2]) (x + y) := hF 21
 have HL := Lib.hid hL
 have HD8 := Lib.hid (B3.out.below hb8 B3.out.lt)
 have HB8 := Lib.hid (HbW.out.trans (hb8.mono HbW.out.size))
 have q0 := HD8.out.cell 0
 have q1 := HD8.out.cell 1
 have q2 := HD8.out.cell 2
 have q3 := HD8.out.cell 3
 have f0 := HD8.out.frozen 0
 have f1 := HD8.out.frozen 1
 have f2 := HD8.out.frozen 2
 have f3 := HD8.out.frozen 3
 simp only [List.getElem?_toArray,List.getElem?_cons_succ,List.getElem?_cons_zero] at q0 q1 q2 q3
 clear hF hL hb8 B3 HbW u10 u11 u12 u13 u20 u21 u22 u23
 go_wp2_with fail
 refine bodyPost_ret (v := .agg #[.bool r21b1,.slice r21A1 r21l1 r21c1,.bool r21b2,.slice r21A2 r21l2 r21c2]) (by simp [results,Tryz.results193,go_sem,q0,q1,q2,q3]) rfl ?_
 exact ⟨below_stored HB8.out (by omega) _ _ _ _,_,rfl,HL.out.stored HD8.out _ _ _ _⟩
set_option maxRecDepth 100000 in
set_option maxHeartbeats 4000000 in
theorem bmELess (v u : Value) (x y : Rat) (K M : Nat) (w : World) (hv : ExactAt w v x) (hu : ExactAt w u y) (hx : fits x K) (hy : fits y M) (hK : K + M + 1 ≤ 400000) :
  Calls Tryz.prog 195 #[v,u] w (MakesE (x - y) w) := by
 obtain ⟨pb1,pA1,pl1,pc1,pb2,pA2,pl2,pc2,rfl,hx1,hx2⟩ := hv.form
 obtain ⟨qb1,qA1,ql1,qc1,qb2,qA2,ql2,qc2,rfl,hy1,hy2⟩ := hu.form
 have HV := Lib.hid hv
 have HU := Lib.hid hu
 have HX := Lib.hid hx
 have HY := Lib.hid hy
 have HE : Hid (x + -y = x - y) := (Rat.sub_eq_add_neg x y).symm
 have HX1 := Lib.hid hx1
 have HX2 := Lib.hid hx2
 have HY1 := Lib.hid hy1
 have HY2 := Lib.hid hy2
 have HK := Lib.hid hK
 have HBx := Lib.hid (three_boxes w 223 223 223 #[.bool pb1,.slice pA1 pl1 pc1,.bool pb2,.slice pA2 pl2 pc2] #[.bool qb1,.slice qA1 ql1 qc1,.bool qb2,.slice qA2 ql2 qc2] #[.bool false,.slice none 0 0,.bool false,.slice none 0 0])
 clear hv hu hx1 hx2 hy1 hy2 hx hy hK
 go_enter Tryz.func195,Tryz.ntmps195
 go_wp2_with fail
 generalize ((w.alloc (.cells #[.bool pb1,.slice pA1 pl1 pc1,.bool pb2,.slice pA2 pl2 pc2] 223)).alloc (.cells #[.bool qb1,.slice qA1 ql1 qc1,.bool qb2,.slice qA2 ql2 qc2] 223)).alloc (.cells #[.bool false,.slice none 0 0,.bool false,.slice none 0 0] 223) = W3 at *
 obtain ⟨B1,B2,B3,HbW⟩ := HBx.out
 have q10 := B1.cell 0
 have q11 := B1.cell 1
 have q12 := B1.cell 2
 have q13 := B1.cell 3
 have q20 := B2.cell 0
 have q21 := B2.cell 1
 have q22 := B2.cell 2
 have q23 := B2.cell 3
 simp only [List.getElem?_toArray,List.getElem?_cons_succ,List.getElem?_cons_zero] at q10 q11 q12 q13 q20 q21 q22 q23
 have u10 := HeldB.cell q10
 have u11 := HeldB.cell q11
 have u12 := HeldB.cell q12
 have u13 := HeldB.cell q13
 have u20 := HeldB.cell q20
 have u21 := HeldB.cell q21
 have u22 := HeldB.cell q22
 have u23 := HeldB.cell q23
 have B3 := Lib.hid B3
 have HbW := Lib.hid HbW
 clear HBx B1 B2 q10 q11 q12 q13 q20 q21 q22 q23
 refine wp_region_grow 8 (fun i => if i = 3 then some (gN (-y.num)) else if i = 7 then some (gE (x - y)) else none) (by kernel_rfl) (by kernel_rfl) ?_
 simp only [List.take_succ_cons,List.take_zero,List.drop_succ_cons,List.drop_zero]
 refine wpG_quiet 3 (by kernel_rfl) (by rfl) (by decide) ?_
 simp only [List.take_succ_cons,List.take_zero,List.drop_succ_cons,List.drop_zero]
 repeat (go_big_quiet_step (fail))
 refine wpQuiet_nil ?_
 refine wpG_call rfl rfl ?_ ?_
 ·intro w1 hb1 hk
  have hb := HbW.out.trans (hb1.mono HbW.out.size)
  have hC := MakesN.g (bmOpp _ _ w1 (HY1.out.grow hb))
  exact ⟨243,#[.agg #[.bool qb1,.slice qA1 ql1 qc1]],by go_simp,hC⟩
 rintro _ ⟨r8b,r8A,r8l,r8c,rfl⟩
 simp only [Act.put,List.setIfInBounds_toArray,List.set_cons_zero,List.set_cons_succ]
 refine wpG_quiet 3 (by kernel_rfl) (by rfl) (by decide) ?_
 simp only [List.take_succ_cons,List.take_zero,List.drop_succ_cons,List.drop_zero]
 repeat (go_big_quiet_step (fail))
 refine wpQuiet_nil ?_
 refine wpG_call rfl rfl ?_ ?_
 ·intro w1 hb1 hk
  have hb := HbW.out.trans (hb1.mono HbW.out.size)
  have h8 : NumAt w1 (.agg #[.bool r8b,.slice r8A r8l r8c]) (-y.num) := hk 11 (by decide) 8 (by decide)
  have hE : ExactAt w1 (.agg #[.bool r8b,.slice r8A r8l r8c,.bool qb2,.slice qA2 ql2 qc2]) (-y) := ⟨_,_,_,_,rfl,by rw [Rat.neg_num];exact h8,by rw [Rat.neg_den];exact HY2.out.grow hb⟩
  have hC := MakesE.g (HE.out ▸ bmEPlus _ _ x (-y) K M w1 (HV.out.grow hb) hE HX.out (fits_neg HY.out) HK.out)
  exact ⟨193,#[.agg #[.bool pb1,.slice pA1 pl1 pc1,.bool pb2,.slice pA2 pl2 pc2],.agg #[.bool r8b,.slice r8A r8l r8c,.bool qb2,.slice qA2 ql2 qc2]],by go_simp,hC⟩
 rintro _ ⟨r12b1,r12A1,r12l1,r12c1,r12b2,r12A2,r12l2,r12c2,rfl⟩
 simp only [Act.put,List.setIfInBounds_toArray,List.set_cons_zero,List.set_cons_succ]
 refine wpG_nil ?_
 intro w8 hb8 hF
 have hL : ExactAt w8 (.agg #[.bool r12b1,.slice r12A1 r12l1 r12c1,.bool r12b2,.slice r12A2 r12l2 r12c2]) (x - y) := hF 12
 have HL := Lib.hid hL
 have HD8 := Lib.hid (B3.out.below hb8 B3.out.lt)
 have HB8 := Lib.hid (HbW.out.trans (hb8.mono HbW.out.size))
 have q0 := HD8.out.cell 0
 have q1 := HD8.out.cell 1
 have q2 := HD8.out.cell 2
 have q3 := HD8.out.cell 3
 have f0 := HD8.out.frozen 0
 have f1 := HD8.out.frozen 1
 have f2 := HD8.out.frozen 2
 have f3 := HD8.out.frozen 3
 simp only [List.getElem?_toArray,List.getElem?_cons_succ,List.getElem?_cons_zero] at q0 q1 q2 q3
 clear hF hL hb8 B3 HbW u10 u11 u12 u13 u20 u21 u22 u23
 go_wp2_with fail
 refine bodyPost_ret (v := .agg #[.bool r12b1,.slice r12A1 r12l1 r12c1,.bool r12b2,.slice r12A2 r12l2 r12c2]) (by simp [results,Tryz.results195,go_sem,q0,q1,q2,q3]) rfl ?_
 exact ⟨below_stored HB8.out (by omega) _ _ _ _,_,rfl,HL.out.stored HD8.out _ _ _ _⟩
set_option maxRecDepth 100000 in
set_option maxHeartbeats 4000000 in
theorem bmETimes (v u : Value) (x y : Rat) (K M : Nat) (w : World) (hv : ExactAt w v x) (hu : ExactAt w u y) (hx : fits x K) (hy : fits y M) (hK : K + M + 1 ≤ 400000) :
  Calls Tryz.prog 237 #[v,u] w (MakesE (x * y) w) := by
 obtain ⟨pb1,pA1,pl1,pc1,pb2,pA2,pl2,pc2,rfl,hx1,hx2⟩ := hv.form
 obtain ⟨qb1,qA1,ql1,qc1,qb2,qA2,ql2,qc2,rfl,hy1,hy2⟩ := hu.form
 have HV := Lib.hid hv
 have HU := Lib.hid hu
 have HX := Lib.hid hx
 have HY := Lib.hid hy
 have HS1 := Lib.hid (abs_mul hx.1 hy.1)
 have HS2 := Lib.hid (abs_mul (den_abs hx.2) (den_abs hy.2))
 have HD : Hid ((x.den : Int) * (y.den : Int) ≠ 0) := Int.mul_ne_zero (den_ne x) (den_ne y)
 have HE : Hid (Rat.divInt (x.num * y.num) ((x.den : Int) * (y.den : Int)) = x * y) := by
  unfold Hid
  rw [rat_mul,Int.natCast_mul]
 have HX1 := Lib.hid hx1
 have HX2 := Lib.hid hx2
 have HY1 := Lib.hid hy1
 have HY2 := Lib.hid hy2
 have HK := Lib.hid hK
 have HBx := Lib.hid (three_boxes w 223 223 223 #[.bool pb1,.slice pA1 pl1 pc1,.bool pb2,.slice pA2 pl2 pc2] #[.bool qb1,.slice qA1 ql1 qc1,.bool qb2,.slice qA2 ql2 qc2] #[.bool false,.slice none 0 0,.bool false,.slice none 0 0])
 clear hv hu hx1 hx2 hy1 hy2 hx hy hK
 go_enter Tryz.func237,Tryz.ntmps237
 go_wp2_with fail
 generalize ((w.alloc (.cells #[.bool pb1,.slice pA1 pl1 pc1,.bool pb2,.slice pA2 pl2 pc2] 223)).alloc (.cells #[.bool qb1,.slice qA1 ql1 qc1,.bool qb2,.slice qA2 ql2 qc2] 223)).alloc (.cells #[.bool false,.slice none 0 0,.bool false,.slice none 0 0] 223) = W3 at *
 obtain ⟨B1,B2,B3,HbW⟩ := HBx.out
 have q10 := B1.cell 0
 have q11 := B1.cell 1
 have q12 := B1.cell 2
 have q13 := B1.cell 3
 have q20 := B2.cell 0
 have q21 := B2.cell 1
 have q22 := B2.cell 2
 have q23 := B2.cell 3
 simp only [List.getElem?_toArray,List.getElem?_cons_succ,List.getElem?_cons_zero] at q10 q11 q12 q13 q20 q21 q22 q23
 have u10 := HeldB.cell q10
 have u11 := HeldB.cell q11
 have u12 := HeldB.cell q12
 have u13 := HeldB.cell q13
 have u20 := HeldB.cell q20
 have u21 := HeldB.cell q21
 have u22 := HeldB.cell q22
 have u23 := HeldB.cell q23
 have B3 := Lib.hid B3
 have HbW := Lib.hid HbW
 clear HBx B1 B2 q10 q11 q12 q13 q20 q21 q22 q23
 refine wp_region_grow 11 (fun i => if i = 4 then some (gN (x.num * y.num)) else if i = 9 then some (gN ((x.den : Int) * (y.den : Int))) else if i = 10 then some (gE (x * y)) else none) (by kernel_rfl) (by kernel_rfl) ?_
 simp only [List.take_succ_cons,List.take_zero,List.drop_succ_cons,List.drop_zero]
 refine wpG_quiet 4 (by kernel_rfl) (by rfl) (by decide) ?_
 simp only [List.take_succ_cons,List.take_zero,List.drop_succ_cons,List.drop_zero]
 repeat (go_big_quiet_step (fail))
 refine wpQuiet_nil ?_
 refine wpG_call rfl rfl ?_ ?_
 ·intro w1 hb1 hk
  have hb := HbW.out.trans (hb1.mono HbW.out.size)
  have hC := MakesN.g (bmTimes _ _ _ _ (K + M) w1 (HX1.out.grow hb) (HY1.out.grow hb) (by have := HK.out;omega) ((up_pow HX.out.1 (Nat.le_add_right K M))) ((up_pow HY.out.1 (Nat.le_add_left M K))))
  exact ⟨240,#[.agg #[.bool pb1,.slice pA1 pl1 pc1],.agg #[.bool qb1,.slice qA1 ql1 qc1]],by go_simp,hC⟩
 rintro _ ⟨r9b,r9A,r9l,r9c,rfl⟩
 simp only [Act.put,List.setIfInBounds_toArray,List.set_cons_zero,List.set_cons_succ]
 refine wpG_quiet 4 (by kernel_rfl) (by rfl) (by decide) ?_
 simp only [List.take_succ_cons,List.take_zero,List.drop_succ_cons,List.drop_zero]
 repeat (go_big_quiet_step (fail))
 refine wpQuiet_nil ?_
 refine wpG_call rfl rfl ?_ ?_
 ·intro w1 hb1 hk
  have hb := HbW.out.trans (hb1.mono HbW.out.size)
  have hC := MakesN.g (bmTimes _ _ _ _ (K + M) w1 (HX2.out.grow hb) (HY2.out.grow hb) (by have := HK.out;omega) ((up_pow (den_abs HX.out.2) (Nat.le_add_right K M))) ((up_pow (den_abs HY.out.2) (Nat.le_add_left M K))))
  exact ⟨240,#[.agg #[.bool pb2,.slice pA2 pl2 pc2],.agg #[.bool qb2,.slice qA2 ql2 qc2]],by go_simp,hC⟩
 rintro _ ⟨r14b,r14A,r14l,r14c,rfl⟩
 simp only [Act.put,List.setIfInBounds_toArray,List.set_cons_zero,List.set_cons_succ]
 refine wpG_call rfl rfl ?_ ?_
 ·intro w1 hb1 hk
  have hb := HbW.out.trans (hb1.mono HbW.out.size)
  have h9 : NumAt w1 (.agg #[.bool r9b,.slice r9A r9l r9c]) (x.num * y.num) := hk 9 (by decide)
  have h14 : NumAt w1 (.agg #[.bool r14b,.slice r14A r14l r14c]) ((x.den : Int) * (y.den : Int)) := hk 14 (by decide)
  have hC := MakesE.g (HE.out ▸ bmLowest _ _ _ _ (K + M) w1 h9 h14 HD.out (by have := HK.out;omega) HS1.out HS2.out)
  exact ⟨239,#[.agg #[.bool r9b,.slice r9A r9l r9c],.agg #[.bool r14b,.slice r14A r14l r14c]],by go_simp,hC⟩
 rintro _ ⟨r15b1,r15A1,r15l1,r15c1,r15b2,r15A2,r15l2,r15c2,rfl⟩
 simp only [Act.put,List.setIfInBounds_toArray,List.set_cons_zero,List.set_cons_succ]
 refine wpG_nil ?_
 intro w8 hb8 hF
 have hL : ExactAt w8 (.agg #[.bool r15b1,.slice r15A1 r15l1 r15c1,.bool r15b2,.slice r15A2 r15l2 r15c2]) (x * y) := hF 15
 have HL := Lib.hid hL
 have HD8 := Lib.hid (B3.out.below hb8 B3.out.lt)
 have HB8 := Lib.hid (HbW.out.trans (hb8.mono HbW.out.size))
 have q0 := HD8.out.cell 0
 have q1 := HD8.out.cell 1
 have q2 := HD8.out.cell 2
 have q3 := HD8.out.cell 3
 have f0 := HD8.out.frozen 0
 have f1 := HD8.out.frozen 1
 have f2 := HD8.out.frozen 2
 have f3 := HD8.out.frozen 3
 simp only [List.getElem?_toArray,List.getElem?_cons_succ,List.getElem?_cons_zero] at q0 q1 q2 q3
 clear hF hL hb8 B3 HbW u10 u11 u12 u13 u20 u21 u22 u23
 go_wp2_with fail
 refine bodyPost_ret (v := .agg #[.bool r15b1,.slice r15A1 r15l1 r15c1,.bool r15b2,.slice r15A2 r15l2 r15c2]) (by simp [results,Tryz.results237,go_sem,q0,q1,q2,q3]) rfl ?_
 exact ⟨below_stored HB8.out (by omega) _ _ _ _,_,rfl,HL.out.stored HD8.out _ _ _ _⟩
set_option maxRecDepth 100000 in
set_option maxHeartbeats 4000000 in
theorem bmEBy (v u : Value) (x y : Rat) (K M : Nat) (w : World) (hv : ExactAt w v x) (hu : ExactAt w u y) (hx : fits x K) (hy : fits y M) (hz : y.num ≠ 0) (hK : K + M + 1 ≤ 400000) :
  Calls Tryz.prog 196 #[v,u] w (MakesE (x / y) w) := by
 obtain ⟨pb1,pA1,pl1,pc1,pb2,pA2,pl2,pc2,rfl,hx1,hx2⟩ := hv.form
 obtain ⟨qb1,qA1,ql1,qc1,qb2,qA2,ql2,qc2,rfl,hy1,hy2⟩ := hu.form
 have HV := Lib.hid hv
 have HU := Lib.hid hu
 have HX := Lib.hid hx
 have HY := Lib.hid hy
 have HS1 := Lib.hid (abs_mul hx.1 (den_abs hy.2))
 have HS2 := Lib.hid (abs_mul (den_abs hx.2) hy.1)
 have HD : Hid ((x.den : Int) * y.num ≠ 0) := Int.mul_ne_zero (den_ne x) hz
 have HE : Hid (Rat.divInt (x.num * (y.den : Int)) ((x.den : Int) * y.num) = x / y) := by
  unfold Hid
  rw [rat_div]
 clear hz
 have HX1 := Lib.hid hx1
 have HX2 := Lib.hid hx2
 have HY1 := Lib.hid hy1
 have HY2 := Lib.hid hy2
 have HK := Lib.hid hK
 have HBx := Lib.hid (three_boxes w 223 223 223 #[.bool pb1,.slice pA1 pl1 pc1,.bool pb2,.slice pA2 pl2 pc2] #[.bool qb1,.slice qA1 ql1 qc1,.bool qb2,.slice qA2 ql2 qc2] #[.bool false,.slice none 0 0,.bool false,.slice none 0 0])
 clear hv hu hx1 hx2 hy1 hy2 hx hy hK
 go_enter Tryz.func196,Tryz.ntmps196
 go_wp2_with fail
 generalize ((w.alloc (.cells #[.bool pb1,.slice pA1 pl1 pc1,.bool pb2,.slice pA2 pl2 pc2] 223)).alloc (.cells #[.bool qb1,.slice qA1 ql1 qc1,.bool qb2,.slice qA2 ql2 qc2] 223)).alloc (.cells #[.bool false,.slice none 0 0,.bool false,.slice none 0 0] 223) = W3 at *
 obtain ⟨B1,B2,B3,HbW⟩ := HBx.out
 have q10 := B1.cell 0
 have q11 := B1.cell 1
 have q12 := B1.cell 2
 have q13 := B1.cell 3
 have q20 := B2.cell 0
 have q21 := B2.cell 1
 have q22 := B2.cell 2
 have q23 := B2.cell 3
 simp only [List.getElem?_toArray,List.getElem?_cons_succ,List.getElem?_cons_zero] at q10 q11 q12 q13 q20 q21 q22 q23
 have u10 := HeldB.cell q10
 have u11 := HeldB.cell q11
 have u12 := HeldB.cell q12
 have u13 := HeldB.cell q13
 have u20 := HeldB.cell q20
 have u21 := HeldB.cell q21
 have u22 := HeldB.cell q22
 have u23 := HeldB.cell q23
 have B3 := Lib.hid B3
 have HbW := Lib.hid HbW
 clear HBx B1 B2 q10 q11 q12 q13 q20 q21 q22 q23
 refine wp_region_grow 11 (fun i => if i = 4 then some (gN (x.num * (y.den : Int))) else if i = 9 then some (gN ((x.den : Int) * y.num)) else if i = 10 then some (gE (x / y)) else none) (by kernel_rfl) (by kernel_rfl) ?_
 simp only [List.take_succ_cons,List.take_zero,List.drop_succ_cons,List.drop_zero]
 refine wpG_quiet 4 (by kernel_rfl) (by rfl) (by decide) ?_
 simp only [List.take_succ_cons,List.take_zero,List.drop_succ_cons,List.drop_zero]
 repeat (go_big_quiet_step (fail))
 refine wpQuiet_nil ?_
 refine wpG_call rfl rfl ?_ ?_
 ·intro w1 hb1 hk
  have hb := HbW.out.trans (hb1.mono HbW.out.size)
  have hC := MakesN.g (bmTimes _ _ _ _ (K + M) w1 (HX1.out.grow hb) (HY2.out.grow hb) (by have := HK.out;omega) ((up_pow HX.out.1 (Nat.le_add_right K M))) ((up_pow (den_abs HY.out.2) (Nat.le_add_left M K))))
  exact ⟨240,#[.agg #[.bool pb1,.slice pA1 pl1 pc1],.agg #[.bool qb2,.slice qA2 ql2 qc2]],by go_simp,hC⟩
 rintro _ ⟨r9b,r9A,r9l,r9c,rfl⟩
 simp only [Act.put,List.setIfInBounds_toArray,List.set_cons_zero,List.set_cons_succ]
 refine wpG_quiet 4 (by kernel_rfl) (by rfl) (by decide) ?_
 simp only [List.take_succ_cons,List.take_zero,List.drop_succ_cons,List.drop_zero]
 repeat (go_big_quiet_step (fail))
 refine wpQuiet_nil ?_
 refine wpG_call rfl rfl ?_ ?_
 ·intro w1 hb1 hk
  have hb := HbW.out.trans (hb1.mono HbW.out.size)
  have hC := MakesN.g (bmTimes _ _ _ _ (K + M) w1 (HX2.out.grow hb) (HY1.out.grow hb) (by have := HK.out;omega) ((up_pow (den_abs HX.out.2) (Nat.le_add_right K M))) ((up_pow HY.out.1 (Nat.le_add_left M K))))
  exact ⟨240,#[.agg #[.bool pb2,.slice pA2 pl2 pc2],.agg #[.bool qb1,.slice qA1 ql1 qc1]],by go_simp,hC⟩
 rintro _ ⟨r14b,r14A,r14l,r14c,rfl⟩
 simp only [Act.put,List.setIfInBounds_toArray,List.set_cons_zero,List.set_cons_succ]
 refine wpG_call rfl rfl ?_ ?_
 ·intro w1 hb1 hk
  have hb := HbW.out.trans (hb1.mono HbW.out.size)
  have h9 : NumAt w1 (.agg #[.bool r9b,.slice r9A r9l r9c]) (x.num * (y.den : Int)) := hk 9 (by decide)
  have h14 : NumAt w1 (.agg #[.bool r14b,.slice r14A r14l r14c]) ((x.den : Int) * y.num) := hk 14 (by decide)
  have hC := MakesE.g (HE.out ▸ bmLowest _ _ _ _ (K + M) w1 h9 h14 HD.out (by have := HK.out;omega) HS1.out HS2.out)
  exact ⟨239,#[.agg #[.bool r9b,.slice r9A r9l r9c],.agg #[.bool r14b,.slice r14A r14l r14c]],by go_simp,hC⟩
 rintro _ ⟨r15b1,r15A1,r15l1,r15c1,r15b2,r15A2,r15l2,r15c2,rfl⟩
 simp only [Act.put,List.setIfInBounds_toArray,List.set_cons_zero,List.set_cons_succ]
 refine wpG_nil ?_
 intro w8 hb8 hF
 have hL : ExactAt w8 (.agg #[.bool r15b1,.slice r15A1 r15l1 r15c1,.bool r15b2,.slice r15A2 r15l2 r15c2]) (x / y) := hF 15
 have HL := Lib.hid hL
 have HD8 := Lib.hid (B3.out.below hb8 B3.out.lt)
 have HB8 := Lib.hid (HbW.out.trans (hb8.mono HbW.out.size))
 have q0 := HD8.out.cell 0
 have q1 := HD8.out.cell 1
 have q2 := HD8.out.cell 2
 have q3 := HD8.out.cell 3
 have f0 := HD8.out.frozen 0
 have f1 := HD8.out.frozen 1
 have f2 := HD8.out.frozen 2
 have f3 := HD8.out.frozen 3
 simp only [List.getElem?_toArray,List.getElem?_cons_succ,List.getElem?_cons_zero] at q0 q1 q2 q3
 clear hF hL hb8 B3 HbW u10 u11 u12 u13 u20 u21 u22 u23
 go_wp2_with fail
 refine bodyPost_ret (v := .agg #[.bool r15b1,.slice r15A1 r15l1 r15c1,.bool r15b2,.slice r15A2 r15l2 r15c2]) (by simp [results,Tryz.results196,go_sem,q0,q1,q2,q3]) rfl ?_
 exact ⟨below_stored HB8.out (by omega) _ _ _ _,_,rfl,HL.out.stored HD8.out _ _ _ _⟩
end Go.Proofs.YtknkhnahflmjiaaGreatDoor

namespace Go.Proofs.YtknkhnahflmjiaaGreatDoor
open Go.RowKit Go.Shelf
theorem prodZ_snoc (l : List Int) (x : Int) : prodZ (l ++ [x]) = prodZ l * x := by simp [prodZ,List.foldl_append]
theorem prodZ_abs {l : List Int} (h : ∀ x ∈ l,x.natAbs ≤ 4611686018427387904) : ∀ k,k ≤ l.length → (prodZ (l.take k)).natAbs < 4294967296 ^ (2 * k + 1)
 | 0,_ => by simp [prodZ]
 | k + 1,hk => by
  have ih := prodZ_abs h k (by omega)
  rw [take_snoc l k (by omega),prodZ_snoc]
  have h1 := h l[k] (List.getElem_mem (by omega))
  have h2 : l[k].natAbs < 4294967296 ^ 2 := by
   have : (4294967296 : Nat) ^ 2 = 18446744073709551616 := by decide
   omega
  have h3 := abs_mul ih h2
  rwa [show 2 * k + 1 + 2 = 2 * (k + 1) + 1 by omega] at h3
theorem int_small {x : Int} (h : x.natAbs ≤ 4611686018427387904) : x.natAbs < 4294967296 ^ 20 := by
 have e : (4294967296 : Nat) ^ 2 = 18446744073709551616 := by decide
 exact up_pow (K := 2) (by omega) (by decide)
def NumBox (w : World) (D : Nat) (z : Int) : Prop := ∃ b A l c,Blk w D 221 #[.bool b,.slice A l c] ∧ NumAt w (.agg #[.bool b,.slice A l c]) z
theorem NumBox.grow {w w' : World} {D : Nat} {z : Int} (h : NumBox w D z) (hb : Below w.heap.size w w') : NumBox w' D z := by
 obtain ⟨b,A,l,c,h1,h2⟩ := h
 exact ⟨b,A,l,c,h1.below hb h1.lt,h2.grow hb⟩
theorem NumBox.put {w : World} {D : Nat} {z z0 : Int} (h0 : NumBox w D z0) {b : Bool} {A : Option Addr} {l c : Nat} (h : NumAt w (.agg #[.bool b,.slice A l c]) z) : NumBox ((w.setCell ⟨D,0,none⟩ (.bool b)).setCell ⟨D,1,none⟩ (.slice A l c)) D z := by
 obtain ⟨b0,A0,l0,c0,h1,-⟩ := h0
 exact ⟨b,A,l,c,(h1.set_ 0 _).set_ 1 _,(h.setBox h1 (by decide) 0 _).setBox (h1.set_ 0 _) (by decide) 1 _⟩
set_option maxRecDepth 100000 in
set_option maxHeartbeats 4000000 in
theorem bmProduct (by_ : Int) (v : Value) (l : List Int) (w : World) (hv : IntsAt w w.heap.size v l) (hl : l.length ≤ 8) (hx : ∀ x ∈ l,x.natAbs ≤ 4611686018427387904) (hb0 : by_ ≠ 0) (hb1 : by_.natAbs ≤ 4611686018427387904) :
  Calls Tryz.prog 242 #[.int .i64 by_,v] w (MakesE (prodR by_ l) w) := by
 obtain ⟨A,c,rfl,hc1,hc2,hcell⟩ := hv.open_
 unfold maxLen at hc2
 have HX := Lib.hid hx
 have HC := Lib.hid hcell
 have HB0 := Lib.hid hb0
 have HB1 := Lib.hid hb1
 have HR := Lib.hid (Blk.new w 223 #[.bool false,.slice none 0 0,.bool false,.slice none 0 0])
 have HB := Lib.hid ((Below.refl _ w).alloc (Nat.le_refl _) (.cells #[.bool false,.slice none 0 0,.bool false,.slice none 0 0] 223))
 clear hcell hv hx hb0 hb1
 go_enter Tryz.func242,Tryz.ntmps242
 go_wp2_with fail
 generalize w.alloc (.cells #[.bool false,.slice none 0 0,.bool false,.slice none 0 0] 223) = W0 at *
 refine (bmInt 1 W0 (by decide) (by decide)).mono ?_
 rintro e w1 ⟨hb1,v1,rfl,hN1⟩
 obtain ⟨n1,A1,l1,c1,rfl,-⟩ := hN1.form
 have HR1 := Lib.hid ((HR.out.below hb1 HR.out.lt).alloc (.cells #[.bool n1,.slice A1 l1 c1] 221))
 have hBel := HB.out.trans (hb1.mono HB.out.size)
 have HB1' := Lib.hid (hBel.alloc hBel.size (.cells #[.bool n1,.slice A1 l1 c1] 221))
 have HN1 : Hid (NumBox (w1.alloc (.cells #[.bool n1,.slice A1 l1 c1] 221)) w1.heap.size (prodZ (l.take 0))) := ⟨n1,A1,l1,c1,Blk.new _ _ _,hN1.grow ((Below.refl _ _).alloc (Nat.le_refl _) _)⟩
 have HWs : Hid (w.heap.size < w1.heap.size) := Nat.lt_of_lt_of_le HR.out.lt hb1.size
 clear HR HB hb1 hN1 hBel
 go_wp2_with fail
 generalize hD5 : w1.heap.size = D5 at *
 clear hD5
 go_loopw [11] (fun ix wr => ∃ k : Nat,k ≤ l.length ∧ ix = .int .i64 k ∧ Hid (NumBox wr D5 (prodZ (l.take k))) ∧ Hid (Blk wr w.heap.size 223 #[.bool false,.slice none 0 0,.bool false,.slice none 0 0]) ∧ Hid (Below w.heap.size w wr)) (fun ix _ => l.length - (intOf ix).toNat)
 case atStart => exact ⟨0,Nat.zero_le _,rfl,HN1,HR1,HB1'⟩
 case round =>
  clear HN1 HR1 HB1'
  obtain ⟨k,hk,rfl,HN,HR,HB⟩ := hrel
  have k0 : (0 : Int) ≤ (k : Int) := Int.natCast_nonneg _
  obtain ⟨nb,nA,nl,nc,hNb,hNn⟩ := HN.out
  have q0 := hNb.cell 0
  have q1 := hNb.cell 1
  simp only [List.getElem?_toArray,List.getElem?_cons_succ,List.getElem?_cons_zero] at q0 q1
  have HNb := Lib.hid hNb
  have HNn := Lib.hid hNn
  have HPk := Lib.hid (prodZ_abs HX.out k hk)
  clear hNb hNn
  by_cases hkl : k < l.length
  ·have k1 : (k : Int) < (l.length : Int) := by omega
   obtain ⟨b2,o2,rfl,hlt,hcl⟩ := HC.out k hkl
   have hx := (HB.out.cell (p := ⟨b2,o2 + k,none⟩) hlt).trans (hcl k hkl)
   have HXk := Lib.hid (HX.out l[k] (List.getElem_mem hkl))
   have HP : Hid (prodZ (l.take (k + 1)) = prodZ (l.take k) * l[k]) := by unfold Hid;rw [take_snoc l k hkl,prodZ_snoc]
   clear hcl hlt
   generalize l[k] = x at *
   go_wp2_with fail
   have u0 := HeldB.cell q0
   have u1 := HeldB.cell q1
   clear hx q0 q1
   refine wp_region_grow 4 (fun i => if i = 2 then some (gN x) else if i = 3 then some (gN (prodZ (l.take k) * x)) else none) (by kernel_rfl) (by kernel_rfl) ?_
   simp only [List.take_succ_cons,List.take_zero,List.drop_succ_cons,List.drop_zero]
   refine wpG_quiet 2 (by kernel_rfl) (by rfl) (by decide) ?_
   simp only [List.take_succ_cons,List.take_zero,List.drop_succ_cons,List.drop_zero]
   repeat (go_big_quiet_step (fail))
   refine wpQuiet_nil ?_
   refine wpG_call rfl rfl (fun w1 hb1 _ => ⟨238,#[.int .i64 x],by go_simp,MakesN.g (bmInt x w1 (by have := HXk.out;omega) (by have := HXk.out;omega))⟩) ?_
   rintro _ ⟨rb,rA,rl,rc,rfl⟩
   simp only [Act.put,List.setIfInBounds_toArray,List.set_cons_zero,List.set_cons_succ]
   refine wpG_call rfl rfl ?_ ?_
   ·intro w1 hb1 hk1
    have h17 : NumAt w1 (.agg #[.bool rb,.slice rA rl rc]) x := hk1 17 (by decide)
    exact ⟨240,#[.agg #[.bool nb,.slice nA nl nc],.agg #[.bool rb,.slice rA rl rc]],by go_simp,MakesN.g (bmTimes _ _ _ _ 20 w1 (HNn.out.grow hb1) h17 (by decide) (up_pow HPk.out (by omega)) (int_small HXk.out))⟩
   rintro _ ⟨sb,sA,sl,sc,rfl⟩
   simp only [Act.put,List.setIfInBounds_toArray,List.set_cons_zero,List.set_cons_succ]
   refine wpG_nil ?_
   intro w5 hb5 hF
   have h18 : NumAt w5 (.agg #[.bool sb,.slice sA sl sc]) (prodZ (l.take k) * x) := hF 18
   have HB5 := Lib.hid (HB.out.trans (hb5.mono HB.out.size))
   have HR5 := Lib.hid (HR.out.below hb5 HR.out.lt)
   have hNb5 := HNb.out.below hb5 HNb.out.lt
   have q0 := hNb5.cell 0
   have q1 := hNb5.cell 1
   have f0 := hNb5.frozen 0
   have f1 := hNb5.frozen 1
   simp only [List.getElem?_toArray,List.getElem?_cons_succ,List.getElem?_cons_zero] at q0 q1
   rw [← HP.out] at h18
   have H18 := Lib.hid h18
   have HN5 := Lib.hid (HN.out.grow hb5)
   clear hF u0 u1 h18 hb5 hNb5 HP HN HR HB HNb HNn
   go_wp2_with fail
   have HN6 := Lib.hid (HN5.out.put H18.out)
   have HR6 := Lib.hid ((HR5.out.far (p := ⟨D5,0,none⟩) (Nat.ne_of_lt HWs.out) (.bool sb)).far (p := ⟨D5,1,none⟩) (Nat.ne_of_lt HWs.out) (.slice sA sl sc))
   have HB6 := Lib.hid ((HB5.out.setCell (p := ⟨D5,0,none⟩) (Nat.le_of_lt HWs.out) (.bool sb)).setCell (p := ⟨D5,1,none⟩) (Nat.le_of_lt HWs.out) (.slice sA sl sc))
   clear q0 q1 f0 f1 H18 HN5 HR5 HB5
   go_roundw
   case rel => exact ⟨k + 1,by omega,by go_num,HN6,HR6,HB6⟩
   case measure => simp [intOf];omega
  ·obtain rfl : k = l.length := by omega
   rw [List.take_length] at HNn HPk
   go_wp2_with fail
   have u0 := HeldB.cell q0
   have u1 := HeldB.cell q1
   clear q0 q1
   refine wp_region_grow 4 (fun i => if i = 2 then some (gN by_) else if i = 3 then some (gE (prodR by_ l)) else none) (by kernel_rfl) (by kernel_rfl) ?_
   simp only [List.take_succ_cons,List.take_zero,List.drop_succ_cons,List.drop_zero]
   refine wpG_quiet 2 (by kernel_rfl) (by rfl) (by decide) ?_
   simp only [List.take_succ_cons,List.take_zero,List.drop_succ_cons,List.drop_zero]
   repeat (go_big_quiet_step (fail))
   refine wpQuiet_nil ?_
   refine wpG_call rfl rfl (fun w1 hb1 _ => ⟨238,#[.int .i64 by_],by go_simp,MakesN.g (bmInt by_ w1 (by have := HB1.out;omega) (by have := HB1.out;omega))⟩) ?_
   rintro _ ⟨rb,rA,rl,rc,rfl⟩
   simp only [Act.put,List.setIfInBounds_toArray,List.set_cons_zero,List.set_cons_succ]
   refine wpG_call rfl rfl ?_ ?_
   ·intro w1 hb1 hk1
    have h22 : NumAt w1 (.agg #[.bool rb,.slice rA rl rc]) by_ := hk1 22 (by decide)
    exact ⟨239,#[.agg #[.bool nb,.slice nA nl nc],.agg #[.bool rb,.slice rA rl rc]],by go_simp,MakesE.g (bmLowest _ _ _ _ 20 w1 (HNn.out.grow hb1) h22 HB0.out (by decide) (up_pow HPk.out (by omega)) (int_small HB1.out))⟩
   rintro _ ⟨sb1,sA1,sl1,sc1,sb2,sA2,sl2,sc2,rfl⟩
   simp only [Act.put,List.setIfInBounds_toArray,List.set_cons_zero,List.set_cons_succ]
   refine wpG_nil ?_
   intro w5 hb5 hF
   have h23 : ExactAt w5 (.agg #[.bool sb1,.slice sA1 sl1 sc1,.bool sb2,.slice sA2 sl2 sc2]) (prodR by_ l) := hF 23
   have HL := Lib.hid h23
   have HB8 := Lib.hid (HB.out.trans (hb5.mono HB.out.size))
   have HD8 := Lib.hid (HR.out.below hb5 HR.out.lt)
   have q0 := HD8.out.cell 0
   have q1 := HD8.out.cell 1
   have q2 := HD8.out.cell 2
   have q3 := HD8.out.cell 3
   have f0 := HD8.out.frozen 0
   have f1 := HD8.out.frozen 1
   have f2 := HD8.out.frozen 2
   have f3 := HD8.out.frozen 3
   simp only [List.getElem?_toArray,List.getElem?_cons_succ,List.getElem?_cons_zero] at q0 q1 q2 q3
   clear hF u0 u1 h23 hb5 HN HR HB HNb HNn
   go_wp2_with fail
   refine bodyPost_ret (v := .agg #[.bool sb1,.slice sA1 sl1 sc1,.bool sb2,.slice sA2 sl2 sc2]) (by simp [results,Tryz.results242,go_sem,q0,q1,q2,q3]) rfl ?_
   exact ⟨below_stored HB8.out (Nat.le_refl _) _ _ _ _,_,rfl,HL.out.stored HD8.out _ _ _ _⟩
end Go.Proofs.YtknkhnahflmjiaaGreatDoor

namespace Go.Proofs.YtknkhnahflmjiaaGreatDoor
open Go.RowKit Go.Shelf
def LoadT.cells (x : LoadT) : List Value := [.int .i64 x.pos,.int .i64 x.wt]
def LoadsAt (w : World) (B : Nat) (v : Value) (l : List LoadT) : Prop := Flat w B v l.length (l.flatMap LoadT.cells)
theorem LoadsAt.below {w w' : World} {B B' : Nat} {v : Value} {l : List LoadT} (h : LoadsAt w B v l) (hb : Below B' w w') (hB : B ≤ B') : LoadsAt w' B v l := Flat.below h hb hB
theorem LoadsAt.mono {w : World} {B B' : Nat} {v : Value} {l : List LoadT} (h : LoadsAt w B v l) (hB : B ≤ B') : LoadsAt w B' v l := Flat.mono h hB
theorem load_get (l : List LoadT) (j i : Nat) (hj : j < l.length) (hi : i < 2) : (l.flatMap LoadT.cells)[j * 2 + i]? = l[j].cells[i]? := by
 induction l generalizing j with
 | nil => simp at hj
 | cons t l ih =>
  have h5 : t.cells.length = 2 := rfl
  rw [List.flatMap_cons]
  cases j with
  | zero => rw [List.getElem?_append_left (by rw [h5];omega)];simp
  | succ j =>
   rw [List.getElem?_append_right (by rw [h5];omega),h5]
   have := ih j (by simpa using hj)
   rw [show (j + 1) * 2 + i - 2 = j * 2 + i by omega,this]
   rfl
theorem LoadsAt.open_ {w : World} {B : Nat} {v : Value} {l : List LoadT} (h : LoadsAt w B v l) :
  ∃ A c,v = .slice A l.length c ∧ l.length ≤ c ∧ c ≤ maxLen ∧ ∀ k (_ : k < l.length),∃ b off,A = some ⟨b,off,none⟩ ∧ b < B ∧ ∀ j (hj : j < l.length),w.cell? ⟨b,off + j * 2,none⟩ = some (.int .i64 l[j].pos) ∧ w.cell? ⟨b,off + j * 2 + 1,none⟩ = some (.int .i64 l[j].wt) := by
 obtain ⟨A,c,h1,h2,h3,h4⟩ := h
 refine ⟨A,c,h1,h2,h3,fun k hk => ?_⟩
 obtain ⟨b,off,e,hlt,hc⟩ := h4 (by omega)
 refine ⟨b,off,e,hlt,fun j hj => ?_⟩
 have f := fun (i : Nat) (hi : i < 2) u (hu : l[j].cells[i]? = some u) => hc (j * 2 + i) u ((load_get l j i hj hi).trans hu)
 have g := fun (i : Nat) (hi : i < 2) u (hu : l[j].cells[i]? = some u) => (congrArg (fun o => w.cell? ⟨b,o,none⟩) (Nat.add_assoc off (j * 2) i)).trans (f i hi u hu)
 exact ⟨g 0 (by omega) _ rfl,g 1 (by omega) _ rfl⟩
def BeamAt (w : World) (B : Nat) (v : Value) (b : BeamT) : Prop :=
 ∃ As cs Al cl,v = .agg #[.string b.name,.int .i64 b.len,.slice As b.sup.length cs,.slice Al b.loads.length cl,.int .i64 b.even] ∧ IntsAt w B (.slice As b.sup.length cs) b.sup ∧ LoadsAt w B (.slice Al b.loads.length cl) b.loads
theorem BeamAt.below {w w' : World} {B B' : Nat} {v : Value} {b : BeamT} (h : BeamAt w B v b) (hb : Below B' w w') (hB : B ≤ B') : BeamAt w' B v b := by
 obtain ⟨As,cs,Al,cl,h1,h2,h3⟩ := h
 exact ⟨As,cs,Al,cl,h1,h2.below hb hB,h3.below hb hB⟩
theorem BeamAt.mono {w : World} {B B' : Nat} {v : Value} {b : BeamT} (h : BeamAt w B v b) (hB : B ≤ B') : BeamAt w B' v b := by
 obtain ⟨As,cs,Al,cl,h1,h2,h3⟩ := h
 exact ⟨As,cs,Al,cl,h1,h2.mono hB,h3.mono hB⟩
theorem BeamAt.grow {w w' : World} {v : Value} {b : BeamT} (h : BeamAt w w.heap.size v b) (hb : Below w.heap.size w w') : BeamAt w' w'.heap.size v b := (h.below hb (Nat.le_refl _)).mono hb.size
theorem ints_new (w : World) (T : TypeId) (l : List Int) (hl : l.length ≤ 100) : IntsAt (w.alloc (.cells (l.map (Value.int .i64)).toArray T)) (w.alloc (.cells (l.map (Value.int .i64)).toArray T)).heap.size (.slice (some ⟨w.heap.size,0,none⟩) l.length l.length) l := by
 refine ⟨some ⟨w.heap.size,0,none⟩,l.length,rfl,Nat.le_refl _,by unfold maxLen;omega,fun _ => ⟨w.heap.size,0,rfl,by simp,fun j u hu => ?_⟩⟩
 rw [Nat.zero_add,(Blk.new w T _).cell]
 simpa using hu
def gI (l : List Int) : GPost := ⟨fun v => ∃ g,v = .slice (some ⟨g,0,none⟩) l.length l.length,fun v w => IntsAt w w.heap.size v l,⟨_,0,rfl⟩,fun _ _ _ hb h => (RowAt.below h hb (Nat.le_refl _)).mono hb.size,false⟩
theorem gI_new {P : Program} {o : Oper} {a : Act} {w : World} {T : TypeId} {l : List Int} (hl : l.length ≤ 100) (h : (execOp a.eval o).run P w = .ok (.value (.slice (some ⟨w.heap.size,0,none⟩) l.length l.length)) (w.alloc (.cells (l.map (Value.int .i64)).toArray T))) : newAt P o a (gI l) w :=
 ⟨_,_,h,(Below.refl _ _).alloc (Nat.le_refl _) _,⟨_,rfl⟩,ints_new w T l hl,fun h => by cases h⟩
def ExBox (w : World) (D : Nat) (q : Rat) : Prop := ∃ b1 A1 l1 c1 b2 A2 l2 c2,Blk w D 223 #[.bool b1,.slice A1 l1 c1,.bool b2,.slice A2 l2 c2] ∧ ExactAt w (.agg #[.bool b1,.slice A1 l1 c1,.bool b2,.slice A2 l2 c2]) q
theorem ExBox.grow {w w' : World} {D : Nat} {q : Rat} (h : ExBox w D q) (hb : Below w.heap.size w w') : ExBox w' D q := by
 obtain ⟨b1,A1,l1,c1,b2,A2,l2,c2,h1,h2⟩ := h
 exact ⟨b1,A1,l1,c1,b2,A2,l2,c2,h1.below hb h1.lt,h2.grow hb⟩
theorem ExBox.new {w : World} {q : Rat} {b1 : Bool} {A1 : Option Addr} {l1 c1 : Nat} {b2 : Bool} {A2 : Option Addr} {l2 c2 : Nat} (h : ExactAt w (.agg #[.bool b1,.slice A1 l1 c1,.bool b2,.slice A2 l2 c2]) q) : ExBox (w.alloc (.cells #[.bool b1,.slice A1 l1 c1,.bool b2,.slice A2 l2 c2] 223)) w.heap.size q :=
 ⟨b1,A1,l1,c1,b2,A2,l2,c2,Blk.new _ _ _,h.grow ((Below.refl _ _).alloc (Nat.le_refl _) _)⟩
theorem ExBox.put {w : World} {D : Nat} {q : Rat} {cs : Array Value} (h0 : Blk w D 223 cs) (h4 : cs.size = 4) {b1 : Bool} {A1 : Option Addr} {l1 c1 : Nat} {b2 : Bool} {A2 : Option Addr} {l2 c2 : Nat} (h : ExactAt w (.agg #[.bool b1,.slice A1 l1 c1,.bool b2,.slice A2 l2 c2]) q) :
  ExBox ((((w.setCell ⟨D,0,none⟩ (.bool b1)).setCell ⟨D,1,none⟩ (.slice A1 l1 c1)).setCell ⟨D,2,none⟩ (.bool b2)).setCell ⟨D,3,none⟩ (.slice A2 l2 c2)) D q := by
 refine ⟨b1,A1,l1,c1,b2,A2,l2,c2,?_,h.stored h0 _ _ _ _⟩
 have h5 := (((h0.set_ 0 (.bool b1)).set_ 1 (.slice A1 l1 c1)).set_ 2 (.bool b2)).set_ 3 (.slice A2 l2 c2)
 match cs,h4,h5 with
 | ⟨[x0,x1,x2,x3]⟩,_,h5 => exact h5
theorem Blk.far4 {w : World} {g D : Nat} {t : TypeId} {cs : Array Value} (h : Blk w g t cs) (hg : g ≠ D) (x0 x1 x2 x3 : Value) : Blk ((((w.setCell ⟨D,0,none⟩ x0).setCell ⟨D,1,none⟩ x1).setCell ⟨D,2,none⟩ x2).setCell ⟨D,3,none⟩ x3) g t cs :=
 (((h.far (p := ⟨D,0,none⟩) hg x0).far (p := ⟨D,1,none⟩) hg x1).far (p := ⟨D,2,none⟩) hg x2).far (p := ⟨D,3,none⟩) hg x3
structure SumSt (w wr : World) (bx : Array Value) (Ds : Nat) (q : Rat) : Prop where
 bm : Blk wr w.heap.size 117 bx
 res : Blk wr (w.heap.size + 1) 223 #[.bool false,.slice none 0 0,.bool false,.slice none 0 0]
 sum : ExBox wr Ds q
 bel : Below w.heap.size w wr
 far : w.heap.size + 1 < Ds
theorem SumSt.grow {w wr w' : World} {bx : Array Value} {Ds : Nat} {q : Rat} (h : SumSt w wr bx Ds q) (hb : Below wr.heap.size wr w') : SumSt w w' bx Ds q :=
 ⟨h.bm.below hb h.bm.lt,h.res.below hb h.res.lt,h.sum.grow hb,h.bel.trans (hb.mono h.bel.size),h.far⟩
theorem SumSt.alloc {w wr : World} {bx : Array Value} {Ds : Nat} {q : Rat} (h : SumSt w wr bx Ds q) (o : Obj) : SumSt w (wr.alloc o) bx Ds q := h.grow ((Below.refl _ _).alloc (Nat.le_refl _) _)
theorem SumSt.put {w wr : World} {bx : Array Value} {Ds : Nat} {q q' : Rat} (h : SumSt w wr bx Ds q) {b1 : Bool} {A1 : Option Addr} {l1 c1 : Nat} {b2 : Bool} {A2 : Option Addr} {l2 c2 : Nat} (hE : ExactAt wr (.agg #[.bool b1,.slice A1 l1 c1,.bool b2,.slice A2 l2 c2]) q') :
  SumSt w ((((wr.setCell ⟨Ds,0,none⟩ (.bool b1)).setCell ⟨Ds,1,none⟩ (.slice A1 l1 c1)).setCell ⟨Ds,2,none⟩ (.bool b2)).setCell ⟨Ds,3,none⟩ (.slice A2 l2 c2)) bx Ds q' := by
 have hf := h.far
 obtain ⟨_,_,_,_,_,_,_,_,h1,-⟩ := h.sum
 exact ⟨h.bm.far4 (by omega) _ _ _ _,h.res.far4 (by omega) _ _ _ _,ExBox.put h1 rfl hE,below_stored h.bel (by omega) _ _ _ _,h.far⟩
theorem SumSt.start {w w1 : World} {bx : Array Value} {q : Rat} (hb : Below (w.heap.size + 2) ((w.alloc (.cells bx 117)).alloc (.cells #[.bool false,.slice none 0 0,.bool false,.slice none 0 0] 223)) w1)
  {b1 : Bool} {A1 : Option Addr} {l1 c1 : Nat} {b2 : Bool} {A2 : Option Addr} {l2 c2 : Nat} (hE : ExactAt w1 (.agg #[.bool b1,.slice A1 l1 c1,.bool b2,.slice A2 l2 c2]) q) :
  SumSt w (w1.alloc (.cells #[.bool b1,.slice A1 l1 c1,.bool b2,.slice A2 l2 c2] 223)) bx w1.heap.size q := by
 have h1 : Blk ((w.alloc (.cells bx 117)).alloc (.cells #[.bool false,.slice none 0 0,.bool false,.slice none 0 0] 223)) (w.heap.size + 1) 223 #[.bool false,.slice none 0 0,.bool false,.slice none 0 0] := by
  have := Blk.new (w.alloc (.cells bx 117)) 223 #[.bool false,.slice none 0 0,.bool false,.slice none 0 0]
  simpa using this
 have h2 := (Blk.new w 117 bx).alloc (.cells #[.bool false,.slice none 0 0,.bool false,.slice none 0 0] 223)
 have h3 : Below w.heap.size w ((w.alloc (.cells bx 117)).alloc (.cells #[.bool false,.slice none 0 0,.bool false,.slice none 0 0] 223)) := ((Below.refl _ _).alloc (Nat.le_refl _) _).alloc (by simp) _
 have h4 : Below w.heap.size w w1 := h3.trans (hb.mono (by omega))
 have hsz : w.heap.size + 2 ≤ w1.heap.size := by have := hb.size;simpa using this
 exact ⟨(h2.below hb (by omega)).alloc _,(h1.below hb (by omega)).alloc _,ExBox.new hE,h4.alloc h4.size _,by omega⟩
end Go.Proofs.YtknkhnahflmjiaaGreatDoor

namespace Go.Proofs.YtknkhnahflmjiaaGreatDoor
open Go.RowKit Go.Shelf
theorem small2 {x y : Int} (h1 : x.natAbs ≤ 4611686018427387904) (h2 : y.natAbs ≤ 4611686018427387904) : ∀ z ∈ [x,y],z.natAbs ≤ 4611686018427387904 := fun z hz => by
 simp at hz
 rcases hz with rfl | rfl
 ·exact h1
 ·exact h2
theorem small3 {x y z : Int} (h1 : x.natAbs ≤ 4611686018427387904) (h2 : y.natAbs ≤ 4611686018427387904) (h3 : z.natAbs ≤ 4611686018427387904) : ∀ u ∈ [x,y,z],u.natAbs ≤ 4611686018427387904 := fun u hu => by
 simp at hu
 rcases hu with rfl | rfl | rfl
 ·exact h1
 ·exact h2
 ·exact h3
set_option maxRecDepth 100000 in
set_option maxHeartbeats 4000000 in
theorem bmHang (v : Value) (b : BeamT) (w : World) (hv : BeamAt w w.heap.size v b) (hb : BeamOk b) : Calls Tryz.prog 234 #[v] w (MakesE (hangR b) w) := by
 obtain ⟨As,cs,Al,cl,rfl,hS,hL⟩ := hv
 obtain ⟨_,_,e,_,hcs,hSc⟩ := hS.open_
 injection e with e1 _ e2
 subst e1 e2
 obtain ⟨_,_,e,_,hcl,hLc⟩ := hL.open_
 injection e with e1 _ e2
 subst e1 e2
 have h1 := hb.sup1
 have h2 := hb.loads1
 have h3 := hb.even
 have h4 := hb.sup 0 h1.1
 have h5 := hb.len
 unfold maxLen at hcs hcl
 have hS0 := hSc 0 h1.1
 obtain ⟨b1,o1,rfl,hb1,hS0⟩ := hS0
 have hS0 := hS0 0 h1.1
 have e0 : b.sup[0]'h1.1 = supAt b 0 := by unfold supAt;rw [List.getD_eq_getElem?_getD,List.getElem?_eq_getElem h1.1];rfl
 rw [e0,Nat.add_zero] at hS0
 have HLc := Lib.hid hLc
 have Hb := Lib.hid hb
 have s0 : (0 : Int) < (b.sup.length : Int) := by omega
 generalize hsa : supAt b 0 = a at *
 have HA := Lib.hid hsa
 obtain ⟨h41,h42⟩ := h4
 obtain ⟨h31,h32⟩ := h3
 obtain ⟨h51,h52⟩ := h5
 clear hLc hSc hb hS hL e0 hsa h1
 have hS0 := hS0
 go_enter Tryz.func234,Tryz.ntmps234
 go_wp2_with fail
 have hI := ints_new ((w.alloc (.cells #[.string b.name,.int .i64 b.len,.slice (some ⟨b1,o1,none⟩) b.sup.length cs,.slice Al b.loads.length cl,.int .i64 b.even] 117)).alloc (.cells #[.bool false,.slice none 0 0,.bool false,.slice none 0 0] 223)) 3 [b.even,a,a] (Nat.le_of_ble_eq_true rfl)
 have hsz : ((w.alloc (.cells #[.string b.name,.int .i64 b.len,.slice (some ⟨b1,o1,none⟩) b.sup.length cs,.slice Al b.loads.length cl,.int .i64 b.even] 117)).alloc (.cells #[.bool false,.slice none 0 0,.bool false,.slice none 0 0] 223)).heap.size = w.heap.size + 1 + 1 := by simp
 rw [hsz] at hI
 refine (bmProduct 2000 _ [b.even,a,a] _ hI (Nat.le_of_ble_eq_true rfl) (fun x hx => ?_) (by decide) (by decide)).mono ?_
 ·simp at hx
  omega
 rintro e w1 ⟨hb1',v1,rfl,hE1⟩
 obtain ⟨m1,B1,k1,d1,m2,B2,k2,d2,rfl,-,-⟩ := hE1.form
 have hbb := ((Below.refl _ ((w.alloc (.cells #[.string b.name,.int .i64 b.len,.slice (some ⟨b1,o1,none⟩) b.sup.length cs,.slice Al b.loads.length cl,.int .i64 b.even] 117)).alloc (.cells #[.bool false,.slice none 0 0,.bool false,.slice none 0 0] 223))).alloc (Nat.le_refl _) (.cells #[.int .i64 b.even,.int .i64 a,.int .i64 a] 3)).trans (hb1'.mono (by simp))
 rw [hsz] at hbb
 have HSt := Lib.hid (SumSt.start hbb hE1)
 have q3 := HSt.out.bm.cell 3
 simp only [List.getElem?_toArray,List.getElem?_cons_succ,List.getElem?_cons_zero] at q3
 have HH : Hid (hangTo b 0 = prodR 2000 [b.even,a,a]) := by unfold Hid hangTo;rw [HA.out];rfl
 clear hI hsz hb1' hE1 hbb
 go_wp2_with fail
 generalize w1.heap.size = Ds at *
 rw [← HH.out] at HSt
 clear HH q3
 go_loopw [20] (fun ix wr => ∃ k : Nat,k ≤ b.loads.length ∧ ix = .int .i64 k ∧ Hid (SumSt w wr #[.string b.name,.int .i64 b.len,.slice (some ⟨b1,o1,none⟩) b.sup.length cs,.slice Al b.loads.length cl,.int .i64 b.even] Ds (hangTo b k))) (fun ix _ => b.loads.length - (intOf ix).toNat)
 case atStart => exact ⟨0,Nat.zero_le _,rfl,HSt⟩
 case round =>
  clear HSt
  obtain ⟨k,hk,rfl,HSt⟩ := hrel
  have k0 : (0 : Int) ≤ (k : Int) := Int.natCast_nonneg _
  by_cases hkl : k < b.loads.length
  ·have k1 : (k : Int) < (b.loads.length : Int) := by omega
   obtain ⟨b2,o2,rfl,hlt,hcl⟩ := HLc.out k hkl
   obtain ⟨hx1,hx2⟩ := hcl k hkl
   have hx1 := (HSt.out.bel.cell (p := ⟨b2,o2 + k * 2,none⟩) hlt).trans hx1
   have hx2 := (HSt.out.bel.cell (p := ⟨b2,o2 + k * 2 + 1,none⟩) hlt).trans hx2
   obtain ⟨p1,p2,p3,p4⟩ := Hb.out.loads _ (List.getElem_mem hkl)
   have HOv := Lib.hid (overLoads_succ (b := b) (f := hangF (supAt b 0)) (s := prodR 2000 [b.even,supAt b 0,supAt b 0]) hkl)
   have HFk := Lib.hid (hang_fits Hb.out (Nat.le_of_lt hkl))
   have HSz := Lib.hid (HSt.out.alloc (.cells #[.int .i64 b.loads[k].pos,.int .i64 b.loads[k].wt] 115))
   clear hcl
   generalize b.loads[k] = x at *
   obtain ⟨pos,wt⟩ := x
   simp only at hx1 hx2 p1 p2 p3 p4 HSz
   by_cases hpa : pos < a
   ·have hd : decide (pos < a) = true := decide_eq_true hpa
    have HT : Hid (hangTo b (k + 1) = hangTo b k + prodR 1 [wt,a - pos]) := by
     unfold Hid hangTo
     rw [HOv.out]
     unfold hangF
     rw [HA.out]
     simp only [if_pos hpa]
    have HF2 : Hid (fits (prodR 1 [wt,a - pos]) 5) := fits2 (by decide) (by decide) (by omega) (by omega)
    clear HOv
    go_wp2_with fail
    obtain ⟨sb1,sA1,sl1,sc1,sb2,sA2,sl2,sc2,hB,hE⟩ := HSz.out.sum
    have y0 := hB.cell 0
    have y1 := hB.cell 1
    have y2 := hB.cell 2
    have y3 := hB.cell 3
    simp only [List.getElem?_toArray,List.getElem?_cons_succ,List.getElem?_cons_zero] at y0 y1 y2 y3
    have z := Blk.new wr 115 #[.int .i64 pos,.int .i64 wt]
    have z0 := z.cell 0
    have z1 := z.cell 1
    simp only [List.getElem?_toArray,List.getElem?_cons_succ,List.getElem?_cons_zero] at z0 z1
    have HE := Lib.hid hE
    have Hbz := Lib.hid HSz.out.bel
    have hs1 : (a - pos).natAbs ≤ 4611686018427387904 := by omega
    have hs2 : wt.natAbs ≤ 4611686018427387904 := by omega
    clear hB hE z hx1 hx2
    generalize wr.alloc (.cells #[.int .i64 pos,.int .i64 wt] 115) = W1 at *
    have u0 := HeldB.cell y0
    have u1 := HeldB.cell y1
    have u2 := HeldB.cell y2
    have u3 := HeldB.cell y3
    have u4 := HeldB.cell z0
    have u5 := HeldB.cell z1
    clear y0 y1 y2 y3 z0 z1
    refine wp_region_grow 10 (fun i => if i = 7 then some (gI [wt,a - pos]) else if i = 8 then some (gE (prodR 1 [wt,a - pos])) else if i = 9 then some (gE (hangTo b k + prodR 1 [wt,a - pos])) else none) (by kernel_rfl) (by kernel_rfl) ?_
    simp only [List.take_succ_cons,List.take_zero,List.drop_succ_cons,List.drop_zero]
    refine wpG_quiet 7 (by kernel_rfl) (by rfl) (by decide) ?_
    simp only [List.take_succ_cons,List.take_zero,List.drop_succ_cons,List.drop_zero]
    repeat (go_big_quiet_step (fail))
    refine wpQuiet_nil ?_
    refine wpG_new rfl rfl (fun w1 hb1 _ => gI_new (T := 3) (l := [wt,a - pos]) (Nat.le_of_ble_eq_true rfl) (by go_simp)) ?_
    rintro _ ⟨g35,rfl⟩
    simp only [Act.put,List.setIfInBounds_toArray,List.set_cons_zero,List.set_cons_succ]
    refine wpG_call rfl rfl ?_ ?_
    ·intro w1 hb1 hk
     have hb := (Hbz.out).trans (hb1.mono (Hbz.out).size)
     have h35 : IntsAt w1 w1.heap.size (.slice (some ⟨g35,0,none⟩) 2 2) [wt,a - pos] := hk 35 (by decide)
     have hC := MakesE.g (bmProduct 1 _ [wt,a - pos] w1 h35 (Nat.le_of_ble_eq_true rfl) (small2 hs2 hs1) (by decide) (by decide))
     exact ⟨242,#[.int .i64 1,.slice (some ⟨g35,0,none⟩) 2 2],by go_simp,hC⟩
    rintro _ ⟨r36b1,r36A1,r36l1,r36c1,r36b2,r36A2,r36l2,r36c2,rfl⟩
    simp only [Act.put,List.setIfInBounds_toArray,List.set_cons_zero,List.set_cons_succ]
    refine wpG_call rfl rfl ?_ ?_
    ·intro w1 hb1 hk
     have hb := (Hbz.out).trans (hb1.mono (Hbz.out).size)
     have h36 : ExactAt w1 (.agg #[.bool r36b1,.slice r36A1 r36l1 r36c1,.bool r36b2,.slice r36A2 r36l2 r36c2]) (prodR 1 [wt,a - pos]) := hk 36 (by decide)
     have hC := MakesE.g (bmEPlus _ _ _ _ 245 5 w1 (HE.out.grow hb1) h36 HFk.out HF2.out (by decide))
     exact ⟨193,#[.agg #[.bool sb1,.slice sA1 sl1 sc1,.bool sb2,.slice sA2 sl2 sc2],.agg #[.bool r36b1,.slice r36A1 r36l1 r36c1,.bool r36b2,.slice r36A2 r36l2 r36c2]],by go_simp,hC⟩
    rintro _ ⟨r37b1,r37A1,r37l1,r37c1,r37b2,r37A2,r37l2,r37c2,rfl⟩
    simp only [Act.put,List.setIfInBounds_toArray,List.set_cons_zero,List.set_cons_succ]
    refine wpG_nil ?_
    intro w8 hb8 hF
    have h37 : ExactAt w8 (.agg #[.bool r37b1,.slice r37A1 r37l1 r37c1,.bool r37b2,.slice r37A2 r37l2 r37c2]) (hangTo b k + prodR 1 [wt,a - pos]) := hF 37
    have HL := Lib.hid h37
    have HS8 := Lib.hid (HSz.out.grow hb8)
    obtain ⟨_,_,_,_,_,_,_,_,h1,-⟩ := HS8.out.sum
    have q0 := h1.cell 0
    have q1 := h1.cell 1
    have q2 := h1.cell 2
    have q3 := h1.cell 3
    have f0 := h1.frozen 0
    have f1 := h1.frozen 1
    have f2 := h1.frozen 2
    have f3 := h1.frozen 3
    simp only [List.getElem?_toArray,List.getElem?_cons_succ,List.getElem?_cons_zero] at q0 q1 q2 q3
    rw [← HT.out] at HL
    clear hF u0 u1 u2 u3 u4 u5 hb8 h37 h1 HE Hbz HSz HSt
    go_wp2_with fail
    have HS9 := Lib.hid (HS8.out.put HL.out)
    clear q0 q1 q2 q3 f0 f1 f2 f3 HL HS8
    go_roundw
    case rel => exact ⟨k + 1,by omega,by go_num,HS9⟩
    case measure => simp [intOf];omega
   ·have hd : decide (pos < a) = false := decide_eq_false hpa
    have HT : Hid (hangTo b (k + 1) = hangTo b k) := by
     unfold Hid hangTo
     rw [HOv.out]
     unfold hangF
     rw [HA.out]
     simp only [if_neg hpa]
    rw [← HT.out] at HSz
    clear HOv HSt
    go_wp2_with fail
    go_roundw
    case rel => exact ⟨k + 1,by omega,by go_num,HSz⟩
    case measure => simp [intOf];omega
  ·obtain rfl : k = b.loads.length := by omega
   obtain ⟨sb1,sA1,sl1,sc1,sb2,sA2,sl2,sc2,hB,hE⟩ := HSt.out.sum
   have y0 := hB.cell 0
   have y1 := hB.cell 1
   have y2 := hB.cell 2
   have y3 := hB.cell 3
   simp only [List.getElem?_toArray,List.getElem?_cons_succ,List.getElem?_cons_zero] at y0 y1 y2 y3
   have HE := Lib.hid hE
   have Hbz := Lib.hid HSt.out.bel
   have HFk := Lib.hid (hang_fits Hb.out (Nat.le_refl _))
   have HSz := HSt
   clear hB hE HSt
   go_wp2_with fail
   have u0 := HeldB.cell y0
   have u1 := HeldB.cell y1
   have u2 := HeldB.cell y2
   have u3 := HeldB.cell y3
   clear y0 y1 y2 y3
   refine wp_region_grow 3 (fun i => if i = 0 then some (gE (((0 : Int) : Rat))) else if i = 2 then some (gE (hangR b)) else none) (by kernel_rfl) (by kernel_rfl) ?_
   simp only [List.take_succ_cons,List.take_zero,List.drop_succ_cons,List.drop_zero]
   refine wpG_call rfl rfl ?_ ?_
   ·intro w1 hb1 hk
    have hb := (Hbz.out).trans (hb1.mono (Hbz.out).size)
    have hC := MakesE.g (bmWhole 0 w1 (by decide) (by decide))
    exact ⟨192,#[.int .i64 0],by go_simp,hC⟩
   rintro _ ⟨r39b1,r39A1,r39l1,r39c1,r39b2,r39A2,r39l2,r39c2,rfl⟩
   simp only [Act.put,List.setIfInBounds_toArray,List.set_cons_zero,List.set_cons_succ]
   refine wpG_quiet 1 (by kernel_rfl) (by rfl) (by decide) ?_
   simp only [List.take_succ_cons,List.take_zero,List.drop_succ_cons,List.drop_zero]
   repeat (go_big_quiet_step (fail))
   refine wpQuiet_nil ?_
   refine wpG_call rfl rfl ?_ ?_
   ·intro w1 hb1 hk
    have hb := (Hbz.out).trans (hb1.mono (Hbz.out).size)
    have h39 : ExactAt w1 (.agg #[.bool r39b1,.slice r39A1 r39l1 r39c1,.bool r39b2,.slice r39A2 r39l2 r39c2]) (((0 : Int) : Rat)) := hk 39 (by decide)
    have hC := MakesE.g (bmELess _ _ _ _ 1 245 w1 h39 (HE.out.grow hb1) (fits_int (by decide) (Nat.le_refl _)) HFk.out (by decide))
    exact ⟨195,#[.agg #[.bool r39b1,.slice r39A1 r39l1 r39c1,.bool r39b2,.slice r39A2 r39l2 r39c2],.agg #[.bool sb1,.slice sA1 sl1 sc1,.bool sb2,.slice sA2 sl2 sc2]],by go_simp,hC⟩
   rintro _ ⟨r41b1,r41A1,r41l1,r41c1,r41b2,r41A2,r41l2,r41c2,rfl⟩
   simp only [Act.put,List.setIfInBounds_toArray,List.set_cons_zero,List.set_cons_succ]
   refine wpG_nil ?_
   intro w8 hb8 hF
   have h41 : ExactAt w8 (.agg #[.bool r41b1,.slice r41A1 r41l1 r41c1,.bool r41b2,.slice r41A2 r41l2 r41c2]) (hangR b) := hF 41
   have HL := Lib.hid h41
   have HD8 := Lib.hid (HSz.out.res.below hb8 HSz.out.res.lt)
   have HB8 := Lib.hid (Hbz.out.trans (hb8.mono Hbz.out.size))
   have q0 := HD8.out.cell 0
   have q1 := HD8.out.cell 1
   have q2 := HD8.out.cell 2
   have q3 := HD8.out.cell 3
   have f0 := HD8.out.frozen 0
   have f1 := HD8.out.frozen 1
   have f2 := HD8.out.frozen 2
   have f3 := HD8.out.frozen 3
   simp only [List.getElem?_toArray,List.getElem?_cons_succ,List.getElem?_cons_zero] at q0 q1 q2 q3
   clear hF u0 u1 u2 u3 h41 hb8 HE Hbz HSz
   go_wp2_with fail
   refine bodyPost_ret (v := .agg #[.bool r41b1,.slice r41A1 r41l1 r41c1,.bool r41b2,.slice r41A2 r41l2 r41c2]) (by simp [results,Tryz.results234,go_sem,q0,q1,q2,q3]) rfl ?_
   exact ⟨below_stored HB8.out (by omega) _ _ _ _,_,rfl,HL.out.stored HD8.out _ _ _ _⟩
end Go.Proofs.YtknkhnahflmjiaaGreatDoor
