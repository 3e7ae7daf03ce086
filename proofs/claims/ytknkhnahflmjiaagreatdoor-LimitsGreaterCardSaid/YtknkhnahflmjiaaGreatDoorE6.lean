/- Parts of the proof, laid into one text: Frac, ReaA, ReaB. -/
import Derived.BigQuiet
import Derived.Deep.AppendLies
import Derived.Deep.Draws
import Derived.Deep.LoopGhost
import Derived.Deep.QuietTactic
import Derived.Deep.RegionHeld3
import Derived.IntWalk
import Derived.Laws.Bits64b
import Derived.Lib.Hide
import Derived.LoopIn
import Derived.LoopNIn
import Derived.Maps.AppendAt
import Derived.Outline
import Derived.OwnWalkIn
import Derived.RangeFuncBox
import Derived.RangeFuncLeaves
import Derived.Shelf.Abstract
import Derived.StillTail
import Derived.StillTailTactics
import Derived.TacticsInMore
import Derived.Test.YtknkhnahflmjiaaGreatDoorB1
import Derived.Test.YtknkhnahflmjiaaGreatDoorE1
import Derived.Test.YtknkhnahflmjiaaGreatDoorE2
import Derived.Test.YtknkhnahflmjiaaGreatDoorE3
import Derived.Test.YtknkhnahflmjiaaGreatDoorE4
import Derived.Test.YtknkhnahflmjiaaGreatDoorE5
import Derived.Test.YtknkhnahflmjiaaGreatDoorProg
import Derived.WalkKit
import Derived.WalkLawsBesides
import Derived.WalkSpells

namespace Go.Proofs.YtknkhnahflmjiaaGreatDoor
open Go.RowKit Go.Shelf
structure FrT where
 num : Int
 den : Int
deriving DecidableEq
def FrT.cells (x : FrT) : List Value := [.int .i64 x.num,.int .i64 x.den]
abbrev FrT.val (x : FrT) : Value := .agg #[.int .i64 x.num,.int .i64 x.den]
def frOf (q : Rat) : FrT := ⟨q.num,(q.den : Int)⟩
def FrsAt (w : World) (B : Nat) (v : Value) (l : List FrT) : Prop := Flat w B v l.length (l.flatMap FrT.cells)
theorem FrsAt.below {w w' : World} {B B' : Nat} {v : Value} {l : List FrT} (h : FrsAt w B v l) (hb : Below B' w w') (hB : B ≤ B') : FrsAt w' B v l := Flat.below h hb hB
theorem FrsAt.mono {w : World} {B B' : Nat} {v : Value} {l : List FrT} (h : FrsAt w B v l) (hB : B ≤ B') : FrsAt w B' v l := Flat.mono h hB
theorem fr_get (l : List FrT) (j i : Nat) (hj : j < l.length) (hi : i < 2) : (l.flatMap FrT.cells)[j * 2 + i]? = l[j].cells[i]? := by
 induction l generalizing j with
 | nil => simp at hj
 | cons t l ih =>
  have h5 : t.cells.length = 2 := rfl
  rw [List.flatMap_cons]
  cases j with
  | zero => rw [List.getElem?_append_left (by rw [h5];omega)];simp
  | succ j =>
   rw [List.getElem?_append_right (by rw [h5];omega),h5]
   have := ih j (by simpa using hj)
   rw [show (j + 1) * 2 + i - 2 = j * 2 + i by omega,this]
   rfl
theorem FrsAt.open_ {w : World} {B : Nat} {v : Value} {l : List FrT} (h : FrsAt w B v l) :
  ∃ A c,v = .slice A l.length c ∧ l.length ≤ c ∧ c ≤ maxLen ∧ ∀ k (_ : k < l.length),∃ b off,A = some ⟨b,off,none⟩ ∧ b < B ∧ ∀ j (hj : j < l.length),w.cell? ⟨b,off + j * 2,none⟩ = some (.int .i64 l[j].num) ∧ w.cell? ⟨b,off + j * 2 + 1,none⟩ = some (.int .i64 l[j].den) := by
 obtain ⟨A,c,h1,h2,h3,h4⟩ := h
 refine ⟨A,c,h1,h2,h3,fun k hk => ?_⟩
 obtain ⟨b,off,e,hlt,hc⟩ := h4 (by omega)
 refine ⟨b,off,e,hlt,fun j hj => ?_⟩
 have f := fun (i : Nat) (hi : i < 2) u (hu : l[j].cells[i]? = some u) => hc (j * 2 + i) u ((fr_get l j i hj hi).trans hu)
 have g := fun (i : Nat) (hi : i < 2) u (hu : l[j].cells[i]? = some u) => (congrArg (fun o => w.cell? ⟨b,o,none⟩) (Nat.add_assoc off (j * 2) i)).trans (f i hi u hu)
 exact ⟨g 0 (by omega) _ rfl,g 1 (by omega) _ rfl⟩
theorem info_frac : (Tryz.prog.info? 23).map (fun i => (i.zero,i.size,i.bytes)) = some (some (.agg #[.int .i64 0,.int .i64 0]),2,16) := by kernel_rfl
def allOk (l : List Rat) : Bool := l.all fracOk
def FracsPost (l : List Rat) (w : World) (e : Ending) (w' : World) : Prop :=
 Below w.heap.size w w' ∧ ((allOk l = true ∧ ∃ v,e = .returned (.tuple #[v,.int .i64 0]) ∧ w'.ownsRow w.heap.size 23 2 v l.length ((l.map frOf).flatMap FrT.cells)) ∨ (allOk l = false ∧ e = .returned (.tuple #[.slice none 0 0,.int .i64 5])))
theorem allOk_false {l : List Rat} {k : Nat} (hk : k < l.length) (h : fracOk l[k] = false) : allOk l = false := by
 unfold allOk
 rw [List.all_eq_false]
 exact ⟨l[k],List.getElem_mem hk,by rw [h];decide⟩
theorem fracV_ok {q : Rat} (h : fracOk q = true) : fracV q = .tuple #[.agg #[.int .i64 q.num,.int .i64 (q.den : Int)],.int .i64 0] := if_pos h
theorem fracV_no {q : Rat} (h : fracOk q = false) : fracV q = .tuple #[.agg #[.int .i64 0,.int .i64 0],.int .i64 5] := if_neg (by rw [h];decide)
theorem ownF_below {w w' : World} {B e s n : Nat} {v : Value} {xs : List Value} (h : w.ownsRow B e s v n xs) (hb : Below w.heap.size w w') : w'.ownsRow B e s v n xs :=
 h.kept (grown_below (row := none) hb) (by
  by_cases e : v.ownBlock = none
  ·exact .inl e
  ·exact .inr e)
set_option maxRecDepth 100000 in
set_option maxHeartbeats 4000000 in
theorem bmFracs (v : Value) (l : List Rat) (w : World) (hv : ExsAt w v l) (hl : l.length ≤ 100) : Calls Tryz.prog 144 #[v] w (FracsPost l w) := by
 obtain ⟨g,rfl,hR⟩ := hv
 have HR := Lib.hid hR
 obtain ⟨iF,hiF,hzF0,hzF1,hzF2⟩ := info_parts info_frac
 clear hR
 go_enter Tryz.func144,Tryz.ntmps144
 go_wp2_with fail
 go_loopw [4,11] (fun ox ix wr => ∃ k : Nat,k ≤ l.length ∧ ix = .int .i64 k ∧ Hid (wr.ownsRow w.heap.size 23 2 ox k (((l.take k).map frOf).flatMap FrT.cells)) ∧ Hid (allOk (l.take k) = true) ∧ Hid (Below w.heap.size w wr)) (fun _ ix _ => l.length - (intOf ix).toNat)
 case atStart => exact ⟨0,Nat.zero_le _,rfl,World.ownsRow_nil _ _ _ _,rfl,Below.refl _ _⟩
 case round =>
  obtain ⟨k,hk,rfl,HO,HA,HB⟩ := hrel
  have k0 : (0 : Int) ≤ (k : Int) := Int.natCast_nonneg _
  by_cases hkl : k < l.length
  ·have k1 : (k : Int) < (l.length : Int) := by omega
   obtain ⟨sb1,sA1,sl1,sc1,sb2,sA2,sl2,sc2,y0,y1,y2,y3,hE⟩ := HR.out.read (i := k) hkl
   have HE := Lib.hid (hE l[k] (List.getElem?_eq_getElem hkl))
   have hg := HR.out.lt
   have y0 := (HB.out.cell (p := ⟨g,k * 4,none⟩) hg).trans y0
   have y1 := (HB.out.cell (p := ⟨g,k * 4 + 1,none⟩) hg).trans y1
   have y2 := (HB.out.cell (p := ⟨g,k * 4 + 2,none⟩) hg).trans y2
   have y3 := (HB.out.cell (p := ⟨g,k * 4 + 3,none⟩) hg).trans y3
   have HTk : Hid (l.take (k + 1) = l.take k ++ [l[k]]) := take_snoc l k hkl
   have HNo := Lib.hid (fun h : fracOk l[k] = false => allOk_false hkl h)
   clear hE hg
   generalize l[k] = q at *
   go_wp2_with fail
   have hbA := (Below.refl wr.heap.size wr).alloc (Nat.le_refl _) (.cells #[.bool sb1,.slice sA1 sl1 sc1,.bool sb2,.slice sA2 sl2 sc2] 223)
   refine (bmFrac _ q _ ((HE.out.grow HB.out).grow hbA)).mono ?_
   rintro e w5 ⟨rfl,hb5⟩
   have hb5 := hbA.trans (hb5.mono hbA.size)
   have HB5 := Lib.hid (HB.out.trans (hb5.mono HB.out.size))
   have HO5 := Lib.hid (ownF_below HO.out hb5)
   clear hb5 hbA y0 y1 y2 y3
   cases hq : fracOk q with
   | true =>
    rw [fracV_ok hq]
    have HQ := Lib.hid hq
    have hbs := HB5.out.size
    have HOa := Lib.hid ((HO5.out.alloc (.cells #[.int .i64 q.num,.int .i64 (q.den : Int)] 23)).alloc (.cells #[.int .i64 q.num,.int .i64 (q.den : Int)] 23))
    have hnew := World.news_of_block (Blk.new (w5.alloc (.cells #[.int .i64 q.num,.int .i64 (q.den : Int)] 23)) 23 #[.int .i64 q.num,.int .i64 (q.den : Int)])
    rw [World.size_alloc] at hnew
    have Hnew := Lib.hid hnew
    have HAl : Hid (allOk (l.take (k + 1)) = true) := by
     unfold Hid
     rw [HTk.out]
     unfold allOk
     rw [List.all_append]
     have h := HA.out
     unfold allOk at h
     rw [h]
     simpa using HQ.out
    clear hq hnew HO HO5
    go_wp2_with (at_builtin;refine wpList_append_own _ rfl _ _ 42 rfl w.heap.size 23 iF (.agg #[.int .i64 0,.int .i64 0]) 2 16 Tryz.underlying42 hiF hzF0 hzF1 hzF2 rfl (by decide) _ _ _ rfl HOa.out ⟨w5.heap.size + 1,0,none⟩ 1 1 [.int .i64 q.num,.int .i64 (q.den : Int)] rfl rfl Hnew.out (by simp [Value.oneCell']) (by unfold maxLen;omega) (by omega) (by simp;omega) ?_;intro v' w1 hown' hgrow _;obtain ⟨g',cap',rfl⟩ := ownsRow_succ hown')
    have hb6 := ((HB5.out.alloc hbs (.cells #[.int .i64 q.num,.int .i64 (q.den : Int)] 23)).alloc (by simp;omega) (.cells #[.int .i64 q.num,.int .i64 (q.den : Int)] 23)).grown hgrow (by simp;omega) (fun j ej => (HOa.out.lt j ej).1)
    have HB6 := Lib.hid hb6
    have hO6 : w1.ownsRow w.heap.size 23 2 (.slice (some ⟨g',0,none⟩) (k + 1) cap') (k + 1) (((l.take (k + 1)).map frOf).flatMap FrT.cells) := by
     rw [HTk.out,List.map_append,List.flatMap_append]
     exact hown'
    have HO6 := Lib.hid hO6
    clear hb6 hO6 hown' hgrow HOa HB5 HB HA
    go_roundw
    case rel => exact ⟨k + 1,by omega,by go_num,HO6,HAl,HB6⟩
    case measure => simp [intOf];omega
   | false =>
    rw [fracV_no hq]
    have HQ := Lib.hid (HNo.out hq)
    have hbs := HB5.out.size
    have HB6 := Lib.hid (HB5.out.alloc hbs (.cells #[.int .i64 0,.int .i64 0] 23))
    clear hq HO HO5
    go_wp2_with fail
    refine bodyPost_ret (results_tmp2 rfl _ _ _) (by rfl) ?_
    exact ⟨HB6.out,.inr ⟨HQ.out,rfl⟩⟩
  ·obtain rfl : k = l.length := by omega
   rw [List.take_length] at HO HA
   go_wp2_with fail
   refine bodyPost_ret (results_tmp2 rfl _ _ _) (by rfl) ?_
   exact ⟨HB.out,.inl ⟨HA.out,_,rfl,HO.out⟩⟩
end Go.Proofs.YtknkhnahflmjiaaGreatDoor

namespace Go.Proofs.YtknkhnahflmjiaaGreatDoor
open Go.RowKit Go.Shelf
theorem moml_at (b : BeamT) {i : Nat} (hi : i < b.sup.length) : (momL b)[i]? = some (momAt b i) := by
 unfold momL
 rw [List.getElem?_map,List.getElem?_range hi]
 rfl
def restQ (b : BeamT) (i : Nat) : Nat → Option Rat := fun j => if j < i then some (reactR b j) else none
theorem restQ_succ (b : BeamT) (i : Nat) : restQ b (i + 1) = putQ (restQ b i) i (reactR b i) := by
 funext j
 unfold restQ putQ
 by_cases e : j = i
 ·subst e
  rw [if_pos rfl,if_pos (Nat.lt_succ_self _)]
 ·rw [if_neg e]
  dsimp only
  by_cases h : j < i
  ·rw [if_pos h,if_pos (by omega)]
  ·rw [if_neg h,if_neg (by omega)]
theorem restQ_all (b : BeamT) {j : Nat} {q : Rat} (h : (reactL b)[j]? = some q) : restQ b b.sup.length j = some q := by
 unfold reactL at h
 rw [List.getElem?_map] at h
 cases hj : (List.range b.sup.length)[j]? with
 | none => rw [hj] at h;cases h
 | some x =>
  rw [hj] at h
  obtain ⟨h1,h2⟩ := List.getElem?_eq_some_iff.1 hj
  simp only [List.getElem_range] at h2
  subst h2
  unfold restQ
  rw [if_pos (by simpa using h1)]
  exact h
theorem reactl_len (b : BeamT) : (reactL b).length = b.sup.length := by simp [reactL]
structure RcSt (w wr : World) (b : BeamT) (bx : Array Value) (gm go : Nat) (fo : Nat → Option Rat) : Prop where
 bm : Blk wr w.heap.size 117 bx
 mom : ExRow wr gm b.sup.length (fun j => (momL b)[j]?)
 out : ExRow wr go b.sup.length fo
 bel : Below w.heap.size w wr
 gm : gm < w.heap.size
 go : w.heap.size < go
section
variable {w wr w' : World} {b : BeamT} {bx : Array Value} {gm go : Nat} {fo : Nat → Option Rat}
theorem RcSt.grow (h : RcSt w wr b bx gm go fo) (hb : Below wr.heap.size wr w') : RcSt w w' b bx gm go fo :=
 ⟨h.bm.below hb h.bm.lt,h.mom.grow hb,h.out.grow hb,h.bel.trans (hb.mono h.bel.size),h.gm,h.go⟩
theorem RcSt.alloc (h : RcSt w wr b bx gm go fo) (o : Obj) : RcSt w (wr.alloc o) b bx gm go fo := h.grow ((Below.refl _ _).alloc (Nat.le_refl _) _)
theorem RcSt.put (h : RcSt w wr b bx gm go fo) {i : Nat} (hi : i < b.sup.length) {b1 : Bool} {A1 : Option Addr} {l1 c1 : Nat} {b2 : Bool} {A2 : Option Addr} {l2 c2 : Nat} {q : Rat} (hE : ExactAt wr (.agg #[.bool b1,.slice A1 l1 c1,.bool b2,.slice A2 l2 c2]) q) :
  RcSt w ((((wr.setCell ⟨go,i * 4,none⟩ (.bool b1)).setCell ⟨go,i * 4 + 1,none⟩ (.slice A1 l1 c1)).setCell ⟨go,i * 4 + 2,none⟩ (.bool b2)).setCell ⟨go,i * 4 + 3,none⟩ (.slice A2 l2 c2)) b bx gm go (putQ fo i q) := by
 obtain ⟨cs,hg⟩ := h.out.blk
 have h1 := h.gm
 have h2 := h.go
 exact ⟨h.bm.far4o (Nat.ne_of_lt h2) _ _ _ _ _,h.mom.far hg (by omega) _ _ _ _ _,h.out.write hi hE,below_set4 h.bel (Nat.le_of_lt h2) _ _ _ _ _,h1,h2⟩
end
def ExsPost (l : List Rat) (w : World) (e : Ending) (w' : World) : Prop := Below w.heap.size w w' ∧ ∃ v,e = .returned v ∧ ExsAt w' v l
end Go.Proofs.YtknkhnahflmjiaaGreatDoor

namespace Go.Proofs.YtknkhnahflmjiaaGreatDoor
open Go.RowKit Go.Shelf
set_option maxRecDepth 100000 in
set_option maxHeartbeats 8000000 in
theorem bmReacts (v u : Value) (b : BeamT) (w : World) (hv : BeamAt w w.heap.size v b) (hu : ExsAt w u (momL b)) (hb : BeamOk b) : Calls Tryz.prog 145 #[v,u] w (ExsPost (reactL b) w) := by
 obtain ⟨As,cs,Al,cl,rfl,hS,hL⟩ := hv
 obtain ⟨gm,rfl,hM⟩ := hu
 obtain ⟨hm1,hm2⟩ := hb.sup1
 obtain ⟨_,_,e,_,_,hSc⟩ := hS.open_
 injection e with e1 _ e2
 subst e1 e2
 obtain ⟨bs,os,rfl,hbs,hSx⟩ := hSc 0 hm1
 obtain ⟨_,_,e,_,hcl,hLc⟩ := hL.open_
 injection e with e1 _ e2
 subst e1 e2
 unfold maxLen at hcl
 have HV : Hid (BeamAt w w.heap.size (.agg #[.string b.name,.int .i64 b.len,.slice (some ⟨bs,os,none⟩) b.sup.length cs,.slice Al b.loads.length cl,.int .i64 b.even]) b) := ⟨_,_,Al,cl,rfl,hS,hL⟩
 have HSx : Hid (∀ j,j < b.sup.length → w.cell? ⟨bs,os + j,none⟩ = some (.int .i64 (supAt b j))) := fun j hj => by
  have h := hSx j hj
  unfold supAt
  rw [List.getD_eq_getElem?_getD,List.getElem?_eq_getElem hj]
  exact h
 have HLc := Lib.hid hLc
 have Hb := Lib.hid hb
 have HbT := Lib.hid (turned_ok hb)
 rw [moml_len] at hM
 rw [moml_len]
 have HM := Lib.hid hM
 have HD := Lib.hid (Blk.new w 117 #[.string b.name,.int .i64 b.len,.slice (some ⟨bs,os,none⟩) b.sup.length cs,.slice Al b.loads.length cl,.int .i64 b.even])
 have HB := Lib.hid ((Below.refl _ w).alloc (Nat.le_refl _) (.cells #[.string b.name,.int .i64 b.len,.slice (some ⟨bs,os,none⟩) b.sup.length cs,.slice Al b.loads.length cl,.int .i64 b.even] 117))
 have hll := hb.loads1
 obtain ⟨iE,hiE,hzE0,hzE1,hzE2⟩ := info_parts info_exact
 have hbytes : iE.bytes * b.sup.length ≤ 281474976710656 := by rw [hzE2];omega
 clear hS hL hb hSc hSx hLc hM
 go_enter Tryz.func145,Tryz.ntmps145
 go_wp2_with (at_make;refine wpList_make_full _ rfl _ _ 172 rfl _ 223 iE (.agg #[.bool false,.slice none 0 0,.bool false,.slice none 0 0]) 4 Tryz.underlying172 hiE hzE0 hzE1 .i64 .i64 _ _ b.sup.length rfl rfl rfl rfl hbytes (by unfold maxLen;omega) (Nat.le_refl _) ?_;intro w10 hown10 hgrow10;have HD10 := Lib.hid (HD.out.kept hgrow10 (by simp));have y0 := HD10.out.cell 0;have y1 := HD10.out.cell 1;have y2 := HD10.out.cell 2;have y3 := HD10.out.cell 3;simp only [List.getElem?_toArray,List.getElem?_cons_succ,List.getElem?_cons_zero] at y0 y1 y2 y3;have HO10 := Lib.hid hown10;have HG10 := Lib.hid hgrow10;clear hown10 hgrow10)
 have HRc : Hid (RcSt w w10 b #[.string b.name,.int .i64 b.len,.slice (some ⟨bs,os,none⟩) b.sup.length cs,.slice Al b.loads.length cl,.int .i64 b.even] gm (w.heap.size + 1) (restQ b 0)) := by
  have hsz : (w.alloc (.cells #[.string b.name,.int .i64 b.len,.slice (some ⟨bs,os,none⟩) b.sup.length cs,.slice Al b.loads.length cl,.int .i64 b.even] 117)).heap.size = w.heap.size + 1 := by simp
  have hb10 := (Below.refl (w.alloc (.cells #[.string b.name,.int .i64 b.len,.slice (some ⟨bs,os,none⟩) b.sup.length cs,.slice Al b.loads.length cl,.int .i64 b.even] 117)).heap.size (w.alloc (.cells #[.string b.name,.int .i64 b.len,.slice (some ⟨bs,os,none⟩) b.sup.length cs,.slice Al b.loads.length cl,.int .i64 b.even] 117))).grown HG10.out (Nat.le_refl _) (fun k hk => by cases hk)
  have hrow := ExRow.made HO10.out
  have hb := HB.out.trans (hb10.mono HB.out.size)
  exact ⟨HD10.out,(HM.out.grow ((Below.refl _ w).alloc (Nat.le_refl _) _)).grow hb10,by
   have h := hrow.weak (f' := restQ b 0) (fun j q _ h => by unfold restQ at h;rw [if_neg (by omega)] at h;cases h)
   simpa using h,hb,HM.out.lt,by omega⟩
 have HGm := Lib.hid HM.out.lt
 clear HM HD10 HO10 HG10 HD HB hbytes hiE hzE0 hzE1 hzE2 y0 y1 y2 y3
 generalize w.heap.size + 1 = go at *
 go_loopw [21] (fun ix wr => ∃ i : Nat,i ≤ b.sup.length ∧ ix = .int .i64 i ∧ Hid (RcSt w wr b #[.string b.name,.int .i64 b.len,.slice (some ⟨bs,os,none⟩) b.sup.length cs,.slice Al b.loads.length cl,.int .i64 b.even] gm go (restQ b i))) (fun ix _ => b.sup.length - (intOf ix).toNat)
 case atStart => exact ⟨0,Nat.zero_le _,rfl,HRc⟩
 case round =>
  clear HRc
  obtain ⟨i,him,rfl,HR⟩ := hrel
  have k0 : (0 : Int) ≤ (i : Int) := Int.natCast_nonneg _
  have k01 : (i : Int) ≤ 10 := by omega
  by_cases hil : i < b.sup.length
  ·have k1 : (i : Int) < (b.sup.length : Int) := by omega
   obtain ⟨sq,hsq⟩ : ∃ sq,supAt b i = sq := ⟨_,rfl⟩
   have HSq := Lib.hid hsq
   have z1 := (HR.out.bel.cell (p := ⟨bs,os + i,none⟩) hbs).trans (HSx.out i hil)
   have ts := Hb.out.sup i hil
   have tl := Hb.out.len
   rw [hsq] at z1 ts
   clear hsq
   obtain ⟨ts1,ts2⟩ := ts
   obtain ⟨tl1,tl2⟩ := tl
   have y0 := HR.out.bm.cell 0
   have y1 := HR.out.bm.cell 1
   have y2 := HR.out.bm.cell 2
   have y3 := HR.out.bm.cell 3
   have y4 := HR.out.bm.cell 4
   simp only [List.getElem?_toArray,List.getElem?_cons_succ,List.getElem?_cons_zero] at y0 y1 y2 y3 y4
   go_wp2_with fail
   refine (bmWhole _ _ (by decide) (by decide)).mono ?_
   rintro e w5 ⟨hb5,v5,rfl,hE5⟩
   obtain ⟨d5b1,d5A1,d5l1,d5c1,d5b2,d5A2,d5l2,d5c2,rfl,-,-⟩ := hE5.form
   have HE5 := Lib.hid hE5
   have HR5 := Lib.hid (HR.out.grow hb5)
   obtain ⟨_,_,_,_,_,_,_,_,o0,o1,o2,o3,-⟩ := HR5.out.out.read (i := i) hil
   have fo0 := HR5.out.out.frozen (i * 4)
   have fo1 := HR5.out.out.frozen (i * 4 + 1)
   have fo2 := HR5.out.out.frozen (i * 4 + 2)
   have fo3 := HR5.out.out.frozen (i * 4 + 3)
   have HR6 := Lib.hid (HR5.out.put (i := i) hil HE5.out)
   have y3 := HR6.out.bm.cell 3
   simp only [List.getElem?_toArray,List.getElem?_cons_succ,List.getElem?_cons_zero] at y3
   clear y0 y1 y2 y4 hE5 hb5 HR z1
   go_wp2_with fail
   generalize ((((w5.setCell ⟨go,i * 4,none⟩ (.bool d5b1)).setCell ⟨go,i * 4 + 1,none⟩ (.slice d5A1 d5l1 d5c1)).setCell ⟨go,i * 4 + 2,none⟩ (.bool d5b2)).setCell ⟨go,i * 4 + 3,none⟩ (.slice d5A2 d5l2 d5c2)) = W6 at *
   clear HR5 HE5 o0 o1 o2 o3 fo0 fo1 fo2 fo3 y3
   obtain ⟨wo,rfl⟩ : ∃ wo : World,wo = W6 := ⟨_,rfl⟩
   have HR7 : Hid (RcSt w wo b #[.string b.name,.int .i64 b.len,.slice (some ⟨bs,os,none⟩) b.sup.length cs,.slice Al b.loads.length cl,.int .i64 b.even] gm go (putQ (restQ b i) i (hereTo b sq 0))) := HR6
   clear HR6
   go_loopw [33] (fun kx wr => ∃ k : Nat,k ≤ b.loads.length ∧ kx = .int .i64 k ∧ Hid (RcSt w wr b #[.string b.name,.int .i64 b.len,.slice (some ⟨bs,os,none⟩) b.sup.length cs,.slice Al b.loads.length cl,.int .i64 b.even] gm go (putQ (restQ b i) i (hereTo b sq k)))) (fun kx _ => b.loads.length - (intOf kx).toNat)
   case atStart => exact ⟨0,Nat.zero_le _,rfl,HR7⟩
   case round =>
    clear HR7
    obtain ⟨k,hk,rfl,HR⟩ := hrel
    have kk0 : (0 : Int) ≤ (k : Int) := Int.natCast_nonneg _
    by_cases hkl : k < b.loads.length
    ·have kk1 : (k : Int) < (b.loads.length : Int) := by omega
     obtain ⟨b2,o2,rfl,hlt,hcl2⟩ := HLc.out k hkl
     obtain ⟨hx1,hx2⟩ := hcl2 k hkl
     have hx1 := (HR.out.bel.cell (p := ⟨b2,o2 + k * 2,none⟩) hlt).trans hx1
     have hx2 := (HR.out.bel.cell (p := ⟨b2,o2 + k * 2 + 1,none⟩) hlt).trans hx2
     obtain ⟨p1,p2,p3,p4⟩ := Hb.out.loads _ (List.getElem_mem hkl)
     have HOv := Lib.hid (overLoads_succ (b := b) (f := hereF sq) (s := ((0 : Int) : Rat)) hkl)
     have HFk := Lib.hid (here_fits Hb.out sq (Nat.le_of_lt hkl))
     have HSz := Lib.hid (HR.out.alloc (.cells #[.int .i64 b.loads[k].pos,.int .i64 b.loads[k].wt] 115))
     clear hcl2
     generalize b.loads[k] = x at *
     obtain ⟨pos,wt⟩ := x
     simp only at hx1 hx2 p1 p2 p3 p4 HSz
     by_cases hpa : pos = sq
     ·have hd : (pos == sq) = true := beq_iff_eq.2 hpa
      have HT : Hid (hereTo b sq (k + 1) = hereTo b sq k + ((wt : Int) : Rat)) := by
       unfold Hid hereTo
       rw [HOv.out]
       unfold hereF
       simp only [if_pos hpa]
      have HF2 : Hid (fits ((wt : Int) : Rat) 5) := wt_fits (x := ⟨pos,wt⟩) ⟨p3,p4⟩
      clear HOv hpa
      go_wp2_with fail
      have z := Blk.new wr 115 #[.int .i64 pos,.int .i64 wt]
      have z2 := z.cell 0
      have z3 := z.cell 1
      simp only [List.getElem?_toArray,List.getElem?_cons_succ,List.getElem?_cons_zero] at z2 z3
      clear z hx1 hx2 HR
      generalize wr.alloc (.cells #[.int .i64 pos,.int .i64 wt] 115) = W7 at *
      have uz0 := HeldB.cell z2
      have uz1 := HeldB.cell z3
      clear z2 z3
      obtain ⟨pb1,pA1,pl1,pc1,pb2,pA2,pl2,pc2,a0,a1,a2,a3,hEa⟩ := HSz.out.out.read (i := i) (by omega)
      have HEa := Lib.hid (hEa _ (putQ_same _ _ _))
      have ua0 := HeldB.cell a0
      have ua1 := HeldB.cell a1
      have ua2 := HeldB.cell a2
      have ua3 := HeldB.cell a3
      clear a0 a1 a2 a3 hEa
      have Hbel := Lib.hid HSz.out.bel
      refine wp_region_grow 11 (fun jx => if jx = 8 then some (gE (((wt : Int) : Rat))) else if jx = 9 then some (gE (hereTo b sq k + ((wt : Int) : Rat))) else none) (by kernel_rfl) (by kernel_rfl) ?_
      simp only [List.take_succ_cons,List.take_zero,List.drop_succ_cons,List.drop_zero]
      refine wpG_quiet 8 (by kernel_rfl) (by rfl) (by decide) ?_
      simp only [List.take_succ_cons,List.take_zero,List.drop_succ_cons,List.drop_zero]
      repeat (go_big_quiet_step (fail))
      refine wpQuiet_nil ?_
      refine wpG_call rfl rfl ?_ ?_
      ·intro w1 hb1 hk
       have hb := (Hbel.out).trans (hb1.mono (Hbel.out).size)
       have hC := MakesE.g (bmWhole wt w1 (by omega) (by omega))
       exact ⟨192,#[.int .i64 wt],by go_simp,hC⟩
      rintro _ ⟨r49b1,r49A1,r49l1,r49c1,r49b2,r49A2,r49l2,r49c2,rfl⟩
      simp only [Act.put,List.setIfInBounds_toArray,List.set_cons_zero,List.set_cons_succ]
      refine wpG_call rfl rfl ?_ ?_
      ·intro w1 hb1 hk
       have hb := (Hbel.out).trans (hb1.mono (Hbel.out).size)
       have h49 : ExactAt w1 (.agg #[.bool r49b1,.slice r49A1 r49l1 r49c1,.bool r49b2,.slice r49A2 r49l2 r49c2]) (((wt : Int) : Rat)) := hk 49 (of_decide_eq_true (by kernel_rfl))
       have hC := MakesE.g (bmEPlus _ _ _ _ 245 5 w1 (HEa.out.grow hb1) h49 HFk.out HF2.out (by decide))
       exact ⟨193,#[.agg #[.bool pb1,.slice pA1 pl1 pc1,.bool pb2,.slice pA2 pl2 pc2],.agg #[.bool r49b1,.slice r49A1 r49l1 r49c1,.bool r49b2,.slice r49A2 r49l2 r49c2]],by go_simp,hC⟩
      rintro _ ⟨r50b1,r50A1,r50l1,r50c1,r50b2,r50A2,r50l2,r50c2,rfl⟩
      simp only [Act.put,List.setIfInBounds_toArray,List.set_cons_zero,List.set_cons_succ]
      refine wpG_quiet 1 (by kernel_rfl) (by rfl) (by decide) ?_
      simp only [List.take_succ_cons,List.take_zero,List.drop_succ_cons,List.drop_zero]
      repeat (go_big_quiet_step (fail))
      refine wpQuiet_nil ?_
      refine wpG_nil ?_
      intro w8 hb8 hF
      have h50 : ExactAt w8 (.agg #[.bool r50b1,.slice r50A1 r50l1 r50c1,.bool r50b2,.slice r50A2 r50l2 r50c2]) (hereTo b sq k + ((wt : Int) : Rat)) := hF 50
      rw [← HT.out] at h50
      have HE50 := Lib.hid h50
      have HRz := Lib.hid (HSz.out.grow hb8)
      obtain ⟨_,_,_,_,_,_,_,_,o0,o1,o2,o3,-⟩ := HRz.out.out.read (i := i) (by omega)
      have fo0 := HRz.out.out.frozen (i * 4)
      have fo1 := HRz.out.out.frozen (i * 4 + 1)
      have fo2 := HRz.out.out.frozen (i * 4 + 2)
      have fo3 := HRz.out.out.frozen (i * 4 + 3)
      clear hF h50 hb8 HSz Hbel ua0 ua1 ua2 ua3 HEa uz0 uz1
      go_wp2_with fail
      have HRn := Lib.hid (HRz.out.put (i := i) (by omega) HE50.out)
      rw [putQ_putQ] at HRn
      generalize ((((w8.setCell ⟨go,i * 4,none⟩ (.bool r50b1)).setCell ⟨go,i * 4 + 1,none⟩ (.slice r50A1 r50l1 r50c1)).setCell ⟨go,i * 4 + 2,none⟩ (.bool r50b2)).setCell ⟨go,i * 4 + 3,none⟩ (.slice r50A2 r50l2 r50c2)) = W8 at *
      clear HRz HE50 o0 o1 o2 o3 fo0 fo1 fo2 fo3
      go_roundw
      case rel => exact ⟨k + 1,by omega,by go_num,HRn⟩
      case measure => simp [intOf];omega
     ·have hd : (pos == sq) = false := beq_eq_false_iff_ne.2 hpa
      have HT : Hid (hereTo b sq (k + 1) = hereTo b sq k) := by
       unfold Hid hereTo
       rw [HOv.out]
       unfold hereF
       simp only [if_neg hpa]
      rw [← HT.out] at HSz
      clear HOv HR hpa
      go_wp2_with fail
      go_roundw
      case rel => exact ⟨k + 1,by omega,by go_num,HSz⟩
      case measure => simp [intOf];omega
    ·obtain rfl : k = b.loads.length := by omega
     have HRx : Hid (RcSt w wr b #[.string b.name,.int .i64 b.len,.slice (some ⟨bs,os,none⟩) b.sup.length cs,.slice Al b.loads.length cl,.int .i64 b.even] gm go (putQ (restQ b i) i (react1 b i))) := by
      unfold Hid react1
      rw [HSq.out]
      exact HR.out
     have z1 := (HRx.out.bel.cell (p := ⟨bs,os + i,none⟩) hbs).trans (HSx.out i hil)
     rw [HSq.out] at z1
     have kk2 : decide ((b.loads.length : Int) < (b.loads.length : Int)) = false := decide_eq_false (Int.lt_irrefl _)
     clear HR
     obtain ⟨W9,rfl⟩ : ∃ W : World,W = wr := ⟨_,rfl⟩
     by_cases h1 : i + 1 < b.sup.length
     case' neg =>
      have hzn : ((i : Int) == (b.sup.length : Int) - 1) = true := beq_iff_eq.2 (by omega)
      have hq1 : decide ((i : Int) + 1 < (b.sup.length : Int)) = false := decide_eq_false (by omega)
      have HS3 : Hid (react3 b i = react2 b i) := if_neg h1
     case' pos =>
      have hzn : ((i : Int) == (b.sup.length : Int) - 1) = false := beq_eq_false_iff_ne.2 (by omega)
      have hq1 : decide ((i : Int) + 1 < (b.sup.length : Int)) = true := decide_eq_true (by omega)
      have z2 := (HRx.out.bel.cell (p := ⟨bs,os + (i + 1),none⟩) hbs).trans (HSx.out (i + 1) (by omega))
      have t2 := Hb.out.inc i h1
      have t3 := Hb.out.sup (i + 1) h1
      rw [HSq.out] at t2
      have HLg := leverR_fits Hb.out (i := i) h1 true
      rw [HSq.out] at HLg
      have HLg := Lib.hid HLg
      have HMp := Lib.hid (mom_fits Hb.out (i := i + 1) h1)
      have HMj := Lib.hid (mom_fits Hb.out (i := i) (by omega))
      have HF2 := Lib.hid (react2_fits Hb.out (i := i) (by omega))
      have HSp : Hid (∀ c,c = supAt b (i + 1) → react3 b i = react2 b i + leverR b sq c true + (momAt b (i + 1) - momAt b i) / ((c - sq : Int) : Rat)) := fun c hc => by
       unfold react3 spanK
       rw [if_pos h1,Nat.add_sub_cancel,HSq.out,hc]
      obtain ⟨sr,hsr⟩ : ∃ sr,supAt b (i + 1) = sr := ⟨_,rfl⟩
      have HS3 := Lib.hid (HSp.out sr hsr.symm)
      rw [hsr] at t2 z2 HLg t3
      have hz2 := HSx.out (i + 1) (by omega)
      rw [hsr] at hz2
      have HZ2 := Lib.hid hz2
      clear HSp hsr hz2
      obtain ⟨t31,t32⟩ := t3
      have i3 : ((i : Int) + 1).toNat = i + 1 := by omega
      have i6 : (i : Int) + 1 < (b.sup.length : Int) := by omega
      have i9 : (0 : Int) ≤ (i : Int) + 1 := by omega
      have v2 : IntKind.i64.wrap ((i : Int) + 1) = (i : Int) + 1 := IntWalk.i64_in _ (by omega)
      have v4 : IntKind.i64.wrap (sr - sq) = sr - sq := IntWalk.i64_in _ (by omega)
     all_goals
      have HF3 := Lib.hid (react3_fits Hb.out (i := i) (by omega))
      have HF4 := Lib.hid (react4_fits Hb.out (i := i) (by omega))
      have y0 := HRx.out.bm.cell 0
      have y1 := HRx.out.bm.cell 1
      have y2 := HRx.out.bm.cell 2
      have y3 := HRx.out.bm.cell 3
      have y4 := HRx.out.bm.cell 4
      simp only [List.getElem?_toArray,List.getElem?_cons_succ,List.getElem?_cons_zero] at y0 y1 y2 y3 y4
      by_cases h0 : 0 < i
      case' neg =>
       have hz0 : ((i : Int) == 0) = true := beq_iff_eq.2 (by omega)
       have hp0 : ¬ (0 : Int) < (i : Int) := by omega
       have hp1 : decide ((0 : Int) < (i : Int)) = false := decide_eq_false hp0
       have HS2 : Hid (react2 b i = react1 b i) := if_neg h0
       go_wp2_with fail
       clear y0 y1 y2 y3 y4
      case' pos =>
       have hz0 : ((i : Int) == 0) = false := beq_eq_false_iff_ne.2 (by omega)
       have hp0 : (0 : Int) < (i : Int) := by omega
       have z0 := (HRx.out.bel.cell (p := ⟨bs,os + (i - 1),none⟩) hbs).trans (HSx.out (i - 1) (by omega))
       have t1 := Hb.out.inc (i - 1) (by omega)
       have t0 := Hb.out.sup (i - 1) (by omega)
       rw [show i - 1 + 1 = i by omega,HSq.out] at t1
       have HSp0 : Hid (supAt b (i - 1) = supAt b (i - 1)) := rfl
       have HLf := leverR_fits Hb.out (i := i - 1) (by omega) false
       rw [show i - 1 + 1 = i by omega,HSq.out] at HLf
       have HLf := Lib.hid HLf
       have HMo := Lib.hid (mom_fits Hb.out (i := i - 1) (by omega))
       have HMi := Lib.hid (mom_fits Hb.out (i := i) (by omega))
       have HSp : Hid (∀ c,c = supAt b (i - 1) → react2 b i = react1 b i + leverR b c sq false + (momAt b (i - 1) - momAt b i) / ((sq - c : Int) : Rat)) := fun c hc => by
        unfold react2 spanK
        rw [if_pos h0,HSq.out,hc]
       obtain ⟨sp,hsp⟩ : ∃ sp,supAt b (i - 1) = sp := ⟨_,rfl⟩
       have HS2 := Lib.hid (HSp.out sp hsp.symm)
       rw [hsp] at t1 z0 HLf t0
       clear HSp hsp HSp0
       obtain ⟨t01,t02⟩ := t0
       have i2 : ((i : Int) - 1).toNat = i - 1 := by omega
       have i4 : (0 : Int) ≤ (i : Int) - 1 := by omega
       have i5 : (i : Int) - 1 < (b.sup.length : Int) := by omega
       have v1 : IntKind.i64.wrap ((i : Int) - 1) = (i : Int) - 1 := IntWalk.i64_in _ (by omega)
       have v3 : IntKind.i64.wrap (sq - sp) = sq - sp := IntWalk.i64_in _ (by omega)
       go_wp2_with fail
       clear y0 y1 y2 y3 y4
       obtain ⟨pb1,pA1,pl1,pc1,pb2,pA2,pl2,pc2,a0,a1,a2,a3,hEa⟩ := HRx.out.out.read (i := i) (by omega)
       have HEa := Lib.hid (hEa _ (putQ_same _ _ _))
       have ua0 := HeldB.cell a0
       have ua1 := HeldB.cell a1
       have ua2 := HeldB.cell a2
       have ua3 := HeldB.cell a3
       clear a0 a1 a2 a3 hEa
       obtain ⟨qb1,qA1,ql1,qc1,qb2,qA2,ql2,qc2,c0,c1,c2,c3,hEc⟩ := HRx.out.mom.read (i := (i - 1)) (by omega)
       have HEc := Lib.hid (hEc _ (moml_at b (by omega)))
       have uc0 := HeldB.cell c0
       have uc1 := HeldB.cell c1
       have uc2 := HeldB.cell c2
       have uc3 := HeldB.cell c3
       clear c0 c1 c2 c3 hEc
       obtain ⟨tb1,tA1,tl1,tc1,tb2,tA2,tl2,tc2,d0,d1,d2,d3,hEd⟩ := HRx.out.mom.read (i := i) (by omega)
       have HEd := Lib.hid (hEd _ (moml_at b (by omega)))
       have ud0 := HeldB.cell d0
       have ud1 := HeldB.cell d1
       have ud2 := HeldB.cell d2
       have ud3 := HeldB.cell d3
       clear d0 d1 d2 d3 hEd
       have y0 := HRx.out.bm.cell 0
       have y1 := HRx.out.bm.cell 1
       have y2 := HRx.out.bm.cell 2
       have y3 := HRx.out.bm.cell 3
       have y4 := HRx.out.bm.cell 4
       simp only [List.getElem?_toArray,List.getElem?_cons_succ,List.getElem?_cons_zero] at y0 y1 y2 y3 y4
       have ub0 := HeldB.cell y0
       have ub1 := HeldB.cell y1
       have ub2 := HeldB.cell y2
       have ub3 := HeldB.cell y3
       have ub4 := HeldB.cell y4
       clear y0 y1 y2 y3 y4
       have Hbel := Lib.hid HRx.out.bel
       refine wp_region_grow 28 (fun jx => if jx = 9 then some (gE (leverR b sp sq false)) else if jx = 10 then some (gE (react1 b i + leverR b sp sq false)) else if jx = 20 then some (gE (momAt b (i - 1) - momAt b i)) else if jx = 24 then some (gE (((sq - sp : Int) : Rat))) else if jx = 25 then some (gE ((momAt b (i - 1) - momAt b i) / ((sq - sp : Int) : Rat))) else if jx = 26 then some (gE (react1 b i + leverR b sp sq false + (momAt b (i - 1) - momAt b i) / ((sq - sp : Int) : Rat))) else none) (by kernel_rfl) (by kernel_rfl) ?_
       simp only [List.take_succ_cons,List.take_zero,List.drop_succ_cons,List.drop_zero]
       refine wpG_quiet 9 (by kernel_rfl) (by rfl) (by decide) ?_
       simp only [List.take_succ_cons,List.take_zero,List.drop_succ_cons,List.drop_zero]
       repeat (go_big_quiet_step (fail))
       refine wpQuiet_nil ?_
       refine wpG_call rfl rfl ?_ ?_
       ·intro w1 hb1 hk
        have hb := (Hbel.out).trans (hb1.mono (Hbel.out).size)
        have hC := MakesE.g (bmLever _ b sp sq false w1 ((HV.out.below hb (Nat.le_refl _)).mono hb.size) Hb.out (by omega) (by omega) (by omega))
        exact ⟨194,#[.agg #[.string b.name,.int .i64 b.len,.slice (some ⟨bs,os,none⟩) b.sup.length cs,.slice Al b.loads.length cl,.int .i64 b.even],.int .i64 sp,.int .i64 sq,.bool false],by go_simp,hC⟩
       rintro _ ⟨r70b1,r70A1,r70l1,r70c1,r70b2,r70A2,r70l2,r70c2,rfl⟩
       simp only [Act.put,List.setIfInBounds_toArray,List.set_cons_zero,List.set_cons_succ]
       refine wpG_call rfl rfl ?_ ?_
       ·intro w1 hb1 hk
        have hb := (Hbel.out).trans (hb1.mono (Hbel.out).size)
        have h70 : ExactAt w1 (.agg #[.bool r70b1,.slice r70A1 r70l1 r70c1,.bool r70b2,.slice r70A2 r70l2 r70c2]) (leverR b sp sq false) := hk 70 (of_decide_eq_true (by kernel_rfl))
        have hC := MakesE.g (bmEPlus _ _ _ _ 245 245 w1 (HEa.out.grow hb1) h70 (react1_fits Hb.out i) HLf.out (by decide))
        exact ⟨193,#[.agg #[.bool pb1,.slice pA1 pl1 pc1,.bool pb2,.slice pA2 pl2 pc2],.agg #[.bool r70b1,.slice r70A1 r70l1 r70c1,.bool r70b2,.slice r70A2 r70l2 r70c2]],by go_simp,hC⟩
       rintro _ ⟨r71b1,r71A1,r71l1,r71c1,r71b2,r71A2,r71l2,r71c2,rfl⟩
       simp only [Act.put,List.setIfInBounds_toArray,List.set_cons_zero,List.set_cons_succ]
       refine wpG_quiet 9 (by kernel_rfl) (by rfl) (by decide) ?_
       simp only [List.take_succ_cons,List.take_zero,List.drop_succ_cons,List.drop_zero]
       repeat (go_big_quiet_step (fail))
       refine wpQuiet_nil ?_
       refine wpG_call rfl rfl ?_ ?_
       ·intro w1 hb1 hk
        have hb := (Hbel.out).trans (hb1.mono (Hbel.out).size)
        have hC := MakesE.g (bmELess _ _ _ _ 60000 60000 w1 (HEc.out.grow hb1) (HEd.out.grow hb1) HMo.out HMi.out (by decide))
        exact ⟨195,#[.agg #[.bool qb1,.slice qA1 ql1 qc1,.bool qb2,.slice qA2 ql2 qc2],.agg #[.bool tb1,.slice tA1 tl1 tc1,.bool tb2,.slice tA2 tl2 tc2]],by go_simp,hC⟩
       rintro _ ⟨r81b1,r81A1,r81l1,r81c1,r81b2,r81A2,r81l2,r81c2,rfl⟩
       simp only [Act.put,List.setIfInBounds_toArray,List.set_cons_zero,List.set_cons_succ]
       refine wpG_quiet 3 (by kernel_rfl) (by rfl) (by decide) ?_
       simp only [List.take_succ_cons,List.take_zero,List.drop_succ_cons,List.drop_zero]
       repeat (go_big_quiet_step (fail))
       refine wpQuiet_nil ?_
       refine wpG_call rfl rfl ?_ ?_
       ·intro w1 hb1 hk
        have hb := (Hbel.out).trans (hb1.mono (Hbel.out).size)
        have hC := MakesE.g (bmWhole (sq - sp) w1 (by omega) (by omega))
        exact ⟨192,#[.int .i64 (sq - sp)],by go_simp,hC⟩
       rintro _ ⟨r85b1,r85A1,r85l1,r85c1,r85b2,r85A2,r85l2,r85c2,rfl⟩
       simp only [Act.put,List.setIfInBounds_toArray,List.set_cons_zero,List.set_cons_succ]
       refine wpG_call rfl rfl ?_ ?_
       ·intro w1 hb1 hk
        have hb := (Hbel.out).trans (hb1.mono (Hbel.out).size)
        have h81 : ExactAt w1 (.agg #[.bool r81b1,.slice r81A1 r81l1 r81c1,.bool r81b2,.slice r81A2 r81l2 r81c2]) (momAt b (i - 1) - momAt b i) := hk 81 (of_decide_eq_true (by kernel_rfl))
        have h85 : ExactAt w1 (.agg #[.bool r85b1,.slice r85A1 r85l1 r85c1,.bool r85b2,.slice r85A2 r85l2 r85c2]) (((sq - sp : Int) : Rat)) := hk 85 (of_decide_eq_true (by kernel_rfl))
        have hC := MakesE.g (bmEBy _ _ _ _ 120001 1 w1 h81 h85 (fits_sub (K := 60000) (M := 60000) HMo.out HMi.out) (fits_int (by rw [Nat.pow_one];omega) (Nat.le_refl _)) (by rw [Rat.num_intCast];omega) (by decide))
        exact ⟨196,#[.agg #[.bool r81b1,.slice r81A1 r81l1 r81c1,.bool r81b2,.slice r81A2 r81l2 r81c2],.agg #[.bool r85b1,.slice r85A1 r85l1 r85c1,.bool r85b2,.slice r85A2 r85l2 r85c2]],by go_simp,hC⟩
       rintro _ ⟨r86b1,r86A1,r86l1,r86c1,r86b2,r86A2,r86l2,r86c2,rfl⟩
       simp only [Act.put,List.setIfInBounds_toArray,List.set_cons_zero,List.set_cons_succ]
       refine wpG_call rfl rfl ?_ ?_
       ·intro w1 hb1 hk
        have hb := (Hbel.out).trans (hb1.mono (Hbel.out).size)
        have h71 : ExactAt w1 (.agg #[.bool r71b1,.slice r71A1 r71l1 r71c1,.bool r71b2,.slice r71A2 r71l2 r71c2]) (react1 b i + leverR b sp sq false) := hk 71 (of_decide_eq_true (by kernel_rfl))
        have h86 : ExactAt w1 (.agg #[.bool r86b1,.slice r86A1 r86l1 r86c1,.bool r86b2,.slice r86A2 r86l2 r86c2]) ((momAt b (i - 1) - momAt b i) / ((sq - sp : Int) : Rat)) := hk 86 (of_decide_eq_true (by kernel_rfl))
        have hC := MakesE.g (bmEPlus _ _ _ _ (245 + 246) 120002 w1 h71 h86 (fits_add (react1_fits Hb.out i) HLf.out) (fits_div (K := 120001) (M := 1) (by rw [Rat.num_intCast];omega) (fits_sub (K := 60000) (M := 60000) HMo.out HMi.out) (fits_int (by rw [Nat.pow_one];omega) (Nat.le_refl _))) (by decide))
        exact ⟨193,#[.agg #[.bool r71b1,.slice r71A1 r71l1 r71c1,.bool r71b2,.slice r71A2 r71l2 r71c2],.agg #[.bool r86b1,.slice r86A1 r86l1 r86c1,.bool r86b2,.slice r86A2 r86l2 r86c2]],by go_simp,hC⟩
       rintro _ ⟨r87b1,r87A1,r87l1,r87c1,r87b2,r87A2,r87l2,r87c2,rfl⟩
       simp only [Act.put,List.setIfInBounds_toArray,List.set_cons_zero,List.set_cons_succ]
       refine wpG_quiet 1 (by kernel_rfl) (by rfl) (by decide) ?_
       simp only [List.take_succ_cons,List.take_zero,List.drop_succ_cons,List.drop_zero]
       repeat (go_big_quiet_step (fail))
       refine wpQuiet_nil ?_
       refine wpG_nil ?_
       intro w8 hb8 hF
       have h87 : ExactAt w8 (.agg #[.bool r87b1,.slice r87A1 r87l1 r87c1,.bool r87b2,.slice r87A2 r87l2 r87c2]) (react1 b i + leverR b sp sq false + (momAt b (i - 1) - momAt b i) / ((sq - sp : Int) : Rat)) := hF 87
       have HE87 := Lib.hid h87
       have HRz := Lib.hid (HRx.out.grow hb8)
       obtain ⟨_,_,_,_,_,_,_,_,o0,o1,o2,o3,-⟩ := HRz.out.out.read (i := i) (by omega)
       have fo0 := HRz.out.out.frozen (i * 4)
       have fo1 := HRz.out.out.frozen (i * 4 + 1)
       have fo2 := HRz.out.out.frozen (i * 4 + 2)
       have fo3 := HRz.out.out.frozen (i * 4 + 3)
       clear hF h87 hb8 HRx Hbel ua0 ua1 ua2 ua3 HEa uc0 uc1 uc2 uc3 HEc ud0 ud1 ud2 ud3 HEd ub0 ub1 ub2 ub3 ub4
       have y0 := HRz.out.bm.cell 0
       have y1 := HRz.out.bm.cell 1
       have y2 := HRz.out.bm.cell 2
       have y3 := HRz.out.bm.cell 3
       have y4 := HRz.out.bm.cell 4
       simp only [List.getElem?_toArray,List.getElem?_cons_succ,List.getElem?_cons_zero] at y0 y1 y2 y3 y4
       try have z2 := (HRz.out.bel.cell (p := ⟨bs,os + (i + 1),none⟩) hbs).trans HZ2.out
       have ng1 : w.heap.size ≠ go := Nat.ne_of_lt HRz.out.go
       have ng2 : bs ≠ go := by have := HRz.out.go;omega
       have ng3 : go ≠ w.heap.size := Ne.symm ng1
       have ng4 : go ≠ bs := Ne.symm ng2
       go_wp2_with fail
       clear y0 y1 y2 y3 y4 ng1 ng2 ng3 ng4
       try clear z2
       have HRx := Lib.hid (HRz.out.put (i := i) (by omega) HE87.out)
       rw [putQ_putQ] at HRx
       generalize ((((w8.setCell ⟨go,i * 4,none⟩ (.bool r87b1)).setCell ⟨go,i * 4 + 1,none⟩ (.slice r87A1 r87l1 r87c1)).setCell ⟨go,i * 4 + 2,none⟩ (.bool r87b2)).setCell ⟨go,i * 4 + 3,none⟩ (.slice r87A2 r87l2 r87c2)) = W9 at *
       clear HRz HE87 o0 o1 o2 o3 fo0 fo1 fo2 fo3
      all_goals rw [← HS2.out] at HRx
     all_goals
      by_cases hs : i + 1 < b.sup.length
      case' neg =>
       try exact absurd h1 hs
       all_goals
        rw [← HS3.out] at HRx
      case' pos =>
       try exact absurd hs h1
       all_goals
        obtain ⟨pb1,pA1,pl1,pc1,pb2,pA2,pl2,pc2,a0,a1,a2,a3,hEa⟩ := HRx.out.out.read (i := i) (by omega)
        have HEa := Lib.hid (hEa _ (putQ_same _ _ _))
        have ua0 := HeldB.cell a0
        have ua1 := HeldB.cell a1
        have ua2 := HeldB.cell a2
        have ua3 := HeldB.cell a3
        clear a0 a1 a2 a3 hEa
        obtain ⟨qb1,qA1,ql1,qc1,qb2,qA2,ql2,qc2,c0,c1,c2,c3,hEc⟩ := HRx.out.mom.read (i := (i + 1)) (by omega)
        have HEc := Lib.hid (hEc _ (moml_at b (by omega)))
        have uc0 := HeldB.cell c0
        have uc1 := HeldB.cell c1
        have uc2 := HeldB.cell c2
        have uc3 := HeldB.cell c3
        clear c0 c1 c2 c3 hEc
        obtain ⟨tb1,tA1,tl1,tc1,tb2,tA2,tl2,tc2,d0,d1,d2,d3,hEd⟩ := HRx.out.mom.read (i := i) (by omega)
        have HEd := Lib.hid (hEd _ (moml_at b (by omega)))
        have ud0 := HeldB.cell d0
        have ud1 := HeldB.cell d1
        have ud2 := HeldB.cell d2
        have ud3 := HeldB.cell d3
        clear d0 d1 d2 d3 hEd
        have y0 := HRx.out.bm.cell 0
        have y1 := HRx.out.bm.cell 1
        have y2 := HRx.out.bm.cell 2
        have y3 := HRx.out.bm.cell 3
        have y4 := HRx.out.bm.cell 4
        simp only [List.getElem?_toArray,List.getElem?_cons_succ,List.getElem?_cons_zero] at y0 y1 y2 y3 y4
        have ub0 := HeldB.cell y0
        have ub1 := HeldB.cell y1
        have ub2 := HeldB.cell y2
        have ub3 := HeldB.cell y3
        have ub4 := HeldB.cell y4
        clear y0 y1 y2 y3 y4
        have Hbel := Lib.hid HRx.out.bel
        refine wp_region_grow 28 (fun jx => if jx = 9 then some (gE (leverR b sq sr true)) else if jx = 10 then some (gE (react2 b i + leverR b sq sr true)) else if jx = 20 then some (gE (momAt b (i + 1) - momAt b i)) else if jx = 24 then some (gE (((sr - sq : Int) : Rat))) else if jx = 25 then some (gE ((momAt b (i + 1) - momAt b i) / ((sr - sq : Int) : Rat))) else if jx = 26 then some (gE (react2 b i + leverR b sq sr true + (momAt b (i + 1) - momAt b i) / ((sr - sq : Int) : Rat))) else none) (by kernel_rfl) (by kernel_rfl) ?_
        simp only [List.take_succ_cons,List.take_zero,List.drop_succ_cons,List.drop_zero]
        refine wpG_quiet 9 (by kernel_rfl) (by rfl) (by decide) ?_
        simp only [List.take_succ_cons,List.take_zero,List.drop_succ_cons,List.drop_zero]
        repeat (go_big_quiet_step (fail))
        refine wpQuiet_nil ?_
        refine wpG_call rfl rfl ?_ ?_
        ·intro w1 hb1 hk
         have hb := (Hbel.out).trans (hb1.mono (Hbel.out).size)
         have hC := MakesE.g (bmLever _ b sq sr true w1 ((HV.out.below hb (Nat.le_refl _)).mono hb.size) Hb.out (by omega) (by omega) (by omega))
         exact ⟨194,#[.agg #[.string b.name,.int .i64 b.len,.slice (some ⟨bs,os,none⟩) b.sup.length cs,.slice Al b.loads.length cl,.int .i64 b.even],.int .i64 sq,.int .i64 sr,.bool true],by go_simp,hC⟩
        rintro _ ⟨r108b1,r108A1,r108l1,r108c1,r108b2,r108A2,r108l2,r108c2,rfl⟩
        simp only [Act.put,List.setIfInBounds_toArray,List.set_cons_zero,List.set_cons_succ]
        refine wpG_call rfl rfl ?_ ?_
        ·intro w1 hb1 hk
         have hb := (Hbel.out).trans (hb1.mono (Hbel.out).size)
         have h108 : ExactAt w1 (.agg #[.bool r108b1,.slice r108A1 r108l1 r108c1,.bool r108b2,.slice r108A2 r108l2 r108c2]) (leverR b sq sr true) := hk 108 (of_decide_eq_true (by kernel_rfl))
         have hC := MakesE.g (bmEPlus _ _ _ _ 121000 245 w1 (HEa.out.grow hb1) h108 HF2.out HLg.out (by decide))
         exact ⟨193,#[.agg #[.bool pb1,.slice pA1 pl1 pc1,.bool pb2,.slice pA2 pl2 pc2],.agg #[.bool r108b1,.slice r108A1 r108l1 r108c1,.bool r108b2,.slice r108A2 r108l2 r108c2]],by go_simp,hC⟩
        rintro _ ⟨r109b1,r109A1,r109l1,r109c1,r109b2,r109A2,r109l2,r109c2,rfl⟩
        simp only [Act.put,List.setIfInBounds_toArray,List.set_cons_zero,List.set_cons_succ]
        refine wpG_quiet 9 (by kernel_rfl) (by rfl) (by decide) ?_
        simp only [List.take_succ_cons,List.take_zero,List.drop_succ_cons,List.drop_zero]
        repeat (go_big_quiet_step (fail))
        refine wpQuiet_nil ?_
        refine wpG_call rfl rfl ?_ ?_
        ·intro w1 hb1 hk
         have hb := (Hbel.out).trans (hb1.mono (Hbel.out).size)
         have hC := MakesE.g (bmELess _ _ _ _ 60000 60000 w1 (HEc.out.grow hb1) (HEd.out.grow hb1) HMp.out HMj.out (by decide))
         exact ⟨195,#[.agg #[.bool qb1,.slice qA1 ql1 qc1,.bool qb2,.slice qA2 ql2 qc2],.agg #[.bool tb1,.slice tA1 tl1 tc1,.bool tb2,.slice tA2 tl2 tc2]],by go_simp,hC⟩
        rintro _ ⟨r119b1,r119A1,r119l1,r119c1,r119b2,r119A2,r119l2,r119c2,rfl⟩
        simp only [Act.put,List.setIfInBounds_toArray,List.set_cons_zero,List.set_cons_succ]
        refine wpG_quiet 3 (by kernel_rfl) (by rfl) (by decide) ?_
        simp only [List.take_succ_cons,List.take_zero,List.drop_succ_cons,List.drop_zero]
        repeat (go_big_quiet_step (fail))
        refine wpQuiet_nil ?_
        refine wpG_call rfl rfl ?_ ?_
        ·intro w1 hb1 hk
         have hb := (Hbel.out).trans (hb1.mono (Hbel.out).size)
         have hC := MakesE.g (bmWhole (sr - sq) w1 (by omega) (by omega))
         exact ⟨192,#[.int .i64 (sr - sq)],by go_simp,hC⟩
        rintro _ ⟨r123b1,r123A1,r123l1,r123c1,r123b2,r123A2,r123l2,r123c2,rfl⟩
        simp only [Act.put,List.setIfInBounds_toArray,List.set_cons_zero,List.set_cons_succ]
        refine wpG_call rfl rfl ?_ ?_
        ·intro w1 hb1 hk
         have hb := (Hbel.out).trans (hb1.mono (Hbel.out).size)
         have h119 : ExactAt w1 (.agg #[.bool r119b1,.slice r119A1 r119l1 r119c1,.bool r119b2,.slice r119A2 r119l2 r119c2]) (momAt b (i + 1) - momAt b i) := hk 119 (of_decide_eq_true (by kernel_rfl))
         have h123 : ExactAt w1 (.agg #[.bool r123b1,.slice r123A1 r123l1 r123c1,.bool r123b2,.slice r123A2 r123l2 r123c2]) (((sr - sq : Int) : Rat)) := hk 123 (of_decide_eq_true (by kernel_rfl))
         have hC := MakesE.g (bmEBy _ _ _ _ 120001 1 w1 h119 h123 (fits_sub (K := 60000) (M := 60000) HMp.out HMj.out) (fits_int (by rw [Nat.pow_one];omega) (Nat.le_refl _)) (by rw [Rat.num_intCast];omega) (by decide))
         exact ⟨196,#[.agg #[.bool r119b1,.slice r119A1 r119l1 r119c1,.bool r119b2,.slice r119A2 r119l2 r119c2],.agg #[.bool r123b1,.slice r123A1 r123l1 r123c1,.bool r123b2,.slice r123A2 r123l2 r123c2]],by go_simp,hC⟩
        rintro _ ⟨r124b1,r124A1,r124l1,r124c1,r124b2,r124A2,r124l2,r124c2,rfl⟩
        simp only [Act.put,List.setIfInBounds_toArray,List.set_cons_zero,List.set_cons_succ]
        refine wpG_call rfl rfl ?_ ?_
        ·intro w1 hb1 hk
         have hb := (Hbel.out).trans (hb1.mono (Hbel.out).size)
         have h109 : ExactAt w1 (.agg #[.bool r109b1,.slice r109A1 r109l1 r109c1,.bool r109b2,.slice r109A2 r109l2 r109c2]) (react2 b i + leverR b sq sr true) := hk 109 (of_decide_eq_true (by kernel_rfl))
         have h124 : ExactAt w1 (.agg #[.bool r124b1,.slice r124A1 r124l1 r124c1,.bool r124b2,.slice r124A2 r124l2 r124c2]) ((momAt b (i + 1) - momAt b i) / ((sr - sq : Int) : Rat)) := hk 124 (of_decide_eq_true (by kernel_rfl))
         have hC := MakesE.g (bmEPlus _ _ _ _ (121000 + 246) 120002 w1 h109 h124 (fits_add HF2.out HLg.out) (fits_div (K := 120001) (M := 1) (by rw [Rat.num_intCast];omega) (fits_sub (K := 60000) (M := 60000) HMp.out HMj.out) (fits_int (by rw [Nat.pow_one];omega) (Nat.le_refl _))) (by decide))
         exact ⟨193,#[.agg #[.bool r109b1,.slice r109A1 r109l1 r109c1,.bool r109b2,.slice r109A2 r109l2 r109c2],.agg #[.bool r124b1,.slice r124A1 r124l1 r124c1,.bool r124b2,.slice r124A2 r124l2 r124c2]],by go_simp,hC⟩
        rintro _ ⟨r125b1,r125A1,r125l1,r125c1,r125b2,r125A2,r125l2,r125c2,rfl⟩
        simp only [Act.put,List.setIfInBounds_toArray,List.set_cons_zero,List.set_cons_succ]
        refine wpG_quiet 1 (by kernel_rfl) (by rfl) (by decide) ?_
        simp only [List.take_succ_cons,List.take_zero,List.drop_succ_cons,List.drop_zero]
        repeat (go_big_quiet_step (fail))
        refine wpQuiet_nil ?_
        refine wpG_nil ?_
        intro w8 hb8 hF
        have h125 : ExactAt w8 (.agg #[.bool r125b1,.slice r125A1 r125l1 r125c1,.bool r125b2,.slice r125A2 r125l2 r125c2]) (react2 b i + leverR b sq sr true + (momAt b (i + 1) - momAt b i) / ((sr - sq : Int) : Rat)) := hF 125
        have HE125 := Lib.hid h125
        have HRz := Lib.hid (HRx.out.grow hb8)
        obtain ⟨_,_,_,_,_,_,_,_,o0,o1,o2,o3,-⟩ := HRz.out.out.read (i := i) (by omega)
        have fo0 := HRz.out.out.frozen (i * 4)
        have fo1 := HRz.out.out.frozen (i * 4 + 1)
        have fo2 := HRz.out.out.frozen (i * 4 + 2)
        have fo3 := HRz.out.out.frozen (i * 4 + 3)
        clear hF h125 hb8 HRx Hbel ua0 ua1 ua2 ua3 HEa uc0 uc1 uc2 uc3 HEc ud0 ud1 ud2 ud3 HEd ub0 ub1 ub2 ub3 ub4
        go_wp2_with fail
        have HRx := Lib.hid (HRz.out.put (i := i) (by omega) HE125.out)
        rw [putQ_putQ] at HRx
        generalize ((((w8.setCell ⟨go,i * 4,none⟩ (.bool r125b1)).setCell ⟨go,i * 4 + 1,none⟩ (.slice r125A1 r125l1 r125c1)).setCell ⟨go,i * 4 + 2,none⟩ (.bool r125b2)).setCell ⟨go,i * 4 + 3,none⟩ (.slice r125A2 r125l2 r125c2)) = W9 at *
        clear HRz HE125 o0 o1 o2 o3 fo0 fo1 fo2 fo3
        rw [← HS3.out] at HRx
     all_goals
      by_cases hs : 0 < i
      case' neg =>
       try exact absurd h0 hs
       all_goals
        obtain ⟨pb1,pA1,pl1,pc1,pb2,pA2,pl2,pc2,a0,a1,a2,a3,hEa⟩ := HRx.out.out.read (i := i) (by omega)
        have HEa := Lib.hid (hEa _ (putQ_same _ _ _))
        have ua0 := HeldB.cell a0
        have ua1 := HeldB.cell a1
        have ua2 := HeldB.cell a2
        have ua3 := HeldB.cell a3
        clear a0 a1 a2 a3 hEa
        have y0 := HRx.out.bm.cell 0
        have y1 := HRx.out.bm.cell 1
        have y2 := HRx.out.bm.cell 2
        have y3 := HRx.out.bm.cell 3
        have y4 := HRx.out.bm.cell 4
        simp only [List.getElem?_toArray,List.getElem?_cons_succ,List.getElem?_cons_zero] at y0 y1 y2 y3 y4
        have ub0 := HeldB.cell y0
        have ub1 := HeldB.cell y1
        have ub2 := HeldB.cell y2
        have ub3 := HeldB.cell y3
        have ub4 := HeldB.cell y4
        clear y0 y1 y2 y3 y4
        have Hbel := Lib.hid HRx.out.bel
        refine wp_region_grow 11 (fun jx => if jx = 8 then some (gE (beyondR b sq)) else if jx = 9 then some (gE (react3 b i + beyondR b sq)) else none) (by kernel_rfl) (by kernel_rfl) ?_
        simp only [List.take_succ_cons,List.take_zero,List.drop_succ_cons,List.drop_zero]
        refine wpG_quiet 8 (by kernel_rfl) (by rfl) (by decide) ?_
        simp only [List.take_succ_cons,List.take_zero,List.drop_succ_cons,List.drop_zero]
        repeat (go_big_quiet_step (fail))
        refine wpQuiet_nil ?_
        refine wpG_call rfl rfl ?_ ?_
        ·intro w1 hb1 hk
         have hb := (Hbel.out).trans (hb1.mono (Hbel.out).size)
         have hC := MakesE.g (bmBeyond _ b sq w1 ((HV.out.below hb (Nat.le_refl _)).mono hb.size) Hb.out (by omega) (by omega))
         exact ⟨197,#[.agg #[.string b.name,.int .i64 b.len,.slice (some ⟨bs,os,none⟩) b.sup.length cs,.slice Al b.loads.length cl,.int .i64 b.even],.int .i64 sq],by go_simp,hC⟩
        rintro _ ⟨r137b1,r137A1,r137l1,r137c1,r137b2,r137A2,r137l2,r137c2,rfl⟩
        simp only [Act.put,List.setIfInBounds_toArray,List.set_cons_zero,List.set_cons_succ]
        refine wpG_call rfl rfl ?_ ?_
        ·intro w1 hb1 hk
         have hb := (Hbel.out).trans (hb1.mono (Hbel.out).size)
         have h137 : ExactAt w1 (.agg #[.bool r137b1,.slice r137A1 r137l1 r137c1,.bool r137b2,.slice r137A2 r137l2 r137c2]) (beyondR b sq) := hk 137 (of_decide_eq_true (by kernel_rfl))
         have hC := MakesE.g (bmEPlus _ _ _ _ 242000 245 w1 (HEa.out.grow hb1) h137 HF3.out (beyond_fits Hb.out (by omega) (by omega) (Nat.le_refl _)) (by decide))
         exact ⟨193,#[.agg #[.bool pb1,.slice pA1 pl1 pc1,.bool pb2,.slice pA2 pl2 pc2],.agg #[.bool r137b1,.slice r137A1 r137l1 r137c1,.bool r137b2,.slice r137A2 r137l2 r137c2]],by go_simp,hC⟩
        rintro _ ⟨r138b1,r138A1,r138l1,r138c1,r138b2,r138A2,r138l2,r138c2,rfl⟩
        simp only [Act.put,List.setIfInBounds_toArray,List.set_cons_zero,List.set_cons_succ]
        refine wpG_quiet 1 (by kernel_rfl) (by rfl) (by decide) ?_
        simp only [List.take_succ_cons,List.take_zero,List.drop_succ_cons,List.drop_zero]
        repeat (go_big_quiet_step (fail))
        refine wpQuiet_nil ?_
        refine wpG_nil ?_
        intro w8 hb8 hF
        have h138 : ExactAt w8 (.agg #[.bool r138b1,.slice r138A1 r138l1 r138c1,.bool r138b2,.slice r138A2 r138l2 r138c2]) (react3 b i + beyondR b sq) := hF 138
        have HE138 := Lib.hid h138
        have HRz := Lib.hid (HRx.out.grow hb8)
        obtain ⟨_,_,_,_,_,_,_,_,o0,o1,o2,o3,-⟩ := HRz.out.out.read (i := i) (by omega)
        have fo0 := HRz.out.out.frozen (i * 4)
        have fo1 := HRz.out.out.frozen (i * 4 + 1)
        have fo2 := HRz.out.out.frozen (i * 4 + 2)
        have fo3 := HRz.out.out.frozen (i * 4 + 3)
        clear hF h138 hb8 HRx Hbel ua0 ua1 ua2 ua3 HEa ub0 ub1 ub2 ub3 ub4
        go_wp2_with fail
        have HRx := Lib.hid (HRz.out.put (i := i) (by omega) HE138.out)
        rw [putQ_putQ] at HRx
        generalize ((((w8.setCell ⟨go,i * 4,none⟩ (.bool r138b1)).setCell ⟨go,i * 4 + 1,none⟩ (.slice r138A1 r138l1 r138c1)).setCell ⟨go,i * 4 + 2,none⟩ (.bool r138b2)).setCell ⟨go,i * 4 + 3,none⟩ (.slice r138A2 r138l2 r138c2)) = W9 at *
        clear HRz HE138 o0 o1 o2 o3 fo0 fo1 fo2 fo3
        have HS4 : Hid (react4 b i = react3 b i + beyondR b sq) := by unfold Hid react4;rw [if_pos (by omega),HSq.out]
        rw [← HS4.out] at HRx
      case' pos =>
       try exact absurd hs h0
       all_goals
        have HS4 : Hid (react4 b i = react3 b i) := if_neg (by omega)
        rw [← HS4.out] at HRx
     all_goals
      by_cases hs : i + 1 < b.sup.length
      case' neg =>
       try exact absurd h1 hs
       all_goals
        obtain ⟨pb1,pA1,pl1,pc1,pb2,pA2,pl2,pc2,a0,a1,a2,a3,hEa⟩ := HRx.out.out.read (i := i) (by omega)
        have HEa := Lib.hid (hEa _ (putQ_same _ _ _))
        have ua0 := HeldB.cell a0
        have ua1 := HeldB.cell a1
        have ua2 := HeldB.cell a2
        have ua3 := HeldB.cell a3
        clear a0 a1 a2 a3 hEa
        have y0 := HRx.out.bm.cell 0
        have y1 := HRx.out.bm.cell 1
        have y2 := HRx.out.bm.cell 2
        have y3 := HRx.out.bm.cell 3
        have y4 := HRx.out.bm.cell 4
        simp only [List.getElem?_toArray,List.getElem?_cons_succ,List.getElem?_cons_zero] at y0 y1 y2 y3 y4
        have ub0 := HeldB.cell y0
        have ub1 := HeldB.cell y1
        have ub2 := HeldB.cell y2
        have ub3 := HeldB.cell y3
        have ub4 := HeldB.cell y4
        clear y0 y1 y2 y3 y4
        have Hbel := Lib.hid HRx.out.bel
        refine wp_region_grow 15 (fun jx => if jx = 7 then some (gB (turnedT b)) else if jx = 12 then some (gE (beyondR (turnedT b) (b.len - sq))) else if jx = 13 then some (gE (react4 b i + beyondR (turnedT b) (b.len - sq))) else none) (by kernel_rfl) (by kernel_rfl) ?_
        simp only [List.take_succ_cons,List.take_zero,List.drop_succ_cons,List.drop_zero]
        refine wpG_quiet 7 (by kernel_rfl) (by rfl) (by decide) ?_
        simp only [List.take_succ_cons,List.take_zero,List.drop_succ_cons,List.drop_zero]
        repeat (go_big_quiet_step (fail))
        refine wpQuiet_nil ?_
        refine wpG_call rfl rfl ?_ ?_
        ·intro w1 hb1 hk
         have hb := (Hbel.out).trans (hb1.mono (Hbel.out).size)
         have hC := TurnedPost.g (bmTurned _ b w1 ((HV.out.below hb (Nat.le_refl _)).mono hb.size) Hb.out)
         exact ⟨198,#[.agg #[.string b.name,.int .i64 b.len,.slice (some ⟨bs,os,none⟩) b.sup.length cs,.slice Al b.loads.length cl,.int .i64 b.even]],by go_simp,hC⟩
        rintro _ ⟨tAs,tcs,tAl,tcl,rfl⟩
        simp only [Act.put,List.setIfInBounds_toArray,List.set_cons_zero,List.set_cons_succ]
        refine wpG_quiet 4 (by kernel_rfl) (by rfl) (by decide) ?_
        simp only [List.take_succ_cons,List.take_zero,List.drop_succ_cons,List.drop_zero]
        repeat (go_big_quiet_step (fail))
        refine wpQuiet_nil ?_
        refine wpG_call rfl rfl ?_ ?_
        ·intro w1 hb1 hk
         have hb := (Hbel.out).trans (hb1.mono (Hbel.out).size)
         have h151 : BeamAt w1 w1.heap.size (.agg #[.string (turnedT b).name,.int .i64 (turnedT b).len,.slice tAs (turnedT b).sup.length tcs,.slice tAl (turnedT b).loads.length tcl,.int .i64 (turnedT b).even]) (turnedT b) := hk 151 (of_decide_eq_true (by kernel_rfl))
         have hC := MakesE.g (bmBeyond _ (turnedT b) (b.len - sq) w1 h151 HbT.out (by omega) (by show b.len - sq ≤ b.len;omega))
         exact ⟨197,#[.agg #[.string (turnedT b).name,.int .i64 (turnedT b).len,.slice tAs (turnedT b).sup.length tcs,.slice tAl (turnedT b).loads.length tcl,.int .i64 (turnedT b).even],.int .i64 (b.len - sq)],by go_simp,hC⟩
        rintro _ ⟨r156b1,r156A1,r156l1,r156c1,r156b2,r156A2,r156l2,r156c2,rfl⟩
        simp only [Act.put,List.setIfInBounds_toArray,List.set_cons_zero,List.set_cons_succ]
        refine wpG_call rfl rfl ?_ ?_
        ·intro w1 hb1 hk
         have hb := (Hbel.out).trans (hb1.mono (Hbel.out).size)
         have h156 : ExactAt w1 (.agg #[.bool r156b1,.slice r156A1 r156l1 r156c1,.bool r156b2,.slice r156A2 r156l2 r156c2]) (beyondR (turnedT b) (b.len - sq)) := hk 156 (of_decide_eq_true (by kernel_rfl))
         have hC := MakesE.g (bmEPlus _ _ _ _ 242300 245 w1 (HEa.out.grow hb1) h156 HF4.out (beyond_fits HbT.out (by omega) (by show b.len - sq ≤ b.len;omega) (Nat.le_refl _)) (by decide))
         exact ⟨193,#[.agg #[.bool pb1,.slice pA1 pl1 pc1,.bool pb2,.slice pA2 pl2 pc2],.agg #[.bool r156b1,.slice r156A1 r156l1 r156c1,.bool r156b2,.slice r156A2 r156l2 r156c2]],by go_simp,hC⟩
        rintro _ ⟨r157b1,r157A1,r157l1,r157c1,r157b2,r157A2,r157l2,r157c2,rfl⟩
        simp only [Act.put,List.setIfInBounds_toArray,List.set_cons_zero,List.set_cons_succ]
        refine wpG_quiet 1 (by kernel_rfl) (by rfl) (by decide) ?_
        simp only [List.take_succ_cons,List.take_zero,List.drop_succ_cons,List.drop_zero]
        repeat (go_big_quiet_step (fail))
        refine wpQuiet_nil ?_
        refine wpG_nil ?_
        intro w8 hb8 hF
        have h157 : ExactAt w8 (.agg #[.bool r157b1,.slice r157A1 r157l1 r157c1,.bool r157b2,.slice r157A2 r157l2 r157c2]) (react4 b i + beyondR (turnedT b) (b.len - sq)) := hF 157
        have HE157 := Lib.hid h157
        have HRz := Lib.hid (HRx.out.grow hb8)
        obtain ⟨_,_,_,_,_,_,_,_,o0,o1,o2,o3,-⟩ := HRz.out.out.read (i := i) (by omega)
        have fo0 := HRz.out.out.frozen (i * 4)
        have fo1 := HRz.out.out.frozen (i * 4 + 1)
        have fo2 := HRz.out.out.frozen (i * 4 + 2)
        have fo3 := HRz.out.out.frozen (i * 4 + 3)
        clear hF h157 hb8 HRx Hbel ua0 ua1 ua2 ua3 HEa ub0 ub1 ub2 ub3 ub4
        go_wp2_with fail
        have HRx := Lib.hid (HRz.out.put (i := i) (by omega) HE157.out)
        rw [putQ_putQ] at HRx
        generalize ((((w8.setCell ⟨go,i * 4,none⟩ (.bool r157b1)).setCell ⟨go,i * 4 + 1,none⟩ (.slice r157A1 r157l1 r157c1)).setCell ⟨go,i * 4 + 2,none⟩ (.bool r157b2)).setCell ⟨go,i * 4 + 3,none⟩ (.slice r157A2 r157l2 r157c2)) = W9 at *
        clear HRz HE157 o0 o1 o2 o3 fo0 fo1 fo2 fo3
        have HS5 : Hid (reactR b i = react4 b i + beyondR (turnedT b) (b.len - sq)) := by unfold Hid reactR;rw [if_pos (by omega),HSq.out]
        rw [← HS5.out,← restQ_succ] at HRx
      case' pos =>
       try exact absurd hs h1
       all_goals
        have HS5 : Hid (reactR b i = react4 b i) := if_neg (by omega)
        rw [← HS5.out,← restQ_succ] at HRx
     all_goals
      go_roundw
      case rel => exact ⟨i + 1,by omega,by go_num,HRx⟩
      case measure => simp [intOf];omega
  ·obtain rfl : i = b.sup.length := by omega
   have HX := Lib.hid (HR.out.out.weak fun j q _ h => restQ_all b h)
   have HBl := Lib.hid HR.out.bel
   clear HR
   go_wp2_with fail
   go_ret
   exact ⟨HBl.out,.slice (some ⟨go,0,none⟩) b.sup.length b.sup.length,rfl,go,by rw [reactl_len],by rw [reactl_len];exact HX.out⟩
end Go.Proofs.YtknkhnahflmjiaaGreatDoor
