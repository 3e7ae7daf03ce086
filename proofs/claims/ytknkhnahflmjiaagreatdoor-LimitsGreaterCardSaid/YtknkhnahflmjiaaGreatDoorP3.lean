/- Parts of the proof, laid into one text: GridD, GridE. -/
import Derived.BigQuiet
import Derived.Deep.AppendLies
import Derived.Deep.DeepCutAuto
import Derived.Deep.Draws
import Derived.Deep.LoopGhost
import Derived.Deep.QuietTactic
import Derived.Deep.RegionLaw
import Derived.IntWalk
import Derived.Laws.Bits64b
import Derived.Laws.CopyOwn
import Derived.Laws.CopyRow
import Derived.Lib.Hide
import Derived.Lib.ItoaNum
import Derived.LoopIn
import Derived.LoopNIn
import Derived.Maps.AppendAt
import Derived.Outline
import Derived.OwnWalkIn
import Derived.PlainAid
import Derived.RangeFuncBox
import Derived.RangeFuncLeaves
import Derived.Shelf.Abstract
import Derived.Shelf.Bits.Mul64
import Derived.Shelf.Small.Bits
import Derived.Shelf.Spec.BitsCarry
import Derived.Shelf.Strconv.Itoa3
import Derived.StillTail
import Derived.StillTailTactics
import Derived.TacticsInMore
import Derived.Test.YtknkhnahflmjiaaGreatDoorB1
import Derived.Test.YtknkhnahflmjiaaGreatDoorE1
import Derived.Test.YtknkhnahflmjiaaGreatDoorE2
import Derived.Test.YtknkhnahflmjiaaGreatDoorE3
import Derived.Test.YtknkhnahflmjiaaGreatDoorE4
import Derived.Test.YtknkhnahflmjiaaGreatDoorE6
import Derived.Test.YtknkhnahflmjiaaGreatDoorE7
import Derived.Test.YtknkhnahflmjiaaGreatDoorF1
import Derived.Test.YtknkhnahflmjiaaGreatDoorH1
import Derived.Test.YtknkhnahflmjiaaGreatDoorH2
import Derived.Test.YtknkhnahflmjiaaGreatDoorH3
import Derived.Test.YtknkhnahflmjiaaGreatDoorH4
import Derived.Test.YtknkhnahflmjiaaGreatDoorH5
import Derived.Test.YtknkhnahflmjiaaGreatDoorH7
import Derived.Test.YtknkhnahflmjiaaGreatDoorP1
import Derived.Test.YtknkhnahflmjiaaGreatDoorP2
import Derived.Test.YtknkhnahflmjiaaGreatDoorProg
import Derived.WalkKit
import Derived.WalkLawsBesides
import Derived.WalkSpells

namespace Go.Proofs.YtknkhnahflmjiaaGreatDoor
open Go.RowKit Go.Shelf
attribute [local go_sem] Oper.semAt_some
structure BorS (w W : World) (g s6 n : Nat) (Q : List FrT) : Prop where
 r4 : Blk W w.heap.size 42 #[.slice none 0 0]
 r5 : Blk W (w.heap.size + 1) 25 #[.int .i64 0]
 out : Blk W g 23 (cellsF Q).toArray
 o6 : Blk W s6 42 #[.slice (some ⟨g,0,none⟩) n n]
 hg : w.heap.size + 1 < g
 h6 : g < s6
 b : Below w.heap.size w W
theorem BorS.below {w W W' : World} {g s6 n : Nat} {Q : List FrT} (h : BorS w W g s6 n Q) (hb : Below W.heap.size W W') : BorS w W' g s6 n Q :=
 ⟨h.r4.below hb h.r4.lt,h.r5.below hb h.r5.lt,h.out.below hb h.out.lt,h.o6.below hb h.o6.lt,h.hg,h.h6,h.b.trans (hb.mono h.b.size)⟩
theorem BorS.alloc {w W : World} {g s6 n : Nat} {Q : List FrT} (h : BorS w W g s6 n Q) (o : Obj) : BorS w (W.alloc o) g s6 n Q := h.below ((Below.refl _ W).alloc (Nat.le_refl _) o)
theorem BorS.turn {w W W' : World} {g s6 n : Nat} {Q : List FrT} (h : BorS w W g s6 n Q) {row : Option Nat} (hg : W.grownBy W' row) (hr : ∀ r,row = some r → ∃ o : Obj,W.heap[r]? = some o ∧ o.isCells = false) (hb : Below w.heap.size w W') : BorS w W' g s6 n Q :=
 ⟨h.r4.turn hg hr,h.r5.turn hg hr,h.out.turn hg hr,h.o6.turn hg hr,h.hg,h.h6,hb⟩
structure BorR (w W : World) (v : Value) (e : Int) : Prop where
 r4 : Blk W w.heap.size 42 #[v]
 r5 : Blk W (w.heap.size + 1) 25 #[.int .i64 e]
 b : Below w.heap.size w W
theorem BorR.turn {w W W' : World} {v : Value} {e : Int} (h : BorR w W v e) {row : Option Nat} (hg : W.grownBy W' row) (hr : ∀ r,row = some r → ∃ o : Obj,W.heap[r]? = some o ∧ o.isCells = false) (hb : Below w.heap.size w W') : BorR w W' v e := ⟨h.r4.turn hg hr,h.r5.turn hg hr,hb⟩
theorem BorS.res {w W : World} {g s6 n : Nat} {Q : List FrT} (h : BorS w W g s6 n Q) (v : Value) (e : Int) : BorR w ((W.setCell ⟨w.heap.size,0,none⟩ v).setCell ⟨w.heap.size + 1,0,none⟩ (.int .i64 e)) v e :=
 ⟨(h.r4.set_ 0 v).far (p := ⟨w.heap.size + 1,0,none⟩) (by show w.heap.size ≠ w.heap.size + 1;omega) _,(h.r5.far (p := ⟨w.heap.size,0,none⟩) (by show w.heap.size + 1 ≠ w.heap.size;omega) v).set_ 0 (.int .i64 e),(h.b.setCell (p := ⟨w.heap.size,0,none⟩) (Nat.le_refl _) v).setCell (p := ⟨w.heap.size + 1,0,none⟩) (Nat.le_succ _) _⟩
def markD (D : Nat) : Deferred := { target := .collected D,args := #[] }
def MarksAt (W : World) (B : Nat) (Ds : List Nat) : Prop := Ds.Nodup ∧ ∀ D ∈ Ds,B ≤ D ∧ W.heap[D]? = some (.deferred (some []))
theorem leaves_marks {F : Fence} {n : Nat} {P : Program} {fn : Func} {tmps : Array Value} {R : Ending → World → Prop} {B g : Nat} {T : TypeId} {cs : Array Value} {w : World} {v : Value} {e : Int} (hB : w.heap.size + 1 ≤ B) :
  ∀ (Ds : List Nat) (W : World),MarksAt W B Ds → BorR w W v e → Blk W g T cs → (∀ W',BorR w W' v e → Blk W' g T cs → LeavesInM F n P fn tmps R [] .returning W') → LeavesInM F n P fn tmps R (Ds.map markD) .returning W
 | [],W,_,hR,ho,h => h W hR ho
 | D :: Ds,W,hM,hR,ho,h => by
  obtain ⟨hN,hA⟩ := hM
  rw [List.nodup_cons] at hN
  obtain ⟨h1,h2⟩ := hA D (by simp)
  refine ⟨by simp,.inl ⟨_,_,rfl,run_takeDeferred h2,?_⟩⟩
  have hg := grownBy_putObj' W D (.deferred none)
  have hb : Below w.heap.size w (W.putObj D (.deferred none)) := hR.b.trans (belowK_b (w := w) (Nat.le_refl _) W D _ (.deferred none) (by omega) h2 rfl rfl)
  refine leaves_marks hB Ds _ ⟨hN.2,fun D2 hD2 => ⟨(hA D2 (by simp [hD2])).1,?_⟩⟩ (hR.turn hg (fun r er => by cases er;exact ⟨_,h2,rfl⟩) hb) (ho.turn hg (fun r er => by cases er;exact ⟨_,h2,rfl⟩)) h
  have hne : D2 ≠ D := fun er => hN.1 (er ▸ hD2)
  rw [hg.block D2 (Array.getElem?_eq_some_iff.1 (hA D2 (by simp [hD2])).2).1 (fun er => hne (by simpa using er))]
  exact (hA D2 (by simp [hD2])).2
theorem MarksAt.set {W : World} {B : Nat} {Ds : List Nat} (h : MarksAt W B Ds) {p : Addr} (hp : p.block < B) (v : Value) : MarksAt (W.setCell p v) B Ds :=
 ⟨h.1,fun D hD => ⟨(h.2 D hD).1,(Below.heap_setCell W p v D (fun e => by have := (h.2 D hD).1;omega)).trans (h.2 D hD).2⟩⟩
theorem MarksAt.below {W W' : World} {B : Nat} {Ds : List Nat} (h : MarksAt W B Ds) (hb : Below W.heap.size W W') : MarksAt W' B Ds :=
 ⟨h.1,fun D hD => ⟨(h.2 D hD).1,(hb.block D (Array.getElem?_eq_some_iff.1 (h.2 D hD).2).1).trans (h.2 D hD).2⟩⟩
theorem MarksAt.turn {W W' : World} {B N : Nat} {Ds : List Nat} (h : MarksAt W B Ds) (hN : ∀ D ∈ Ds,D < N) {row : Option Nat} (hg : W.grownBy W' row) (hr : ∀ r,row = some r → N ≤ r) : MarksAt W' B Ds :=
 ⟨h.1,fun D hD => ⟨(h.2 D hD).1,(hg.block D (Array.getElem?_eq_some_iff.1 (h.2 D hD).2).1 (fun e => by have := hr D e.symm;have := hN D hD;omega)).trans (h.2 D hD).2⟩⟩
theorem MarksAt.cons {W : World} {B D : Nat} {Ds : List Nat} (h : MarksAt W B Ds) (hD : B ≤ D) (hK : W.heap[D]? = some (.deferred (some []))) (hn : D ∉ Ds) : MarksAt W B (D :: Ds) :=
 ⟨List.nodup_cons.2 ⟨hn,h.1⟩,fun E hE => by
  rcases List.mem_cons.1 hE with rfl | hE
  ·exact ⟨hD,hK⟩
  ·exact h.2 E hE⟩
theorem MarksAt.lt {W : World} {B : Nat} {Ds : List Nat} (h : MarksAt W B Ds) : ∀ D ∈ Ds,D < W.heap.size := fun D hD => (Array.getElem?_eq_some_iff.1 (h.2 D hD).2).1
theorem BorS.far {w W : World} {g s6 n : Nat} {Q : List FrT} (h : BorS w W g s6 n Q) {b i : Nat} (hb : s6 < b) (v : Value) : BorS w (W.setCell ⟨b,i,none⟩ v) g s6 n Q := by
 have h1 := h.hg
 have h2 := h.h6
 exact ⟨h.r4.far (p := ⟨b,i,none⟩) (by show w.heap.size ≠ b;omega) v,h.r5.far (p := ⟨b,i,none⟩) (by show w.heap.size + 1 ≠ b;omega) v,h.out.far (p := ⟨b,i,none⟩) (by show g ≠ b;omega) v,h.o6.far (p := ⟨b,i,none⟩) (by show s6 ≠ b;omega) v,h.hg,h.h6,h.b.setCell (p := ⟨b,i,none⟩) (by show w.heap.size ≤ b;omega) v⟩
theorem gdOver (a : Option Addr) (len cap : Nat) (d : Int) (w : World) : Calls Tryz.prog 163 #[.slice a len cap,.int .i64 d] w fun e w' => e = .returned (.func (.func 218) #[] #[.pointer (some ⟨w.heap.size,0,none⟩),.pointer (some ⟨w.heap.size + 1,0,none⟩)]) ∧ w' = (w.alloc (.cells #[.slice a len cap] 191)).alloc (.cells #[.int .i64 d] 3) :=
 callsIn_wide.1 (over_in Fence.wide 3 trivial rfl a len cap d w)
structure BorT (w W : World) (g s6 n : Nat) (Q : List FrT) (Ds : List Nat) (s10 : Nat) (pos wt : Int) : Prop where
 s : BorS w W g s6 n Q
 m : MarksAt W (w.heap.size + 2) Ds
 d : Blk W s10 115 #[.int .i64 pos,.int .i64 wt]
theorem BorT.below {w W W' : World} {g s6 n : Nat} {Q : List FrT} {Ds : List Nat} {s10 : Nat} {pos wt : Int} (h : BorT w W g s6 n Q Ds s10 pos wt) (hb : Below W.heap.size W W') : BorT w W' g s6 n Q Ds s10 pos wt := ⟨h.s.below hb,h.m.below hb,h.d.below hb h.d.lt⟩
theorem BorT.alloc {w W : World} {g s6 n : Nat} {Q : List FrT} {Ds : List Nat} {s10 : Nat} {pos wt : Int} (h : BorT w W g s6 n Q Ds s10 pos wt) (o : Obj) : BorT w (W.alloc o) g s6 n Q Ds s10 pos wt := h.below ((Below.refl _ W).alloc (Nat.le_refl _) o)
theorem BorT.far {w W : World} {g s6 n : Nat} {Q : List FrT} {Ds : List Nat} {s10 : Nat} {pos wt : Int} (h : BorT w W g s6 n Q Ds s10 pos wt) {b i : Nat} (h1 : s6 < b) (h2 : s10 < b) {T : TypeId} {cs : Array Value} (hb : Blk W b T cs) (v : Value) : BorT w (W.setCell ⟨b,i,none⟩ v) g s6 n Q Ds s10 pos wt :=
 ⟨h.s.far h1 v,⟨h.m.1,fun D hD => ⟨(h.m.2 D hD).1,(Below.heap_setCell W ⟨b,i,none⟩ v D (fun e => by
  have h3 := (h.m.2 D hD).2
  unfold Blk at hb
  have e2 : D = b := e
  rw [e2,hb] at h3
  cases h3)).trans (h.m.2 D hD).2⟩⟩,h.d.far (p := ⟨b,i,none⟩) (by show s10 ≠ b;omega) v⟩
structure NwB (W : World) (s6 s10 g : Nat) (T : TypeId) (cs : Array Value) : Prop where
 e : Blk W g T cs
 l6 : s6 < g
 l10 : s10 < g
theorem NwB.below {W W' : World} {s6 s10 g : Nat} {T : TypeId} {cs : Array Value} (h : NwB W s6 s10 g T cs) (hb : Below W.heap.size W W') : NwB W' s6 s10 g T cs := ⟨h.e.below hb h.e.lt,h.l6,h.l10⟩
theorem NwB.alloc {W : World} {s6 s10 g : Nat} {T : TypeId} {cs : Array Value} (h : NwB W s6 s10 g T cs) (o : Obj) : NwB (W.alloc o) s6 s10 g T cs := h.below ((Below.refl _ W).alloc (Nat.le_refl _) o)
theorem NwB.new {w W : World} {g s6 n : Nat} {Q : List FrT} {Ds : List Nat} {s10 : Nat} {pos wt : Int} (h : BorT w W g s6 n Q Ds s10 pos wt) (T : TypeId) (cs : Array Value) : NwB (W.alloc (.cells cs T)) s6 s10 W.heap.size T cs := ⟨Blk.new W T cs,h.s.o6.lt,h.d.lt⟩
theorem nw_ne {W : World} {s6 s10 g11 g12 : Nat} {T1 T2 : TypeId} {a b c : Value} (h1 : NwB W s6 s10 g11 T1 #[a,b]) (h2 : NwB W s6 s10 g12 T2 #[c]) : g12 ≠ g11 := fun e => by
 subst e
 have e1 := h1.e
 have e2 := h2.e
 unfold Blk at e1 e2
 rw [e1] at e2
 injection e2 with e2
 injection e2 with e2 _ _
 exact absurd (congrArg Array.size e2) (by simp)
theorem BorS.put {w W : World} {g s6 n : Nat} {Q : List FrT} (h : BorS w W g s6 n Q) (j : Nat) (a b : Int) : BorS w ((W.setCell ⟨g,j * 2,none⟩ (.int .i64 a)).setCell ⟨g,j * 2 + 1,none⟩ (.int .i64 b)) g s6 n (Q.set j ⟨a,b⟩) := by
 have h1 := h.hg
 have h2 := h.h6
 have ho := (h.out.set_ (j * 2) (.int .i64 a)).set_ (j * 2 + 1) (.int .i64 b)
 rw [cellsF_setA] at ho
 exact ⟨(h.r4.far (p := ⟨g,j * 2,none⟩) (by show w.heap.size ≠ g;omega) _).far (p := ⟨g,j * 2 + 1,none⟩) (by show w.heap.size ≠ g;omega) _,(h.r5.far (p := ⟨g,j * 2,none⟩) (by show w.heap.size + 1 ≠ g;omega) _).far (p := ⟨g,j * 2 + 1,none⟩) (by show w.heap.size + 1 ≠ g;omega) _,ho,(h.o6.far (p := ⟨g,j * 2,none⟩) (by show s6 ≠ g;omega) _).far (p := ⟨g,j * 2 + 1,none⟩) (by show s6 ≠ g;omega) _,h1,h2,(h.b.setCell (p := ⟨g,j * 2,none⟩) (by show w.heap.size ≤ g;omega) _).setCell (p := ⟨g,j * 2 + 1,none⟩) (by show w.heap.size ≤ g;omega) _⟩
theorem MarksAt.setB {W : World} {B : Nat} {Ds : List Nat} (h : MarksAt W B Ds) {b i : Nat} {T : TypeId} {cs : Array Value} (hb : Blk W b T cs) (v : Value) : MarksAt (W.setCell ⟨b,i,none⟩ v) B Ds :=
 ⟨h.1,fun D hD => ⟨(h.2 D hD).1,(Below.heap_setCell W ⟨b,i,none⟩ v D (fun e => by
  have h3 := (h.2 D hD).2
  unfold Blk at hb
  have e2 : D = b := e
  rw [e2,hb] at h3
  cases h3)).trans (h.2 D hD).2⟩⟩
theorem keeps_below {W W' : World} (hb : Below W.heap.size W W') : KeepsOthers W W' := ⟨hb.size,fun r _o h _ => (hb.block r (Array.getElem?_eq_some_iff.1 h).1).trans h⟩
theorem fracV_of {q : Rat} {px py pz : Int} (h : fracV q = .tuple #[.agg #[.int .i64 px,.int .i64 py],.int .i64 pz]) : (fracOk q = true → frGood ⟨px,py⟩ = true ∧ frOf q = ⟨px,py⟩ ∧ pz = 0) ∧ (fracOk q = false → pz = 5) := by
 refine ⟨fun hk => ?_,fun hk => ?_⟩
 ·have h2 := fracV_ok hk
  rw [h] at h2
  injection h2 with h2
  injection h2 with h2
  injection h2 with h3 h4
  injection h3 with h3
  injection h3 with h3
  injection h3 with h5 h6
  injection h5 with _ h5
  injection h6 with h6 _
  injection h6 with _ h6
  injection h4 with h4 _
  injection h4 with _ h4
  have e : frOf q = ⟨px,py⟩ := by unfold frOf;rw [h5,h6]
  exact ⟨by rw [← e];exact good_q hk,e,h4⟩
 ·have h2 := fracV_no hk
  rw [h] at h2
  injection h2 with h2
  injection h2 with h2
  injection h2 with h3 h4
  injection h4 with h4 _
  injection h4 with _ h4
def BornePost (l : List RoofT) (at_ : List LoadT) (w : World) (e : Ending) (w' : World) : Prop :=
 Below w.heap.size w w' ∧ ((borneE l at_ = 0 ∧ ∃ g,e = .returned (.tuple #[.slice (some ⟨g,0,none⟩) l.length l.length,.int .i64 0]) ∧ w.heap.size ≤ g ∧ Blk w' g 23 (cellsF (borneL l at_)).toArray) ∨ (borneE l at_ ≠ 0 ∧ e = .returned (.tuple #[.slice none 0 0,.int .i64 (borneE l at_)])))
set_option maxRecDepth 100000 in
set_option maxHeartbeats 8000000 in
theorem gdBorne (v v1 : Value) (l : List RoofT) (at_ : List LoadT) (w : World) (hlen : l.length ≤ 20) (hlen2 : at_.length ≤ 1000) (hwt : ∀ x ∈ at_,0 ≤ x.wt ∧ x.wt ≤ 67108864) (hv : RoofsAt w w.heap.size v l) (hl : LoadsAt w w.heap.size v1 at_) :
  Calls Tryz.prog 115 #[v,v1] w (BornePost l at_ w) := by
 obtain ⟨A,c,rfl,-⟩ := hv.open_
 obtain ⟨A1,c1,rfl,hc1,hc2,hcell⟩ := hl.open_
 unfold maxLen at hc2
 have HR := Lib.hid hv
 have HC := Lib.hid hcell
 have HWt := Lib.hid hwt
 have HCnt := Lib.hid fun d W (hb : Below w.heap.size w W) => gdCount l d A c hlen W (hv.grow hb)
 clear hv hl hcell hwt
 refine callsIn_wide (n := 5) |>.1 ?_
 refine callsIn_of_wp_marks Tryz.func115 rfl trivial ?_ rfl
 simp only [Tryz.ntmps115,List.size_toArray,List.length_cons,List.length_nil,Nat.reduceAdd,Nat.reduceSub,Array.replicate_succ,Array.replicate_zero,List.push_toArray,List.append_toArray,List.nil_append,List.cons_append]
 refine wpIn_wide.2 ?_
 have P4 := (Blk.new w 42 #[.slice none 0 0]).alloc (.cells #[.int .i64 0] 25)
 have P5 := Blk.new (w.alloc (.cells #[.slice none 0 0] 42)) 25 #[.int .i64 0]
 rw [World.size_alloc] at P5
 have HB := Lib.hid (((Below.refl w.heap.size w).alloc (Nat.le_refl _) (.cells #[.slice none 0 0] 42)).alloc (by simp) (.cells #[.int .i64 0] 25))
 have P4 := Lib.hid P4
 have P5 := Lib.hid P5
 go_upto_region 1 with fail
 generalize (w.alloc (.cells #[.slice none 0 0] 42)).alloc (.cells #[.int .i64 0] 25) = W1 at *
 go_wp2_with (first | (go_at_call 83;exact Go.WalkKit.wp_stop))
 refine (gdOf 0 W1).mono ?_
 rintro e W2 ⟨rfl,hb2⟩
 have P4 := Lib.hid (P4.out.below hb2 P4.out.lt)
 have P5 := Lib.hid (P5.out.below hb2 P5.out.lt)
 have HB := Lib.hid (HB.out.trans (hb2.mono HB.out.size))
 clear hb2
 have hrp := repeatFr W2.heap.size ⟨0,1⟩ 23 l.length (W2.alloc (.cells #[.int .i64 0,.int .i64 1] 23)) hlen (Blk.new W2 23 #[.int .i64 0,.int .i64 1])
 rw [← stageL_zero l at_] at hrp
 have P4 := Lib.hid (P4.out.alloc (.cells #[.int .i64 0,.int .i64 1] 23))
 have P5 := Lib.hid (P5.out.alloc (.cells #[.int .i64 0,.int .i64 1] 23))
 have HB := Lib.hid (HB.out.alloc HB.out.size (.cells #[.int .i64 0,.int .i64 1] 23))
 go_wp2_with (first | (go_at_call 160;exact Go.WalkKit.wp_stop))
 refine hrp.mono ?_
 rintro e W3 ⟨g,rfl,hg3,hD3,hb3⟩
 have hS0 : BorS w (W3.alloc (.cells #[.slice (some ⟨g,0,none⟩) l.length l.length] 42)) g W3.heap.size l.length (stageL l at_ 0) := by
  have h5 := P5.out.lt
  exact ⟨(P4.out.below hb3 P4.out.lt).alloc _,(P5.out.below hb3 P5.out.lt).alloc _,hD3.alloc _,Blk.new W3 _ _,by omega,hD3.lt,(HB.out.trans (hb3.mono HB.out.size)).alloc (Nat.le_trans HB.out.size hb3.size) _⟩
 have HS0 := Lib.hid hS0
 clear hS0 hrp hb3 hD3 P4 P5 HB hg3
 go_upto_region 2 with fail
 generalize W3.alloc (.cells #[.slice (some ⟨g,0,none⟩) l.length l.length] 42) = W4 at *
 generalize W3.heap.size = s6 at *
 go_wp2_with fail
 go_loopw [21] (fun ix wr => ∃ k : Nat,k ≤ at_.length ∧ ix = .int .i64 (k : Int) ∧ Hid (BorS w wr g s6 l.length (stageL l at_ 0)) ∧ Hid (∀ j (hj : j < at_.length),j < k → cntR l at_[j].pos ≠ 0)) (fun ix _ => at_.length - (intOf ix).toNat)
 case atStart => exact ⟨0,Nat.zero_le _,rfl,HS0,fun _ _ h => absurd h (Nat.not_lt_zero _)⟩
 case round =>
  clear HS0
  obtain ⟨k,hk,rfl,HS,HN⟩ := hrel
  have k0 : (0 : Int) ≤ (k : Int) := Int.natCast_nonneg _
  by_cases hkl : k < at_.length
  ·have k1 : (k : Int) < (at_.length : Int) := by omega
   obtain ⟨b,o,rfl,hb,hcs⟩ := HC.out k hkl
   obtain ⟨x0,x1⟩ := hcs k hkl
   have x0 := (HS.out.b.cell (p := ⟨b,o + k * 2,none⟩) hb).trans x0
   have x1 := (HS.out.b.cell (p := ⟨b,o + k * 2 + 1,none⟩) hb).trans x1
   have HNone : Hid (cntR l at_[k].pos = 0 → borneE l at_ = 12) := fun h => borneE_none hkl h
   have HNx : Hid (cntR l at_[k].pos ≠ 0 → ∀ j (hj : j < at_.length),j < k + 1 → cntR l at_[j].pos ≠ 0) := fun h j hj hjk => by
    rcases Nat.lt_or_ge j k with h1 | h1
    ·exact HN.out j hj h1
    ·obtain rfl : j = k := by omega
     exact h
   clear hcs
   generalize at_[k] = x at *
   obtain ⟨pos,wt⟩ := x
   simp only at x0 x1 HNone HNx
   have HS1 := Lib.hid (HS.out.alloc (.cells #[.int .i64 pos,.int .i64 wt] 115))
   have y0 := (Blk.new wr 115 #[.int .i64 pos,.int .i64 wt]).cell 0
   simp only [List.getElem?_toArray,List.getElem?_cons_zero] at y0
   have hcn := HCnt.out pos _ HS1.out.b
   by_cases hz : cntR l pos = 0
   ·have hz0 : (((cntR l pos : Nat) : Int) == 0) = true := by rw [hz];rfl
    have HE := Lib.hid (HNone.out hz)
    have y4 := HS1.out.r4
    clear hz HNx HNone
    generalize cntR l pos = cn at *
    go_upto_region 6 with (first | (go_at_call 161;refine hcn.mono ?_;rintro e W5 ⟨rfl,hb5⟩))
    have HS5 := Lib.hid (HS1.out.below hb5)
    clear hb5 HS1 HS
    have f4 := HS5.out.r4.frozen 0
    have f5 := HS5.out.r5.frozen 0
    have y4 := HS5.out.r4.cell 0
    have y5 := HS5.out.r5.cell 0
    have f5' := (HS5.out.r5.far (p := ⟨w.heap.size,0,none⟩) (by show w.heap.size + 1 ≠ w.heap.size;omega) (.slice none 0 0)).frozen 0
    have y5' := (HS5.out.r5.far (p := ⟨w.heap.size,0,none⟩) (by show w.heap.size + 1 ≠ w.heap.size;omega) (.slice none 0 0)).cell 0
    simp only [List.getElem?_toArray,List.getElem?_cons_zero] at y4 y5 y5'
    have HZ := Lib.hid (HS5.out.res (.slice none 0 0) 12)
    go_wp2_with fail
    refine leaves_marks (B := w.heap.size + 1) (Nat.le_refl _) [] _ ⟨List.nodup_nil,fun _ h => by cases h⟩ HZ.out HZ.out.r4 ?_
    intro W' hW' _
    have p0 := hW'.r4.cell 0
    have p1 := hW'.r5.cell 0
    simp only [List.getElem?_toArray,List.getElem?_cons_zero] at p0 p1
    refine ⟨.tuple #[.slice none 0 0,.int .i64 12],by simp [results,Tryz.results115,go_sem,p0,p1],hW'.b,.inr ?_⟩
    rw [HE.out]
    exact ⟨by decide,rfl⟩
   ·have hz0 : (((cntR l pos : Nat) : Int) == 0) = false := beq_eq_false_iff_ne.2 (by omega)
    have HN2 := Lib.hid (HNx.out hz)
    clear hz HNx HNone HN
    generalize cntR l pos = cn at *
    go_wp2_with (first | (go_at_call 161;refine hcn.mono ?_;rintro e W5 ⟨rfl,hb5⟩))
    have HS5 := Lib.hid (HS1.out.below hb5)
    clear hb5 HS1 HS
    go_roundw
    case rel => exact ⟨k + 1,hkl,by go_num,HS5,HN2⟩
    case measure => simp [intOf];omega
  ·obtain rfl : k = at_.length := by omega
   have HNo : Hid (noneB l at_ = false) := noneB_no fun j hj => HN.out j hj hj
   have HFit : Hid (∀ r,fitTo l at_ r 0 = true) := fitTo_zero l at_
   clear HN HCnt
   go_wp2_with fail
   have Hlen := Lib.hid hlen
   have Hc2 := Lib.hid hc2
   have HStep : Hid (∀ j (hj : j < at_.length),cntR l at_[j].pos ≠ 0) := fun j hj => by
    have := HNo.out
    unfold noneB at this
    rw [List.any_eq_false] at this
    intro e
    exact this _ (List.getElem_mem hj) (decide_eq_true e)
   refine wp_loop_ghost_k (fun nn a wr => ∃ (k : Nat) (Ds : List Nat) (v10 v11 v12 v13 v34 v35 v36 v37 v38 v39 v40 v41 v42 v43 v44 v45 v46 v47 v48 v49 v50 v51 v52 v53 v54 v55 v56 v57 v58 v59 v60 v61 v62 v63 v64 v65 v66 v67 v68 v69 v70 : Value),a = { tmps := #[.slice A l.length c,.slice A1 at_.length c1,undef,undef,.pointer (some ⟨w.heap.size,0,none⟩),.pointer (some ⟨w.heap.size + 1,0,none⟩),.pointer (some ⟨s6,0,none⟩),undef,u8,undef,v10,v11,v12,v13,.agg #[.int .i64 0,.int .i64 1],.slice (some ⟨W2.heap.size,0,none⟩) 1 1,.slice A l.length c,.int .i64 (l.length : Int),.slice (some ⟨g,0,none⟩) l.length l.length,.slice A1 at_.length c1,.int .i64 (at_.length : Int),.int .i64 (at_.length : Int),.bool false,u23,u24,u25,u26,u27,u28,u29,u30,.slice A1 at_.length c1,.int .i64 (at_.length : Int),.int .i64 (k : Int),v34,v35,v36,v37,v38,v39,v40,v41,v42,v43,v44,v45,v46,v47,v48,v49,v50,v51,v52,v53,v54,v55,v56,v57,v58,v59,v60,v61,v62,v63,v64,v65,v66,v67,v68,v69,v70,undef],defers := Ds.map markD } ∧ k ≤ at_.length ∧ nn = at_.length - k ∧ Hid (BorS w wr g s6 l.length (stageL l at_ k)) ∧ Hid (∀ i : Fin l.length,fitTo l at_ l[i.val] k = true) ∧ Hid (MarksAt wr (w.heap.size + 2) Ds)) at_.length ⟨0,[],_,_,_,_,_,_,_,_,_,_,_,_,_,_,_,_,_,_,_,_,_,_,_,_,_,_,_,_,_,_,_,_,_,_,_,_,_,_,_,_,_,rfl,Nat.zero_le _,rfl,HS,fun i => HFit.out _,⟨List.nodup_nil,fun _ h => by cases h⟩⟩ ?_
   clear HS HFit
   rintro nn a wr ⟨k,Ds,v10,v11,v12,v13,v34,v35,v36,v37,v38,v39,v40,v41,v42,v43,v44,v45,v46,v47,v48,v49,v50,v51,v52,v53,v54,v55,v56,v57,v58,v59,v60,v61,v62,v63,v64,v65,v66,v67,v68,v69,v70,rfl,hk,hnn,HS,HFit,HM⟩ J K hJ hK
   have Hnn := Lib.hid hnn
   have HJ := Lib.hid hJ
   clear hnn hJ
   have k0 : (0 : Int) ≤ (k : Int) := Int.natCast_nonneg _
   by_cases hkl : k < at_.length
   rotate_left
   ·obtain rfl : k = at_.length := by omega
    have HE : Hid (borneE l at_ = 0) := borneE_zero HNo.out fun i hi => HFit.out ⟨i,hi⟩
    have f4 := HS.out.r4.frozen 0
    have y4 := HS.out.r4.cell 0
    have f5' := (HS.out.r5.far (p := ⟨w.heap.size,0,none⟩) (by show w.heap.size + 1 ≠ w.heap.size;omega) (.slice (some ⟨g,0,none⟩) l.length l.length)).frozen 0
    have y5' := (HS.out.r5.far (p := ⟨w.heap.size,0,none⟩) (by show w.heap.size + 1 ≠ w.heap.size;omega) (.slice (some ⟨g,0,none⟩) l.length l.length)).cell 0
    have y6 := HS.out.o6.cell 0
    simp only [List.getElem?_toArray,List.getElem?_cons_zero] at y4 y5' y6
    have HZ := Lib.hid (HS.out.res (.slice (some ⟨g,0,none⟩) l.length l.length) 0)
    have HOut := Lib.hid HS.out.out
    have HMk : Hid (MarksAt ((wr.setCell ⟨w.heap.size,0,none⟩ (.slice (some ⟨g,0,none⟩) l.length l.length)).setCell ⟨w.heap.size + 1,0,none⟩ (.int .i64 0)) (w.heap.size + 2) Ds) := (HM.out.set (p := ⟨w.heap.size,0,none⟩) (by show w.heap.size < w.heap.size + 2;omega) _).set (p := ⟨w.heap.size + 1,0,none⟩) (by show w.heap.size + 1 < w.heap.size + 2;omega) _
    have HO2 : Hid (Blk ((wr.setCell ⟨w.heap.size,0,none⟩ (.slice (some ⟨g,0,none⟩) l.length l.length)).setCell ⟨w.heap.size + 1,0,none⟩ (.int .i64 0)) g 23 (cellsF (stageL l at_ at_.length)).toArray) := by
     have h1 := HS.out.hg
     exact (HOut.out.far (p := ⟨w.heap.size,0,none⟩) (by show g ≠ w.heap.size;omega) _).far (p := ⟨w.heap.size + 1,0,none⟩) (by show g ≠ w.heap.size + 1;omega) _
    have HG := Lib.hid HS.out.hg
    clear HJ HOut
    go_wp2_with fail
    refine leaves_marks (B := w.heap.size + 2) (by omega) Ds _ HMk.out HZ.out HO2.out ?_
    intro W' hW' hO'
    have p0 := hW'.r4.cell 0
    have p1 := hW'.r5.cell 0
    simp only [List.getElem?_toArray,List.getElem?_cons_zero] at p0 p1
    refine ⟨.tuple #[.slice (some ⟨g,0,none⟩) l.length l.length,.int .i64 0],by simp [results,Tryz.results115,go_sem,p0,p1],hW'.b,.inl ⟨HE.out,g,rfl,by have := HG.out;omega,hO'⟩⟩
   have k1 : (k : Int) < (at_.length : Int) := by omega
   obtain ⟨b,o,rfl,hb,hcs⟩ := HC.out k hkl
   obtain ⟨x0,x1⟩ := hcs k hkl
   have x0 := (HS.out.b.cell (p := ⟨b,o + k * 2,none⟩) hb).trans x0
   have x1 := (HS.out.b.cell (p := ⟨b,o + k * 2 + 1,none⟩) hb).trans x1
   have hwt := HWt.out _ (List.getElem_mem hkl)
   have hc0 := HStep.out k hkl
   obtain ⟨pos,hpos⟩ : ∃ p,(at_[k]'hkl).pos = p := ⟨_,rfl⟩
   obtain ⟨wt,hwe⟩ : ∃ p,(at_[k]'hkl).wt = p := ⟨_,rfl⟩
   have HSh : Hid (shareQ l (at_[k]'hkl) = mkRat wt (cntR l pos)) := by unfold Hid shareQ;rw [hpos,hwe]
   replace x0 : wr.cell? ⟨b,o + k * 2,none⟩ = some (.int .i64 pos) := by rw [← hpos];exact x0
   replace x1 : wr.cell? ⟨b,o + k * 2 + 1,none⟩ = some (.int .i64 wt) := by rw [← hwe];exact x1
   rw [hpos] at hc0
   rw [hwe] at hwt
   have Hpos : Hid ((at_[k]'hkl).pos = pos) := hpos
   have hcl := cntR_le l pos
   have hcn := gdCount l pos A c hlen
   have hok := (raMake wt (cntR l pos) wr hwt.1 hwt.2 (by omega) (by omega)).1
   have hmk := fun W => (raMake wt (cntR l pos) W hwt.1 hwt.2 (by omega) (by omega)).2
   have HGs := Lib.hid (good_q hok)
   obtain ⟨fs,hfs⟩ : ∃ fs,frOf (mkRat wt (cntR l pos)) = fs := ⟨_,rfl⟩
   have HFs : Hid (frOf (shareQ l (at_[k]'hkl)) = fs) := by unfold Hid;rw [HSh.out,hfs]
   rw [hfs] at HGs
   simp only [hfs] at hmk
   obtain ⟨fx,fy⟩ := fs
   simp only at hmk
   have HMake := Lib.hid hmk
   have HCn := Lib.hid fun W (hb : Below w.heap.size w W) => hcn W (HR.out.grow hb)
   have Hkl := Lib.hid hkl
   clear hcs hwt hc0 hcl hcn hok hmk hfs hpos hwe
   generalize cntR l pos = cn at *
   have hT5 : BorT w (wr.alloc (.cells #[.int .i64 pos,.int .i64 wt] 115)) g s6 l.length (stageL l at_ k) Ds wr.heap.size pos wt := ⟨HS.out.alloc _,HM.out.below ((Below.refl wr.heap.size wr).alloc (Nat.le_refl _) _),Blk.new wr _ _⟩
   have HT5 := Lib.hid hT5
   clear HS HM hT5
   go_upto_region 11 with fail
   clear x0 x1
   generalize wr.alloc (.cells #[.int .i64 pos,.int .i64 wt] 115) = W5 at *
   generalize wr.heap.size = s10 at *
   refine wp_region_po (fun i => ([.pointer (some ⟨s10,1,none⟩),.int .i64 wt,.slice A l.length c,.pointer (some ⟨s10,0,none⟩),.int .i64 pos,.int .i64 (cn : Int),.tuple #[.agg #[.int .i64 fx,.int .i64 fy],.int .i64 0],.tuple #[.agg #[.int .i64 fx,.int .i64 fy],.int .i64 0],.agg #[.int .i64 fx,.int .i64 fy],.int .i64 0,undef,undef,undef,undef] : List Value).getD i undef) [5,6,10,11,12,13] (by kernel_rfl) (by kernel_rfl) (by kernel_rfl) (by decide) ?_
   have HT6 := Lib.hid (HT5.out.below ((Below.refl _ W5).drew))
   clear HT5
   generalize W5.drew = W6 at *
   generalize hPJ : poJ Tryz.prog Region.Mode.any _ _ _ _ = PJ
   have HPJ := Lib.hid hPJ
   have HEnd : ∀ (W : World) (g11 : Nat) (g12 : Nat),BorT w W g s6 l.length (stageL l at_ k) Ds s10 pos wt → NwB W s6 s10 g11 23 #[.int .i64 fx,.int .i64 fy] → NwB W s6 s10 g12 25 #[.int .i64 0] → PJ 0 [] (fun i => ([.pointer (some ⟨s10,1,none⟩),.int .i64 wt,.slice A l.length c,.pointer (some ⟨s10,0,none⟩),.int .i64 pos,.int .i64 (cn : Int),.tuple #[.agg #[.int .i64 fx,.int .i64 fy],.int .i64 0],.tuple #[.agg #[.int .i64 fx,.int .i64 fy],.int .i64 0],.agg #[.int .i64 fx,.int .i64 fy],.int .i64 0,.pointer (some ⟨g11,0,none⟩),.pointer (some ⟨g12,0,none⟩),undef,undef] : List Value).getD i undef) W := by
    intro W g11 g12 hT n11 n12
    rw [← HPJ.out]
    have y0 := hT.d.cell 0
    have y1 := hT.d.cell 1
    simp only [List.getElem?_toArray,List.getElem?_cons_succ,List.getElem?_cons_zero] at y0 y1
    refine poJ_end rfl ?_ ?_
    ·simp only [putAll,Act.put,List.setIfInBounds_toArray,List.set_cons_zero,List.set_cons_succ,readsQ]
     refine ⟨?_,?_,?_,?_,?_,?_,?_,?_,?_,?_,?_,?_,?_,?_,trivial⟩
     all_goals first
      | exact .inl rfl
      | exact .inr (.inl (by decide +kernel))
      | (refine .inr (.inr ?_);go_simp;done)
    simp only [putAll,Act.put,List.setIfInBounds_toArray,List.set_cons_zero,List.set_cons_succ,]
    have y12 := n12.e.cell 0
    have y9 := hT.d.cell 0
    simp only [List.getElem?_toArray,List.getElem?_cons_zero] at y12 y9
    clear y0 y1
    have hOv := fun W => gdOver A l.length c pos W
    go_wp2_with (first | (go_at_call 163;exact Go.WalkKit.wp_stop))
    refine (hOv W).mono ?_
    rintro e W' ⟨rfl,rfl⟩
    have hT2 := (hT.alloc (.cells #[.slice A l.length c] 191)).alloc (.cells #[.int .i64 pos] 3)
    have n112 := (n11.alloc (.cells #[.slice A l.length c] 191)).alloc (.cells #[.int .i64 pos] 3)
    have n122 := (n12.alloc (.cells #[.slice A l.length c] 191)).alloc (.cells #[.int .i64 pos] 3)
    have o1 := (Blk.new W 191 #[.slice A l.length c]).alloc (.cells #[.int .i64 pos] 3)
    have o2 := Blk.new (W.alloc (.cells #[.slice A l.length c] 191)) 3 #[.int .i64 pos]
    rw [World.size_alloc] at o2
    have hsz : ((W.alloc (.cells #[.slice A l.length c] 191)).alloc (.cells #[.int .i64 pos] 3)).heap.size = W.heap.size + 1 + 1 := by simp
    have hl6 := n11.e.lt
    have hl7 := n12.e.lt
    clear hT n11 n12 y12 y9 hOv HPJ hPJ
    go_wp2_with fail
    generalize (W.alloc (.cells #[.slice A l.length c] 191)).alloc (.cells #[.int .i64 pos] 3) = Wn at *
    generalize W.heap.size = bl at *
    have hRf : RoofsAt Wn w.heap.size (.slice A l.length c) l := HR.out.below hT2.s.b (Nat.le_refl _)
    have hStops := over_stops Fence.wide 4 trivial rfl (by omega) bl (bl + 1) w.heap.size l pos A c hlen Wn (by rw [o1.cell];rfl) (by rw [o2.cell];rfl) hRf hT2.s.b.size
    have HMlt := Lib.hid hT2.m.lt
    have HSl : Hid (s6 < g11 ∧ s6 < g12 ∧ g12 ≠ g11) := ⟨n112.l6,n122.l6,nw_ne n112 n122⟩
    refine (wpIn_wide (n := 5)).1 ?_
    refine wpIn_rangeFunc_ownG rfl (by decide) (gf := 218) (lb := #[.pointer (some ⟨bl,0,none⟩),.pointer (some ⟨bl + 1,0,none⟩)]) rfl trivial (enters_of Tryz.func218 (by kernel_rfl) rfl)
     hStops overK_t (fun W l o o' hl ho hc hw => over_kb o' hT2.s.b.size hl ho hc hw) (Below.refl _ _) (fun _ => rfl)
     (fun pre W => (∃ Q,BorS w W g s6 l.length Q ∧ Q.length = l.length ∧ (∀ q ∈ Q,frGood q = true) ∧ OvB W bl (bl + 1) (.slice A l.length c) pos ∧ Blk W g11 23 #[.int .i64 fx,.int .i64 fy] ∧ Blk W g12 25 #[.int .i64 0] ∧ (pre <+: idxF l pos l.length → Q = stageP l at_ k pre ∧ ∀ i ∈ pre,fitTo l at_ l[i.val] (k + 1) = true)) ∧ MarksAt W (w.heap.size + 2) Ds)
     (fun cd pre W => (cd = .ret ∧ BorR w W (.slice none 0 0) 5 ∧ (pre <+: idxF l pos l.length → ∃ i : Fin l.length,fitTo l at_ l[i.val] (k + 1) = false)) ∧ MarksAt W (w.heap.size + 2) Ds)
     (fun pre X Y row hs hg hr => ?hI) (fun cd pre X Y row hs hg hr => ?hIx)
     ?h0
     (fun x => { tmps := #[.slice A l.length c,.slice (some ⟨b,o,none⟩) at_.length c1,undef,undef,.pointer (some ⟨w.heap.size,0,none⟩),.pointer (some ⟨w.heap.size + 1,0,none⟩),.pointer (some ⟨s6,0,none⟩),undef,u8,undef,.pointer (some ⟨s10,0,none⟩),.pointer (some ⟨g11,0,none⟩),.pointer (some ⟨g12,0,none⟩),.int .i64 (x.val : Int),.agg #[.int .i64 0,.int .i64 1],.slice (some ⟨W2.heap.size,0,none⟩) 1 1,.slice A l.length c,.int .i64 (l.length : Int),.slice (some ⟨g,0,none⟩) l.length l.length,.slice (some ⟨b,o,none⟩) at_.length c1,.int .i64 (at_.length : Int),.int .i64 (at_.length : Int),.bool false,u23,u24,u25,u26,u27,u28,u29,u30,.slice (some ⟨b,o,none⟩) at_.length c1,.int .i64 (at_.length : Int),.int .i64 (k : Int),.bool true,.pointer (some ⟨b,o + k * 2,none⟩),.agg #[.int .i64 pos,.int .i64 wt],.tuple #[.agg #[.int .i64 fx,.int .i64 fy],.int .i64 0],.pointer (some ⟨s10,1,none⟩),.int .i64 wt,.slice A l.length c,.pointer (some ⟨s10,0,none⟩),.int .i64 pos,.int .i64 (cn : Int),.tuple #[.agg #[.int .i64 fx,.int .i64 fy],.int .i64 0],.agg #[.int .i64 fx,.int .i64 fy],.int .i64 0,.int .i64 0,.bool false,v49,.slice A l.length c,.pointer (some ⟨s10,0,none⟩),.int .i64 pos,.func (.func 218) #[] #[.pointer (some ⟨bl,0,none⟩),.pointer (some ⟨bl + 1,0,none⟩)],.int .i64 (x.val : Int),v55,v56,v57,v58,v59,v60,v61,v62,v63,v64,v65,v66,v67,v68,v69,v70,undef],defers := [] }) ?assign ?body ?done ?stop
    case hI =>
     obtain ⟨⟨Q,hS,hQl,hQg,hO,h11,h12,hP⟩,hM⟩ := hs
     have hr2 : ∀ r,row = some r → ∃ o : Obj,X.heap[r]? = some o ∧ o.isCells = false := fun r e => (hr r e).2
     have hb := hS.b.grown hg hS.b.size (fun r e => Nat.le_trans hT2.s.b.size (hr r e).1)
     exact ⟨⟨Q,hS.turn hg hr2 hb,hQl,hQg,hO.turn hg hr2,h11.turn hg hr2,h12.turn hg hr2,hP⟩,hM.turn HMlt.out hg (fun r e => (hr r e).1)⟩
    case hIx =>
     obtain ⟨⟨hcd,hR,hP⟩,hM⟩ := hs
     have hr2 : ∀ r,row = some r → ∃ o : Obj,X.heap[r]? = some o ∧ o.isCells = false := fun r e => (hr r e).2
     have hb := hR.b.grown hg hR.b.size (fun r e => Nat.le_trans hT2.s.b.size (hr r e).1)
     exact ⟨⟨hcd,hR.turn hg hr2 hb,hP⟩,hM.turn HMlt.out hg (fun r e => (hr r e).1)⟩
    case h0 => exact ⟨⟨stageL l at_ k,hT2.s,stageL_len l at_ k,stageL_good HFit.out,⟨o1,o2⟩,n112.e,n122.e,fun _ => ⟨(stageP_nil l at_ k).symm,fun i hi => by cases hi⟩⟩,hT2.m⟩
    case assign =>
     intro l0 x W K hK
     gi_wp2
     first | exact hK | simpa using hK
    case body =>
     rintro l0 pre x W ⟨⟨Q,hS,hQl,hQg,hO,h11,h12,hP⟩,hM⟩ hlt
     have hx : x.val < Q.length := by rw [hQl];exact x.isLt
     obtain ⟨q,hq⟩ : ∃ q,Q[x.val] = q := ⟨_,rfl⟩
     have hqg : frGood q = true := by rw [← hq];exact hQg _ (List.getElem_mem hx)
     have c0 := hS.out.cell (x.val * 2 + 0)
     have c1 := hS.out.cell (x.val * 2 + 1)
     rw [List.getElem?_toArray,cellsF_get Q x.val 0 hx (by omega),hq] at c0
     rw [List.getElem?_toArray,cellsF_get Q x.val 1 hx (by omega),hq] at c1
     have hAdd := fun W => raAdd q ⟨fx,fy⟩ W hqg HGs.out
     obtain ⟨px,py,pz,hpv⟩ := fracV_form (qOf q + qOf ⟨fx,fy⟩)
     have HPV := Lib.hid (fracV_of hpv)
     rw [hpv] at hAdd
     have HGo := Lib.hid fun h1 h2 => stage_go Hkl.out Hpos.out HFit.out hP hx HFs.out hq h1 (h2 : frOf (qOf q + qOf ⟨fx,fy⟩) = ⟨px,py⟩)
     have HNo := Lib.hid fun h1 => stage_no Hkl.out Hpos.out hP hx HFs.out hq h1
     have HAdd := Lib.hid hAdd
     obtain ⟨qn,qd⟩ := q
     generalize fracOk (qOf (⟨qn,qd⟩ : FrT) + qOf ⟨fx,fy⟩) = ok at *
     have HQg := Lib.hid hQg
     have HQl := Lib.hid hQl
     have hb6 := hl6
     have hb7 := hl7
     have hx0 : (0 : Int) ≤ (x.val : Int) := Int.natCast_nonneg _
     have hx1 : (x.val : Int) < (l.length : Int) := by have := x.isLt;omega
     have Hdr := (Below.refl W.heap.size W).drew
     have hS1 := hS.below Hdr
     have hM1 := hM.below Hdr
     have e11 := h11.below Hdr h11.lt
     have e12 := h12.below Hdr h12.lt
     have e1 := hO.bl.below Hdr hO.bl.lt
     have e2 := hO.bd.below Hdr hO.bd.lt
     have c0' : W.drew.cell? ⟨g,x.val * 2,none⟩ = some (.int .i64 qn) := (Hdr.cell (p := ⟨g,x.val * 2,none⟩) hS.out.lt).trans c0
     have c1' : W.drew.cell? ⟨g,x.val * 2 + 1,none⟩ = some (.int .i64 qd) := (Hdr.cell (p := ⟨g,x.val * 2 + 1,none⟩) hS.out.lt).trans c1
     have HKO := Lib.hid (keeps_below Hdr)
     have HKB := Lib.hid (show Below w.heap.size W W.drew from Hdr.mono hS.b.size)
     have HOv := Lib.hid hO
     have Hc := Lib.hid hS.h6
     have Hg := Lib.hid hS.hg
     clear hpv hAdd hQg hQl hqg hq hP h11 h12 hO hM hS c0 c1 Hdr
     refine wpIn_block ?_
     refine wpIn_seq ?_
     refine wpR_region_po (fun i => ([.slice (some ⟨g,0,none⟩) l.length l.length,.int .i64 (x.val : Int),.slice (some ⟨g,0,none⟩) l.length l.length,.int .i64 (x.val : Int),.pointer (some ⟨g,x.val * 2,none⟩),.agg #[.int .i64 qn,.int .i64 qd],.agg #[.int .i64 fx,.int .i64 fy],.tuple #[.agg #[.int .i64 px,.int .i64 py],.int .i64 pz],.tuple #[.agg #[.int .i64 px,.int .i64 py],.int .i64 pz],.agg #[.int .i64 px,.int .i64 py],.int .i64 pz,.pointer (some ⟨g,x.val * 2,none⟩),undef,undef] : List Value).getD i undef) [7,12,13] (by kernel_rfl) (by kernel_rfl) (by kernel_rfl) (by kernel_rfl) (by decide) ?_
     generalize W.drew = Wd at *
     have y6 := hS1.o6.cell 0
     have y110 := e11.cell 0
     have y111 := e11.cell 1
     simp only [List.getElem?_toArray,List.getElem?_cons_succ,List.getElem?_cons_zero] at y6 y110 y111
     refine poJ_step (L := [7,12,13]) rfl (by decide) ?_ ?_
     ·simp only [putAll,Act.put,List.setIfInBounds_toArray,List.set_cons_zero,List.set_cons_succ,readsQ]
      refine ⟨?_,?_,?_,?_,?_,?_,?_,?_,?_,?_,?_,?_,?_,?_,trivial⟩
      all_goals first
       | exact .inl rfl
       | exact .inr (.inl (by decide +kernel))
       | (refine .inr (.inr ?_);go_simp;done)
     intro i o hi hr ho
     simp only [List.mem_cons,List.not_mem_nil,or_false] at hi
     rcases hi with rfl | rfl | rfl
     ·obtain rfl := Option.some.inj ho
      clear hr ho
      refine .inr (.inr ⟨16,#[.agg #[.int .i64 qn,.int .i64 qd],.agg #[.int .i64 fx,.int .i64 fy]],by simp only [putAll,Act.put,List.setIfInBounds_toArray,List.set_cons_zero,List.set_cons_succ,];go_simp,?_⟩)
      refine (HAdd.out Wd).mono ?_
      rintro e W3 ⟨rfl,hb_W3⟩
      refine ⟨_,fun i => ([.slice (some ⟨g,0,none⟩) l.length l.length,.int .i64 (x.val : Int),.slice (some ⟨g,0,none⟩) l.length l.length,.int .i64 (x.val : Int),.pointer (some ⟨g,x.val * 2,none⟩),.agg #[.int .i64 qn,.int .i64 qd],.agg #[.int .i64 fx,.int .i64 fy],.tuple #[.agg #[.int .i64 px,.int .i64 py],.int .i64 pz],.tuple #[.agg #[.int .i64 px,.int .i64 py],.int .i64 pz],.agg #[.int .i64 px,.int .i64 py],.int .i64 pz,.pointer (some ⟨g,x.val * 2,none⟩),undef,undef] : List Value).getD i undef,rfl,agreeL_all (by refine ⟨?_,?_,?_,?_,?_,?_,?_,?_,?_,?_,?_,?_,?_,?_,trivial⟩ <;> first | exact .inl rfl | exact .inr (.inr rfl) | exact .inr (.inl (by decide +kernel))),rfl,?_⟩
      have hS3 := hS1.below hb_W3
      have hM3 := hM1.below hb_W3
      have e113 := e11.below hb_W3 e11.lt
      have e123 := e12.below hb_W3 e12.lt
      have e13 := e1.below hb_W3 e1.lt
      have e23 := e2.below hb_W3 e2.lt
      have f0 := hS3.out.frozen (x.val * 2)
      have z0 := (hb_W3.cell (p := ⟨g,x.val * 2,none⟩) hS1.out.lt).trans c0'
      have f1 := (hS3.out.set_ (x.val * 2) (.int .i64 px)).frozen (x.val * 2 + 1)
      have z1 : (W3.setCell ⟨g,x.val * 2,none⟩ (.int .i64 px)).cell? ⟨g,x.val * 2 + 1,none⟩ = some (.int .i64 qd) := by
       rw [(hS3.out.set_ (x.val * 2) (.int .i64 px)).cell,Array.getElem?_setIfInBounds,if_neg (by omega),← hS3.out.cell]
       exact (hb_W3.cell (p := ⟨g,x.val * 2 + 1,none⟩) hS1.out.lt).trans c1'
      have y63 := hS3.o6.cell 0
      simp only [List.getElem?_toArray,List.getElem?_cons_zero] at y63
      refine poJ_step (L := [12,13]) rfl (by decide) ?_ ?_
      ·simp only [putAll,Act.put,List.setIfInBounds_toArray,List.set_cons_zero,List.set_cons_succ,readsQ]
       refine ⟨?_,?_,?_,?_,?_,?_,?_,?_,?_,?_,?_,?_,?_,?_,trivial⟩
       all_goals first
        | exact .inl rfl
        | exact .inr (.inl (by decide +kernel))
        | (refine .inr (.inr ?_);go_simp;done)
      intro i o hi hr ho
      simp only [List.mem_cons,List.not_mem_nil,or_false] at hi
      rcases hi with rfl | rfl
      ·obtain rfl := Option.some.inj ho
       clear hr ho
       refine .inl ⟨rfl,((W3.setCell ⟨g,x.val * 2,none⟩ (.int .i64 px)).setCell ⟨g,x.val * 2 + 1,none⟩ (.int .i64 py)),fun i => ([.slice (some ⟨g,0,none⟩) l.length l.length,.int .i64 (x.val : Int),.slice (some ⟨g,0,none⟩) l.length l.length,.int .i64 (x.val : Int),.pointer (some ⟨g,x.val * 2,none⟩),.agg #[.int .i64 qn,.int .i64 qd],.agg #[.int .i64 fx,.int .i64 fy],.tuple #[.agg #[.int .i64 px,.int .i64 py],.int .i64 pz],.tuple #[.agg #[.int .i64 px,.int .i64 py],.int .i64 pz],.agg #[.int .i64 px,.int .i64 py],.int .i64 pz,.pointer (some ⟨g,x.val * 2,none⟩),undef,undef] : List Value).getD i undef,by simp only [putAll,Act.put,List.setIfInBounds_toArray,List.set_cons_zero,List.set_cons_succ,];go_simp,agreeL_all (by refine ⟨?_,?_,?_,?_,?_,?_,?_,?_,?_,?_,?_,?_,?_,?_,trivial⟩ <;> first | exact .inl rfl | exact .inr (.inr rfl) | exact .inr (.inl (by decide +kernel))),?_⟩
       have hc6 := Hc.out
       have hc7 := HSl.out
       have hS4 := hS3.put x.val px py
       have hM4 := (hM3.setB (i := x.val * 2) hS3.out (.int .i64 px)).setB (i := x.val * 2 + 1) (hS3.out.set_ (x.val * 2) (.int .i64 px)) (.int .i64 py)
       have e114 := (e113.far (p := ⟨g,x.val * 2,none⟩) (by show g11 ≠ g;omega) (.int .i64 px)).far (p := ⟨g,x.val * 2 + 1,none⟩) (by show g11 ≠ g;omega) (.int .i64 py)
       have e124 := (e123.far (p := ⟨g,x.val * 2,none⟩) (by show g12 ≠ g;omega) (.int .i64 px)).far (p := ⟨g,x.val * 2 + 1,none⟩) (by show g12 ≠ g;omega) (.int .i64 py)
       have e14 := (e13.far (p := ⟨g,x.val * 2,none⟩) (by show bl ≠ g;omega) (.int .i64 px)).far (p := ⟨g,x.val * 2 + 1,none⟩) (by show bl ≠ g;omega) (.int .i64 py)
       have e24 := (e23.far (p := ⟨g,x.val * 2,none⟩) (by show bl + 1 ≠ g;omega) (.int .i64 px)).far (p := ⟨g,x.val * 2 + 1,none⟩) (by show bl + 1 ≠ g;omega) (.int .i64 py)
       have HKO4 := Lib.hid ((HKO.out.trans (keeps_below hb_W3)).trans ((KeepsOthers.setCell W3 ⟨g,x.val * 2,none⟩ (.int .i64 px)).trans (KeepsOthers.setCell _ ⟨g,x.val * 2 + 1,none⟩ (.int .i64 py))))
       have HKB4 := Lib.hid (((HKB.out.trans (hb_W3.mono hS1.b.size)).setCell (p := ⟨g,x.val * 2,none⟩) (by have := Hg.out;show w.heap.size ≤ g;omega) (.int .i64 px)).setCell (p := ⟨g,x.val * 2 + 1,none⟩) (by have := Hg.out;show w.heap.size ≤ g;omega) (.int .i64 py))
       clear hS3 hM3 e113 e123 e13 e23 f0 z0 f1 z1 y63 hb_W3 HKO HKB hS1 hM1 e11 e12 e1 e2 c0' c1' y6 y110 y111
       generalize (W3.setCell ⟨g,x.val * 2,none⟩ (.int .i64 px)).setCell ⟨g,x.val * 2 + 1,none⟩ (.int .i64 py) = W4 at *
       have f2 := e124.frozen 0
       have z2 := e124.cell 0
       simp only [List.getElem?_toArray,List.getElem?_cons_zero] at z2
       refine poJ_step (L := [13]) rfl (by decide) ?_ ?_
       ·simp only [putAll,Act.put,List.setIfInBounds_toArray,List.set_cons_zero,List.set_cons_succ,readsQ]
        refine ⟨?_,?_,?_,?_,?_,?_,?_,?_,?_,?_,?_,?_,?_,?_,trivial⟩
        all_goals first
         | exact .inl rfl
         | exact .inr (.inl (by decide +kernel))
         | (refine .inr (.inr ?_);go_simp;done)
       intro i o hi hr ho
       simp only [List.mem_cons,List.not_mem_nil,or_false] at hi
       subst hi
       obtain rfl := Option.some.inj ho
       clear hr ho
       refine .inl ⟨rfl,(W4.setCell ⟨g12,0,none⟩ (.int .i64 pz)),fun i => ([.slice (some ⟨g,0,none⟩) l.length l.length,.int .i64 (x.val : Int),.slice (some ⟨g,0,none⟩) l.length l.length,.int .i64 (x.val : Int),.pointer (some ⟨g,x.val * 2,none⟩),.agg #[.int .i64 qn,.int .i64 qd],.agg #[.int .i64 fx,.int .i64 fy],.tuple #[.agg #[.int .i64 px,.int .i64 py],.int .i64 pz],.tuple #[.agg #[.int .i64 px,.int .i64 py],.int .i64 pz],.agg #[.int .i64 px,.int .i64 py],.int .i64 pz,.pointer (some ⟨g,x.val * 2,none⟩),undef,undef] : List Value).getD i undef,by simp only [putAll,Act.put,List.setIfInBounds_toArray,List.set_cons_zero,List.set_cons_succ,];go_simp,agreeL_all (by refine ⟨?_,?_,?_,?_,?_,?_,?_,?_,?_,?_,?_,?_,?_,?_,trivial⟩ <;> first | exact .inl rfl | exact .inr (.inr rfl) | exact .inr (.inl (by decide +kernel))),?_⟩
       refine poJ_end rfl ?_ ?_
       ·simp only [putAll,Act.put,List.setIfInBounds_toArray,List.set_cons_zero,List.set_cons_succ,readsQ]
        refine ⟨?_,?_,?_,?_,?_,?_,?_,?_,?_,?_,?_,?_,?_,?_,trivial⟩
        all_goals first
         | exact .inl rfl
         | exact .inr (.inl (by decide +kernel))
         | (refine .inr (.inr ?_);go_simp;done)
       simp only [putAll,Act.put,List.setIfInBounds_toArray,List.set_cons_zero,List.set_cons_succ,onN]
       have hS5 := hS4.far (b := g12) (i := 0) hc7.2.1 (.int .i64 pz)
       have hM5 := hM4.setB (i := 0) e124 (.int .i64 pz)
       have e125 := e124.set_ 0 (.int .i64 pz)
       have e115 := e114.far (p := ⟨g12,0,none⟩) (Ne.symm hc7.2.2) (.int .i64 pz)
       have e15 := e14.far (p := ⟨g12,0,none⟩) (by show bl ≠ g12;omega) (.int .i64 pz)
       have e25 := e24.far (p := ⟨g12,0,none⟩) (by show bl + 1 ≠ g12;omega) (.int .i64 pz)
       have HKO5 := Lib.hid (HKO4.out.trans (KeepsOthers.setCell W4 ⟨g12,0,none⟩ (.int .i64 pz)))
       have HKB5 := Lib.hid (HKB4.out.setCell (p := ⟨g12,0,none⟩) (by have := Hg.out;show w.heap.size ≤ g12;omega) (.int .i64 pz))
       have HO5 := Lib.hid (show OvB (W4.setCell ⟨g12,0,none⟩ (.int .i64 pz)) bl (bl + 1) (.slice A l.length c) pos from ⟨e15,e25⟩)
       simp only [List.setIfInBounds_toArray,List.set_cons_zero] at e125
       have HS5 := Lib.hid hS5
       have HM5 := Lib.hid hM5
       have E125 := Lib.hid e125
       have E115 := Lib.hid e115
       clear hS5 hM5 e125 e115 e15 e25 hS4 hM4 e114 e124 e14 e24 HKO4 HKB4 f2 z2
       generalize W4.setCell ⟨g12,0,none⟩ (.int .i64 pz) = W5 at *
       have y12 := E125.out.cell 0
       simp only [List.getElem?_toArray,List.getElem?_cons_zero] at y12
       show Code.wpIn (Fence.wide.inRound l0) (5 - 1 - 1) Tryz.prog _ _ _ _
       cases ok with
       | true =>
        obtain ⟨hpg,hpf,rfl⟩ := HPV.out.1 rfl
        have HF := Lib.hid (HGo.out rfl hpf)
        have Hpg := Lib.hid hpg
        clear hpg hpf HPV HGo HNo HAdd
        gi_wp2
        have hK := HOv.out.keep HO5.out
        refine ⟨HKO5.out.from _,⟨HKB5.out,hK.1,hK.2⟩,⟨Q.set x.val ⟨px,py⟩,HS5.out,by rw [List.length_set];exact HQl.out,fun q hq => ?_,HO5.out,E115.out,E125.out,HF.out⟩,HM5.out⟩
        rcases List.mem_or_eq_of_mem_set hq with h | rfl
        ·exact HQg.out q h
        ·exact Hpg.out
       | false =>
        obtain rfl := HPV.out.2 rfl
        have HF := Lib.hid (HNo.out rfl)
        clear HPV HGo HNo HAdd
        have hS5 := HS5.out
        have y4 := hS5.r4.cell 0
        have y5 := hS5.r5.cell 0
        simp only [List.getElem?_toArray,List.getElem?_cons_zero] at y4 y5
        gi_wp2
        have Hdr := (Below.refl W5.heap.size W5).drew
        have hS6 := hS5.below Hdr
        have hM6 := HM5.out.below Hdr
        have e126 := E125.out.below Hdr E125.out.lt
        have HKO6 := Lib.hid (HKO5.out.trans (keeps_below Hdr))
        clear y4 y5 y12 hS5 HS5 HM5 E125 E115 HO5 HKB5 HKO5 Hdr
        refine wpR_region_po (fun i => ([.int .i64 5,undef,undef] : List Value).getD i undef) [1,2] (by kernel_rfl) (by kernel_rfl) (by kernel_rfl) (by kernel_rfl) (by decide) ?_
        generalize W5.drew = W6 at *
        have HR8 := Lib.hid (hS6.res (.slice none 0 0) 5)
        have HM8 : Hid (MarksAt ((W6.setCell ⟨w.heap.size,0,none⟩ (.slice none 0 0)).setCell ⟨w.heap.size + 1,0,none⟩ (.int .i64 5)) (w.heap.size + 2) Ds) := (hM6.set (p := ⟨w.heap.size,0,none⟩) (by show w.heap.size < w.heap.size + 2;omega) _).set (p := ⟨w.heap.size + 1,0,none⟩) (by show w.heap.size + 1 < w.heap.size + 2;omega) _
        have HKO8 := Lib.hid (HKO6.out.trans ((KeepsOthers.setCell W6 ⟨w.heap.size,0,none⟩ (.slice none 0 0)).trans (KeepsOthers.setCell _ ⟨w.heap.size + 1,0,none⟩ (.int .i64 5))))
        have y12 := e126.cell 0
        have y127 := (e126.far (p := ⟨w.heap.size,0,none⟩) (by have := Hg.out;show g12 ≠ w.heap.size;omega) (.slice none 0 0)).cell 0
        have f4 := hS6.r4.frozen 0
        have z4 := hS6.r4.cell 0
        have f5 := (hS6.r5.far (p := ⟨w.heap.size,0,none⟩) (by show w.heap.size + 1 ≠ w.heap.size;omega) (.slice none 0 0)).frozen 0
        have z5 := (hS6.r5.far (p := ⟨w.heap.size,0,none⟩) (by show w.heap.size + 1 ≠ w.heap.size;omega) (.slice none 0 0)).cell 0
        simp only [List.getElem?_toArray,List.getElem?_cons_zero] at y12 y127 z4 z5
        clear hS6 hM6 e126 HKO6
        refine poJ_step (L := [1,2]) rfl (by decide) ?_ ?_
        ·simp only [putAll,Act.put,List.setIfInBounds_toArray,List.set_cons_zero,List.set_cons_succ,readsQ]
         refine ⟨?_,?_,?_,trivial⟩
         all_goals first
          | exact .inl rfl
          | exact .inr (.inl (by decide +kernel))
          | (refine .inr (.inr ?_);go_simp;done)
        intro i o hi hr ho
        simp only [List.mem_cons,List.not_mem_nil,or_false] at hi
        rcases hi with rfl | rfl
        ·obtain rfl := Option.some.inj ho
         clear hr ho
         refine .inl ⟨rfl,(W6.setCell ⟨w.heap.size,0,none⟩ (.slice none 0 0)),fun i => ([.int .i64 5,undef,undef] : List Value).getD i undef,by simp only [putAll,Act.put,List.setIfInBounds_toArray,List.set_cons_zero,List.set_cons_succ,];go_simp,agreeL_all (by refine ⟨?_,?_,?_,trivial⟩ <;> first | exact .inl rfl | exact .inr (.inr rfl) | exact .inr (.inl (by decide +kernel))),?_⟩
         refine poJ_step (L := [2]) rfl (by decide) ?_ ?_
         ·simp only [putAll,Act.put,List.setIfInBounds_toArray,List.set_cons_zero,List.set_cons_succ,readsQ]
          refine ⟨?_,?_,?_,trivial⟩
          all_goals first
           | exact .inl rfl
           | exact .inr (.inl (by decide +kernel))
           | (refine .inr (.inr ?_);go_simp;done)
         intro i o hi hr ho
         simp only [List.mem_cons,List.not_mem_nil,or_false] at hi
         subst hi
         obtain rfl := Option.some.inj ho
         clear hr ho
         refine .inl ⟨rfl,((W6.setCell ⟨w.heap.size,0,none⟩ (.slice none 0 0)).setCell ⟨w.heap.size + 1,0,none⟩ (.int .i64 5)),fun i => ([.int .i64 5,undef,undef] : List Value).getD i undef,by simp only [putAll,Act.put,List.setIfInBounds_toArray,List.set_cons_zero,List.set_cons_succ,];go_simp,agreeL_all (by refine ⟨?_,?_,?_,trivial⟩ <;> first | exact .inl rfl | exact .inr (.inr rfl) | exact .inr (.inl (by decide +kernel))),?_⟩
         refine poJ_end rfl ?_ ?_
         ·simp only [putAll,Act.put,List.setIfInBounds_toArray,List.set_cons_zero,List.set_cons_succ,readsQ]
          refine ⟨?_,?_,?_,trivial⟩
          all_goals first
           | exact .inl rfl
           | exact .inr (.inl (by decide +kernel))
           | (refine .inr (.inr ?_);go_simp;done)
         simp only [putAll,Act.put,List.setIfInBounds_toArray,List.set_cons_zero,List.set_cons_succ,onN]
         gi_wp2
         exact ⟨HKO8.out.from _,⟨by first | rfl | trivial,HR8.out,HF.out⟩,HM8.out⟩
        ·exact absurd hr (by rw [show rdP .any _ [1,2] 2 = false by kernel_rfl];decide)
      ·exact absurd hr (by rw [show rdP .any _ [12,13] 13 = false by kernel_rfl];decide)
     ·exact absurd hr (by rw [show rdP .any _ [7,12,13] 12 = false by kernel_rfl];decide)
     ·exact absurd hr (by rw [show rdP .any _ [7,12,13] 13 = false by kernel_rfl];decide)
    case done =>
     rintro D ys W hD rfl ⟨⟨Q,hS,hQl,hQg,hO,h11,h12,hP⟩,hM⟩ hKD
     obtain ⟨rfl,hF⟩ := hP (List.prefix_refl _)
     rw [stageP_allP Hkl.out Hpos.out] at hS
     have hDg : w.heap.size + 2 ≤ D := by have := hT2.s.out.lt;have := hT2.s.hg;omega
     have HM2 := Lib.hid (hM.cons hDg hKD (fun h => by have := HMlt.out D h;omega))
     have HF2 := Lib.hid (fit_allP Hkl.out Hpos.out HFit.out hF)
     have HS2 := Lib.hid hS
     clear hS hQl hQg hO h11 h12 hP hM hF hKD hStops n112 n122 o1 o2 hl6 hl7 hT2
     go_wp2_with fail
     have ek : ((k : Int) + 1) = ((k + 1 : Nat) : Int) := by omega
     rw [ek]
     exact Handed.intro (at_.length - (k + 1)) (by have := Hnn.out;have := Hkl.out;omega) (HJ.out _ _ _ ⟨k + 1,D :: Ds,_,_,_,_,_,_,_,_,_,_,_,_,_,_,_,_,_,_,_,_,_,_,_,_,_,_,_,_,_,_,_,_,_,_,_,_,_,_,_,_,_,rfl,Hkl.out,rfl,HS2,HF2,HM2⟩)
    case stop =>
     rintro D cd pre W hD hSp ⟨⟨rfl,hR,hP⟩,hM⟩ hKD
     obtain ⟨k',-,rfl⟩ := hSp
     obtain ⟨i,hi⟩ := hP (idxF_prefix l pos k')
     have HE : Hid (borneE l at_ = 5) := borneE_big HNo.out i.isLt (show k + 1 ≤ at_.length from Hkl.out) hi
     have hDg : w.heap.size + 2 ≤ D := by have := hT2.s.out.lt;have := hT2.s.hg;omega
     have HM2 := Lib.hid (hM.cons hDg hKD (fun h => by have := HMlt.out D h;omega))
     have HR2 := Lib.hid hR
     clear hR hP hM hi hKD hStops n112 n122 o1 o2 hl6 hl7 hT2
     refine (wpIn_wide (n := 5)).2 ?_
     go_wp2_with fail
     refine leaves_marks (B := w.heap.size + 2) (by omega) (D :: Ds) W HM2.out HR2.out HR2.out.r4 ?_
     intro W' hW' _
     have p0 := hW'.r4.cell 0
     have p1 := hW'.r5.cell 0
     simp only [List.getElem?_toArray,List.getElem?_cons_zero] at p0 p1
     refine ⟨.tuple #[.slice none 0 0,.int .i64 5],by simp [results,Tryz.results115,go_sem,p0,p1],hW'.b,.inr ?_⟩
     rw [HE.out]
     exact ⟨by decide,rfl⟩
   have H13 : ∀ (W : World) (g11 : Nat) (g12 : Nat),BorT w W g s6 l.length (stageL l at_ k) Ds s10 pos wt → NwB W s6 s10 g11 23 #[.int .i64 fx,.int .i64 fy] → NwB W s6 s10 g12 25 #[.int .i64 0] → PJ 1 [13] (fun i => ([.pointer (some ⟨s10,1,none⟩),.int .i64 wt,.slice A l.length c,.pointer (some ⟨s10,0,none⟩),.int .i64 pos,.int .i64 (cn : Int),.tuple #[.agg #[.int .i64 fx,.int .i64 fy],.int .i64 0],.tuple #[.agg #[.int .i64 fx,.int .i64 fy],.int .i64 0],.agg #[.int .i64 fx,.int .i64 fy],.int .i64 0,.pointer (some ⟨g11,0,none⟩),.pointer (some ⟨g12,0,none⟩),undef,undef] : List Value).getD i undef) W := by
    intro W g11 g12 hT n11 n12
    rw [← HPJ.out]
    have y0 := hT.d.cell 0
    have y1 := hT.d.cell 1
    simp only [List.getElem?_toArray,List.getElem?_cons_succ,List.getElem?_cons_zero] at y0 y1
    refine poJ_step (L := [13]) rfl (by decide) ?_ ?_
    ·simp only [putAll,Act.put,List.setIfInBounds_toArray,List.set_cons_zero,List.set_cons_succ,readsQ]
     refine ⟨?_,?_,?_,?_,?_,?_,?_,?_,?_,?_,?_,?_,?_,?_,trivial⟩
     all_goals first
      | exact .inl rfl
      | exact .inr (.inl (by decide +kernel))
      | (refine .inr (.inr ?_);go_simp;done)
    intro i o hi hr ho
    simp only [List.mem_cons,List.not_mem_nil,or_false] at hi
    subst hi
    obtain rfl := Option.some.inj ho
    clear hr ho
    have ne := nw_ne n11 n12
    have z2 := n12.e.cell 0
    have f2 := n12.e.frozen 0
    simp only [List.getElem?_toArray,List.getElem?_cons_zero] at z2
    refine .inl ⟨rfl,(W.setCell ⟨g12,0,none⟩ (.int .i64 0)),fun i => ([.pointer (some ⟨s10,1,none⟩),.int .i64 wt,.slice A l.length c,.pointer (some ⟨s10,0,none⟩),.int .i64 pos,.int .i64 (cn : Int),.tuple #[.agg #[.int .i64 fx,.int .i64 fy],.int .i64 0],.tuple #[.agg #[.int .i64 fx,.int .i64 fy],.int .i64 0],.agg #[.int .i64 fx,.int .i64 fy],.int .i64 0,.pointer (some ⟨g11,0,none⟩),.pointer (some ⟨g12,0,none⟩),undef,undef] : List Value).getD i undef,by simp only [putAll,Act.put,List.setIfInBounds_toArray,List.set_cons_zero,List.set_cons_succ,];go_simp,agreeL_all (by refine ⟨?_,?_,?_,?_,?_,?_,?_,?_,?_,?_,?_,?_,?_,?_,trivial⟩ <;> first | exact .inl rfl | exact .inr (.inr rfl) | exact .inr (.inl (by decide +kernel))),?_⟩
    rw [HPJ.out]
    exact HEnd (W.setCell ⟨g12,0,none⟩ (.int .i64 0)) g11 g12 (hT.far n12.l6 n12.l10 n12.e _) ⟨n11.e.far (p := ⟨g12,0,none⟩) (Ne.symm ne) _,n11.l6,n11.l10⟩ ⟨n12.e.set_ 0 (.int .i64 0),n12.l6,n12.l10⟩
   have H211 : ∀ (W : World) (g11 : Nat) (g12 : Nat),BorT w W g s6 l.length (stageL l at_ k) Ds s10 pos wt → NwB W s6 s10 g11 23 #[.int .i64 0,.int .i64 0] → NwB W s6 s10 g12 25 #[.int .i64 0] → PJ 2 [12,13] (fun i => ([.pointer (some ⟨s10,1,none⟩),.int .i64 wt,.slice A l.length c,.pointer (some ⟨s10,0,none⟩),.int .i64 pos,.int .i64 (cn : Int),.tuple #[.agg #[.int .i64 fx,.int .i64 fy],.int .i64 0],.tuple #[.agg #[.int .i64 fx,.int .i64 fy],.int .i64 0],.agg #[.int .i64 fx,.int .i64 fy],.int .i64 0,.pointer (some ⟨g11,0,none⟩),.pointer (some ⟨g12,0,none⟩),undef,undef] : List Value).getD i undef) W := by
    intro W g11 g12 hT n11 n12
    rw [← HPJ.out]
    have y0 := hT.d.cell 0
    have y1 := hT.d.cell 1
    simp only [List.getElem?_toArray,List.getElem?_cons_succ,List.getElem?_cons_zero] at y0 y1
    refine poJ_step (L := [12,13]) rfl (by decide) ?_ ?_
    ·simp only [putAll,Act.put,List.setIfInBounds_toArray,List.set_cons_zero,List.set_cons_succ,readsQ]
     refine ⟨?_,?_,?_,?_,?_,?_,?_,?_,?_,?_,?_,?_,?_,?_,trivial⟩
     all_goals first
      | exact .inl rfl
      | exact .inr (.inl (by decide +kernel))
      | (refine .inr (.inr ?_);go_simp;done)
    intro i o hi hr ho
    simp only [List.mem_cons,List.not_mem_nil,or_false] at hi
    rcases hi with rfl | rfl
    ·obtain rfl := Option.some.inj ho
     clear hr ho
     have ne := nw_ne n11 n12
     have z0 := n11.e.cell 0
     have f0 := n11.e.frozen 0
     have z1 := (n11.e.set_ 0 (.int .i64 fx)).cell 1
     have f1 := (n11.e.set_ 0 (.int .i64 fx)).frozen 1
     simp only [List.setIfInBounds_toArray,List.set_cons_zero,List.getElem?_toArray,List.getElem?_cons_succ,List.getElem?_cons_zero] at z0 z1
     refine .inl ⟨rfl,((W.setCell ⟨g11,0,none⟩ (.int .i64 fx)).setCell ⟨g11,1,none⟩ (.int .i64 fy)),fun i => ([.pointer (some ⟨s10,1,none⟩),.int .i64 wt,.slice A l.length c,.pointer (some ⟨s10,0,none⟩),.int .i64 pos,.int .i64 (cn : Int),.tuple #[.agg #[.int .i64 fx,.int .i64 fy],.int .i64 0],.tuple #[.agg #[.int .i64 fx,.int .i64 fy],.int .i64 0],.agg #[.int .i64 fx,.int .i64 fy],.int .i64 0,.pointer (some ⟨g11,0,none⟩),.pointer (some ⟨g12,0,none⟩),undef,undef] : List Value).getD i undef,by simp only [putAll,Act.put,List.setIfInBounds_toArray,List.set_cons_zero,List.set_cons_succ,];go_simp,agreeL_all (by refine ⟨?_,?_,?_,?_,?_,?_,?_,?_,?_,?_,?_,?_,?_,?_,trivial⟩ <;> first | exact .inl rfl | exact .inr (.inr rfl) | exact .inr (.inl (by decide +kernel))),?_⟩
     rw [HPJ.out]
     exact H13 ((W.setCell ⟨g11,0,none⟩ (.int .i64 fx)).setCell ⟨g11,1,none⟩ (.int .i64 fy)) g11 g12 ((hT.far n11.l6 n11.l10 n11.e _).far n11.l6 n11.l10 (n11.e.set_ 0 (.int .i64 fx)) _) ⟨(n11.e.set_ 0 (.int .i64 fx)).set_ 1 (.int .i64 fy),n11.l6,n11.l10⟩ ⟨(n12.e.far (p := ⟨g11,0,none⟩) ne _).far (p := ⟨g11,1,none⟩) ne _,n12.l6,n12.l10⟩
    ·exact absurd hr (by rw [show rdP .any _ [12,13] 13 = false by kernel_rfl];decide)
   have H210 : ∀ (W : World) (g11 : Nat),BorT w W g s6 l.length (stageL l at_ k) Ds s10 pos wt → NwB W s6 s10 g11 23 #[.int .i64 0,.int .i64 0] → PJ 3 [11,12,13] (fun i => ([.pointer (some ⟨s10,1,none⟩),.int .i64 wt,.slice A l.length c,.pointer (some ⟨s10,0,none⟩),.int .i64 pos,.int .i64 (cn : Int),.tuple #[.agg #[.int .i64 fx,.int .i64 fy],.int .i64 0],.tuple #[.agg #[.int .i64 fx,.int .i64 fy],.int .i64 0],.agg #[.int .i64 fx,.int .i64 fy],.int .i64 0,.pointer (some ⟨g11,0,none⟩),undef,undef,undef] : List Value).getD i undef) W := by
    intro W g11 hT n11
    rw [← HPJ.out]
    have y0 := hT.d.cell 0
    have y1 := hT.d.cell 1
    simp only [List.getElem?_toArray,List.getElem?_cons_succ,List.getElem?_cons_zero] at y0 y1
    refine poJ_step (L := [11,12,13]) rfl (by decide) ?_ ?_
    ·simp only [putAll,Act.put,List.setIfInBounds_toArray,List.set_cons_zero,List.set_cons_succ,readsQ]
     refine ⟨?_,?_,?_,?_,?_,?_,?_,?_,?_,?_,?_,?_,?_,?_,trivial⟩
     all_goals first
      | exact .inl rfl
      | exact .inr (.inl (by decide +kernel))
      | (refine .inr (.inr ?_);go_simp;done)
    intro i o hi hr ho
    simp only [List.mem_cons,List.not_mem_nil,or_false] at hi
    rcases hi with rfl | rfl | rfl
    ·obtain rfl := Option.some.inj ho
     clear hr ho
     refine .inr (.inl ⟨_,(W.alloc (.cells #[.int .i64 0] 25)),fun i => ([.pointer (some ⟨s10,1,none⟩),.int .i64 wt,.slice A l.length c,.pointer (some ⟨s10,0,none⟩),.int .i64 pos,.int .i64 (cn : Int),.tuple #[.agg #[.int .i64 fx,.int .i64 fy],.int .i64 0],.tuple #[.agg #[.int .i64 fx,.int .i64 fy],.int .i64 0],.agg #[.int .i64 fx,.int .i64 fy],.int .i64 0,.pointer (some ⟨g11,0,none⟩),.pointer (some ⟨W.heap.size,0,none⟩),undef,undef] : List Value).getD i undef,by simp only [putAll,Act.put,List.setIfInBounds_toArray,List.set_cons_zero,List.set_cons_succ,];go_simp,agreeL_all (by refine ⟨?_,?_,?_,?_,?_,?_,?_,?_,?_,?_,?_,?_,?_,?_,trivial⟩ <;> first | exact .inl rfl | exact .inr (.inr rfl) | exact .inr (.inl (by decide +kernel))),rfl,?_⟩)
     rw [HPJ.out]
     exact H211 (W.alloc (.cells #[.int .i64 0] 25)) g11 W.heap.size (hT.alloc _) (n11.alloc _) (NwB.new hT _ _)
    ·exact absurd hr (by rw [show rdP .any _ [11,12,13] 12 = false by kernel_rfl];decide)
    ·exact absurd hr (by rw [show rdP .any _ [11,12,13] 13 = false by kernel_rfl];decide)
   have H201 : ∀ (W : World) (g12 : Nat),BorT w W g s6 l.length (stageL l at_ k) Ds s10 pos wt → NwB W s6 s10 g12 25 #[.int .i64 0] → PJ 3 [10,12,13] (fun i => ([.pointer (some ⟨s10,1,none⟩),.int .i64 wt,.slice A l.length c,.pointer (some ⟨s10,0,none⟩),.int .i64 pos,.int .i64 (cn : Int),.tuple #[.agg #[.int .i64 fx,.int .i64 fy],.int .i64 0],.tuple #[.agg #[.int .i64 fx,.int .i64 fy],.int .i64 0],.agg #[.int .i64 fx,.int .i64 fy],.int .i64 0,undef,.pointer (some ⟨g12,0,none⟩),undef,undef] : List Value).getD i undef) W := by
    intro W g12 hT n12
    rw [← HPJ.out]
    have y0 := hT.d.cell 0
    have y1 := hT.d.cell 1
    simp only [List.getElem?_toArray,List.getElem?_cons_succ,List.getElem?_cons_zero] at y0 y1
    refine poJ_step (L := [10,12,13]) rfl (by decide) ?_ ?_
    ·simp only [putAll,Act.put,List.setIfInBounds_toArray,List.set_cons_zero,List.set_cons_succ,readsQ]
     refine ⟨?_,?_,?_,?_,?_,?_,?_,?_,?_,?_,?_,?_,?_,?_,trivial⟩
     all_goals first
      | exact .inl rfl
      | exact .inr (.inl (by decide +kernel))
      | (refine .inr (.inr ?_);go_simp;done)
    intro i o hi hr ho
    simp only [List.mem_cons,List.not_mem_nil,or_false] at hi
    rcases hi with rfl | rfl | rfl
    ·obtain rfl := Option.some.inj ho
     clear hr ho
     refine .inr (.inl ⟨_,(W.alloc (.cells #[.int .i64 0,.int .i64 0] 23)),fun i => ([.pointer (some ⟨s10,1,none⟩),.int .i64 wt,.slice A l.length c,.pointer (some ⟨s10,0,none⟩),.int .i64 pos,.int .i64 (cn : Int),.tuple #[.agg #[.int .i64 fx,.int .i64 fy],.int .i64 0],.tuple #[.agg #[.int .i64 fx,.int .i64 fy],.int .i64 0],.agg #[.int .i64 fx,.int .i64 fy],.int .i64 0,.pointer (some ⟨W.heap.size,0,none⟩),.pointer (some ⟨g12,0,none⟩),undef,undef] : List Value).getD i undef,by simp only [putAll,Act.put,List.setIfInBounds_toArray,List.set_cons_zero,List.set_cons_succ,];go_simp,agreeL_all (by refine ⟨?_,?_,?_,?_,?_,?_,?_,?_,?_,?_,?_,?_,?_,?_,trivial⟩ <;> first | exact .inl rfl | exact .inr (.inr rfl) | exact .inr (.inl (by decide +kernel))),rfl,?_⟩)
     rw [HPJ.out]
     exact H211 (W.alloc (.cells #[.int .i64 0,.int .i64 0] 23)) W.heap.size g12 (hT.alloc _) (NwB.new hT _ _) (n12.alloc _)
    ·exact absurd hr (by rw [show rdP .any _ [10,12,13] 12 = false by kernel_rfl];decide)
    ·exact absurd hr (by rw [show rdP .any _ [10,12,13] 13 = false by kernel_rfl];decide)
   have H200 : ∀ (W : World),BorT w W g s6 l.length (stageL l at_ k) Ds s10 pos wt → PJ 4 [10,11,12,13] (fun i => ([.pointer (some ⟨s10,1,none⟩),.int .i64 wt,.slice A l.length c,.pointer (some ⟨s10,0,none⟩),.int .i64 pos,.int .i64 (cn : Int),.tuple #[.agg #[.int .i64 fx,.int .i64 fy],.int .i64 0],.tuple #[.agg #[.int .i64 fx,.int .i64 fy],.int .i64 0],.agg #[.int .i64 fx,.int .i64 fy],.int .i64 0,undef,undef,undef,undef] : List Value).getD i undef) W := by
    intro W hT
    rw [← HPJ.out]
    have y0 := hT.d.cell 0
    have y1 := hT.d.cell 1
    simp only [List.getElem?_toArray,List.getElem?_cons_succ,List.getElem?_cons_zero] at y0 y1
    refine poJ_step (L := [10,11,12,13]) rfl (by decide) ?_ ?_
    ·simp only [putAll,Act.put,List.setIfInBounds_toArray,List.set_cons_zero,List.set_cons_succ,readsQ]
     refine ⟨?_,?_,?_,?_,?_,?_,?_,?_,?_,?_,?_,?_,?_,?_,trivial⟩
     all_goals first
      | exact .inl rfl
      | exact .inr (.inl (by decide +kernel))
      | (refine .inr (.inr ?_);go_simp;done)
    intro i o hi hr ho
    simp only [List.mem_cons,List.not_mem_nil,or_false] at hi
    rcases hi with rfl | rfl | rfl | rfl
    ·obtain rfl := Option.some.inj ho
     clear hr ho
     refine .inr (.inl ⟨_,(W.alloc (.cells #[.int .i64 0,.int .i64 0] 23)),fun i => ([.pointer (some ⟨s10,1,none⟩),.int .i64 wt,.slice A l.length c,.pointer (some ⟨s10,0,none⟩),.int .i64 pos,.int .i64 (cn : Int),.tuple #[.agg #[.int .i64 fx,.int .i64 fy],.int .i64 0],.tuple #[.agg #[.int .i64 fx,.int .i64 fy],.int .i64 0],.agg #[.int .i64 fx,.int .i64 fy],.int .i64 0,.pointer (some ⟨W.heap.size,0,none⟩),undef,undef,undef] : List Value).getD i undef,by simp only [putAll,Act.put,List.setIfInBounds_toArray,List.set_cons_zero,List.set_cons_succ,];go_simp,agreeL_all (by refine ⟨?_,?_,?_,?_,?_,?_,?_,?_,?_,?_,?_,?_,?_,?_,trivial⟩ <;> first | exact .inl rfl | exact .inr (.inr rfl) | exact .inr (.inl (by decide +kernel))),rfl,?_⟩)
     rw [HPJ.out]
     exact H210 (W.alloc (.cells #[.int .i64 0,.int .i64 0] 23)) W.heap.size (hT.alloc _) (NwB.new hT _ _)
    ·obtain rfl := Option.some.inj ho
     clear hr ho
     refine .inr (.inl ⟨_,(W.alloc (.cells #[.int .i64 0] 25)),fun i => ([.pointer (some ⟨s10,1,none⟩),.int .i64 wt,.slice A l.length c,.pointer (some ⟨s10,0,none⟩),.int .i64 pos,.int .i64 (cn : Int),.tuple #[.agg #[.int .i64 fx,.int .i64 fy],.int .i64 0],.tuple #[.agg #[.int .i64 fx,.int .i64 fy],.int .i64 0],.agg #[.int .i64 fx,.int .i64 fy],.int .i64 0,undef,.pointer (some ⟨W.heap.size,0,none⟩),undef,undef] : List Value).getD i undef,by simp only [putAll,Act.put,List.setIfInBounds_toArray,List.set_cons_zero,List.set_cons_succ,];go_simp,agreeL_all (by refine ⟨?_,?_,?_,?_,?_,?_,?_,?_,?_,?_,?_,?_,?_,?_,trivial⟩ <;> first | exact .inl rfl | exact .inr (.inr rfl) | exact .inr (.inl (by decide +kernel))),rfl,?_⟩)
     rw [HPJ.out]
     exact H201 (W.alloc (.cells #[.int .i64 0] 25)) W.heap.size (hT.alloc _) (NwB.new hT _ _)
    ·exact absurd hr (by rw [show rdP .any _ [10,11,12,13] 12 = false by kernel_rfl];decide)
    ·exact absurd hr (by rw [show rdP .any _ [10,11,12,13] 13 = false by kernel_rfl];decide)
   have H111 : ∀ (W : World) (g11 : Nat) (g12 : Nat),BorT w W g s6 l.length (stageL l at_ k) Ds s10 pos wt → NwB W s6 s10 g11 23 #[.int .i64 0,.int .i64 0] → NwB W s6 s10 g12 25 #[.int .i64 0] → PJ 3 [6,12,13] (fun i => ([.pointer (some ⟨s10,1,none⟩),.int .i64 wt,.slice A l.length c,.pointer (some ⟨s10,0,none⟩),.int .i64 pos,.int .i64 (cn : Int),.tuple #[.agg #[.int .i64 fx,.int .i64 fy],.int .i64 0],.tuple #[.agg #[.int .i64 fx,.int .i64 fy],.int .i64 0],.agg #[.int .i64 fx,.int .i64 fy],.int .i64 0,.pointer (some ⟨g11,0,none⟩),.pointer (some ⟨g12,0,none⟩),undef,undef] : List Value).getD i undef) W := by
    intro W g11 g12 hT n11 n12
    rw [← HPJ.out]
    have y0 := hT.d.cell 0
    have y1 := hT.d.cell 1
    simp only [List.getElem?_toArray,List.getElem?_cons_succ,List.getElem?_cons_zero] at y0 y1
    refine poJ_step (L := [6,12,13]) rfl (by decide) ?_ ?_
    ·simp only [putAll,Act.put,List.setIfInBounds_toArray,List.set_cons_zero,List.set_cons_succ,readsQ]
     refine ⟨?_,?_,?_,?_,?_,?_,?_,?_,?_,?_,?_,?_,?_,?_,trivial⟩
     all_goals first
      | exact .inl rfl
      | exact .inr (.inl (by decide +kernel))
      | (refine .inr (.inr ?_);go_simp;done)
    intro i o hi hr ho
    simp only [List.mem_cons,List.not_mem_nil,or_false] at hi
    rcases hi with rfl | rfl | rfl
    ·obtain rfl := Option.some.inj ho
     clear hr ho
     refine .inr (.inr ⟨162,#[.int .i64 wt,.int .i64 (cn : Int)],by simp only [putAll,Act.put,List.setIfInBounds_toArray,List.set_cons_zero,List.set_cons_succ,];go_simp,?_⟩)
     refine (HMake.out W).mono ?_
     rintro e W2 ⟨rfl,hb_W2⟩
     refine ⟨_,fun i => ([.pointer (some ⟨s10,1,none⟩),.int .i64 wt,.slice A l.length c,.pointer (some ⟨s10,0,none⟩),.int .i64 pos,.int .i64 (cn : Int),.tuple #[.agg #[.int .i64 fx,.int .i64 fy],.int .i64 0],.tuple #[.agg #[.int .i64 fx,.int .i64 fy],.int .i64 0],.agg #[.int .i64 fx,.int .i64 fy],.int .i64 0,.pointer (some ⟨g11,0,none⟩),.pointer (some ⟨g12,0,none⟩),undef,undef] : List Value).getD i undef,rfl,agreeL_all (by refine ⟨?_,?_,?_,?_,?_,?_,?_,?_,?_,?_,?_,?_,?_,?_,trivial⟩ <;> first | exact .inl rfl | exact .inr (.inr rfl) | exact .inr (.inl (by decide +kernel))),rfl,?_⟩
     rw [HPJ.out]
     exact H211 W2 g11 g12 (hT.below hb_W2) (n11.below hb_W2) (n12.below hb_W2)
    ·exact absurd hr (by rw [show rdP .any _ [6,12,13] 12 = false by kernel_rfl];decide)
    ·exact absurd hr (by rw [show rdP .any _ [6,12,13] 13 = false by kernel_rfl];decide)
   have H110 : ∀ (W : World) (g11 : Nat),BorT w W g s6 l.length (stageL l at_ k) Ds s10 pos wt → NwB W s6 s10 g11 23 #[.int .i64 0,.int .i64 0] → PJ 4 [6,11,12,13] (fun i => ([.pointer (some ⟨s10,1,none⟩),.int .i64 wt,.slice A l.length c,.pointer (some ⟨s10,0,none⟩),.int .i64 pos,.int .i64 (cn : Int),.tuple #[.agg #[.int .i64 fx,.int .i64 fy],.int .i64 0],.tuple #[.agg #[.int .i64 fx,.int .i64 fy],.int .i64 0],.agg #[.int .i64 fx,.int .i64 fy],.int .i64 0,.pointer (some ⟨g11,0,none⟩),undef,undef,undef] : List Value).getD i undef) W := by
    intro W g11 hT n11
    rw [← HPJ.out]
    have y0 := hT.d.cell 0
    have y1 := hT.d.cell 1
    simp only [List.getElem?_toArray,List.getElem?_cons_succ,List.getElem?_cons_zero] at y0 y1
    refine poJ_step (L := [6,11,12,13]) rfl (by decide) ?_ ?_
    ·simp only [putAll,Act.put,List.setIfInBounds_toArray,List.set_cons_zero,List.set_cons_succ,readsQ]
     refine ⟨?_,?_,?_,?_,?_,?_,?_,?_,?_,?_,?_,?_,?_,?_,trivial⟩
     all_goals first
      | exact .inl rfl
      | exact .inr (.inl (by decide +kernel))
      | (refine .inr (.inr ?_);go_simp;done)
    intro i o hi hr ho
    simp only [List.mem_cons,List.not_mem_nil,or_false] at hi
    rcases hi with rfl | rfl | rfl | rfl
    ·obtain rfl := Option.some.inj ho
     clear hr ho
     refine .inr (.inr ⟨162,#[.int .i64 wt,.int .i64 (cn : Int)],by simp only [putAll,Act.put,List.setIfInBounds_toArray,List.set_cons_zero,List.set_cons_succ,];go_simp,?_⟩)
     refine (HMake.out W).mono ?_
     rintro e W2 ⟨rfl,hb_W2⟩
     refine ⟨_,fun i => ([.pointer (some ⟨s10,1,none⟩),.int .i64 wt,.slice A l.length c,.pointer (some ⟨s10,0,none⟩),.int .i64 pos,.int .i64 (cn : Int),.tuple #[.agg #[.int .i64 fx,.int .i64 fy],.int .i64 0],.tuple #[.agg #[.int .i64 fx,.int .i64 fy],.int .i64 0],.agg #[.int .i64 fx,.int .i64 fy],.int .i64 0,.pointer (some ⟨g11,0,none⟩),undef,undef,undef] : List Value).getD i undef,rfl,agreeL_all (by refine ⟨?_,?_,?_,?_,?_,?_,?_,?_,?_,?_,?_,?_,?_,?_,trivial⟩ <;> first | exact .inl rfl | exact .inr (.inr rfl) | exact .inr (.inl (by decide +kernel))),rfl,?_⟩
     rw [HPJ.out]
     exact H210 W2 g11 (hT.below hb_W2) (n11.below hb_W2)
    ·obtain rfl := Option.some.inj ho
     clear hr ho
     refine .inr (.inl ⟨_,(W.alloc (.cells #[.int .i64 0] 25)),fun i => ([.pointer (some ⟨s10,1,none⟩),.int .i64 wt,.slice A l.length c,.pointer (some ⟨s10,0,none⟩),.int .i64 pos,.int .i64 (cn : Int),.tuple #[.agg #[.int .i64 fx,.int .i64 fy],.int .i64 0],.tuple #[.agg #[.int .i64 fx,.int .i64 fy],.int .i64 0],.agg #[.int .i64 fx,.int .i64 fy],.int .i64 0,.pointer (some ⟨g11,0,none⟩),.pointer (some ⟨W.heap.size,0,none⟩),undef,undef] : List Value).getD i undef,by simp only [putAll,Act.put,List.setIfInBounds_toArray,List.set_cons_zero,List.set_cons_succ,];go_simp,agreeL_all (by refine ⟨?_,?_,?_,?_,?_,?_,?_,?_,?_,?_,?_,?_,?_,?_,trivial⟩ <;> first | exact .inl rfl | exact .inr (.inr rfl) | exact .inr (.inl (by decide +kernel))),rfl,?_⟩)
     rw [HPJ.out]
     exact H111 (W.alloc (.cells #[.int .i64 0] 25)) g11 W.heap.size (hT.alloc _) (n11.alloc _) (NwB.new hT _ _)
    ·exact absurd hr (by rw [show rdP .any _ [6,11,12,13] 12 = false by kernel_rfl];decide)
    ·exact absurd hr (by rw [show rdP .any _ [6,11,12,13] 13 = false by kernel_rfl];decide)
   have H101 : ∀ (W : World) (g12 : Nat),BorT w W g s6 l.length (stageL l at_ k) Ds s10 pos wt → NwB W s6 s10 g12 25 #[.int .i64 0] → PJ 4 [6,10,12,13] (fun i => ([.pointer (some ⟨s10,1,none⟩),.int .i64 wt,.slice A l.length c,.pointer (some ⟨s10,0,none⟩),.int .i64 pos,.int .i64 (cn : Int),.tuple #[.agg #[.int .i64 fx,.int .i64 fy],.int .i64 0],.tuple #[.agg #[.int .i64 fx,.int .i64 fy],.int .i64 0],.agg #[.int .i64 fx,.int .i64 fy],.int .i64 0,undef,.pointer (some ⟨g12,0,none⟩),undef,undef] : List Value).getD i undef) W := by
    intro W g12 hT n12
    rw [← HPJ.out]
    have y0 := hT.d.cell 0
    have y1 := hT.d.cell 1
    simp only [List.getElem?_toArray,List.getElem?_cons_succ,List.getElem?_cons_zero] at y0 y1
    refine poJ_step (L := [6,10,12,13]) rfl (by decide) ?_ ?_
    ·simp only [putAll,Act.put,List.setIfInBounds_toArray,List.set_cons_zero,List.set_cons_succ,readsQ]
     refine ⟨?_,?_,?_,?_,?_,?_,?_,?_,?_,?_,?_,?_,?_,?_,trivial⟩
     all_goals first
      | exact .inl rfl
      | exact .inr (.inl (by decide +kernel))
      | (refine .inr (.inr ?_);go_simp;done)
    intro i o hi hr ho
    simp only [List.mem_cons,List.not_mem_nil,or_false] at hi
    rcases hi with rfl | rfl | rfl | rfl
    ·obtain rfl := Option.some.inj ho
     clear hr ho
     refine .inr (.inr ⟨162,#[.int .i64 wt,.int .i64 (cn : Int)],by simp only [putAll,Act.put,List.setIfInBounds_toArray,List.set_cons_zero,List.set_cons_succ,];go_simp,?_⟩)
     refine (HMake.out W).mono ?_
     rintro e W2 ⟨rfl,hb_W2⟩
     refine ⟨_,fun i => ([.pointer (some ⟨s10,1,none⟩),.int .i64 wt,.slice A l.length c,.pointer (some ⟨s10,0,none⟩),.int .i64 pos,.int .i64 (cn : Int),.tuple #[.agg #[.int .i64 fx,.int .i64 fy],.int .i64 0],.tuple #[.agg #[.int .i64 fx,.int .i64 fy],.int .i64 0],.agg #[.int .i64 fx,.int .i64 fy],.int .i64 0,undef,.pointer (some ⟨g12,0,none⟩),undef,undef] : List Value).getD i undef,rfl,agreeL_all (by refine ⟨?_,?_,?_,?_,?_,?_,?_,?_,?_,?_,?_,?_,?_,?_,trivial⟩ <;> first | exact .inl rfl | exact .inr (.inr rfl) | exact .inr (.inl (by decide +kernel))),rfl,?_⟩
     rw [HPJ.out]
     exact H201 W2 g12 (hT.below hb_W2) (n12.below hb_W2)
    ·obtain rfl := Option.some.inj ho
     clear hr ho
     refine .inr (.inl ⟨_,(W.alloc (.cells #[.int .i64 0,.int .i64 0] 23)),fun i => ([.pointer (some ⟨s10,1,none⟩),.int .i64 wt,.slice A l.length c,.pointer (some ⟨s10,0,none⟩),.int .i64 pos,.int .i64 (cn : Int),.tuple #[.agg #[.int .i64 fx,.int .i64 fy],.int .i64 0],.tuple #[.agg #[.int .i64 fx,.int .i64 fy],.int .i64 0],.agg #[.int .i64 fx,.int .i64 fy],.int .i64 0,.pointer (some ⟨W.heap.size,0,none⟩),.pointer (some ⟨g12,0,none⟩),undef,undef] : List Value).getD i undef,by simp only [putAll,Act.put,List.setIfInBounds_toArray,List.set_cons_zero,List.set_cons_succ,];go_simp,agreeL_all (by refine ⟨?_,?_,?_,?_,?_,?_,?_,?_,?_,?_,?_,?_,?_,?_,trivial⟩ <;> first | exact .inl rfl | exact .inr (.inr rfl) | exact .inr (.inl (by decide +kernel))),rfl,?_⟩)
     rw [HPJ.out]
     exact H111 (W.alloc (.cells #[.int .i64 0,.int .i64 0] 23)) W.heap.size g12 (hT.alloc _) (NwB.new hT _ _) (n12.alloc _)
    ·exact absurd hr (by rw [show rdP .any _ [6,10,12,13] 12 = false by kernel_rfl];decide)
    ·exact absurd hr (by rw [show rdP .any _ [6,10,12,13] 13 = false by kernel_rfl];decide)
   have H100 : ∀ (W : World),BorT w W g s6 l.length (stageL l at_ k) Ds s10 pos wt → PJ 5 [6,10,11,12,13] (fun i => ([.pointer (some ⟨s10,1,none⟩),.int .i64 wt,.slice A l.length c,.pointer (some ⟨s10,0,none⟩),.int .i64 pos,.int .i64 (cn : Int),.tuple #[.agg #[.int .i64 fx,.int .i64 fy],.int .i64 0],.tuple #[.agg #[.int .i64 fx,.int .i64 fy],.int .i64 0],.agg #[.int .i64 fx,.int .i64 fy],.int .i64 0,undef,undef,undef,undef] : List Value).getD i undef) W := by
    intro W hT
    rw [← HPJ.out]
    have y0 := hT.d.cell 0
    have y1 := hT.d.cell 1
    simp only [List.getElem?_toArray,List.getElem?_cons_succ,List.getElem?_cons_zero] at y0 y1
    refine poJ_step (L := [6,10,11,12,13]) rfl (by decide) ?_ ?_
    ·simp only [putAll,Act.put,List.setIfInBounds_toArray,List.set_cons_zero,List.set_cons_succ,readsQ]
     refine ⟨?_,?_,?_,?_,?_,?_,?_,?_,?_,?_,?_,?_,?_,?_,trivial⟩
     all_goals first
      | exact .inl rfl
      | exact .inr (.inl (by decide +kernel))
      | (refine .inr (.inr ?_);go_simp;done)
    intro i o hi hr ho
    simp only [List.mem_cons,List.not_mem_nil,or_false] at hi
    rcases hi with rfl | rfl | rfl | rfl | rfl
    ·obtain rfl := Option.some.inj ho
     clear hr ho
     refine .inr (.inr ⟨162,#[.int .i64 wt,.int .i64 (cn : Int)],by simp only [putAll,Act.put,List.setIfInBounds_toArray,List.set_cons_zero,List.set_cons_succ,];go_simp,?_⟩)
     refine (HMake.out W).mono ?_
     rintro e W2 ⟨rfl,hb_W2⟩
     refine ⟨_,fun i => ([.pointer (some ⟨s10,1,none⟩),.int .i64 wt,.slice A l.length c,.pointer (some ⟨s10,0,none⟩),.int .i64 pos,.int .i64 (cn : Int),.tuple #[.agg #[.int .i64 fx,.int .i64 fy],.int .i64 0],.tuple #[.agg #[.int .i64 fx,.int .i64 fy],.int .i64 0],.agg #[.int .i64 fx,.int .i64 fy],.int .i64 0,undef,undef,undef,undef] : List Value).getD i undef,rfl,agreeL_all (by refine ⟨?_,?_,?_,?_,?_,?_,?_,?_,?_,?_,?_,?_,?_,?_,trivial⟩ <;> first | exact .inl rfl | exact .inr (.inr rfl) | exact .inr (.inl (by decide +kernel))),rfl,?_⟩
     rw [HPJ.out]
     exact H200 W2 (hT.below hb_W2)
    ·obtain rfl := Option.some.inj ho
     clear hr ho
     refine .inr (.inl ⟨_,(W.alloc (.cells #[.int .i64 0,.int .i64 0] 23)),fun i => ([.pointer (some ⟨s10,1,none⟩),.int .i64 wt,.slice A l.length c,.pointer (some ⟨s10,0,none⟩),.int .i64 pos,.int .i64 (cn : Int),.tuple #[.agg #[.int .i64 fx,.int .i64 fy],.int .i64 0],.tuple #[.agg #[.int .i64 fx,.int .i64 fy],.int .i64 0],.agg #[.int .i64 fx,.int .i64 fy],.int .i64 0,.pointer (some ⟨W.heap.size,0,none⟩),undef,undef,undef] : List Value).getD i undef,by simp only [putAll,Act.put,List.setIfInBounds_toArray,List.set_cons_zero,List.set_cons_succ,];go_simp,agreeL_all (by refine ⟨?_,?_,?_,?_,?_,?_,?_,?_,?_,?_,?_,?_,?_,?_,trivial⟩ <;> first | exact .inl rfl | exact .inr (.inr rfl) | exact .inr (.inl (by decide +kernel))),rfl,?_⟩)
     rw [HPJ.out]
     exact H110 (W.alloc (.cells #[.int .i64 0,.int .i64 0] 23)) W.heap.size (hT.alloc _) (NwB.new hT _ _)
    ·obtain rfl := Option.some.inj ho
     clear hr ho
     refine .inr (.inl ⟨_,(W.alloc (.cells #[.int .i64 0] 25)),fun i => ([.pointer (some ⟨s10,1,none⟩),.int .i64 wt,.slice A l.length c,.pointer (some ⟨s10,0,none⟩),.int .i64 pos,.int .i64 (cn : Int),.tuple #[.agg #[.int .i64 fx,.int .i64 fy],.int .i64 0],.tuple #[.agg #[.int .i64 fx,.int .i64 fy],.int .i64 0],.agg #[.int .i64 fx,.int .i64 fy],.int .i64 0,undef,.pointer (some ⟨W.heap.size,0,none⟩),undef,undef] : List Value).getD i undef,by simp only [putAll,Act.put,List.setIfInBounds_toArray,List.set_cons_zero,List.set_cons_succ,];go_simp,agreeL_all (by refine ⟨?_,?_,?_,?_,?_,?_,?_,?_,?_,?_,?_,?_,?_,?_,trivial⟩ <;> first | exact .inl rfl | exact .inr (.inr rfl) | exact .inr (.inl (by decide +kernel))),rfl,?_⟩)
     rw [HPJ.out]
     exact H101 (W.alloc (.cells #[.int .i64 0] 25)) W.heap.size (hT.alloc _) (NwB.new hT _ _)
    ·exact absurd hr (by rw [show rdP .any _ [6,10,11,12,13] 12 = false by kernel_rfl];decide)
    ·exact absurd hr (by rw [show rdP .any _ [6,10,11,12,13] 13 = false by kernel_rfl];decide)
   have H011 : ∀ (W : World) (g11 : Nat) (g12 : Nat),BorT w W g s6 l.length (stageL l at_ k) Ds s10 pos wt → NwB W s6 s10 g11 23 #[.int .i64 0,.int .i64 0] → NwB W s6 s10 g12 25 #[.int .i64 0] → PJ 4 [5,6,12,13] (fun i => ([.pointer (some ⟨s10,1,none⟩),.int .i64 wt,.slice A l.length c,.pointer (some ⟨s10,0,none⟩),.int .i64 pos,.int .i64 (cn : Int),.tuple #[.agg #[.int .i64 fx,.int .i64 fy],.int .i64 0],.tuple #[.agg #[.int .i64 fx,.int .i64 fy],.int .i64 0],.agg #[.int .i64 fx,.int .i64 fy],.int .i64 0,.pointer (some ⟨g11,0,none⟩),.pointer (some ⟨g12,0,none⟩),undef,undef] : List Value).getD i undef) W := by
    intro W g11 g12 hT n11 n12
    rw [← HPJ.out]
    have y0 := hT.d.cell 0
    have y1 := hT.d.cell 1
    simp only [List.getElem?_toArray,List.getElem?_cons_succ,List.getElem?_cons_zero] at y0 y1
    refine poJ_step (L := [5,6,12,13]) rfl (by decide) ?_ ?_
    ·simp only [putAll,Act.put,List.setIfInBounds_toArray,List.set_cons_zero,List.set_cons_succ,readsQ]
     refine ⟨?_,?_,?_,?_,?_,?_,?_,?_,?_,?_,?_,?_,?_,?_,trivial⟩
     all_goals first
      | exact .inl rfl
      | exact .inr (.inl (by decide +kernel))
      | (refine .inr (.inr ?_);go_simp;done)
    intro i o hi hr ho
    simp only [List.mem_cons,List.not_mem_nil,or_false] at hi
    rcases hi with rfl | rfl | rfl | rfl
    ·obtain rfl := Option.some.inj ho
     clear hr ho
     refine .inr (.inr ⟨161,#[.slice A l.length c,.int .i64 pos],by simp only [putAll,Act.put,List.setIfInBounds_toArray,List.set_cons_zero,List.set_cons_succ,];go_simp,?_⟩)
     refine (HCn.out W hT.s.b).mono ?_
     rintro e W2 ⟨rfl,hb_W2⟩
     refine ⟨_,fun i => ([.pointer (some ⟨s10,1,none⟩),.int .i64 wt,.slice A l.length c,.pointer (some ⟨s10,0,none⟩),.int .i64 pos,.int .i64 (cn : Int),.tuple #[.agg #[.int .i64 fx,.int .i64 fy],.int .i64 0],.tuple #[.agg #[.int .i64 fx,.int .i64 fy],.int .i64 0],.agg #[.int .i64 fx,.int .i64 fy],.int .i64 0,.pointer (some ⟨g11,0,none⟩),.pointer (some ⟨g12,0,none⟩),undef,undef] : List Value).getD i undef,rfl,agreeL_all (by refine ⟨?_,?_,?_,?_,?_,?_,?_,?_,?_,?_,?_,?_,?_,?_,trivial⟩ <;> first | exact .inl rfl | exact .inr (.inr rfl) | exact .inr (.inl (by decide +kernel))),rfl,?_⟩
     rw [HPJ.out]
     exact H111 W2 g11 g12 (hT.below hb_W2) (n11.below hb_W2) (n12.below hb_W2)
    ·exact absurd hr (by rw [show rdP .any _ [5,6,12,13] 6 = false by kernel_rfl];decide)
    ·exact absurd hr (by rw [show rdP .any _ [5,6,12,13] 12 = false by kernel_rfl];decide)
    ·exact absurd hr (by rw [show rdP .any _ [5,6,12,13] 13 = false by kernel_rfl];decide)
   have H010 : ∀ (W : World) (g11 : Nat),BorT w W g s6 l.length (stageL l at_ k) Ds s10 pos wt → NwB W s6 s10 g11 23 #[.int .i64 0,.int .i64 0] → PJ 5 [5,6,11,12,13] (fun i => ([.pointer (some ⟨s10,1,none⟩),.int .i64 wt,.slice A l.length c,.pointer (some ⟨s10,0,none⟩),.int .i64 pos,.int .i64 (cn : Int),.tuple #[.agg #[.int .i64 fx,.int .i64 fy],.int .i64 0],.tuple #[.agg #[.int .i64 fx,.int .i64 fy],.int .i64 0],.agg #[.int .i64 fx,.int .i64 fy],.int .i64 0,.pointer (some ⟨g11,0,none⟩),undef,undef,undef] : List Value).getD i undef) W := by
    intro W g11 hT n11
    rw [← HPJ.out]
    have y0 := hT.d.cell 0
    have y1 := hT.d.cell 1
    simp only [List.getElem?_toArray,List.getElem?_cons_succ,List.getElem?_cons_zero] at y0 y1
    refine poJ_step (L := [5,6,11,12,13]) rfl (by decide) ?_ ?_
    ·simp only [putAll,Act.put,List.setIfInBounds_toArray,List.set_cons_zero,List.set_cons_succ,readsQ]
     refine ⟨?_,?_,?_,?_,?_,?_,?_,?_,?_,?_,?_,?_,?_,?_,trivial⟩
     all_goals first
      | exact .inl rfl
      | exact .inr (.inl (by decide +kernel))
      | (refine .inr (.inr ?_);go_simp;done)
    intro i o hi hr ho
    simp only [List.mem_cons,List.not_mem_nil,or_false] at hi
    rcases hi with rfl | rfl | rfl | rfl | rfl
    ·obtain rfl := Option.some.inj ho
     clear hr ho
     refine .inr (.inr ⟨161,#[.slice A l.length c,.int .i64 pos],by simp only [putAll,Act.put,List.setIfInBounds_toArray,List.set_cons_zero,List.set_cons_succ,];go_simp,?_⟩)
     refine (HCn.out W hT.s.b).mono ?_
     rintro e W2 ⟨rfl,hb_W2⟩
     refine ⟨_,fun i => ([.pointer (some ⟨s10,1,none⟩),.int .i64 wt,.slice A l.length c,.pointer (some ⟨s10,0,none⟩),.int .i64 pos,.int .i64 (cn : Int),.tuple #[.agg #[.int .i64 fx,.int .i64 fy],.int .i64 0],.tuple #[.agg #[.int .i64 fx,.int .i64 fy],.int .i64 0],.agg #[.int .i64 fx,.int .i64 fy],.int .i64 0,.pointer (some ⟨g11,0,none⟩),undef,undef,undef] : List Value).getD i undef,rfl,agreeL_all (by refine ⟨?_,?_,?_,?_,?_,?_,?_,?_,?_,?_,?_,?_,?_,?_,trivial⟩ <;> first | exact .inl rfl | exact .inr (.inr rfl) | exact .inr (.inl (by decide +kernel))),rfl,?_⟩
     rw [HPJ.out]
     exact H110 W2 g11 (hT.below hb_W2) (n11.below hb_W2)
    ·exact absurd hr (by rw [show rdP .any _ [5,6,11,12,13] 6 = false by kernel_rfl];decide)
    ·obtain rfl := Option.some.inj ho
     clear hr ho
     refine .inr (.inl ⟨_,(W.alloc (.cells #[.int .i64 0] 25)),fun i => ([.pointer (some ⟨s10,1,none⟩),.int .i64 wt,.slice A l.length c,.pointer (some ⟨s10,0,none⟩),.int .i64 pos,.int .i64 (cn : Int),.tuple #[.agg #[.int .i64 fx,.int .i64 fy],.int .i64 0],.tuple #[.agg #[.int .i64 fx,.int .i64 fy],.int .i64 0],.agg #[.int .i64 fx,.int .i64 fy],.int .i64 0,.pointer (some ⟨g11,0,none⟩),.pointer (some ⟨W.heap.size,0,none⟩),undef,undef] : List Value).getD i undef,by simp only [putAll,Act.put,List.setIfInBounds_toArray,List.set_cons_zero,List.set_cons_succ,];go_simp,agreeL_all (by refine ⟨?_,?_,?_,?_,?_,?_,?_,?_,?_,?_,?_,?_,?_,?_,trivial⟩ <;> first | exact .inl rfl | exact .inr (.inr rfl) | exact .inr (.inl (by decide +kernel))),rfl,?_⟩)
     rw [HPJ.out]
     exact H011 (W.alloc (.cells #[.int .i64 0] 25)) g11 W.heap.size (hT.alloc _) (n11.alloc _) (NwB.new hT _ _)
    ·exact absurd hr (by rw [show rdP .any _ [5,6,11,12,13] 12 = false by kernel_rfl];decide)
    ·exact absurd hr (by rw [show rdP .any _ [5,6,11,12,13] 13 = false by kernel_rfl];decide)
   have H001 : ∀ (W : World) (g12 : Nat),BorT w W g s6 l.length (stageL l at_ k) Ds s10 pos wt → NwB W s6 s10 g12 25 #[.int .i64 0] → PJ 5 [5,6,10,12,13] (fun i => ([.pointer (some ⟨s10,1,none⟩),.int .i64 wt,.slice A l.length c,.pointer (some ⟨s10,0,none⟩),.int .i64 pos,.int .i64 (cn : Int),.tuple #[.agg #[.int .i64 fx,.int .i64 fy],.int .i64 0],.tuple #[.agg #[.int .i64 fx,.int .i64 fy],.int .i64 0],.agg #[.int .i64 fx,.int .i64 fy],.int .i64 0,undef,.pointer (some ⟨g12,0,none⟩),undef,undef] : List Value).getD i undef) W := by
    intro W g12 hT n12
    rw [← HPJ.out]
    have y0 := hT.d.cell 0
    have y1 := hT.d.cell 1
    simp only [List.getElem?_toArray,List.getElem?_cons_succ,List.getElem?_cons_zero] at y0 y1
    refine poJ_step (L := [5,6,10,12,13]) rfl (by decide) ?_ ?_
    ·simp only [putAll,Act.put,List.setIfInBounds_toArray,List.set_cons_zero,List.set_cons_succ,readsQ]
     refine ⟨?_,?_,?_,?_,?_,?_,?_,?_,?_,?_,?_,?_,?_,?_,trivial⟩
     all_goals first
      | exact .inl rfl
      | exact .inr (.inl (by decide +kernel))
      | (refine .inr (.inr ?_);go_simp;done)
    intro i o hi hr ho
    simp only [List.mem_cons,List.not_mem_nil,or_false] at hi
    rcases hi with rfl | rfl | rfl | rfl | rfl
    ·obtain rfl := Option.some.inj ho
     clear hr ho
     refine .inr (.inr ⟨161,#[.slice A l.length c,.int .i64 pos],by simp only [putAll,Act.put,List.setIfInBounds_toArray,List.set_cons_zero,List.set_cons_succ,];go_simp,?_⟩)
     refine (HCn.out W hT.s.b).mono ?_
     rintro e W2 ⟨rfl,hb_W2⟩
     refine ⟨_,fun i => ([.pointer (some ⟨s10,1,none⟩),.int .i64 wt,.slice A l.length c,.pointer (some ⟨s10,0,none⟩),.int .i64 pos,.int .i64 (cn : Int),.tuple #[.agg #[.int .i64 fx,.int .i64 fy],.int .i64 0],.tuple #[.agg #[.int .i64 fx,.int .i64 fy],.int .i64 0],.agg #[.int .i64 fx,.int .i64 fy],.int .i64 0,undef,.pointer (some ⟨g12,0,none⟩),undef,undef] : List Value).getD i undef,rfl,agreeL_all (by refine ⟨?_,?_,?_,?_,?_,?_,?_,?_,?_,?_,?_,?_,?_,?_,trivial⟩ <;> first | exact .inl rfl | exact .inr (.inr rfl) | exact .inr (.inl (by decide +kernel))),rfl,?_⟩
     rw [HPJ.out]
     exact H101 W2 g12 (hT.below hb_W2) (n12.below hb_W2)
    ·exact absurd hr (by rw [show rdP .any _ [5,6,10,12,13] 6 = false by kernel_rfl];decide)
    ·obtain rfl := Option.some.inj ho
     clear hr ho
     refine .inr (.inl ⟨_,(W.alloc (.cells #[.int .i64 0,.int .i64 0] 23)),fun i => ([.pointer (some ⟨s10,1,none⟩),.int .i64 wt,.slice A l.length c,.pointer (some ⟨s10,0,none⟩),.int .i64 pos,.int .i64 (cn : Int),.tuple #[.agg #[.int .i64 fx,.int .i64 fy],.int .i64 0],.tuple #[.agg #[.int .i64 fx,.int .i64 fy],.int .i64 0],.agg #[.int .i64 fx,.int .i64 fy],.int .i64 0,.pointer (some ⟨W.heap.size,0,none⟩),.pointer (some ⟨g12,0,none⟩),undef,undef] : List Value).getD i undef,by simp only [putAll,Act.put,List.setIfInBounds_toArray,List.set_cons_zero,List.set_cons_succ,];go_simp,agreeL_all (by refine ⟨?_,?_,?_,?_,?_,?_,?_,?_,?_,?_,?_,?_,?_,?_,trivial⟩ <;> first | exact .inl rfl | exact .inr (.inr rfl) | exact .inr (.inl (by decide +kernel))),rfl,?_⟩)
     rw [HPJ.out]
     exact H011 (W.alloc (.cells #[.int .i64 0,.int .i64 0] 23)) W.heap.size g12 (hT.alloc _) (NwB.new hT _ _) (n12.alloc _)
    ·exact absurd hr (by rw [show rdP .any _ [5,6,10,12,13] 12 = false by kernel_rfl];decide)
    ·exact absurd hr (by rw [show rdP .any _ [5,6,10,12,13] 13 = false by kernel_rfl];decide)
   have H000 : ∀ (W : World),BorT w W g s6 l.length (stageL l at_ k) Ds s10 pos wt → PJ 6 [5,6,10,11,12,13] (fun i => ([.pointer (some ⟨s10,1,none⟩),.int .i64 wt,.slice A l.length c,.pointer (some ⟨s10,0,none⟩),.int .i64 pos,.int .i64 (cn : Int),.tuple #[.agg #[.int .i64 fx,.int .i64 fy],.int .i64 0],.tuple #[.agg #[.int .i64 fx,.int .i64 fy],.int .i64 0],.agg #[.int .i64 fx,.int .i64 fy],.int .i64 0,undef,undef,undef,undef] : List Value).getD i undef) W := by
    intro W hT
    rw [← HPJ.out]
    have y0 := hT.d.cell 0
    have y1 := hT.d.cell 1
    simp only [List.getElem?_toArray,List.getElem?_cons_succ,List.getElem?_cons_zero] at y0 y1
    refine poJ_step (L := [5,6,10,11,12,13]) rfl (by decide) ?_ ?_
    ·simp only [putAll,Act.put,List.setIfInBounds_toArray,List.set_cons_zero,List.set_cons_succ,readsQ]
     refine ⟨?_,?_,?_,?_,?_,?_,?_,?_,?_,?_,?_,?_,?_,?_,trivial⟩
     all_goals first
      | exact .inl rfl
      | exact .inr (.inl (by decide +kernel))
      | (refine .inr (.inr ?_);go_simp;done)
    intro i o hi hr ho
    simp only [List.mem_cons,List.not_mem_nil,or_false] at hi
    rcases hi with rfl | rfl | rfl | rfl | rfl | rfl
    ·obtain rfl := Option.some.inj ho
     clear hr ho
     refine .inr (.inr ⟨161,#[.slice A l.length c,.int .i64 pos],by simp only [putAll,Act.put,List.setIfInBounds_toArray,List.set_cons_zero,List.set_cons_succ,];go_simp,?_⟩)
     refine (HCn.out W hT.s.b).mono ?_
     rintro e W2 ⟨rfl,hb_W2⟩
     refine ⟨_,fun i => ([.pointer (some ⟨s10,1,none⟩),.int .i64 wt,.slice A l.length c,.pointer (some ⟨s10,0,none⟩),.int .i64 pos,.int .i64 (cn : Int),.tuple #[.agg #[.int .i64 fx,.int .i64 fy],.int .i64 0],.tuple #[.agg #[.int .i64 fx,.int .i64 fy],.int .i64 0],.agg #[.int .i64 fx,.int .i64 fy],.int .i64 0,undef,undef,undef,undef] : List Value).getD i undef,rfl,agreeL_all (by refine ⟨?_,?_,?_,?_,?_,?_,?_,?_,?_,?_,?_,?_,?_,?_,trivial⟩ <;> first | exact .inl rfl | exact .inr (.inr rfl) | exact .inr (.inl (by decide +kernel))),rfl,?_⟩
     rw [HPJ.out]
     exact H100 W2 (hT.below hb_W2)
    ·exact absurd hr (by rw [show rdP .any _ [5,6,10,11,12,13] 6 = false by kernel_rfl];decide)
    ·obtain rfl := Option.some.inj ho
     clear hr ho
     refine .inr (.inl ⟨_,(W.alloc (.cells #[.int .i64 0,.int .i64 0] 23)),fun i => ([.pointer (some ⟨s10,1,none⟩),.int .i64 wt,.slice A l.length c,.pointer (some ⟨s10,0,none⟩),.int .i64 pos,.int .i64 (cn : Int),.tuple #[.agg #[.int .i64 fx,.int .i64 fy],.int .i64 0],.tuple #[.agg #[.int .i64 fx,.int .i64 fy],.int .i64 0],.agg #[.int .i64 fx,.int .i64 fy],.int .i64 0,.pointer (some ⟨W.heap.size,0,none⟩),undef,undef,undef] : List Value).getD i undef,by simp only [putAll,Act.put,List.setIfInBounds_toArray,List.set_cons_zero,List.set_cons_succ,];go_simp,agreeL_all (by refine ⟨?_,?_,?_,?_,?_,?_,?_,?_,?_,?_,?_,?_,?_,?_,trivial⟩ <;> first | exact .inl rfl | exact .inr (.inr rfl) | exact .inr (.inl (by decide +kernel))),rfl,?_⟩)
     rw [HPJ.out]
     exact H010 (W.alloc (.cells #[.int .i64 0,.int .i64 0] 23)) W.heap.size (hT.alloc _) (NwB.new hT _ _)
    ·obtain rfl := Option.some.inj ho
     clear hr ho
     refine .inr (.inl ⟨_,(W.alloc (.cells #[.int .i64 0] 25)),fun i => ([.pointer (some ⟨s10,1,none⟩),.int .i64 wt,.slice A l.length c,.pointer (some ⟨s10,0,none⟩),.int .i64 pos,.int .i64 (cn : Int),.tuple #[.agg #[.int .i64 fx,.int .i64 fy],.int .i64 0],.tuple #[.agg #[.int .i64 fx,.int .i64 fy],.int .i64 0],.agg #[.int .i64 fx,.int .i64 fy],.int .i64 0,undef,.pointer (some ⟨W.heap.size,0,none⟩),undef,undef] : List Value).getD i undef,by simp only [putAll,Act.put,List.setIfInBounds_toArray,List.set_cons_zero,List.set_cons_succ,];go_simp,agreeL_all (by refine ⟨?_,?_,?_,?_,?_,?_,?_,?_,?_,?_,?_,?_,?_,?_,trivial⟩ <;> first | exact .inl rfl | exact .inr (.inr rfl) | exact .inr (.inl (by decide +kernel))),rfl,?_⟩)
     rw [HPJ.out]
     exact H001 (W.alloc (.cells #[.int .i64 0] 25)) W.heap.size (hT.alloc _) (NwB.new hT _ _)
    ·exact absurd hr (by rw [show rdP .any _ [5,6,10,11,12,13] 12 = false by kernel_rfl];decide)
    ·exact absurd hr (by rw [show rdP .any _ [5,6,10,11,12,13] 13 = false by kernel_rfl];decide)
   exact H000 W6 HT6.out
end Go.Proofs.YtknkhnahflmjiaaGreatDoor

namespace Go.Proofs.YtknkhnahflmjiaaGreatDoor
open Go.RowKit Go.Shelf
def Loads19Post (l : List RoofT) (at_ : List LoadT) (w : World) (e : Ending) (w' : World) : Prop :=
 Below w.heap.size w w' ∧ ((gridE nameB l at_ = 0 ∧ ∃ v,e = .returned (.tuple #[v,.int .i64 0]) ∧ FrsAt w' w'.heap.size v (borneL l at_)) ∨ (gridE nameB l at_ ≠ 0 ∧ e = .returned (.tuple #[.slice none 0 0,.int .i64 (gridE nameB l at_)])))
theorem borneL_len (l : List RoofT) (at_ : List LoadT) : (borneL l at_).length = l.length := List.length_map _
theorem BornePost.one {l : List RoofT} {at_ : List LoadT} {w w' : World} {e : Ending} (hl : l.length ≤ 20) (h : BornePost l at_ w e w') : ∃ A n c,e = .returned (.tuple #[.slice A n c,.int .i64 (borneE l at_)]) ∧ Below w.heap.size w w' ∧ ((borneE l at_ = 0 ∧ FrsAt w' w'.heap.size (.slice A n c) (borneL l at_)) ∨ (borneE l at_ ≠ 0 ∧ A = none ∧ n = 0 ∧ c = 0)) := by
 obtain ⟨hb,⟨h0,g,rfl,hg,hB⟩ | ⟨h0,rfl⟩⟩ := h
 ·refine ⟨_,_,_,by rw [h0],hb,.inl ⟨h0,some ⟨g,0,none⟩,l.length,by rw [borneL_len],by rw [borneL_len];exact Nat.le_refl _,by unfold maxLen;omega,fun _ => ⟨g,0,rfl,hB.lt,fun j u hu => ?_⟩⟩⟩
  rw [Nat.zero_add,hB.cell,List.getElem?_toArray]
  exact hu
 ·exact ⟨none,0,0,rfl,hb,.inr ⟨h0,rfl,rfl,rfl⟩⟩
set_option maxHeartbeats 1000000 in
theorem gdLoads (v v1 : Value) (l : List RoofT) (at_ : List LoadT) (w : World) (hv : RoofsAt w w.heap.size v l) (hn : ∀ x ∈ l,x.name.size ≤ maxLen) (hl : LoadsAt w w.heap.size v1 at_) :
  Calls Tryz.prog 78 #[v,v1] w (Loads19Post l at_ w) := by
 have hgv := gdGiven v v1 l at_ w hv hn hl
 have HE : Hid (gridE nameB l at_ = if giveB nameB l at_ = true then borneE l at_ else 1) := rfl
 have HBo := Lib.hid fun W (hb : Below w.heap.size w W) (h : giveB nameB l at_ = true) => (by
  unfold giveB at h
  rw [Bool.and_eq_true] at h
  have h1 := (roofs_ok h.1).1
  have h2 := loads_ok h.2
  exact (gdBorne v v1 l at_ W h1 h2.1 (fun x hx => ⟨(h2.2 x hx).2.2.1,(h2.2 x hx).2.2.2⟩) (hv.grow hb) ((hl.below hb (Nat.le_refl _)).mono hb.size)).mono fun _ _ h => h.one h1 : Calls Tryz.prog 115 #[v,v1] W fun e w' => ∃ A n c,e = .returned (.tuple #[.slice A n c,.int .i64 (borneE l at_)]) ∧ Below W.heap.size W w' ∧ ((borneE l at_ = 0 ∧ FrsAt w' w'.heap.size (.slice A n c) (borneL l at_)) ∨ (borneE l at_ ≠ 0 ∧ A = none ∧ n = 0 ∧ c = 0)))
 obtain ⟨A,c,rfl,-⟩ := hv.open_
 obtain ⟨A1,c1,rfl,-⟩ := hl.open_
 unfold Loads19Post
 generalize gridE nameB l at_ = ge at *
 generalize giveB nameB l at_ = gb at *
 generalize borneE l at_ = be at *
 clear hv hl hn
 cases gb with
 | false =>
  obtain rfl : ge = 1 := HE.out
  go_enter Tryz.func78,Tryz.ntmps78
  go_wp2_with (go_at_call 114;refine hgv.mono ?_;rintro e w2 ⟨rfl,hb2⟩)
  go_ret2
  exact ⟨hb2,.inr ⟨by decide,rfl⟩⟩
 | true =>
  obtain rfl : ge = be := HE.out
  replace HBo := Lib.hid fun W hb => HBo.out W hb rfl
  go_enter Tryz.func78,Tryz.ntmps78
  go_wp2_with (first | (go_at_call 114;refine hgv.mono ?_;rintro e w2 ⟨rfl,hb2⟩) | (go_at_call 115;refine (HBo.out _ hb2).mono ?_;rintro e w3 ⟨A3,n3,c3,rfl,hb3,hF3⟩))
  go_ret2
  refine ⟨hb2.trans (hb3.mono hb2.size),?_⟩
  rcases hF3 with ⟨h0,hF⟩ | ⟨h0,rfl,rfl,rfl⟩
  ·subst h0
   exact .inl ⟨rfl,_,rfl,hF⟩
  ·exact .inr ⟨h0,rfl⟩
end Go.Proofs.YtknkhnahflmjiaaGreatDoor
