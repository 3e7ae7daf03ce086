/- Parts of the proof, laid into one text: LimQ, LimR, GridF. -/
import Derived.BigQuiet
import Derived.Deep.AppendLies
import Derived.Deep.DeepCutAuto
import Derived.Deep.Draws
import Derived.Deep.LoopGhost
import Derived.Deep.QuietTactic
import Derived.Deep.RegionHeld3
import Derived.Deep.RegionLaw
import Derived.IntWalk
import Derived.Laws.AppendOwnNone
import Derived.Laws.Bits64b
import Derived.Laws.CopyOwn
import Derived.Laws.CopyRow
import Derived.Lib.Hide
import Derived.Lib.ItoaNum
import Derived.LoopIn
import Derived.LoopNIn
import Derived.Maps.AppendAt
import Derived.Maps.Own
import Derived.Maps.OwnOps
import Derived.Maps.OwnSet
import Derived.Maps.Views
import Derived.Outline
import Derived.OwnWalkIn
import Derived.PlainAid
import Derived.RangeFuncBox
import Derived.RangeFuncLeaves
import Derived.Shelf.Abstract
import Derived.Shelf.Bits.Mul64
import Derived.Shelf.Small.Bits
import Derived.Shelf.Spec.BitsCarry
import Derived.Shelf.Spec.SlicesGrow
import Derived.Shelf.Strconv.Itoa3
import Derived.StillTail
import Derived.StillTailTactics
import Derived.TacticsInMore
import Derived.Test.YtknkhnahflmjiaaGreatDoorB1
import Derived.Test.YtknkhnahflmjiaaGreatDoorE1
import Derived.Test.YtknkhnahflmjiaaGreatDoorE2
import Derived.Test.YtknkhnahflmjiaaGreatDoorE3
import Derived.Test.YtknkhnahflmjiaaGreatDoorE4
import Derived.Test.YtknkhnahflmjiaaGreatDoorE5
import Derived.Test.YtknkhnahflmjiaaGreatDoorE6
import Derived.Test.YtknkhnahflmjiaaGreatDoorE7
import Derived.Test.YtknkhnahflmjiaaGreatDoorF1
import Derived.Test.YtknkhnahflmjiaaGreatDoorF2
import Derived.Test.YtknkhnahflmjiaaGreatDoorF3
import Derived.Test.YtknkhnahflmjiaaGreatDoorF4
import Derived.Test.YtknkhnahflmjiaaGreatDoorH1
import Derived.Test.YtknkhnahflmjiaaGreatDoorH2
import Derived.Test.YtknkhnahflmjiaaGreatDoorH3
import Derived.Test.YtknkhnahflmjiaaGreatDoorH4
import Derived.Test.YtknkhnahflmjiaaGreatDoorH5
import Derived.Test.YtknkhnahflmjiaaGreatDoorH6
import Derived.Test.YtknkhnahflmjiaaGreatDoorH7
import Derived.Test.YtknkhnahflmjiaaGreatDoorP1
import Derived.Test.YtknkhnahflmjiaaGreatDoorP2
import Derived.Test.YtknkhnahflmjiaaGreatDoorP3
import Derived.Test.YtknkhnahflmjiaaGreatDoorProg
import Derived.WalkKit
import Derived.WalkLawsBesides
import Derived.WalkSpells

namespace Go.Proofs.YtknkhnahflmjiaaGreatDoor
open Go.RowKit Go.Shelf
def hitsR (f : FrT) (l : List RoofT) (L : List FrT) : Nat → List FindT
 | 0 => []
 | k + 1 => hitsR f l L k ++ (match l[k]?,L[k]? with
  | some r,some a => if over23 r.most f a = true then [⟨3,r.name⟩] else []
  | _,_ => [])
theorem hitsR_yes {f : FrT} {l : List RoofT} {L : List FrT} {k : Nat} (hk : k < l.length) (hL : k < L.length) (h : over23 l[k].most f L[k] = true) : hitsR f l L (k + 1) = hitsR f l L k ++ [⟨3,l[k].name⟩] := by
 rw [hitsR,List.getElem?_eq_getElem hk,List.getElem?_eq_getElem hL]
 dsimp only
 rw [if_pos h]
theorem hitsR_no {f : FrT} {l : List RoofT} {L : List FrT} {k : Nat} (hk : k < l.length) (hL : k < L.length) (h : over23 l[k].most f L[k] = false) : hitsR f l L (k + 1) = hitsR f l L k := by
 rw [hitsR,List.getElem?_eq_getElem hk,List.getElem?_eq_getElem hL]
 dsimp only
 rw [if_neg (by rw [h];decide),List.append_nil]
theorem hitsR_len {f : FrT} {l : List RoofT} {L : List FrT} : ∀ k,(hitsR f l L k).length ≤ k
 | 0 => Nat.le_refl _
 | k + 1 => by
  have := hitsR_len (f := f) (l := l) (L := L) k
  rw [hitsR,List.length_append]
  split
  ·split <;> simp <;> omega
  ·simp;omega
def findsR (f : FrT) (l : List RoofT) (at_ : List LoadT) : List FindT := hitsR f l (borneL l at_) l.length
def roofsE (l : List RoofT) (at_ : List LoadT) (f : FrT) : Int := if gridE nameB l at_ = 1 then 1 else if facE f ≠ 0 then facE f else if gridE nameB l at_ ≠ 0 then gridE nameB l at_ else if fits23 f (borneL l at_) = true then 0 else 5
theorem grid_ok {l : List RoofT} {at_ : List LoadT} (h : gridE nameB l at_ = 0) : (∀ x ∈ l,0 ≤ x.most ∧ x.most ≤ 67108864) ∧ l.length ≤ 20 ∧ ∀ a ∈ borneL l at_,frGood a = true := by
 unfold gridE at h
 split at h
 ·rename_i hg
  unfold giveB at hg
  rw [Bool.and_eq_true] at hg
  have h1 := roofs_ok hg.1
  refine ⟨fun x hx => ⟨(h1.2 x hx).1.most0,(h1.2 x hx).1.most1⟩,h1.1,fun a ha => ?_⟩
  unfold borneL at ha
  obtain ⟨r,hr,rfl⟩ := List.mem_map.1 ha
  exact good_q ((borne_ok h).2 r hr)
 ·exact absurd h (by decide)
end Go.Proofs.YtknkhnahflmjiaaGreatDoor

namespace Go.Proofs.YtknkhnahflmjiaaGreatDoor
open Go.RowKit Go.Shelf
def RoofsPost (l : List RoofT) (at_ : List LoadT) (f : FrT) (w : World) (e : Ending) (w' : World) : Prop :=
 Below w.heap.size w w' ∧ ((roofsE l at_ f = 0 ∧ ∃ v,e = .returned (.tuple #[v,.int .i64 0]) ∧ FindsAt w' w'.heap.size v (findsR f l at_)) ∨ (roofsE l at_ f ≠ 0 ∧ e = .returned (.tuple #[.slice none 0 0,.int .i64 (roofsE l at_ f)])))
theorem Loads19Post.uni {l : List RoofT} {at_ : List LoadT} {w w' : World} {e : Ending} (h : Loads19Post l at_ w e w') : ∃ A n c,e = .returned (.tuple #[.slice A n c,.int .i64 (gridE nameB l at_)]) ∧ Below w.heap.size w w' ∧ (gridE nameB l at_ = 0 → FrsAt w' w'.heap.size (.slice A n c) (borneL l at_)) := by
 obtain ⟨hb,⟨h0,v,rfl,hF⟩ | ⟨h0,rfl⟩⟩ := h
 ·obtain ⟨A,c,rfl,-⟩ := hF.open_
  exact ⟨A,_,c,by rw [h0],hb,fun _ => hF⟩
 ·exact ⟨none,0,0,rfl,hb,fun h => absurd h h0⟩
set_option maxRecDepth 100000 in
set_option maxHeartbeats 4000000 in
theorem lmRoofs (v v1 : Value) (l : List RoofT) (at_ : List LoadT) (f : FrT) (w : World) (hv : RoofsAt w w.heap.size v l) (hn : ∀ x ∈ l,x.name.size ≤ maxLen) (hl : LoadsAt w w.heap.size v1 at_) :
  Calls Tryz.prog 34 #[v,v1,f.val] w (RoofsPost l at_ f w) := by
 have HLd := Lib.hid fun W (hb : Below w.heap.size w W) => (gdLoads v v1 l at_ W (hv.grow hb) hn ((hl.below hb (Nat.le_refl _)).mono hb.size)).mono fun _ _ h => h.uni
 have HIf := Lib.hid fun W => lmIsFactor f W
 obtain ⟨A,c,rfl,-,hc2,hcell⟩ := hv.open_
 obtain ⟨A1,c1,rfl,-⟩ := hl.open_
 unfold maxLen at hc2
 have HC := Lib.hid hcell
 have HR1 : Hid (gridE nameB l at_ = 1 → roofsE l at_ f = 1) := fun h => if_pos h
 have HR2 : Hid (gridE nameB l at_ ≠ 1 → facE f ≠ 0 → roofsE l at_ f = facE f) := fun h h2 => (if_neg h).trans (if_pos h2)
 have HR3 : Hid (gridE nameB l at_ ≠ 1 → facE f = 0 → gridE nameB l at_ ≠ 0 → roofsE l at_ f = gridE nameB l at_) := fun h h2 h3 => (if_neg h).trans ((if_neg (not_not_intro h2)).trans (if_pos h3))
 have HR4 : Hid (facE f = 0 → gridE nameB l at_ = 0 → roofsE l at_ f = if fits23 f (borneL l at_) = true then 0 else 5) := fun h2 h3 => (if_neg (by rw [h3];decide)).trans ((if_neg (not_not_intro h2)).trans (if_neg (not_not_intro h3)))
 have HGk := Lib.hid (grid_ok (l := l) (at_ := at_))
 have HFI : Hid (facE f = 0 → frGood f = true ∧ f.den ≤ f.num ∧ f.num ≤ 100 ∧ f.den ≤ 100) := fac23
 have HFd : Hid (findsR f l at_ = hitsR f l (borneL l at_) l.length) := rfl
 have hbl := borneL_len l at_
 unfold RoofsPost
 obtain ⟨fn,fd⟩ := f
 have D5 := Lib.hid (Blk.new w 23 #[.int .i64 fn,.int .i64 fd])
 have HB := Lib.hid ((Below.refl w.heap.size w).alloc (Nat.le_refl _) (.cells #[.int .i64 fn,.int .i64 fd] 23))
 generalize roofsE l at_ ⟨fn,fd⟩ = re at *
 generalize gridE nameB l at_ = ge at *
 generalize borneL l at_ = L at *
 generalize findsR ⟨fn,fd⟩ l at_ = FL at *
 clear hv hl hcell hn
 go_enter Tryz.func34,Tryz.ntmps34
 go_upto_region 1 with fail
 generalize w.alloc (.cells #[.int .i64 fn,.int .i64 fd] 23) = W1 at *
 have hld := HLd.out _ HB.out
 go_upto_region 2 with (first | (go_at_call 78;refine hld.mono ?_;rintro e w2 ⟨A2,n2,c2,rfl,hb2,hF2⟩))
 have HF2 := Lib.hid hF2
 have HB2 := Lib.hid (HB.out.trans (hb2.mono HB.out.size))
 have D5 := Lib.hid (D5.out.below hb2 D5.out.lt)
 clear hld HLd hF2 hb2 HB
 by_cases h1 : ge = 1
 ·subst h1
  obtain rfl : re = 1 := HR1.out (by first | rfl | trivial)
  clear HR1 HR2 HR3 HR4 HGk HFI HFd HF2 D5
  go_wp2_with fail
  go_ret2
  exact ⟨HB2.out,.inr ⟨by decide,rfl⟩⟩
 have e1 : (ge == 1) = false := beq_eq_false_iff_ne.2 h1
 have e5 := D5.out.cell 0
 have e6 := D5.out.cell 1
 simp only [List.getElem?_toArray,List.getElem?_cons_succ,List.getElem?_cons_zero] at e5 e6
 replace HR2 := Lib.hid (HR2.out h1)
 replace HR3 := Lib.hid (HR3.out h1)
 clear HR1 h1
 go_upto_region 5 with (first | (go_at_call 79;refine (HIf.out _).mono ?_;rintro e w3 ⟨rfl,hb3⟩))
 have HB3 := Lib.hid (HB2.out.trans (hb3.mono HB2.out.size))
 have D5 := Lib.hid (D5.out.below hb3 D5.out.lt)
 have HF3 := Lib.hid fun h => (FrsAt.below (HF2.out h) hb3 (Nat.le_refl _)).mono hb3.size
 clear hb3 HIf HF2 HB2 e5 e6 e1
 by_cases hf : facE ⟨fn,fd⟩ = 0
 rotate_left
 ·have g0 : (facE ⟨fn,fd⟩ != 0) = true := bne_iff_ne.2 hf
  have HE : Hid (re = facE ⟨fn,fd⟩) := HR2.out hf
  have Hne := Lib.hid hf
  clear HR2 HR3 HR4 HFI hf
  generalize facE ⟨fn,fd⟩ = fe at *
  go_wp2_with fail
  go_ret2
  exact ⟨HB3.out,.inr ⟨by rw [HE.out];exact Hne.out,by rw [HE.out];rfl⟩⟩
 obtain ⟨hgood,-⟩ := HFI.out hf
 replace HR3 := Lib.hid (HR3.out hf)
 replace HR4 := Lib.hid (HR4.out hf)
 clear HR2
 rw [hf] at *
 clear HFI hf
 by_cases hg : ge = 0
 rotate_left
 ·have g0 : (ge != 0) = true := bne_iff_ne.2 hg
  obtain rfl : re = ge := HR3.out hg
  have Hne := Lib.hid hg
  clear HR3 HR4 hg
  go_wp2_with fail
  go_ret2
  exact ⟨HB3.out,.inr ⟨Hne.out,rfl⟩⟩
 subst hg
 have HCF : Hid (re = if fits23 ⟨fn,fd⟩ L = true then 0 else 5) := HR4.out (by first | rfl | trivial)
 clear HR3 HR4
 obtain ⟨hmost,hl20,hlg⟩ := HGk.out rfl
 have hF := HF3.out rfl
 obtain ⟨A3,c3,e3,-,hc3,hcl⟩ := hF.open_
 injection e3 with e3 e4 e5
 subst e3 e4 e5
 have HCL := Lib.hid hcl
 unfold maxLen at hc3
 have HLG := Lib.hid hlg
 have HMo := Lib.hid hmost
 have HOv := Lib.hid fun a m mo W (h : frGood a = true) (hm : 0 ≤ mo ∧ mo ≤ 67108864) (hC : Blk W w3.heap.size 98 #[.int .i64 fn,.int .i64 fd,.int .i64 m]) => lmOver a ⟨fn,fd⟩ mo w3.heap.size m W h hgood hm hC
 have HEA : Hid (erTo ⟨fn,fd⟩ L L.length = if fits23 ⟨fn,fd⟩ L = true then 0 else 5) := erTo_all
 have HEZ : Hid (∀ k (hk : k < L.length),erTo ⟨fn,fd⟩ L (k + 1) = if fracOk (qOf L[k] * qOf ⟨fn,fd⟩) = true then erTo ⟨fn,fd⟩ L k else 5) := fun k hk => erTo_step hk
 have HE0 : Hid (erTo ⟨fn,fd⟩ L 0 = 0) := erTo_zero
 have e5 := D5.out.cell 0
 have e6 := D5.out.cell 1
 simp only [List.getElem?_toArray,List.getElem?_cons_succ,List.getElem?_cons_zero] at e5 e6
 have HS0 : Hid (ChkS w3 (w3.alloc (.cells #[.int .i64 fn,.int .i64 fd,.int .i64 0] 98)) w3.heap.size fn fd (erTo ⟨fn,fd⟩ L 0) (.slice none 0 0) (.slice none 0 0) (hitsR ⟨fn,fd⟩ l L 0) []) := by
  rw [HE0.out]
  exact ⟨(Below.refl _ _).alloc (Nat.le_refl _) _,Blk.new _ _ _,Nat.le_refl _,World.ownsRow_nil _ _ _ _,World.ownsRow_nil _ _ _ _,(by simp [Value.ownBlock]),(by simp [Value.ownBlock]),fun k e => by simp [Value.ownBlock] at e⟩
 obtain ⟨iF,hiF,hzF0,hzF1,hzF2⟩ := info_parts info_find
 have Hbl := Lib.hid hbl
 have Hl20 := Lib.hid hl20
 have hLk : (L.length : Int) = (l.length : Int) := by rw [hbl]
 clear HGk HF3 hF hcl hlg hmost hgood HE0 hbl hl20
 go_upto_region 11 with fail
 generalize w3.alloc (.cells #[.int .i64 fn,.int .i64 fd,.int .i64 0] 98) = W3 at *
 clear e5 e6
 go_wp2_with fail
 go_loopw [37,12] (fun ix u wr => ∃ (k : Nat) (ov : Value),k ≤ L.length ∧ ix = .int .i64 k ∧ ov = u ∧ Hid (ChkS w3 wr w3.heap.size fn fd (erTo ⟨fn,fd⟩ L k) ov (.slice none 0 0) (hitsR ⟨fn,fd⟩ l L k) [])) (fun ix _ _ => L.length - (intOf ix).toNat)
 case atStart => exact ⟨0,_,Nat.zero_le _,rfl,rfl,HS0⟩
 case round =>
  clear HS0
  obtain ⟨k,ov,hk,rfl,rfl,HT⟩ := hrel
  have k0 : (0 : Int) ≤ (k : Int) := Int.natCast_nonneg _
  have hn1 := hitsR_len (f := ⟨fn,fd⟩) (l := l) (L := L) k
  by_cases hkl : k < L.length
  ·have k1 : (k : Int) < (L.length : Int) := by omega
   have hkr : k < l.length := by have := Hbl.out;omega
   have hk100 : k + 1 < 100 := by have := Hl20.out;omega
   have k2 : (k : Int) < (l.length : Int) := by omega
   obtain ⟨b1,o1,rfl,hb1,hx⟩ := HCL.out k hkl
   have y0 := (HT.out.bel.cell (p := ⟨b1,o1 + k * 2,none⟩) hb1).trans (hx k hkl).1
   have y1 := (HT.out.bel.cell (p := ⟨b1,o1 + k * 2 + 1,none⟩) hb1).trans (hx k hkl).2
   obtain ⟨b2,o2,rfl,hb2,hx2⟩ := HC.out k hkr
   obtain ⟨x0,-,-,x3⟩ := hx2 k hkr
   have x0 := ((HB3.out.trans (HT.out.bel.mono HB3.out.size)).cell (p := ⟨b2,o2 + k * 4,none⟩) hb2).trans x0
   have x3 := ((HB3.out.trans (HT.out.bel.mono HB3.out.size)).cell (p := ⟨b2,o2 + k * 4 + 3,none⟩) hb2).trans x3
   have HY1 := Lib.hid fun h => hitsR_yes (f := ⟨fn,fd⟩) hkr hkl h
   have HN1 := Lib.hid fun h => hitsR_no (f := ⟨fn,fd⟩) hkr hkl h
   have hes := HEZ.out k hkl
   have hgo := HLG.out _ (List.getElem_mem hkl)
   have hmo := HMo.out _ (List.getElem_mem hkr)
   clear hx hx2
   have HA := Lib.hid (HT.out.grow ((Below.refl _ wr).alloc (Nat.le_refl _) (.cells #[.int .i64 L[k].num,.int .i64 L[k].den] 23)))
   have HX := Lib.hid (Blk.new wr 23 #[.int .i64 L[k].num,.int .i64 L[k].den])
   have HBl := Lib.hid ((Below.refl wr.heap.size wr).alloc (Nat.le_refl _) (.cells #[.int .i64 L[k].num,.int .i64 L[k].den] 23))
   have hov := HOv.out L[k] (erTo ⟨fn,fd⟩ L k) l[k].most _ hgo hmo (HA.out.grow ((Below.refl _ _).drew)).chk
   obtain ⟨o1b,ho1⟩ : ∃ b,over23 l[k].most ⟨fn,fd⟩ L[k] = b := ⟨_,rfl⟩
   rw [ho1] at hov
   go_upto_region 14 with fail
   have hbo : ov.ownBlock ≠ some wr.heap.size := fun e => Nat.lt_irrefl _ (HT.out.rowO.lt _ e).2
   have hbg : wr.heap.size ≠ w3.heap.size := fun e => Nat.lt_irrefl _ (e ▸ HT.out.chk.lt)
   have xl := (cell_ltG x0)
   have x0 := (HBl.out.cell (p := ⟨b2,o2 + k * 4,none⟩) xl).trans x0
   have x3 := (HBl.out.cell (p := ⟨b2,o2 + k * 4 + 3,none⟩) xl).trans x3
   clear y0 y1 HT hgo HBl xl
   generalize wr.alloc (.cells #[.int .i64 L[k].num,.int .i64 L[k].den] 23) = W4 at *
   generalize wr.heap.size = bx at *
   obtain ⟨num,hnum⟩ : ∃ num,(L[k]'hkl).num = num := ⟨_,rfl⟩
   obtain ⟨den,hden⟩ : ∃ den,(L[k]'hkl).den = den := ⟨_,rfl⟩
   have hav : (L[k]'hkl).val = .agg #[.int .i64 num,.int .i64 den] := by rw [← hnum,← hden]
   obtain ⟨nm,hnm⟩ : ∃ nm,(l[k]'hkr).name = nm := ⟨_,rfl⟩
   obtain ⟨mo,hmo2⟩ : ∃ mo,(l[k]'hkr).most = mo := ⟨_,rfl⟩
   rw [hav,hmo2] at hov
   rw [hnum,hden] at HX
   rw [hnm] at x0 HY1
   rw [hmo2] at x3
   have z0 := ((HX.out.below ((Below.refl _ W4).drew) HX.out.lt).cell 0)
   have z1 := ((HX.out.below ((Below.refl _ W4).drew) HX.out.lt).cell 1)
   simp only [List.getElem?_toArray,List.getElem?_cons_succ,List.getElem?_cons_zero] at z0 z1
   have x3' : W4.drew.cell? ⟨b2,o2 + k * 4 + 3,none⟩ = some (.int .i64 mo) := x3
   have HA2 := Lib.hid (HA.out.grow ((Below.refl _ W4).drew))
   have HX2 := Lib.hid (HX.out.below ((Below.refl _ W4).drew) HX.out.lt)
   have hxn := cell_ltG x0
   generalize fracOk (qOf L[k] * qOf ⟨fn,fd⟩) = ok at *
   clear hnum hden hav hnm hmo2 hmo
   cases o1b with
   | false =>
    refine wp_region_po (fun i => ([.pointer (some ⟨w3.heap.size,0,none⟩),.agg #[.int .i64 num,.int .i64 den],.slice (some ⟨b2,o2,none⟩) l.length c,.int .i64 (k : Int),.pointer (some ⟨b2,o2 + k * 4,none⟩),.pointer (some ⟨b2,o2 + k * 4 + 3,none⟩),.int .i64 mo,.bool false] : List Value).getD i undef) [7] (by kernel_rfl) (by kernel_rfl) (by kernel_rfl) (by decide) ?_
    refine poJ_step (L := [7]) rfl (by decide) ?_ ?_
    ·simp only [putAll,Act.put,List.setIfInBounds_toArray,List.set_cons_zero,List.set_cons_succ,readsQ]
     refine ⟨?_,?_,?_,?_,?_,?_,?_,?_,trivial⟩
     all_goals first
      | exact .inl rfl
      | exact .inr (.inl (by decide +kernel))
      | (refine .inr (.inr ?_);go_simp;done)
    intro i o hi hr ho
    simp only [List.mem_cons,List.not_mem_nil,or_false] at hi
    subst hi
    obtain rfl := Option.some.inj ho
    clear hr ho
    refine .inr (.inr ⟨63,#[.pointer (some ⟨w3.heap.size,0,none⟩),.agg #[.int .i64 num,.int .i64 den],.int .i64 mo],by simp only [putAll,Act.put,List.setIfInBounds_toArray,List.set_cons_zero,List.set_cons_succ,];go_simp,?_⟩)
    refine (hov).mono ?_
    rintro e w5 ⟨rfl,w4,hb4,rfl⟩
    refine ⟨_,fun i => ([.pointer (some ⟨w3.heap.size,0,none⟩),.agg #[.int .i64 num,.int .i64 den],.slice (some ⟨b2,o2,none⟩) l.length c,.int .i64 (k : Int),.pointer (some ⟨b2,o2 + k * 4,none⟩),.pointer (some ⟨b2,o2 + k * 4 + 3,none⟩),.int .i64 mo,.bool false] : List Value).getD i undef,rfl,agreeL_all (by refine ⟨?_,?_,?_,?_,?_,?_,?_,?_,trivial⟩ <;> first | exact .inl rfl | exact .inr (.inr rfl) | exact .inr (.inl (by decide +kernel))),rfl,?_⟩
    refine poJ_end rfl ?_ ?_
    ·simp only [putAll,Act.put,List.setIfInBounds_toArray,List.set_cons_zero,List.set_cons_succ,readsQ]
     refine ⟨?_,?_,?_,?_,?_,?_,?_,?_,trivial⟩
     all_goals first
      | exact .inl rfl
      | exact .inr (.inl (by decide +kernel))
      | (refine .inr (.inr ?_);go_simp;done)
    simp only [putAll,Act.put,List.setIfInBounds_toArray,List.set_cons_zero,List.set_cons_succ,]
    have HT := Lib.hid (errW_step (ok := ok) HA2.out hb4)
    rw [← hes] at HT
    have HX := Lib.hid ((HX2.out.below hb4 HX2.out.lt).errW (ok := ok) hbg)
    have x05 : (errW ok w3.heap.size w4).cell? ⟨b2,o2 + k * 4,none⟩ = some (.string nm) := by
     have h1 := (hb4.cell (p := ⟨b2,o2 + k * 4,none⟩) hxn).trans x0
     cases ok with
     | true => exact h1
     | false =>
      have hne : b2 ≠ w3.heap.size := by have := HB3.out.size;omega
      exact (World.cell?_setCell_other _ _ _ _ (by intro e;injection e with e;exact hne e.symm)).trans h1
    generalize errW ok w3.heap.size w4 = w5 at *
    clear hb4 HA HA2 HX2 x0 x3 x3' z0 z1 hov
    have hno := HN1.out ho1
    rw [← hno] at HT
    go_wp2_with fail
    go_roundw
    case rel => exact ⟨k + 1,_,by omega,by go_num,rfl,HT⟩
    case measure => simp [intOf];omega
   | true =>
    refine wp_region_po (fun i => ([.pointer (some ⟨w3.heap.size,0,none⟩),.agg #[.int .i64 num,.int .i64 den],.slice (some ⟨b2,o2,none⟩) l.length c,.int .i64 (k : Int),.pointer (some ⟨b2,o2 + k * 4,none⟩),.pointer (some ⟨b2,o2 + k * 4 + 3,none⟩),.int .i64 mo,.bool true] : List Value).getD i undef) [7] (by kernel_rfl) (by kernel_rfl) (by kernel_rfl) (by decide) ?_
    refine poJ_step (L := [7]) rfl (by decide) ?_ ?_
    ·simp only [putAll,Act.put,List.setIfInBounds_toArray,List.set_cons_zero,List.set_cons_succ,readsQ]
     refine ⟨?_,?_,?_,?_,?_,?_,?_,?_,trivial⟩
     all_goals first
      | exact .inl rfl
      | exact .inr (.inl (by decide +kernel))
      | (refine .inr (.inr ?_);go_simp;done)
    intro i o hi hr ho
    simp only [List.mem_cons,List.not_mem_nil,or_false] at hi
    subst hi
    obtain rfl := Option.some.inj ho
    clear hr ho
    refine .inr (.inr ⟨63,#[.pointer (some ⟨w3.heap.size,0,none⟩),.agg #[.int .i64 num,.int .i64 den],.int .i64 mo],by simp only [putAll,Act.put,List.setIfInBounds_toArray,List.set_cons_zero,List.set_cons_succ,];go_simp,?_⟩)
    refine (hov).mono ?_
    rintro e w5 ⟨rfl,w4,hb4,rfl⟩
    refine ⟨_,fun i => ([.pointer (some ⟨w3.heap.size,0,none⟩),.agg #[.int .i64 num,.int .i64 den],.slice (some ⟨b2,o2,none⟩) l.length c,.int .i64 (k : Int),.pointer (some ⟨b2,o2 + k * 4,none⟩),.pointer (some ⟨b2,o2 + k * 4 + 3,none⟩),.int .i64 mo,.bool true] : List Value).getD i undef,rfl,agreeL_all (by refine ⟨?_,?_,?_,?_,?_,?_,?_,?_,trivial⟩ <;> first | exact .inl rfl | exact .inr (.inr rfl) | exact .inr (.inl (by decide +kernel))),rfl,?_⟩
    refine poJ_end rfl ?_ ?_
    ·simp only [putAll,Act.put,List.setIfInBounds_toArray,List.set_cons_zero,List.set_cons_succ,readsQ]
     refine ⟨?_,?_,?_,?_,?_,?_,?_,?_,trivial⟩
     all_goals first
      | exact .inl rfl
      | exact .inr (.inl (by decide +kernel))
      | (refine .inr (.inr ?_);go_simp;done)
    simp only [putAll,Act.put,List.setIfInBounds_toArray,List.set_cons_zero,List.set_cons_succ,]
    have HT := Lib.hid (errW_step (ok := ok) HA2.out hb4)
    rw [← hes] at HT
    have HX := Lib.hid ((HX2.out.below hb4 HX2.out.lt).errW (ok := ok) hbg)
    have x05 : (errW ok w3.heap.size w4).cell? ⟨b2,o2 + k * 4,none⟩ = some (.string nm) := by
     have h1 := (hb4.cell (p := ⟨b2,o2 + k * 4,none⟩) hxn).trans x0
     cases ok with
     | true => exact h1
     | false =>
      have hne : b2 ≠ w3.heap.size := by have := HB3.out.size;omega
      exact (World.cell?_setCell_other _ _ _ _ (by intro e;injection e with e;exact hne e.symm)).trans h1
    generalize errW ok w3.heap.size w4 = w5 at *
    clear hb4 HA HA2 HX2 x0 x3 x3' z0 z1 hov
    have hye := HY1.out ho1
    have HT := Lib.hid (HT.out.grow ((Below.refl _ w5).alloc (Nat.le_refl _) (.cells #[.int .i64 3,.string nm] 49)))
    have Hnew := Lib.hid (World.news_of_block (Blk.new w5 49 #[.int .i64 3,.string nm]))
    have hsz := HT.out.bel.size
    have hl20 := Hl20.out
    have hbl2 := Hbl.out
    go_wp2_with (at_builtin;refine wpList_append_own_at _ rfl _ _ 39 rfl w3.heap.size 49 iF (.agg #[.int .i64 0,.string ⟨#[]⟩]) 2 24 Tryz.underlying39 hiF hzF0 hzF1 hzF2 rfl (by decide) _ _ _ rfl HT.out.rowO ⟨w5.heap.size,0,none⟩ 1 1 [.int .i64 3,.string nm] rfl rfl Hnew.out (by simp [Value.oneCell']) (by unfold maxLen;omega) (by omega) hsz ?_;intro v8 w8 hown8 hgrow8 _ hat8;have HT := Lib.hid (HT.out.pushO (y := ⟨3,nm⟩) hown8 hgrow8 hat8);clear hown8 hgrow8 hat8)
    go_roundw
    case rel => exact ⟨v8,_,_,_,⟨k + 1,by omega,rfl,by rw [hye];exact HT⟩,rfl,rfl,rfl,by go_num⟩
    case measure => simp [intOf];omega
  ·obtain rfl : k = L.length := by omega
   have HT := HT
   rw [HEA.out] at HT
   have c2 := HT.out.chk.cell 2
   simp only [List.getElem?_toArray,List.getElem?_cons_succ,List.getElem?_cons_zero] at c2
   by_cases hfit : fits23 ⟨fn,fd⟩ L = true
   ·rw [if_pos hfit] at HT c2
    have HRe : Hid (re = 0) := by unfold Hid;rw [HCF.out,if_pos hfit]
    obtain ⟨Ao,co,hov,-⟩ := Flat.of_own HT.out.rowO
    subst hov
    have HBz := Lib.hid (HB3.out.trans (HT.out.bel.mono HB3.out.size))
    have HFn : Hid (FL = hitsR ⟨fn,fd⟩ l L L.length) := by unfold Hid;rw [HFd.out,Hbl.out]
    have HRow := Lib.hid (Flat.of_own HT.out.rowO)
    generalize hitsR ⟨fn,fd⟩ l L L.length = F1 at *
    obtain ⟨N1,hN1⟩ : ∃ N1,F1.length = N1 := ⟨_,rfl⟩
    have HN1 := Lib.hid hN1
    rw [hN1]
    clear hfit hN1 HFd
    go_wp2_with fail
    go_ret2
    exact ⟨HBz.out,.inl ⟨HRe.out,_,rfl,by rw [HFn.out];have := HRow.out;rw [HN1.out] at this;unfold FindsAt;rw [HN1.out];exact this⟩⟩
   ·rw [if_neg hfit] at HT c2
    obtain rfl : re = 5 := by rw [HCF.out,if_neg hfit]
    have HBz := Lib.hid (HB3.out.trans (HT.out.bel.mono HB3.out.size))
    clear hfit
    go_wp2_with (exact Go.WalkKit.wp_stop)
    go_quiet (fail)
    go_wp2_with fail
    go_ret2
    exact ⟨below_drewN HBz.out _,.inr ⟨by decide,rfl⟩⟩
end Go.Proofs.YtknkhnahflmjiaaGreatDoor

namespace Go.Proofs.YtknkhnahflmjiaaGreatDoor
open Go.RowKit Go.Shelf
def heavyB (r : RoofT) (a : FrT) : Bool := decide (0 < cmpF a ⟨r.most,1⟩)
def hitsO (l : List RoofT) (L : List FrT) : Nat → List FindT
 | 0 => []
 | k + 1 => hitsO l L k ++ (match l[k]?,L[k]? with
  | some r,some a => if heavyB r a = true then [⟨1,r.name⟩] else []
  | _,_ => [])
theorem hitsO_yes {l : List RoofT} {L : List FrT} {k : Nat} (hk : k < l.length) (hL : k < L.length) (h : heavyB l[k] L[k] = true) : hitsO l L (k + 1) = hitsO l L k ++ [⟨1,l[k].name⟩] := by
 rw [hitsO,List.getElem?_eq_getElem hk,List.getElem?_eq_getElem hL]
 dsimp only
 rw [if_pos h]
theorem hitsO_no {l : List RoofT} {L : List FrT} {k : Nat} (hk : k < l.length) (hL : k < L.length) (h : heavyB l[k] L[k] = false) : hitsO l L (k + 1) = hitsO l L k := by
 rw [hitsO,List.getElem?_eq_getElem hk,List.getElem?_eq_getElem hL]
 dsimp only
 rw [if_neg (by rw [h];decide),List.append_nil]
theorem hitsO_len {l : List RoofT} {L : List FrT} : ∀ k,(hitsO l L k).length ≤ k
 | 0 => Nat.le_refl _
 | k + 1 => by
  have := hitsO_len (l := l) (L := L) k
  rw [hitsO,List.length_append]
  split
  ·split <;> simp <;> omega
  ·simp;omega
def findsO (l : List RoofT) (at_ : List LoadT) : List FindT := hitsO l (borneL l at_) l.length
def OverPost (l : List RoofT) (at_ : List LoadT) (w : World) (e : Ending) (w' : World) : Prop :=
 Below w.heap.size w w' ∧ ((gridE nameB l at_ = 0 ∧ ∃ v,e = .returned (.tuple #[v,.int .i64 0]) ∧ FindsAt w' w'.heap.size v (findsO l at_)) ∨ (gridE nameB l at_ ≠ 0 ∧ e = .returned (.tuple #[.slice none 0 0,.int .i64 (gridE nameB l at_)])))
set_option maxRecDepth 100000 in
set_option maxHeartbeats 4000000 in
theorem gdOverF (v v1 : Value) (l : List RoofT) (at_ : List LoadT) (w : World) (hv : RoofsAt w w.heap.size v l) (hn : ∀ x ∈ l,x.name.size ≤ maxLen) (hl : LoadsAt w w.heap.size v1 at_) :
  Calls Tryz.prog 39 #[v,v1] w (OverPost l at_ w) := by
 have hld := (gdLoads v v1 l at_ w hv hn hl).mono fun _ _ h => h.uni
 obtain ⟨A,c,rfl,-,hc2,hcell⟩ := hv.open_
 obtain ⟨A1,c1,rfl,-⟩ := hl.open_
 unfold maxLen at hc2
 have HC := Lib.hid hcell
 have HGk := Lib.hid (grid_ok (l := l) (at_ := at_))
 have HFd : Hid (findsO l at_ = hitsO l (borneL l at_) l.length) := rfl
 have hbl := borneL_len l at_
 unfold OverPost
 generalize gridE nameB l at_ = ge at *
 generalize borneL l at_ = L at *
 generalize findsO l at_ = FL at *
 clear hv hl hcell hn
 go_enter Tryz.func39,Tryz.ntmps39
 go_upto_region 2 with (first | (go_at_call 78;refine hld.mono ?_;rintro e w5 ⟨A5,n5,c5,rfl,hb5,hF5⟩))
 have HF5 := Lib.hid hF5
 have HB5 := Lib.hid hb5
 clear hb5 hld hF5
 by_cases hz : ge = 0
 rotate_left
 ·have g0 : (ge != 0) = true := bne_iff_ne.2 hz
  have Hne := Lib.hid hz
  clear hz HGk HF5
  go_wp2_with fail
  go_ret2
  exact ⟨HB5.out,.inr ⟨Hne.out,rfl⟩⟩
 subst hz
 obtain ⟨hmost,hl20,hlg⟩ := HGk.out rfl
 have hF := HF5.out rfl
 obtain ⟨A6,c6,e3,-,hc3,hcl⟩ := hF.open_
 injection e3 with e3 e4 e5
 subst e3 e4 e5
 have HCL := Lib.hid hcl
 unfold maxLen at hc3
 have HLG := Lib.hid hlg
 have HMo := Lib.hid hmost
 have Hbl := Lib.hid hbl
 have Hl20 := Lib.hid hl20
 obtain ⟨iF,hiF,hzF0,hzF1,hzF2⟩ := info_parts info_find
 have hLk : (L.length : Int) = (l.length : Int) := by rw [hbl]
 clear HGk HF5 hF hcl hlg hmost hbl hl20
 go_wp2_with fail
 go_loopw [24,8] (fun ix u wr => ∃ (k : Nat) (ov : Value),k ≤ L.length ∧ ix = .int .i64 (k : Int) ∧ ov = u ∧ Hid (Below w5.heap.size w5 wr ∧ wr.ownsRow w5.heap.size 49 2 ov (hitsO l L k).length ((hitsO l L k).flatMap FindT.cells))) (fun ix _ _ => L.length - (intOf ix).toNat)
 case atStart => exact ⟨0,_,Nat.zero_le _,rfl,rfl,⟨Below.refl _ _,World.ownsRow_nil _ _ _ _⟩⟩
 case round =>
  obtain ⟨k,ov,hk,rfl,rfl,HT⟩ := hrel
  have k0 : (0 : Int) ≤ (k : Int) := Int.natCast_nonneg _
  have hk100 : k < 100 := by have := Hl20.out;have := Hbl.out;omega
  have hn1 := hitsO_len (l := l) (L := L) k
  by_cases hkl : k < L.length
  rotate_left
  ·obtain rfl : k = L.length := by omega
   obtain ⟨Ao,co,hov,-⟩ := Flat.of_own HT.out.2
   subst hov
   have HBz := Lib.hid (HB5.out.trans (HT.out.1.mono HB5.out.size))
   have HRow := Lib.hid (Flat.of_own HT.out.2)
   have HFn : Hid (FL = hitsO l L L.length) := by unfold Hid;rw [HFd.out,Hbl.out]
   generalize hitsO l L L.length = F1 at *
   obtain ⟨N1,hN1⟩ : ∃ N1,F1.length = N1 := ⟨_,rfl⟩
   have HN1 := Lib.hid hN1
   rw [hN1]
   clear hN1 HFd
   go_wp2_with fail
   go_ret2
   have hfin : FindsAt wr wr.heap.size (.slice Ao N1 co) FL := by rw [HFn.out];have := HRow.out;rw [HN1.out] at this;unfold FindsAt;rw [HN1.out];exact this
   first | exact ⟨HBz.out,.inl ⟨rfl,_,rfl,hfin⟩⟩ | exact ⟨HBz.out,_,rfl,hfin⟩
  have k1 : (k : Int) < (L.length : Int) := by omega
  have hkr : k < l.length := by have := Hbl.out;omega
  have k2 : (k : Int) < (l.length : Int) := by omega
  obtain ⟨b1,o1,rfl,hb1,hx⟩ := HCL.out k hkl
  have y0 := (HT.out.1.cell (p := ⟨b1,o1 + k * 2,none⟩) hb1).trans (hx k hkl).1
  have y1 := (HT.out.1.cell (p := ⟨b1,o1 + k * 2 + 1,none⟩) hb1).trans (hx k hkl).2
  obtain ⟨b2,o2,rfl,hb2,hx2⟩ := HC.out k hkr
  obtain ⟨x0,-,-,x3⟩ := hx2 k hkr
  have x0 := ((HB5.out.trans (HT.out.1.mono HB5.out.size)).cell (p := ⟨b2,o2 + k * 4,none⟩) hb2).trans x0
  have x3 := ((HB5.out.trans (HT.out.1.mono HB5.out.size)).cell (p := ⟨b2,o2 + k * 4 + 3,none⟩) hb2).trans x3
  have HY1 := Lib.hid fun h => hitsO_yes hkr hkl h
  have HN1 := Lib.hid fun h => hitsO_no hkr hkl h
  have hmo := HMo.out _ (List.getElem_mem hkr)
  have hcm := fun W => raCmp L[k] ⟨l[k].most,1⟩ W (HLG.out _ (List.getElem_mem hkl)) (good_one (by omega) (by omega)) (by show (0 : Int) ≤ l[k].most;omega)
  have HOf := Lib.hid fun W => gdOf l[k].most W
  have HBl := Lib.hid ((Below.refl wr.heap.size wr).alloc (Nat.le_refl _) (.cells #[.int .i64 L[k].num,.int .i64 L[k].den] 23))
  have HX := Lib.hid (Blk.new wr 23 #[.int .i64 L[k].num,.int .i64 L[k].den])
  have HT4 : Hid (Below w5.heap.size w5 (wr.alloc (.cells #[.int .i64 L[k].num,.int .i64 L[k].den] 23)) ∧ (wr.alloc (.cells #[.int .i64 L[k].num,.int .i64 L[k].den] 23)).ownsRow w5.heap.size 49 2 ov (hitsO l L k).length ((hitsO l L k).flatMap FindT.cells)) := ⟨HT.out.1.alloc HT.out.1.size _,HT.out.2.alloc _⟩
  go_upto_region 8 with fail
  have xl := cell_ltG x0
  have x0 := (HBl.out.cell (p := ⟨b2,o2 + k * 4,none⟩) xl).trans x0
  have x3 := (HBl.out.cell (p := ⟨b2,o2 + k * 4 + 3,none⟩) xl).trans x3
  clear y0 y1 HT HBl xl hx hx2
  generalize wr.alloc (.cells #[.int .i64 L[k].num,.int .i64 L[k].den] 23) = W4 at *
  generalize wr.heap.size = bx at *
  obtain ⟨num,hnum⟩ : ∃ num,(L[k]'hkl).num = num := ⟨_,rfl⟩
  obtain ⟨den,hden⟩ : ∃ den,(L[k]'hkl).den = den := ⟨_,rfl⟩
  have hav : (L[k]'hkl).val = .agg #[.int .i64 num,.int .i64 den] := by rw [← hnum,← hden]
  obtain ⟨nm,hnm⟩ : ∃ nm,(l[k]'hkr).name = nm := ⟨_,rfl⟩
  obtain ⟨mo,hmo2⟩ : ∃ mo,(l[k]'hkr).most = mo := ⟨_,rfl⟩
  obtain ⟨cc,hcc⟩ : ∃ z,cmpF (L[k]'hkl) ⟨(l[k]'hkr).most,1⟩ = z := ⟨_,rfl⟩
  obtain ⟨ob,hob⟩ : ∃ z,decide (0 < cc) = z := ⟨_,rfl⟩
  have hhv : heavyB l[k] L[k] = ob := by unfold heavyB;rw [hcc,hob]
  rw [hcc,hav,hmo2] at hcm
  rw [hmo2] at HOf
  rw [hnum,hden] at HX
  rw [hnm] at x0 HY1
  rw [hmo2] at x3
  rw [hhv] at HY1 HN1
  have z0 := HX.out.cell 0
  have z1 := HX.out.cell 1
  simp only [List.getElem?_toArray,List.getElem?_cons_succ,List.getElem?_cons_zero] at z0 z1
  have u0 := HeldB.cell z0
  have u1 := HeldB.cell z1
  have u2 := HeldB.cell x3
  have cO := HeldB.call (W := W4) fun w' _ => HOf.out w'
  have cC := HeldB.call (W := W4) fun w' _ => hcm w'
  have X0 := Lib.hid x0
  have hxn := cell_ltG x0
  clear hnum hden hav hnm hmo2 hcc hhv hmo x0 x3 z0 z1 HX hcm HOf
  refine wp_region_heldb (by kernel_rfl) (by kernel_rfl) ?_
  repeat (go_big_quiet_step (first | (go_at_call 83;with_reducible exact cO _) | (go_at_call 31;with_reducible exact cC _)))
  refine wpQuiet_nil ?_
  rintro w6 ⟨⟨w6',hb6⟩,rfl⟩
  have HT6 : Hid (Below w5.heap.size w5 w6 ∧ w6.ownsRow w5.heap.size 49 2 ov (hitsO l L k).length ((hitsO l L k).flatMap FindT.cells)) := ⟨HT4.out.1.trans (hb6.mono HT4.out.1.size),ownsRow_of HT4.out.2 hb6⟩
  have x06 := (hb6.cell (p := ⟨b2,o2 + k * 4,none⟩) hxn).trans X0.out
  clear u0 u1 u2 cO cC hb6 HT4 X0 hxn
  cases ob with
  | false =>
   have hno := HN1.out (by first | rfl | trivial)
   have HT7 : Hid (Below w5.heap.size w5 w6 ∧ w6.ownsRow w5.heap.size 49 2 ov (hitsO l L (k + 1)).length ((hitsO l L (k + 1)).flatMap FindT.cells)) := by rw [hno];exact HT6
   clear hno HT6 HY1 HN1
   go_wp2_with fail
   go_roundw
   case rel => exact ⟨k + 1,_,by omega,by go_num,rfl,HT7⟩
   case measure => simp [intOf];omega
  | true =>
   have hye := HY1.out (by first | rfl | trivial)
   have HT7 : Hid (Below w5.heap.size w5 (w6.alloc (.cells #[.int .i64 1,.string nm] 49)) ∧ (w6.alloc (.cells #[.int .i64 1,.string nm] 49)).ownsRow w5.heap.size 49 2 ov (hitsO l L k).length ((hitsO l L k).flatMap FindT.cells)) := ⟨HT6.out.1.alloc HT6.out.1.size _,HT6.out.2.alloc _⟩
   have Hnew := Lib.hid (World.news_of_block (Blk.new w6 49 #[.int .i64 1,.string nm]))
   have hsz := HT7.out.1.size
   clear HT6 HY1 HN1
   go_wp2_with (at_builtin;refine wpList_append_own _ rfl _ _ 39 rfl w5.heap.size 49 iF (.agg #[.int .i64 0,.string ⟨#[]⟩]) 2 24 Tryz.underlying39 hiF hzF0 hzF1 hzF2 rfl (by decide) _ _ _ rfl HT7.out.2 ⟨w6.heap.size,0,none⟩ 1 1 [.int .i64 1,.string nm] rfl rfl Hnew.out (by simp [Value.oneCell']) (by unfold maxLen;omega) (by omega) hsz ?_;intro v8 w8 hown8 hgrow8 _;have HO8 := Lib.hid hown8;have HB8 := Lib.hid (HT7.out.1.grown hgrow8 hsz (fun k e => (HT7.out.2.lt k e).1));clear hown8 hgrow8)
   have HT9 : Hid (Below w5.heap.size w5 w8 ∧ w8.ownsRow w5.heap.size 49 2 v8 (hitsO l L (k + 1)).length ((hitsO l L (k + 1)).flatMap FindT.cells)) := by
    rw [hye,List.length_append,List.flatMap_append]
    exact ⟨HB8.out,HO8.out⟩
   clear hye HO8 HB8
   go_roundw
   case rel => first | exact ⟨k + 1,_,by omega,by go_num,rfl,HT9⟩
   case measure => simp [intOf];omega
end Go.Proofs.YtknkhnahflmjiaaGreatDoor
