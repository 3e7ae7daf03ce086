/- Parts of the proof, laid into one text: StFresh, BatO, StLearn, StLines. -/
import Derived.BigQuiet
import Derived.Deep.AppendLies
import Derived.Deep.Cut
import Derived.Deep.Draws
import Derived.Deep.LoopGhost
import Derived.Deep.MidRow
import Derived.Deep.QuietTactic
import Derived.Deep.RegionHeld3
import Derived.Deep.RegionLaw
import Derived.IntWalk
import Derived.Laws.Bits64b
import Derived.Laws.Concat
import Derived.Laws.EntriesVeiled
import Derived.Lib.AppendIntMem
import Derived.Lib.Hide
import Derived.Lib.ItoaLen
import Derived.Lib.ItoaMem
import Derived.Lib.Join
import Derived.Lib.SmallJoins
import Derived.LoopIn
import Derived.LoopNIn
import Derived.Maps.AppendAt
import Derived.Maps.Own
import Derived.Maps.OwnOps
import Derived.Maps.OwnSet
import Derived.Maps.Views
import Derived.Outline
import Derived.OwnWalkIn
import Derived.PlainAid
import Derived.RangeFuncBox
import Derived.RangeFuncLeaves
import Derived.Shelf.Abstract
import Derived.Shelf.Bits.Mul64
import Derived.Shelf.Strconv.Itoa3
import Derived.Shelf.Strings.Count
import Derived.Shelf.Strings.OnBuilder
import Derived.Shelf.Strings.Prefix
import Derived.StillTail
import Derived.StillTailTactics
import Derived.TacticsInMore
import Derived.Test.YtbhmkcjddpniiaaGreatDoorC1
import Derived.Test.YtbhmkcjddpniiaaGreatDoorC2
import Derived.Test.YtbhmkcjddpniiaaGreatDoorC3
import Derived.Test.YtbhmkcjddpniiaaGreatDoorC4
import Derived.Test.YtbhmkcjddpniiaaGreatDoorC5
import Derived.Test.YtbhmkcjddpniiaaGreatDoorC6
import Derived.Test.YtbhmkcjddpniiaaGreatDoorC7
import Derived.Test.YtbhmkcjddpniiaaGreatDoorD1
import Derived.Test.YtbhmkcjddpniiaaGreatDoorD2
import Derived.Test.YtbhmkcjddpniiaaGreatDoorD3
import Derived.Test.YtbhmkcjddpniiaaGreatDoorD4
import Derived.Test.YtbhmkcjddpniiaaGreatDoorD5
import Derived.Test.YtbhmkcjddpniiaaGreatDoorD9
import Derived.Test.YtbhmkcjddpniiaaGreatDoorG1
import Derived.Test.YtbhmkcjddpniiaaGreatDoorI1
import Derived.Test.YtbhmkcjddpniiaaGreatDoorI3
import Derived.Test.YtbhmkcjddpniiaaGreatDoorI6
import Derived.Test.YtbhmkcjddpniiaaGreatDoorProg
import Derived.WalkKit
import Derived.WalkLawsBesides
import Derived.WalkSpells

namespace Go.Proofs.YtbhmkcjddpniiaaGreatDoor
open Go.RowKit Go.Shelf
theorem zeroResult (w : World) : (zeroValue 123).run Tryz.prog w = .ok (.agg #[.slice none 0 0,.int .i64 0]) w := Tryz.zeroValue123 w
theorem text_size {x : SetT} (h : setB x = true) : (⟨(setText x).toArray⟩ : ByteArray).size ≤ maxLen := by
 have h1 := textTo_le h _ _ (Nat.le_refl _) (Nat.le_refl _)
 rw [textTo_all] at h1
 have h2 := (setB_ok h).wts.1
 have h3 := (bricks_facts h).1
 show (setText x).toArray.size ≤ _
 rw [List.size_toArray]
 unfold maxLen
 omega
theorem known_look {w : World} {B : Nat} {M : Nat → Prop} {mv : Value} {K : List SetT} (h : KnownAt w B M mv K) {x : SetT} (hx : setB x = true) :
  ∃ A n c re,(Instr.lookup 74 mv (.string ⟨(setText x).toArray⟩) true).run Tryz.prog w = .ok (.tuple #[.agg #[.slice A n c,.int .i64 re],.bool (decide (x ∈ K))]) w ∧ (x ∈ K → re = linesErr x ∧ FlatM w M (.slice A n c) (linesOf x).length ((linesOf x).flatMap FrT.cells)) := by
 rcases h with ⟨rfl,rfl⟩ | ⟨b,F,rfl,h2,h3,h4,h5,h6⟩
 ·refine ⟨none,0,0,0,?_,fun h => absurd h List.not_mem_nil⟩
  exact Maps.look_nil true keyLaw Tryz.underlying74 (zeroResult w) (keyOf_s (text_size hx))
 ·have hl := h4.look Tryz.underlying74 (zeroResult w) (text_size hx)
  by_cases hm : x ∈ K
  ·obtain ⟨v,e1,e2⟩ := h6 x hm
   have e2' := e2
   obtain ⟨A,c,ev,-⟩ := e2
   subst ev
   refine ⟨A,(linesOf x).length,c,linesErr x,?_,fun _ => ⟨rfl,e2'⟩⟩
   rw [hl,e1,decide_eq_true hm]
   rfl
  ·have hn : F ⟨(setText x).toArray⟩ = none := by
    have := h5 x hx
    rw [decide_eq_false hm] at this
    cases hF : F ⟨(setText x).toArray⟩ with
    | none => rfl
    | some v => rw [hF] at this;cases this
   refine ⟨none,0,0,0,?_,fun h => absurd h hm⟩
   rw [hl,hn,decide_eq_false hm]
   rfl
def freshS (st : St) (nm : ByteArray) : Bool × Int :=
 match idxS st.sets nm with
 | some k => (match st.sets[k]? with | some x => decide (x ∈ st.known) | none => false,0)
 | none => (false,9)
theorem named_two {w : World} {B D : Nat} {M : Nat → Prop} {st : St} {r : StR} {nm : ByteArray} (h : StoreAt w B D M st r) (hok : StOk st) {e : Ending} {w' : World} (hp : NamedPost st r nm w e w') :
  Below w.heap.size w w' ∧ ((∃ k c,idxS st.sets nm = some k ∧ st.sets[k]? = some c.s ∧ e = .returned (.tuple #[c.val,.int .i64 0]) ∧ SetCM w' M c ∧ setB c.s = true) ∨ (idxS st.sets nm = none ∧ e = .returned (.tuple #[zeroC.val,.int .i64 9]))) := by
 obtain ⟨hb,⟨k,c,hi,hk,he⟩ | ⟨hi,he⟩⟩ := hp
 ·have e1 : st.sets[k]? = some c.s := by rw [← h.setsE,List.getElem?_map,hk];rfl
  exact ⟨hb,.inl ⟨k,c,hi,e1,he,(h.below hb).sets.2 c (List.mem_of_getElem? hk),hok.sets c.s (List.mem_of_getElem? e1)⟩⟩
 ·exact ⟨hb,.inr ⟨hi,he⟩⟩
theorem setB_names {x : SetT} (hb : setB x = true) : SetNames x :=
 ⟨Nat.le_trans (name_size (setB_name hb)) (by unfold maxLen;decide),fun y hy => Nat.le_trans (name_size (alone_name ((setB_ok hb).wts.2 y hy).1)) (by unfold maxLen;decide),fun y hy => Nat.le_trans (name_size (brick_facts ((bricks_facts hb).2 y hy)).1) (by unfold maxLen;decide)⟩
set_option maxRecDepth 100000 in
set_option maxHeartbeats 4000000 in
theorem stFresh (B D : Nat) (M : Nat → Prop) (st : St) (r : StR) (nm : ByteArray) (w : World) (h : StoreAt w B D M st r) (hok : StOk st) (ht : Tab w) :
  Calls Tryz.prog 38 #[.pointer (some ⟨D,0,none⟩),.string nm] w fun e w' => e = .returned (.tuple #[.bool (freshS st nm).1,.int .i64 (freshS st nm).2]) ∧ Below w.heap.size w w' := by
 have hN := (stNamed B D M st r nm w h).mono fun _ _ hp => named_two h hok hp
 have HS := Lib.hid h
 have HT := Lib.hid ht
 clear h hok ht
 go_enter Tryz.func38,Tryz.ntmps38
 go_wp2_with fail
 refine hN.mono ?_
 rintro e w2 ⟨hb2,⟨k,⟨s,al,cl,ai,ci,ab,cb⟩,hi,hk,rfl,hc,hv⟩ | ⟨hi,rfl⟩⟩
 ·simp only at hk hv
  have e0 : freshS st nm = (decide (s ∈ st.known),0) := by unfold freshS;rw [hi];simp [hk]
  have HE := Lib.hid e0
  have HB2 := Lib.hid hb2
  have hs := hc.set
  change SetAt w2 w2.heap.size (setVal s al cl ai ci ab cb) s at hs
  have ha := (Below.refl w2.heap.size w2).alloc (Nat.le_refl _) (.cells #[.string s.name,.int .i64 s.depth,.int .i64 s.low,.int .i64 s.high,.int .i64 s.len,.slice al s.lines.length cl,.int .i64 s.pipe,.int .i64 s.arbor,.int .i64 s.purch,.int .i64 s.most,.int .i64 s.brake,.slice ai s.items.length ci,.slice ab s.bricks.length cb] 26)
  have hTx := (lsText _ s _ ((hs.below ha (Nat.le_refl _)).mono ha.size) (setB_names hv) ((HT.out.below hb2).below ha))
  rw [if_pos hv] at hTx
  have HV := Lib.hid hv
  have HA := Lib.hid ha
  have HS2 := Lib.hid (HS.out.below hb2)
  clear hb2 hi hk hc hv e0 hs ha hN HS HT
  unfold SetC.val setVal at *
  go_wp2_with fail
  refine hTx.mono ?_
  rintro e w3 ⟨rfl,hb3⟩
  have HS3 := Lib.hid ((HS2.out.below HA.out).below hb3)
  have HB3 := Lib.hid (HB2.out.trans ((HA.out.trans (hb3.mono HA.out.size)).mono HB2.out.size))
  obtain ⟨A,n,c,re,hlook,-⟩ := known_look HS3.out.known HV.out
  have hd2 := HS3.out.blk.cell 2
  simp only [List.getElem?_toArray,List.getElem?_cons_succ,List.getElem?_cons_zero] at hd2
  have hDl := HS3.out.blk.lt
  generalize decide (s ∈ st.known) = q at *
  generalize (⟨(setText s).toArray⟩ : ByteArray) = tx at *
  have HMv := Lib.hid HS3.out.known
  clear hb3 HS2 HS3 HB2 HA hTx HV
  generalize r.mv = mv at *
  have hmv : (∃ b,mv = .map (some b)) ∨ mv = .map none := by
   rcases HMv.out with ⟨e,_⟩ | ⟨b,F,e,_⟩
   ·exact .inr e
   ·exact .inl ⟨b,e⟩
  clear HMv
  rcases hmv with ⟨b,rfl⟩ | rfl
  case' inl =>
   go_wp2_with fail
  case' inr =>
   go_wp2_with fail
  all_goals
   go_ret2
   exact ⟨by rw [HE.out];rfl,HB3.out.alloc HB3.out.size _⟩
 ·have e0 : freshS st nm = (false,9) := by unfold freshS;rw [hi]
  have HE := Lib.hid e0
  have HB2 := Lib.hid hb2
  clear hb2 hi e0 hN HS HT
  unfold zeroC zeroSet SetC.val setVal at *
  simp only [List.length_nil]
  go_wp2_with fail
  go_ret2
  exact ⟨by rw [HE.out];rfl,HB2.out.trans (((Below.refl _ _).alloc (Nat.le_refl _) _).mono HB2.out.size)⟩
end Go.Proofs.YtbhmkcjddpniiaaGreatDoor

namespace Go.Proofs.YtbhmkcjddpniiaaGreatDoor
open Go.RowKit Go.Shelf
def TellPostO (b : BeamT) (l : List Rat) (w : World) (e : Ending) (w' : World) : Prop :=
 Below w.heap.size w w' ∧ ((okBm b = true ∧ tiltOk b = true ∧ allOk l = true ∧ ∃ v,e = .returned (.tuple #[v,.int .i64 0]) ∧ w'.ownsRow w.heap.size 57 2 v (l.map frOf).length ((l.map frOf).flatMap FrT.cells)) ∨ (∃ k,k ≠ 0 ∧ (beamErr b ≠ 0 ∨ allOk l = false) ∧ e = .returned (.tuple #[.slice none 0 0,.int .i64 k]) ∧ (beamErr b = 0 → k = 5)))
theorem FracsPost.tellO {b : BeamT} {l : List Rat} {w w1 w' : World} {e : Ending} (h : FracsPost l w1 e w') (hb : Below w.heap.size w w1) (h1 : okBm b = true) (h2 : tiltOk b = true) : TellPostO b l w e w' := by
 obtain ⟨hb',⟨h3,v,rfl,h4⟩ | ⟨h3,rfl⟩⟩ := h
 ·refine ⟨hb.trans (hb'.mono hb.size),.inl ⟨h1,h2,h3,v,rfl,?_⟩⟩
  rw [List.length_map]
  exact own_mono h4 hb.size
 ·exact ⟨hb.trans (hb'.mono hb.size),.inr ⟨5,by decide,.inr h3,rfl,fun _ => rfl⟩⟩
def LinesPostO (s : SetT) (w : World) (e : Ending) (w' : World) : Prop :=
 Below w.heap.size w w' ∧ ((linesErr s = 0 ∧ ∃ v,e = .returned (.tuple #[v,.int .i64 0]) ∧ w'.ownsRow w.heap.size 57 2 v (linesL s).length ((linesL s).flatMap FrT.cells)) ∨ (linesErr s ≠ 0 ∧ e = .returned (.tuple #[.slice none 0 0,.int .i64 (linesErr s)])))
set_option maxRecDepth 100000 in
set_option maxHeartbeats 4000000 in
theorem bmReactionsO (v : Value) (b : BeamT) (w : World) (hv : BeamAt w w.heap.size v b) (hn : b.name.size ≤ maxLen) : Calls Tryz.prog 85 #[v] w (TellPostO b (reactL b) w) := by
 have HGi := fun W h => bmGiven v b W h hn
 have HRe := fun h W u h1 hu => bmReacts v u b W h1 hu h
 have HV := Lib.hid hv
 obtain ⟨As,cs,Al,cl,rfl,hS,hL⟩ := hv
 have HD := Lib.hid (Blk.new w 129 #[.string b.name,.int .i64 b.len,.slice As b.sup.length cs,.slice Al b.loads.length cl,.int .i64 b.even])
 have HB := Lib.hid ((Below.refl _ w).alloc (Nat.le_refl _) (.cells #[.string b.name,.int .i64 b.len,.slice As b.sup.length cs,.slice Al b.loads.length cl,.int .i64 b.even] 129))
 clear hS hL
 go_enter Tryz.func85,Tryz.ntmps85
 go_wp2_with (exact Go.WalkKit.wp_stop)
 generalize w.alloc (.cells #[.string b.name,.int .i64 b.len,.slice As b.sup.length cs,.slice Al b.loads.length cl,.int .i64 b.even] 129) = W1 at *
 have hgi := HGi W1 (HV.out.grow HB.out)
 have HRe := Lib.hid HRe
 have y0 := HD.out.cell 0
 have y1 := HD.out.cell 1
 have y2 := HD.out.cell 2
 have y3 := HD.out.cell 3
 have y4 := HD.out.cell 4
 simp only [List.getElem?_toArray,List.getElem?_cons_succ,List.getElem?_cons_zero] at y0 y1 y2 y3 y4
 clear HGi
 by_cases hc : okBm b = true ∧ tiltOk b = true
 ·obtain ⟨hok,htl⟩ := hc
  have HE : Hid (¬ beamErr b ≠ 0) := by unfold Hid beamErr;rw [hok,htl];simp
  have Hok := Lib.hid hok
  have Htl := Lib.hid htl
  clear hok htl
  have hgi' : Calls Tryz.prog 143 #[.agg #[.string b.name,.int .i64 b.len,.slice As b.sup.length cs,.slice Al b.loads.length cl,.int .i64 b.even]] W1 fun e w' => ∃ u,e = .returned (.tuple #[u,.int .i64 0]) ∧ Hid (Below W1.heap.size W1 w') ∧ Hid (ExsAt w' u (momL b)) := by
   refine hgi.mono ?_
   rintro e w' ⟨h1,⟨-,-,u,rfl,h2⟩ | ⟨h2,-⟩⟩
   ·exact ⟨u,rfl,h1,h2⟩
   ·exact absurd h2 HE.out
  clear hgi
  go_wp2_with (first | (go_at_call 143;refine hgi'.mono ?_;rintro e w2 ⟨u,rfl,hb2,hE2⟩;have HB2 := Lib.hid (HB.out.trans (hb2.out.mono HB.out.size));have HD2 := Lib.hid (HD.out.below hb2.out HD.out.lt);clear hb2;have z0 := HD2.out.cell 0;have z1 := HD2.out.cell 1;have z2 := HD2.out.cell 2;have z3 := HD2.out.cell 3;have z4 := HD2.out.cell 4;simp only [List.getElem?_toArray,List.getElem?_cons_succ,List.getElem?_cons_zero] at z0 z1 z2 z3 z4;have hre := HRe.out (okBm_ok Hok.out) w2 u (HV.out.grow HB2.out) hE2.out) | (go_at_call 145;refine hre.mono ?_;rintro e w3 ⟨hb3,v3,rfl,hE3⟩;have HB3 := Lib.hid (HB2.out.trans (hb3.mono HB2.out.size));have hfr := bmFracs v3 (reactL b) w3 hE3 (by have := (okBm_ok Hok.out).sup1;unfold reactL;simp;omega);clear hb3 hE3) | (go_at_call 144;refine hfr.mono ?_;intro e w4 h4;have hT := FracsPost.tellO h4 HB3.out Hok.out Htl.out;obtain ⟨-,⟨-,v4,rfl,-⟩ | ⟨-,rfl⟩⟩ := h4))
  all_goals
   go_ret2
   exact hT
 ·have HE : Hid (¬ (okBm b = true ∧ tiltOk b = true)) := hc
  clear hc
  have hgi' : Calls Tryz.prog 143 #[.agg #[.string b.name,.int .i64 b.len,.slice As b.sup.length cs,.slice Al b.loads.length cl,.int .i64 b.even]] W1 fun e w' => beamErr b ≠ 0 ∧ e = .returned (.tuple #[.slice none 0 0,.int .i64 (beamErr b)]) ∧ Hid (Below W1.heap.size W1 w') := by
   refine hgi.mono ?_
   rintro e w' ⟨h1,⟨h3,h4,-⟩ | ⟨h2,rfl⟩⟩
   ·exact absurd ⟨h3,h4⟩ HE.out
   ·exact ⟨h2,rfl,h1⟩
  clear hgi
  generalize hk : beamErr b = k at *
  have HK := Lib.hid hk
  clear hk
  go_wp2_with (go_at_call 143;refine hgi'.mono ?_;rintro e w2 ⟨hk,rfl,hb2⟩;have hk1 : (k == 0) = false := beq_eq_false_iff_ne.2 hk;have hk2 : (k != 0) = true := bne_iff_ne.2 hk)
  go_ret2
  exact ⟨HB.out.trans (hb2.out.mono HB.out.size),.inr ⟨k,hk,.inl (by rw [HK.out];exact hk),rfl,fun h => absurd h (by rw [HK.out];exact hk)⟩⟩
theorem lines_callO {v : Value} {s : SetT} {w : World} (hv : BeamAt w w.heap.size v (beamS s)) (hn : s.name.size ≤ maxLen) (hok : setB s = true) :
  Calls Tryz.prog 85 #[v] w (LinesPostO s w) := by
 refine (bmReactionsO v (beamS s) w hv hn).mono ?_
 rintro e w' ⟨hb,⟨-,-,h3,v',rfl,h4⟩ | ⟨k,hk,h,rfl,h5⟩⟩
 ·exact ⟨hb,.inl ⟨by unfold linesErr;rw [hok,h3];rfl,v',rfl,h4⟩⟩
 ·obtain rfl := h5 (beamErr_set hok)
  have h3 : allOk (reactL (beamS s)) = false := by
   rcases h with h | h
   ·exact absurd (beamErr_set hok) h
   ·exact h
  have hE : linesErr s = 5 := by unfold linesErr;rw [hok,h3];rfl
  exact ⟨hb,.inr ⟨by rw [hE];decide,by rw [hE]⟩⟩
set_option maxRecDepth 100000 in
set_option maxHeartbeats 4000000 in
theorem batLinesO (v : Value) (s : SetT) (w : World) (hv : SetAt w w.heap.size v s) (hn : SetNames s) : Calls Tryz.prog 32 #[v] w (LinesPostO s w) := by
 have HVa := fun W (hb : Below w.heap.size w W) => batValid v s W ((hv.below hb (Nat.le_refl _)).mono hb.size) hn
 have HBo := Lib.hid fun (hok : setB s = true) W (hb : Below w.heap.size w W) => batBeamOf v s W ((hv.below hb (Nat.le_refl _)).mono hb.size) hok
 have HLi := Lib.hid fun (hok : setB s = true) v W (h : BeamAt W W.heap.size v (beamS s)) => lines_callO h hn.name hok
 obtain ⟨Al,cl,Ai,ci,Ab,cb,rfl,-,-,-⟩ := hv
 have HD := Lib.hid (Blk.new w 26 #[.string s.name,.int .i64 s.depth,.int .i64 s.low,.int .i64 s.high,.int .i64 s.len,.slice Al s.lines.length cl,.int .i64 s.pipe,.int .i64 s.arbor,.int .i64 s.purch,.int .i64 s.most,.int .i64 s.brake,.slice Ai s.items.length ci,.slice Ab s.bricks.length cb])
 have HB1 := Lib.hid ((Below.refl _ w).alloc (Nat.le_refl _) (.cells #[.string s.name,.int .i64 s.depth,.int .i64 s.low,.int .i64 s.high,.int .i64 s.len,.slice Al s.lines.length cl,.int .i64 s.pipe,.int .i64 s.arbor,.int .i64 s.purch,.int .i64 s.most,.int .i64 s.brake,.slice Ai s.items.length ci,.slice Ab s.bricks.length cb] 26))
 clear hn
 have hva := HVa _ HB1.out
 clear HVa
 unfold setVal at *
 rcases Bool.eq_false_or_eq_true (setB s) with hok | hok
 ·have hbo := HBo.out hok
  have hli := HLi.out hok
  rw [hok] at hva
  clear hok HBo HLi
  go_enter Tryz.func32,Tryz.ntmps32
  go_wp2_with (first | (go_at_call 24;refine hva.mono ?_;rintro e w2 ⟨rfl,hb2⟩;have hbx := HB1.out.trans (hb2.mono HB1.out.size);have HD2 := Lib.hid (HD.out.below hb2 HD.out.lt);have z0 := HD2.out.cell 0;have z1 := HD2.out.cell 1;have z2 := HD2.out.cell 2;have z3 := HD2.out.cell 3;have z4 := HD2.out.cell 4;have z5 := HD2.out.cell 5;have z6 := HD2.out.cell 6;have z7 := HD2.out.cell 7;have z8 := HD2.out.cell 8;have z9 := HD2.out.cell 9;have z10 := HD2.out.cell 10;have z11 := HD2.out.cell 11;have z12 := HD2.out.cell 12;simp only [List.getElem?_toArray,List.getElem?_cons_succ,List.getElem?_cons_zero] at z0 z1 z2 z3 z4 z5 z6 z7 z8 z9 z10 z11 z12) | (go_at_call 86;refine (hbo _ hbx).mono ?_;rintro e w3 ⟨hb3,v3,rfl,hB3⟩;have HB3 := Lib.hid (hbx.trans (hb3.mono hbx.size));have hli3 := hli v3 w3 hB3) | (go_at_call 85;refine hli3.mono ?_;rintro e w4 ⟨hb4,⟨hE,v4,rfl,h4⟩ | ⟨hE,rfl⟩⟩))
  ·go_ret2
   exact ⟨HB3.out.trans (hb4.mono HB3.out.size),.inl ⟨hE,v4,rfl,own_mono h4 HB3.out.size⟩⟩
  ·go_ret2
   exact ⟨HB3.out.trans (hb4.mono HB3.out.size),.inr ⟨hE,rfl⟩⟩
 ·have HE : Hid (linesErr s = 1) := by unfold Hid linesErr;rw [hok];rfl
  rw [hok] at hva
  clear hok HBo HLi
  go_enter Tryz.func32,Tryz.ntmps32
  go_wp2_with (go_at_call 24;refine hva.mono ?_;rintro e w2 ⟨rfl,hb2⟩)
  go_ret2
  exact ⟨HB1.out.trans (hb2.mono HB1.out.size),.inr ⟨by rw [HE.out];decide,by rw [HE.out];rfl⟩⟩
end Go.Proofs.YtbhmkcjddpniiaaGreatDoor

namespace Go.Proofs.YtbhmkcjddpniiaaGreatDoor
open Go.RowKit Go.Shelf
def txOf (x : SetT) : ByteArray := ⟨(setText x).toArray⟩
theorem txOf_inj {x y : SetT} (hx : setB x = true) (hy : setB y = true) (h : txOf x = txOf y) : x = y := by
 refine setText_inj (setB_clean hx) (setB_clean hy) ?_
 have := congrArg (fun b : ByteArray => b.data.toList) h
 simpa [txOf] using this
def KF (w : World) (M : Nat → Prop) (K : List SetT) (F : ByteArray → Option Value) : Prop :=
 (∀ x,setB x = true → (F (txOf x)).isSome = decide (x ∈ K)) ∧ ∀ x ∈ K,∃ v,F (txOf x) = some (.agg #[v,.int .i64 (linesErr x)]) ∧ FlatM w M v (linesOf x).length ((linesOf x).flatMap FrT.cells)
theorem KF.none (w : World) (M : Nat → Prop) : KF w M [] (fun _ => Option.none) := ⟨fun _ _ => by simp,fun _ h => absurd h List.not_mem_nil⟩
theorem KF.add {w w' : World} {M M' : Nat → Prop} {K : List SetT} {F : ByteArray → Option Value} (h : KF w M K F) (hK : ∀ y ∈ K,setB y = true) {x : SetT} (hx : setB x = true) (hn : x ∉ K) {v : Value}
  (hk : KeepM M w w') (hs : ∀ g,M g → M' g) (hv : FlatM w' M' v (linesOf x).length ((linesOf x).flatMap FrT.cells)) : KF w' M' (K ++ [x]) (putKF F (txOf x) (.agg #[v,.int .i64 (linesErr x)])) := by
 constructor
 ·intro y hy
  unfold putKF
  by_cases e : txOf y = txOf x
  ·rw [if_pos e]
   obtain rfl := txOf_inj hy hx e
   simp
  ·rw [if_neg e,h.1 y hy]
   refine decide_eq_decide.2 ⟨fun h => List.mem_append_left _ h,fun h => (List.mem_append.1 h).resolve_right fun h => e ?_⟩
   rw [List.mem_singleton.1 h]
 ·intro y hy
  unfold putKF
  rcases List.mem_append.1 hy with hy | hy
  ·have e : txOf y ≠ txOf x := fun e => hn (txOf_inj (hK y hy) hx e ▸ hy)
   rw [if_neg e]
   obtain ⟨u,e1,e2⟩ := h.2 y hy
   exact ⟨u,e1,(e2.kept hk).sub hs⟩
  ·rw [List.mem_singleton] at hy
   subst hy
   rw [if_pos rfl]
   exact ⟨v,rfl,hv⟩
theorem KnownAt.open_ {w : World} {B : Nat} {M : Nat → Prop} {mv : Value} {K : List SetT} (h : KnownAt w B M mv K) : (mv = .map none ∧ K = []) ∨ ∃ b F,mv = .map (some b) ∧ B ≤ b ∧ ¬ M b ∧ KMap w b K.length F ∧ KF w M K F := by
 rcases h with h | ⟨b,F,h1,h2,h3,h4,h5,h6⟩
 ·exact .inl h
 ·exact .inr ⟨b,F,h1,h2,h3,h4,h5,h6⟩
section
variable {W W8 : World} {B D : Nat} {M : Nat → Prop} {st : St} {r : StR} {x : SetT} {v : Value} {b base : Nat} {F : ByteArray → Option Value}
def withRow (M : Nat → Prop) (v : Value) (g : Nat) : Prop := M g ∨ v.ownBlock = some g
theorem store_learn (h : StoreAt W B D M st r) (hok : StOk st) (hx : setB x = true) (hn : x ∉ st.known) (hKF : KF W M st.known F)
  (hv : W.ownsRow base 57 2 v (linesOf x).length ((linesOf x).flatMap FrT.cells)) (hs : W.heap.size ≤ W8.heap.size)
  (hkeep : ∀ g,g < W.heap.size → g ≠ D → r.mv ≠ .map (some g) → W8.heap[g]? = W.heap[g]?)
  (hblk : Blk W8 D 76 #[r.sv,r.pv,.map (some b),.int .i64 ((st.work + 1 : Nat) : Int)])
  (hb : B ≤ b) (hbM : ¬ M b) (hmap : KMap W8 b (st.known.length + 1) (putKF F (txOf x) (.agg #[v,.int .i64 (linesErr x)]))) :
  StoreAt W8 B D (withRow M v) { st with known := st.known ++ [x],work := st.work + 1 } ⟨r.sv,r.L,r.pv,r.P,.map (some b)⟩ := by
 have hvt := fun g (e : v.ownBlock = some g) => own_type hv e
 have hmv : ∀ g cs t f,W.heap[g]? = some (.cells cs t f) → r.mv ≠ .map (some g) := fun g cs t f hc e => by
  rcases h.known with ⟨k,_⟩ | ⟨b',F',h1,h2,h3,h4,_⟩
  ·rw [k] at e;cases e
  ·rw [h1] at e
   obtain rfl : b' = g := by simpa using e
   obtain ⟨D',⟨es,clock,hb0,_⟩,_⟩ := h4
   rw [hb0] at hc
   cases hc
 have hDv : ∀ g,v.ownBlock = some g → g ≠ D := fun g e e' => by
  obtain ⟨cs,hc⟩ := hvt g e
  have := h.blk
  unfold Blk at this
  rw [e',this] at hc
  injection hc with hc
  injection hc with _ hc _
  exact absurd hc (by decide)
 have hM : KeepM M W W8 := ⟨hs,fun g hg hl => hkeep g hl (fun e => h.notM (e ▸ hg)) (fun e => by
  rcases h.known with ⟨k,_⟩ | ⟨b',F',h1,h2,h3,_⟩
  ·rw [k] at e;cases e
  ·rw [h1] at e
   obtain rfl : b' = g := by simpa using e
   exact h3 hg)⟩
 have hv8 : W8.ownsRow base 57 2 v (linesOf x).length ((linesOf x).flatMap FrT.cells) := own_same hv fun g e => by
  obtain ⟨cs,hc⟩ := hvt g e
  exact hkeep g (hv.lt g e).2 (hDv g e) (hmv g cs _ _ hc)
 have hsub : ∀ g,M g → withRow M v g := fun g hg => .inl hg
 refine ⟨hblk,h.base,?_,?_,(h.sets.kept hM).sub hsub,h.setsE,?_,?_,fun q hq => ((h.past q hq).kept hM).sub hsub,h.pastE,?_⟩
 ·rintro (hg | hg)
  ·exact h.notM hg
  ·exact hDv D hg rfl
 ·rintro g (hg | hg)
  ·exact Nat.lt_of_lt_of_le (h.lt g hg) hs
  ·exact (hv8.lt g hg).2
 ·refine own_same h.own fun g e => ?_
  obtain ⟨cs,hc⟩ := own_type h.own e
  refine hkeep g (h.own.lt g e).2 (fun e' => ?_) (hmv g cs _ _ hc)
  have := h.blk
  unfold Blk at this
  rw [e',this] at hc
  injection hc with hc
  injection hc with _ hc _
  exact absurd hc (by decide)
 ·rintro g e (hg | hg)
  ·exact h.ownM g e hg
  ·obtain ⟨cs,hc⟩ := own_type h.own e
   obtain ⟨cs',hc'⟩ := hvt g hg
   rw [hc] at hc'
   injection hc' with hc'
   injection hc' with _ hc' _
   exact absurd hc' (by decide)
 ·have hadd := hKF.add hok.known hx hn hM hsub (FlatM.of_own hv8 fun g hg => .inr hg)
  refine .inr ⟨b,_,rfl,hb,?_,?_,hadd.1,hadd.2⟩
  ·rintro (hg | hg)
   ·exact hbM hg
   ·obtain ⟨cs,hc⟩ := own_type hv8 hg
    obtain ⟨D',⟨es,clock,hb0,_⟩,_⟩ := hmap
    rw [hb0] at hc
    cases hc
  ·rw [List.length_append]
   exact hmap
theorem chg_setD {i : Nat} {u : Value} {cs : Array Value} (hb : Blk W D 76 cs) (hB : B ≤ D) : ChgS B W (W.setCell ⟨D,i,none⟩ u) := by
 have hG := setG_grownB W D i u
 refine ⟨(Below.refl B W).grown hG (Nat.le_trans hB (Nat.le_of_lt hb.lt)) (fun k e => by have e1 : D = k := (by simpa using e);omega),fun g cs' t f hc h1 _ => hG.block g (Array.getElem?_eq_some_iff.1 hc).1 (fun e => ?_)⟩
 have e1 : g = D := by simpa using e
 unfold Blk at hb
 rw [e1,hb] at hc
 injection hc with hc
 injection hc with _ hc _
 exact h1 hc.symm
theorem chg_map {n : Nat} (hm : KMap W b n F) (hB : B ≤ b) (hG : W.grownBy W8 (some b)) : ChgS B W W8 := by
 refine ⟨(Below.refl B W).grown hG (Nat.le_trans hB (Nat.le_of_lt hm.lt)) (fun k e => by have e1 : b = k := (by simpa using e);omega),fun g cs' t f hc _ _ => hG.block g (Array.getElem?_eq_some_iff.1 hc).1 (fun e => ?_)⟩
 have e1 : g = b := by simpa using e
 obtain ⟨D',⟨es,clock,hb0,_⟩,_⟩ := hm
 rw [e1,hb0] at hc
 cases hc
end
end Go.Proofs.YtbhmkcjddpniiaaGreatDoor

namespace Go.Proofs.YtbhmkcjddpniiaaGreatDoor
open Go.RowKit Go.Shelf
def lnS (st : St) (nm : ByteArray) : List FrT × Int :=
 match idxS st.sets nm with
 | some k => (match st.sets[k]? with | some x => (linesOf x,linesErr x) | none => ([],0))
 | none => ([],9)
def StLinesPost (B D : Nat) (M : Nat → Prop) (st : St) (nm : ByteArray) (w : World) (e : Ending) (w' : World) : Prop :=
 ChgS B w w' ∧ ∃ M' r' v,StoreAt w' B D M' (linesSt st nm) r' ∧ (∀ g,M' g → M g ∨ w.heap.size ≤ g) ∧ e = .returned (.tuple #[v,.int .i64 (lnS st nm).2]) ∧
  w'.ownsRow w.heap.size 57 2 v (lnS st nm).1.length ((lnS st nm).1.flatMap FrT.cells) ∧ ∀ g,v.ownBlock = some g → ¬ M' g
theorem chg_size {B : Nat} {a b : World} (h : ChgS B a b) (hB : B ≤ a.heap.size) : B ≤ b.heap.size := Nat.le_trans hB h.bel.size
def Mid6 (w W5 W6 : World) (B D : Nat) (M : Nat → Prop) (st : St) (r : StR) (b R : Nat) (v : Value) (er : Int) : Prop :=
 ∃ F,KF W5 M st.known F ∧ KMap W6 b st.known.length F ∧ B ≤ b ∧ ¬ M b ∧ Blk W6 D 76 #[r.sv,r.pv,.map (some b),.int .i64 (st.work : Int)] ∧ ChgS B w W6 ∧ W5.heap.size ≤ W6.heap.size ∧
  (∀ g,g < W5.heap.size → g ≠ D → r.mv ≠ .map (some g) → W6.heap[g]? = W5.heap[g]?) ∧ Blk W6 R 123 #[v,.int .i64 er] ∧ ∀ g,g < W5.heap.size → r.mv ≠ .map (some g) → g ≠ b
theorem mid6_some {w W5 : World} {B D : Nat} {M : Nat → Prop} {st : St} {r : StR} {b R : Nat} {v : Value} {er : Int} (h : StoreAt W5 B D M st r) (hm : r.mv = .map (some b)) (hw : Below w.heap.size w W5) (hB : B ≤ w.heap.size) (hR : Blk W5 R 123 #[v,.int .i64 er]) : Mid6 w W5 W5 B D M st r b R v er := by
 rcases h.known.open_ with ⟨e,_⟩ | ⟨b',F,e,k1,k2,k3,k4⟩
 ·rw [hm] at e;cases e
 ·rw [hm] at e
  obtain rfl : b = b' := by simpa using e
  refine ⟨F,k4,k3,k1,k2,?_,ChgS.of_below hw hB,Nat.le_refl _,fun _ _ _ _ => rfl,hR,fun g _ h e => h (e ▸ hm)⟩
  have := h.blk
  rw [hm] at this
  exact this
theorem mid6_none {w W5 : World} {B D : Nat} {M : Nat → Prop} {st : St} {r : StR} {b R : Nat} {v : Value} {er : Int} (h : StoreAt W5 B D M st r) (hm : r.mv = .map none) (hw : Below w.heap.size w W5) (hB : B ≤ w.heap.size) (hR : Blk W5 R 123 #[v,.int .i64 er]) (hb : b = W5.heap.size) (hRD : R ≠ D) :
  Mid6 w W5 ((W5.alloc (.map #[] 0)).setCell ⟨D,2,none⟩ (.map (some b))) B D M st r b R v er := by
 subst hb
 have hK : st.known = [] := by
  rcases h.known.open_ with ⟨_,e⟩ | ⟨b',F,e,_⟩
  ·exact e
  ·rw [hm] at e;cases e
 have hbD : W5.heap.size ≠ D := fun e => by have := h.blk.lt;omega
 have ha := (Below.refl W5.heap.size W5).alloc (Nat.le_refl _) (.map #[] 0)
 have hblk := h.blk.alloc (.map #[] 0)
 refine ⟨fun _ => none,by rw [hK];exact KF.none _ _,?_,Nat.le_trans hB hw.size,fun hg => by have := h.lt _ hg;omega,?_,?_,?_,?_,?_,fun g hg _ e => by omega⟩
 ·rw [hK]
  exact (KMap.made W5).of_heap (Below.heap_setCell _ _ _ _ hbD)
 ·have := hblk.set_ 2 (.map (some W5.heap.size))
  simpa using this
 ·exact ((ChgS.of_below hw hB).trans (ChgS.of_below ha (Nat.le_trans hB hw.size))).trans (chg_setD hblk h.base)
 ·have := (setG_grownB (W5.alloc (.map #[] 0)) D 2 (.map (some W5.heap.size))).size
  exact Nat.le_trans ha.size this
 ·intro g hg hD _
  rw [Below.heap_setCell _ _ _ _ hD]
  exact ha.block g hg
 ·exact (hR.alloc _).far hRD _
theorem eqlMapSome (b : Nat) (w : World) : (binOp .eql 74 (.map (some b)) (.map none)).run Tryz.prog w = .ok (.bool false) w := by kernel_rfl
theorem eqlMapNil (w : World) : (binOp .eql 74 (.map none) (.map none)).run Tryz.prog w = .ok (.bool true) w := by kernel_rfl
theorem lines_len {s : SetT} (h : setB s = true) : (linesOf s).length ≤ 10 := by
 unfold linesOf
 split
 ·unfold linesL reactL
  rw [List.length_map,List.length_map,List.length_range]
  exact (lines_facts h).1
 ·exact Nat.zero_le _
theorem linesO_any {s : SetT} {w : World} {e : Ending} {w' : World} (h : LinesPostO s w e w') : Below w.heap.size w w' ∧ ∃ A c,e = .returned (.tuple #[.slice A (linesOf s).length c,.int .i64 (linesErr s)]) ∧ w'.ownsRow w.heap.size 57 2 (.slice A (linesOf s).length c) (linesOf s).length ((linesOf s).flatMap FrT.cells) := by
 obtain ⟨hb,⟨h0,v,rfl,ho⟩ | ⟨h0,rfl⟩⟩ := h
 ·refine ⟨hb,?_⟩
  unfold linesOf
  rw [if_pos h0,h0]
  obtain ⟨A,c,rfl⟩ := own_formB ho
  exact ⟨A,c,rfl,ho⟩
 ·refine ⟨hb,none,0,?_,?_⟩
  ·unfold linesOf
   rw [if_neg h0]
   rfl
  ·unfold linesOf
   rw [if_neg h0]
   exact World.ownsRow_nil _ _ _ _
set_option maxRecDepth 100000 in
set_option maxHeartbeats 8000000 in
theorem stLines (B D : Nat) (M : Nat → Prop) (st : St) (r : StR) (nm : ByteArray) (w : World) (h : StoreAt w B D M st r) (hok : StOk st) (ht : Tab w) (hw : st.work ≤ 1000000) (hkn : st.known.length ≤ 1000000) :
  Calls Tryz.prog 30 #[.pointer (some ⟨D,0,none⟩),.string nm] w (StLinesPost B D M st nm w) := by
 have hN := (stNamed B D M st r nm w h).mono fun _ _ hp => named_two h hok hp
 have hB := Nat.le_trans h.base (Nat.le_of_lt h.blk.lt)
 have HLt := Lib.hid h.lt
 have HS := Lib.hid h
 have HT := Lib.hid ht
 have HOK := Lib.hid hok
 clear h hok ht
 go_enter Tryz.func30,Tryz.ntmps30
 go_wp2_with fail
 refine hN.mono ?_
 rintro e w2 ⟨hb2,⟨k,⟨s,al,cl,ai,ci,ab,cb⟩,hi,hk,rfl,hc,hv⟩ | ⟨hi,rfl⟩⟩
 ·simp only at hk hv
  have HE1 : Hid (lnS st nm = (linesOf s,linesErr s)) := by unfold Hid lnS;rw [hi];simp [hk]
  have HE2 : Hid (linesSt st nm = if s ∈ st.known then st else { st with known := st.known ++ [s],work := st.work + 1 }) := by unfold Hid linesSt;rw [hi];simp [hk]
  have HB2 := Lib.hid hb2
  have hs := hc.set
  change SetAt w2 w2.heap.size (setVal s al cl ai ci ab cb) s at hs
  have ha := (Below.refl w2.heap.size w2).alloc (Nat.le_refl _) (.cells #[.string s.name,.int .i64 s.depth,.int .i64 s.low,.int .i64 s.high,.int .i64 s.len,.slice al s.lines.length cl,.int .i64 s.pipe,.int .i64 s.arbor,.int .i64 s.purch,.int .i64 s.most,.int .i64 s.brake,.slice ai s.items.length ci,.slice ab s.bricks.length cb] 26)
  have hTx := (lsText _ s _ ((hs.below ha (Nat.le_refl _)).mono ha.size) (setB_names hv) ((HT.out.below hb2).below ha))
  rw [if_pos hv] at hTx
  have HV := Lib.hid hv
  have HA := Lib.hid ha
  have HSs := Lib.hid hs
  have HS2 := Lib.hid (HS.out.below hb2)
  have HCb := Lib.hid (Blk.new w2 26 #[.string s.name,.int .i64 s.depth,.int .i64 s.low,.int .i64 s.high,.int .i64 s.len,.slice al s.lines.length cl,.int .i64 s.pipe,.int .i64 s.arbor,.int .i64 s.purch,.int .i64 s.most,.int .i64 s.brake,.slice ai s.items.length ci,.slice ab s.bricks.length cb])
  clear hb2 hi hk hc hv hs ha hN HS HT
  unfold SetC.val setVal at *
  go_wp2_with fail
  refine hTx.mono ?_
  rintro e w3 ⟨rfl,hb3⟩
  have HS3 := Lib.hid ((HS2.out.below HA.out).below hb3)
  have HA3 := Lib.hid (HA.out.trans (hb3.mono HA.out.size))
  have HB3 := Lib.hid (HB2.out.trans (HA3.out.mono HB2.out.size))
  have HCb3 := Lib.hid (HCb.out.below hb3 HCb.out.lt)
  obtain ⟨A,n,c,re,hlook,hin⟩ := known_look HS3.out.known HV.out
  have HIn := Lib.hid hin
  have hd2 := HS3.out.blk.cell 2
  simp only [List.getElem?_toArray,List.getElem?_cons_succ,List.getElem?_cons_zero] at hd2
  have hDl := HS3.out.blk.lt
  have HTz := Lib.hid (text_size HV.out)
  generalize hTg : (⟨(setText s).toArray⟩ : ByteArray) = tx at *
  have HTx : Hid (tx = txOf s) := hTg.symm
  clear hTg
  clear hb3 HS2 HB2 HA hTx hin HCb
  by_cases hm : s ∈ st.known
  ·obtain ⟨hre,hfl⟩ := HIn.out hm
   rw [decide_eq_true hm] at hlook
   subst hre
   obtain ⟨Av,cv,ev,-⟩ := hfl
   injection ev with e1 e2 e3
   subst e1 e2 e3
   have hRb := (Below.refl w3.heap.size w3).alloc (Nat.le_refl _) (.cells #[.slice A (linesOf s).length c,.int .i64 (linesErr s)] 123)
   have HR := Lib.hid (Blk.new w3 123 #[.slice A (linesOf s).length c,.int .i64 (linesErr s)])
   have HB4 := Lib.hid (HB3.out.trans (hRb.mono HB3.out.size))
   have HS4 := Lib.hid (HS3.out.below hRb)
   have hfl4 : FrsAt (w3.alloc (.cells #[.slice A (linesOf s).length c,.int .i64 (linesErr s)] 123)) w3.heap.size (.slice A (linesOf s).length c) (linesOf s) := Flat.below (HIn.out hm).2.flat hRb (Nat.le_refl _)
   have HE3 : Hid (linesSt st nm = st) := by unfold Hid;rw [HE2.out,if_pos hm]
   have HCl : Hid (∀ w1,Below (w3.alloc (.cells #[.slice A (linesOf s).length c,.int .i64 (linesErr s)] 123)).heap.size (w3.alloc (.cells #[.slice A (linesOf s).length c,.int .i64 (linesErr s)] 123)) w1 → Calls Tryz.prog 84 #[.slice A (linesOf s).length c] w1 fun e w' => ∃ u,e = .returned u ∧ Below w1.heap.size w1 w' ∧ (gRow w.heap.size 57 2 (linesOf s).length ((linesOf s).flatMap FrT.cells)).σ u ∧ (gRow w.heap.size 57 2 (linesOf s).length ((linesOf s).flatMap FrT.cells)).φ u w') := fun w1 hb1 => by
    have hl := lines_len HV.out
    exact row_g (B := w.heap.size) (cloneFrac _ (linesOf s) w1 ((FrsAt.below hfl4 hb1 (by have := hRb.size;omega)).mono (Nat.le_trans (by have := hRb.size;omega) hb1.size)) (by omega)) (Nat.le_trans HB4.out.size hb1.size)
   obtain ⟨b,hmv⟩ : ∃ b,r.mv = .map (some b) := by
    rcases HS3.out.known.open_ with ⟨_,e⟩ | ⟨b,F,e,_⟩
    ·rw [e] at hm
     exact absurd hm List.not_mem_nil
    ·exact ⟨b,e⟩
   rw [hmv] at hd2 hlook
   have yr0 := HR.out.cell 0
   have yr1 := HR.out.cell 1
   simp only [List.getElem?_toArray,List.getElem?_cons_succ,List.getElem?_cons_zero] at yr0 yr1
   clear hm HIn HS3 HB3 HE2 HCb3 HSs HV hfl4 hmv
   go_wp2_with fail
   generalize w3.alloc (.cells #[.slice A (linesOf s).length c,.int .i64 (linesErr s)] 123) = W4 at *
   clear hd2 hlook hRb HR HA3
   generalize linesErr s = er at *
   obtain ⟨Av,cv,hcv⟩ : ∃ Av cv,(Value.slice Av (linesOf s).length cv) = .slice A (linesOf s).length c := ⟨A,c,rfl⟩
   rw [← hcv] at HCl yr0
   clear hcv
   have u0 := HeldB.cell yr0
   have u1 := HeldB.cell yr1
   clear yr0 yr1
   refine wp_region_grow 6 (fun jx => if jx = 2 then some (gRow w.heap.size 57 2 (linesOf s).length ((linesOf s).flatMap FrT.cells)) else none) (by kernel_rfl) (by kernel_rfl) ?_
   simp only [List.take_succ_cons,List.take_zero,List.drop_succ_cons,List.drop_zero]
   refine wpG_quiet 2 (by kernel_rfl) (by rfl) (by decide) ?_
   simp only [List.take_succ_cons,List.take_zero,List.drop_succ_cons,List.drop_zero]
   repeat (go_big_quiet_step (fail))
   refine wpQuiet_nil ?_
   refine wpG_call rfl rfl ?_ ?_
   ·intro w1 hb1 hk
    exact ⟨84,#[.slice Av (linesOf s).length cv],by go_simp,HCl.out w1 hb1⟩
   rintro _ ⟨Ak,ck,rfl⟩
   simp only [Act.put,List.setIfInBounds_toArray,List.set_cons_zero,List.set_cons_succ]
   refine wpG_quiet 3 (by kernel_rfl) (by rfl) (by decide) ?_
   simp only [List.take_succ_cons,List.take_zero,List.drop_succ_cons,List.drop_zero]
   repeat (go_big_quiet_step (fail))
   refine wpQuiet_nil ?_
   refine wpG_nil ?_
   intro w9 hb9 hF
   have o9 : w9.ownsRow w.heap.size 57 2 (.slice Ak (linesOf s).length ck) (linesOf s).length ((linesOf s).flatMap FrT.cells) := hF 70
   clear hF
   go_wp2_with fail
   go_ret2
   have hbz := HB4.out.trans (hb9.mono HB4.out.size)
   refine ⟨ChgS.of_below hbz hB,M,r,_,?_,fun g hg => .inl hg,by rw [HE1.out];rfl,by rw [HE1.out];exact o9,fun g e hg => ?_⟩
   ·rw [HE3.out]
    exact HS4.out.below hb9
   ·have h1 := (o9.lt g e).1
    have h2 := HLt.out g hg
    omega
  ·rw [decide_eq_false hm] at hlook
   have HM := Lib.hid hm
   have hRb := (Below.refl w3.heap.size w3).alloc (Nat.le_refl _) (.cells #[.slice A n c,.int .i64 re] 123)
   have HRb := Lib.hid hRb
   have HR := Lib.hid (Blk.new w3 123 #[.slice A n c,.int .i64 re])
   have hsa := HSs.out.below HA3.out (Nat.le_refl _)
   have hsb := (hsa.below hRb (Nat.le_of_lt (by have := HA3.out.size;have := HCb3.out.lt;omega))).mono (Nat.le_trans HA3.out.size hRb.size)
   have hLi := (batLinesO _ s _ hsb (setB_names HV.out)).mono fun _ _ hp => linesO_any hp
   unfold setVal at hLi
   have zc0 := fun o => (HCb3.out.alloc o).cell 0
   have zc1 := fun o => (HCb3.out.alloc o).cell 1
   have zc2 := fun o => (HCb3.out.alloc o).cell 2
   have zc3 := fun o => (HCb3.out.alloc o).cell 3
   have zc4 := fun o => (HCb3.out.alloc o).cell 4
   have zc5 := fun o => (HCb3.out.alloc o).cell 5
   have zc6 := fun o => (HCb3.out.alloc o).cell 6
   have zc7 := fun o => (HCb3.out.alloc o).cell 7
   have zc8 := fun o => (HCb3.out.alloc o).cell 8
   have zc9 := fun o => (HCb3.out.alloc o).cell 9
   have zc10 := fun o => (HCb3.out.alloc o).cell 10
   have zc11 := fun o => (HCb3.out.alloc o).cell 11
   have zc12 := fun o => (HCb3.out.alloc o).cell 12
   simp only [List.getElem?_toArray,List.getElem?_cons_succ,List.getElem?_cons_zero] at zc0 zc1 zc2 zc3 zc4 zc5 zc6 zc7 zc8 zc9 zc10 zc11 zc12
   clear hm HIn HSs hsa hsb hRb
   generalize hmvE : r.mv = mv at *
   have HmvE := Lib.hid hmvE
   have hmv : (∃ b,mv = .map (some b)) ∨ mv = .map none := by
    rw [← hmvE]
    rcases HS3.out.known.open_ with ⟨e,_⟩ | ⟨b,F,e,_⟩
    ·exact .inr e
    ·exact .inl ⟨b,e⟩
   clear hmvE
   go_wp2_with fail
   refine hLi.mono ?_
   rintro e w4 ⟨hb4,Av,cv,rfl,ho4⟩
   clear zc0 zc1 zc2 zc3 zc4 zc5 zc6 zc7 zc8 zc9 zc10 zc11 zc12
   have HR4 := Lib.hid (HR.out.below hb4 HR.out.lt)
   have hr0 := HR4.out.cell 0
   have hf0 := HR4.out.frozen 0
   have HR4a := Lib.hid (HR4.out.set_ 0 (.slice Av (linesOf s).length cv))
   have hr1 := HR4a.out.cell 1
   have hf1 := HR4a.out.frozen 1
   have HR5 := Lib.hid (HR4a.out.set_ 1 (.int .i64 (linesErr s)))
   simp only [List.setIfInBounds_toArray,List.set_cons_zero] at hr1
   simp only [List.getElem?_toArray,List.getElem?_cons_succ,List.getElem?_cons_zero] at hr0 hr1
   have hb5 : Below w3.heap.size w3 ((w4.setCell ⟨w3.heap.size,0,none⟩ (.slice Av (linesOf s).length cv)).setCell ⟨w3.heap.size,1,none⟩ (.int .i64 (linesErr s))) := ((HRb.out.trans (hb4.mono HRb.out.size)).setCell (Nat.le_refl _) _).setCell (Nat.le_refl _) _
   have HB5 := Lib.hid hb5
   have HS5 := Lib.hid (HS3.out.below hb5)
   have HO5 : Hid (((w4.setCell ⟨w3.heap.size,0,none⟩ (.slice Av (linesOf s).length cv)).setCell ⟨w3.heap.size,1,none⟩ (.int .i64 (linesErr s))).ownsRow (w3.heap.size + 1) 57 2 (.slice Av (linesOf s).length cv) (linesOf s).length ((linesOf s).flatMap FrT.cells)) := by
    rw [World.size_alloc] at ho4
    refine own_same ho4 fun g e => ?_
    have := (ho4.lt g e).1
    rw [Below.heap_setCell _ _ _ _ (by show g ≠ w3.heap.size;omega),Below.heap_setCell _ _ _ _ (by show g ≠ w3.heap.size;omega)]
   have hd5 := HS5.out.blk.cell 2
   simp only [List.getElem?_toArray,List.getElem?_cons_succ,List.getElem?_cons_zero] at hd5
   rw [HmvE.out] at hd5
   have HB5w := Lib.hid (HB3.out.trans (hb5.mono HB3.out.size))
   have hDl5 := HS5.out.blk.lt
   simp only [List.setIfInBounds_toArray,List.set_cons_zero,List.set_cons_succ] at HR5
   have hws := HB3.out.size
   clear hb4 hb5 ho4 hd2 hlook HR4 HR4a HRb HR hLi HA3 HCb3 HS3 HB3
   have hmm := @run_makeMap Tryz.prog
   have hq1 := eqlMapSome
   have hq2 := eqlMapNil
   have hdA := fun o => (HS5.out.blk.alloc o).cell 2
   have hfA := fun o => (HS5.out.blk.alloc o).frozen 2
   simp only [List.getElem?_toArray,List.getElem?_cons_succ,List.getElem?_cons_zero] at hdA
   rw [HmvE.out] at hdA
   rcases hmv with ⟨b,rfl⟩ | rfl
   case' inl =>
    go_upto_region 12 with fail
    generalize ((w4.setCell ⟨w3.heap.size,0,none⟩ (.slice Av (linesOf s).length cv)).setCell ⟨w3.heap.size,1,none⟩ (.int .i64 (linesErr s))) = W5 at *
    have H6 := mid6_some HS5.out HmvE.out HB5w.out hB HR5.out
    obtain ⟨W6,hW6⟩ : ∃ W6,W5 = W6 := ⟨_,rfl⟩
    have H6 : Hid (Mid6 w W5 W6 B D M st r b w3.heap.size (.slice Av (linesOf s).length cv) (linesErr s)) := hW6 ▸ H6
    rw [hW6]
    clear hW6 hdA hfA hmm hq1 hq2 hd5 hr0 hr1 hf0 hf1
   case' inr =>
    have hW5s : Hid (w4.heap.size = ((w4.setCell ⟨w3.heap.size,0,none⟩ (.slice Av (linesOf s).length cv)).setCell ⟨w3.heap.size,1,none⟩ (.int .i64 (linesErr s))).heap.size) := by unfold Hid;simp
    go_upto_region 12 with fail
    generalize ((w4.setCell ⟨w3.heap.size,0,none⟩ (.slice Av (linesOf s).length cv)).setCell ⟨w3.heap.size,1,none⟩ (.int .i64 (linesErr s))) = W5 at *
    have H6 : Hid (Mid6 w W5 ((W5.alloc (.map #[] 0)).setCell ⟨D,2,none⟩ (.map (some w4.heap.size))) B D M st r w4.heap.size w3.heap.size (.slice Av (linesOf s).length cv) (linesErr s)) := mid6_none HS5.out HmvE.out HB5w.out hB HR5.out hW5s.out (by omega)
    clear hdA hfA hmm hq1 hq2 hd5 hr0 hr1 hf0 hf1 hW5s
    generalize (W5.alloc (.map #[] 0)).setCell ⟨D,2,none⟩ (.map (some w4.heap.size)) = W6 at *
    generalize w4.heap.size = b at *
   all_goals
    obtain ⟨F,k1,k2,k3,k4,k5,k6,k7,k8,k9,k10⟩ := H6.out
    have HgB := Lib.hid k10
    have b7 : Blk W6.drew D 76 #[r.sv,r.pv,.map (some b),.int .i64 (st.work : Int)] := k5
    have R7 : Blk W6.drew w3.heap.size 123 #[.slice Av (linesOf s).length cv,.int .i64 (linesErr s)] := k9
    have m7 : KMap W6.drew b st.known.length F := k2
    have c7 : ChgS B w W6.drew := k6.trans (ChgS.of_below ((Below.refl W6.heap.size W6).drew) (chg_size k6 hB))
    have z7 : W5.heap.size ≤ W6.drew.heap.size := k7
    have p7 : ∀ g,g < W5.heap.size → g ≠ D → r.mv ≠ .map (some g) → W6.drew.heap[g]? = W5.heap[g]? := k8
    have q2 := b7.cell 2
    have q30 := R7.cell 0
    have q31 := R7.cell 1
    simp only [List.getElem?_toArray,List.getElem?_cons_succ,List.getElem?_cons_zero] at q2 q30 q31
    have q4 := b7.lt
    have HKF := Lib.hid k1
    have Hk3 := Lib.hid k3
    have Hk4 := Lib.hid k4
    have B7 := Lib.hid b7
    have RR7 := Lib.hid R7
    have M7 := Lib.hid m7
    have C7 := Lib.hid c7
    have Z7 := Lib.hid z7
    have P7 := Lib.hid p7
    clear k1 k2 k3 k4 k5 k6 k7 k8 k9 k10 H6 b7 R7 m7 c7 z7 p7 HR5
    refine wp_region_tail 6 (by kernel_rfl) (by kernel_rfl) ?_
    simp only [List.take_succ_cons,List.take_zero,List.drop_succ_cons,List.drop_zero]
    repeat (go_big_quiet_step (fail))
    refine wpQuiet_nil ?_
    generalize W6.drew = W7 at *
    clear q2 q30 q31 q4
    obtain ⟨D',j1,j2,j3⟩ := M7.out
    have hkey := keyOf_s HTz.out
    have J2 := Lib.hid j2
    have J3 := Lib.hid j3
    clear j2 j3
    refine wpList_mapUpdate_own _ rfl _ _ _ 74 rfl 9 123 keyLaw Tryz.underlying74 heldElem b st.known.length D' rfl j1 (by unfold maxLen;omega) _ _ _ rfl rfl hkey (.held (.agg #[.slice Av (linesOf s).length cv,.int .i64 (linesErr s)])) [] rfl ?_
    intro W8 hown8 hgrow8
    have HM8 : Hid (KMap W8 b (st.known.length + 1) (putKF F tx (.agg #[.slice Av (linesOf s).length cv,.int .i64 (linesErr s)]))) := ⟨_,hown8,(KMap.step j1.isMap J2.out J3.out).1,(KMap.step j1.isMap J2.out J3.out).2⟩
    have hC8 := C7.out.trans (chg_map M7.out Hk3.out hgrow8)
    have hbD : b ≠ D := fun e => by
     obtain ⟨_,⟨es,clock,hb0,_⟩,_⟩ := M7.out
     have := B7.out
     unfold Blk at this
     rw [← e,hb0] at this
     cases this
    have hbR : b ≠ w3.heap.size := fun e => by
     obtain ⟨_,⟨es,clock,hb0,_⟩,_⟩ := M7.out
     have := RR7.out
     unfold Blk at this
     rw [← e,hb0] at this
     cases this
    have B8 := Lib.hid (B7.out.kept hgrow8 (fun e => hbD (by simpa using e.symm)))
    have R8 := Lib.hid (RR7.out.kept hgrow8 (fun e => hbR (by simpa using e.symm)))
    have Z8 := Lib.hid (Nat.le_trans Z7.out hgrow8.size)
    have P8 : Hid (∀ g,g < W5.heap.size → g ≠ D → r.mv ≠ .map (some g) → W8.heap[g]? = W5.heap[g]?) := fun g h1 h2 h3 => (hgrow8.block g (Nat.lt_of_lt_of_le h1 Z7.out) (fun e => HgB.out g h1 h3 (by simpa using e))).trans (P7.out g h1 h2 h3)
    have q3 := B8.out.cell 3
    have f3 := B8.out.frozen 3
    simp only [List.getElem?_toArray,List.getElem?_cons_succ,List.getElem?_cons_zero] at q3
    have q4 := B8.out.lt
    have w0 : (0 : Int) ≤ (st.work : Int) := Int.natCast_nonneg _
    have w1 : (st.work : Int) ≤ 1000000 := by omega
    have HC8 := Lib.hid hC8
    have HbD := Lib.hid hbD
    clear hown8 hgrow8 hC8 j1 J2 J3 hkey M7 B7 RR7 P7 C7 hbD hbR
    go_wp2_with fail
    have R9 := Lib.hid (R8.out.far (p := ⟨D,3,none⟩) (by show w3.heap.size ≠ D;omega) (.int .i64 ((st.work : Int) + 1)))
    have B9 : Hid (Blk (W8.setCell ⟨D,3,none⟩ (.int .i64 ((st.work : Int) + 1))) D 76 #[r.sv,r.pv,.map (some b),.int .i64 ((st.work + 1 : Nat) : Int)]) := by
     have h1 := B8.out.set_ 3 (.int .i64 ((st.work : Int) + 1))
     unfold Hid
     rw [show ((st.work + 1 : Nat) : Int) = (st.work : Int) + 1 by omega]
     simpa using h1
    have hC9 := HC8.out.trans (chg_setD (i := 3) (u := .int .i64 ((st.work : Int) + 1)) B8.out HS5.out.base)
    have hz9 : W5.heap.size ≤ (W8.setCell ⟨D,3,none⟩ (.int .i64 ((st.work : Int) + 1))).heap.size := Nat.le_trans Z8.out (setG_grownB W8 D 3 _).size
    have hm9 : KMap (W8.setCell ⟨D,3,none⟩ (.int .i64 ((st.work : Int) + 1))) b (st.known.length + 1) (putKF F (txOf s) (.agg #[.slice Av (linesOf s).length cv,.int .i64 (linesErr s)])) := by
     rw [← HTx.out]
     exact HM8.out.of_heap (Below.heap_setCell _ _ _ _ HbD.out)
    have hnm : s ∉ st.known := HM.out
    have hS9 := store_learn HS5.out HOK.out HV.out hnm HKF.out HO5.out hz9 (fun g h1 h2 h3 => by
     rw [Below.heap_setCell _ _ _ _ (by exact h2)]
     exact P8.out g h1 h2 h3) B9.out Hk3.out Hk4.out hm9
    have hO9 := own_same HO5.out (w' := W8.setCell ⟨D,3,none⟩ (.int .i64 ((st.work : Int) + 1))) (fun g e => by
     obtain ⟨cs,hc⟩ := own_type HO5.out e
     have hgD : g ≠ D := fun e' => by
      have := HS5.out.blk
      unfold Blk at this
      rw [← e',hc] at this
      injection this with this
      injection this with _ this _
      exact absurd this (by decide)
     rw [Below.heap_setCell _ _ _ _ (by exact hgD)]
     exact P8.out g (HO5.out.lt g e).2 hgD (fun e' => by
      rcases HS5.out.known.open_ with ⟨e2,_⟩ | ⟨b2,F2,e2,_,_,l3,_⟩
      ·rw [e2] at e';cases e'
      ·rw [e2] at e'
       obtain rfl : b2 = g := by simpa using e'
       obtain ⟨_,⟨es,clock,hb0,_⟩,_⟩ := l3
       rw [hb0] at hc
       cases hc))
    have HS9 := Lib.hid hS9
    have HO9 := Lib.hid hO9
    have HC9 := Lib.hid hC9
    have HvB : Hid (∀ g,(Value.slice Av (linesOf s).length cv).ownBlock = some g → w.heap.size ≤ g) := fun g e => by
     have := (HO5.out.lt g e).1
     omega
    have HE3 : Hid (linesSt st nm = { st with known := st.known ++ [s],work := st.work + 1 }) := by unfold Hid;rw [HE2.out,if_neg hnm]
    clear hS9 hO9 hC9 hm9 hz9 hnm HM HE2 HM8 HKF Hk3 Hk4 P8 Z8 B8 B9 R8 HbD HC8 q3 f3 q4 HS5 HO5 HB5 HB5w HmvE HgB
    have yr0 := R9.out.cell 0
    have yr1 := R9.out.cell 1
    simp only [List.getElem?_toArray,List.getElem?_cons_succ,List.getElem?_cons_zero] at yr0 yr1
    generalize W8.setCell ⟨D,3,none⟩ (.int .i64 ((st.work : Int) + 1)) = W9 at *
    have HCl : Hid (∀ w1,Below W9.heap.size W9 w1 → Calls Tryz.prog 84 #[.slice Av (linesOf s).length cv] w1 fun e w' => ∃ u,e = .returned u ∧ Below w1.heap.size w1 w' ∧ (gRow W9.heap.size 57 2 (linesOf s).length ((linesOf s).flatMap FrT.cells)).σ u ∧ (gRow W9.heap.size 57 2 (linesOf s).length ((linesOf s).flatMap FrT.cells)).φ u w') := fun w1 hb1 => by
     have hl := lines_len HV.out
     exact row_g (B := W9.heap.size) (cloneFrac _ (linesOf s) w1 ((FrsAt.below (Flat.of_own HO9.out) hb1 (Nat.le_refl _)).mono hb1.size) (by omega)) hb1.size
    generalize linesErr s = er at *
    clear R9 HO9
    have u0 := HeldB.cell yr0
    have u1 := HeldB.cell yr1
    clear yr0 yr1
    refine wp_region_grow 6 (fun jx => if jx = 2 then some (gRow W9.heap.size 57 2 (linesOf s).length ((linesOf s).flatMap FrT.cells)) else none) (by kernel_rfl) (by kernel_rfl) ?_
    simp only [List.take_succ_cons,List.take_zero,List.drop_succ_cons,List.drop_zero]
    refine wpG_quiet 2 (by kernel_rfl) (by rfl) (by decide) ?_
    simp only [List.take_succ_cons,List.take_zero,List.drop_succ_cons,List.drop_zero]
    repeat (go_big_quiet_step (fail))
    refine wpQuiet_nil ?_
    refine wpG_call rfl rfl ?_ ?_
    ·intro w1 hb1 hk
     exact ⟨84,#[.slice Av (linesOf s).length cv],by go_simp,HCl.out w1 hb1⟩
    rintro _ ⟨Ak,ck,rfl⟩
    simp only [Act.put,List.setIfInBounds_toArray,List.set_cons_zero,List.set_cons_succ]
    refine wpG_quiet 3 (by kernel_rfl) (by rfl) (by decide) ?_
    simp only [List.take_succ_cons,List.take_zero,List.drop_succ_cons,List.drop_zero]
    repeat (go_big_quiet_step (fail))
    refine wpQuiet_nil ?_
    refine wpG_nil ?_
    intro w9 hb9 hF
    have o9 : w9.ownsRow W9.heap.size 57 2 (.slice Ak (linesOf s).length ck) (linesOf s).length ((linesOf s).flatMap FrT.cells) := hF 70
    clear hF
    go_wp2_with fail
    go_ret2
    have hw9 := HC9.out.bel.size
    refine ⟨HC9.out.trans (ChgS.of_below hb9 (Nat.le_trans hB hw9)),withRow M (.slice Av (linesOf s).length cv),⟨r.sv,r.L,r.pv,r.P,.map (some b)⟩,.slice Ak (linesOf s).length ck,?_,?_,by rw [HE1.out];rfl,?_,?_⟩
    ·rw [HE3.out]
     exact HS9.out.below hb9
    ·rintro g (hg | hg)
     ·exact .inl hg
     ·exact .inr (HvB.out g hg)
    ·rw [HE1.out]
     exact own_mono o9 hw9
    ·intro g e hg
     have h1 := (o9.lt g e).1
     have h2 := HS9.out.lt g hg
     omega
 ·have HE1 : Hid (lnS st nm = ([],9)) := by unfold Hid lnS;rw [hi]
  have HE2 : Hid (linesSt st nm = st) := by unfold Hid linesSt;rw [hi]
  have HB2 := Lib.hid hb2
  have HS2 := Lib.hid (HS.out.below hb2)
  clear hb2 hi hN HS HT
  unfold zeroC zeroSet SetC.val setVal at *
  simp only [List.length_nil]
  go_wp2_with fail
  have ha := (Below.refl w2.heap.size w2).alloc (Nat.le_refl _) (.cells #[.string ⟨#[]⟩,.int .i64 0,.int .i64 0,.int .i64 0,.int .i64 0,.slice none 0 0,.int .i64 0,.int .i64 0,.int .i64 0,.int .i64 0,.int .i64 0,.slice none 0 0,.slice none 0 0] 26)
  have hbz := HB2.out.trans (ha.mono HB2.out.size)
  go_ret2
  refine ⟨ChgS.of_below hbz hB,M,r,.slice none 0 0,?_,fun g hg => .inl hg,by rw [HE1.out];rfl,by rw [HE1.out];exact World.ownsRow_nil _ _ _ _,fun g e => by cases e⟩
  rw [HE2.out]
  exact HS2.out.below ha
end Go.Proofs.YtbhmkcjddpniiaaGreatDoor
