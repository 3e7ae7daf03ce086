/- Parts of the proof, laid into one text: GrowW, EqFr, LimS, Awake23, Small. -/
import Derived.BigQuiet
import Derived.Deep.AppendLies
import Derived.Deep.DeepCutAuto
import Derived.Deep.Draws
import Derived.Deep.LoopGhost
import Derived.Deep.QuietTactic
import Derived.Deep.RegionHeld3
import Derived.Deep.RegionLaw
import Derived.IntWalk
import Derived.Laws.AppendOwnNone
import Derived.Laws.Bits64b
import Derived.Lib.Hide
import Derived.Lib.ItoaNum
import Derived.LoopIn
import Derived.LoopNIn
import Derived.Maps.AppendAt
import Derived.Maps.Own
import Derived.Maps.OwnOps
import Derived.Maps.OwnSet
import Derived.Maps.Views
import Derived.Outline
import Derived.OwnWalkIn
import Derived.PlainAid
import Derived.RangeFuncBox
import Derived.RangeFuncLeaves
import Derived.Shelf.Abstract
import Derived.Shelf.Bits.Mul64
import Derived.Shelf.Small.Bits
import Derived.Shelf.Spec.BitsCarry
import Derived.Shelf.Spec.SlicesGrow
import Derived.Shelf.Strconv.Itoa3
import Derived.StillTail
import Derived.StillTailTactics
import Derived.TacticsInMore
import Derived.Test.YtknkhnahflmjiaaGreatDoorB1
import Derived.Test.YtknkhnahflmjiaaGreatDoorE1
import Derived.Test.YtknkhnahflmjiaaGreatDoorE2
import Derived.Test.YtknkhnahflmjiaaGreatDoorE3
import Derived.Test.YtknkhnahflmjiaaGreatDoorE4
import Derived.Test.YtknkhnahflmjiaaGreatDoorE5
import Derived.Test.YtknkhnahflmjiaaGreatDoorE6
import Derived.Test.YtknkhnahflmjiaaGreatDoorE7
import Derived.Test.YtknkhnahflmjiaaGreatDoorF1
import Derived.Test.YtknkhnahflmjiaaGreatDoorF2
import Derived.Test.YtknkhnahflmjiaaGreatDoorF3
import Derived.Test.YtknkhnahflmjiaaGreatDoorF4
import Derived.Test.YtknkhnahflmjiaaGreatDoorH1
import Derived.Test.YtknkhnahflmjiaaGreatDoorH2
import Derived.Test.YtknkhnahflmjiaaGreatDoorH3
import Derived.Test.YtknkhnahflmjiaaGreatDoorH4
import Derived.Test.YtknkhnahflmjiaaGreatDoorH5
import Derived.Test.YtknkhnahflmjiaaGreatDoorH6
import Derived.Test.YtknkhnahflmjiaaGreatDoorProg
import Derived.WalkKit
import Derived.WalkLawsBesides
import Derived.WalkSpells

namespace Go.Proofs.YtknkhnahflmjiaaGreatDoor
open Go.RowKit Go.Shelf
section
variable {P : Program} {ops : Array Oper} {W : World} {Φ : Nat → Option GPost}
theorem wpG_quiet1W {K : Act → FactsT → Prop} {k : Nat} {o : Oper} {r : List Oper} {a : Act} {F : FactsT} (hw : Region.wanted o (yielded ops a.tmps) = true) (hs : stillB o = true) (hΦ : Φ k = none)
  (h : wpQuiet P ops (fun w' => ∃ x : HeldB W,w' = x.w) (fun a' => wpG P ops W Φ K (k + 1) r a' (putF F o.dst (known ops o F))) [o] a) : wpG P ops W Φ K k (o :: r) a F := by
 simp only [wpQuiet] at h
 rw [if_pos hw] at h
 obtain ⟨v,hq,h⟩ := h
 show gStep P ops W o (Φ k) _ a F
 unfold gStep
 rw [if_pos hw,hΦ]
 exact ⟨v,quietG_of (fun w hw => ⟨⟨w,hw⟩,rfl⟩) hs hq,h⟩
theorem no_enter_pick {o : Oper} {c x y : Operand} (ho : o.op = .pick c x y) {ρ : Operand → Value} {w w' : World} {f : FuncId} {args : Array Value} : (execOp ρ o).run P w ≠ .ok (.enter f args) w' := by
 intro h
 unfold execOp at h
 rw [ho] at h
 dsimp only at h
 rw [Sem.run_bind] at h
 cases hs : (asBool (ρ c)).run P w with
 | ok b w2 =>
  rw [hs] at h
  simp only [Result.andThen,Sem.run_pure] at h
  injection h with h1 _
  cases h1
 | halt x w2 =>
  rw [hs] at h
  simp only [Result.andThen] at h
  cases h
theorem wpG_pickW {K : Act → FactsT → Prop} {k : Nat} {o : Oper} {c x y : Operand} {r : List Oper} {a : Act} {F : FactsT} (ho : o.op = .pick c x y) (hw : Region.wanted o (yielded ops a.tmps) = true) (hΦ : Φ k = none)
  (h : wpQuiet P ops (fun w' => ∃ x : HeldB W,w' = x.w) (fun a' => wpG P ops W Φ K (k + 1) r a' (putF F o.dst (known ops o F))) [o] a) : wpG P ops W Φ K k (o :: r) a F := by
 simp only [wpQuiet] at h
 rw [if_pos hw] at h
 obtain ⟨v,hq,h⟩ := h
 show gStep P ops W o (Φ k) _ a F
 unfold gStep
 rw [if_pos hw,hΦ]
 refine ⟨v,fun w hb => ?_,h⟩
 have h1 := hq w ⟨⟨w,hb⟩,rfl⟩
 have h2 := fun f args w' => no_enter_pick (P := P) ho (ρ := a.eval) (w := w) (w' := w') (f := f) (args := args)
 unfold Oper.quietAt at h1
 generalize (execOp a.eval o).run P w = q at *
 cases q with
 | ok n w' =>
  cases n <;> simp only [Oper.quietUpon] at h1
  case value u => exact h1
  case skip => exact h1
  case enter f args => exact absurd rfl (h2 f args w')
 | halt x w' => simp only [Oper.quietUpon] at h1
theorem wpG_callW {K : Act → FactsT → Prop} {k : Nat} {o : Oper} {r : List Oper} {a : Act} {F : FactsT} {φ : GPost} (hw : Region.wanted o (yielded ops a.tmps) = true) (hφ : Φ k = some φ)
  (h : ∀ w,Below W.heap.size W w → known ops o F w → callsAt P o a φ w) (hK : ∀ v,φ.σ v → wpG P ops W Φ K (k + 1) r (a.put o.dst v) (putF F o.dst (φ.φ v))) (hfr : φ.fr = false := by rfl) : wpG P ops W Φ K k (o :: r) a F := by
 show gStep P ops W o (Φ k) _ a F
 unfold gStep
 rw [if_pos hw,hφ]
 exact ⟨fun w h1 h2 => .inl ⟨hfr,h w h1 h2⟩,hK⟩
theorem wpG_newW {K : Act → FactsT → Prop} {k : Nat} {o : Oper} {r : List Oper} {a : Act} {F : FactsT} {φ : GPost} (hw : Region.wanted o (yielded ops a.tmps) = true) (hφ : Φ k = some φ)
  (h : ∀ w,Below W.heap.size W w → known ops o F w → newAt P o a φ w) (hK : ∀ v,φ.σ v → wpG P ops W Φ K (k + 1) r (a.put o.dst v) (putF F o.dst (φ.φ v))) : wpG P ops W Φ K k (o :: r) a F := by
 show gStep P ops W o (Φ k) _ a F
 unfold gStep
 rw [if_pos hw,hφ]
 exact ⟨fun w h1 h2 => .inr (h w h1 h2),hK⟩
end
end Go.Proofs.YtknkhnahflmjiaaGreatDoor

namespace Go.Proofs.YtknkhnahflmjiaaGreatDoor
open Go.RowKit Go.Shelf
set_option maxRecDepth 100000 in
set_option maxHeartbeats 1000000 in
theorem equalFrac (v1 v2 : Value) (l1 l2 : List FrT) (B : Nat) (w : World) (hl1 : FrsAt w B v1 l1) (hl2 : FrsAt w B v2 l2) :
  Calls Tryz.prog 28 #[v1,v2] w fun e w' => e = .returned (.bool (decide (l1 = l2))) ∧ ∃ n,w.drewN n = w' := by
 obtain ⟨A1,c1,rfl,hc1,hd1,hcell1⟩ := hl1.open_
 obtain ⟨A2,c2,rfl,hc2,hd2,hcell2⟩ := hl2.open_
 unfold maxLen at hd1 hd2
 clear hl1 hl2
 by_cases hlen : l1.length = l2.length
 ·have HL := Lib.hid hlen
  have hb : ((l1.length : Int) != l2.length) = false := by simp [hlen]
  have hle1 : l1.length ≤ l2.length := by omega
  have hle2 : l2.length ≤ l1.length := by omega
  clear hlen
  go_enter Tryz.func28,Tryz.ntmps28
  go_wp2
  go_loopw [13] (fun s wr => ∃ j : Nat,j ≤ l1.length ∧ s = .int .i64 j ∧ l1.take j = l2.take j ∧ ∃ n,wr = w.drewN n) (fun x _ => l1.length - (intOf x).toNat)
  case atStart => exact ⟨0,Nat.zero_le _,rfl,by simp,0,rfl⟩
  case round =>
   obtain ⟨j,hj,rfl,hnm,n,rfl⟩ := hrel
   have Hnm := Lib.hid hnm
   clear hnm
   by_cases hlt : j < l1.length
   ·have hlt2 : j < l2.length := by omega
    obtain ⟨b1,off1,rfl,hb1,hcell1⟩ := hcell1 j hlt
    obtain ⟨b2,off2,rfl,hb2,hcell2⟩ := hcell2 j hlt2
    obtain ⟨h1,h1'⟩ := hcell1 j hlt
    obtain ⟨h2,h2'⟩ := hcell2 j hlt2
    clear hcell1 hcell2
    by_cases hq : l1[j] = l2[j]
    ·have ht : (l1[j].num == l2[j].num) = true := by rw [hq];exact beq_self_eq_true _
     have ht' : (l1[j].den == l2[j].den) = true := by rw [hq];exact beq_self_eq_true _
     have HQ := Lib.hid hq
     clear hq
     go_wp2
     go_quiet (fail)
     go_wp2
     go_roundw
     case rel => exact ⟨j + 1,by omega,by go_num,by rw [take_snoc l1 j hlt,take_snoc l2 j hlt2,Hnm.out,HQ.out],_,rfl⟩
     case measure => simp [intOf];omega
    ·have HQ := Lib.hid hq
     by_cases hn : l1[j].num = l2[j].num
     ·have ht : (l1[j].num == l2[j].num) = true := beq_iff_eq.2 hn
      have ht' : (l1[j].den == l2[j].den) = false := beq_eq_false_iff_ne.2 fun h => HQ.out (by
       cases e1 : l1[j];cases e2 : l2[j]
       rw [e1,e2] at hn h
       simp only at hn h
       rw [hn,h])
      clear hq hn
      go_wp2
      go_quiet (fail)
      go_wp2
      go_ret
      exact ⟨ret_bool (by symm;rw [decide_eq_false_iff_not];intro e;subst e;exact HQ.out rfl),q2⟩
     ·have ht : (l1[j].num == l2[j].num) = false := beq_eq_false_iff_ne.2 hn
      clear hq hn
      go_wp2
      go_quiet (fail)
      go_wp2
      go_ret
      exact ⟨ret_bool (by symm;rw [decide_eq_false_iff_not];intro e;subst e;exact HQ.out rfl),q2⟩
   ·have hje : j = l1.length := by omega
    subst hje
    go_wp2
    go_ret
    exact ⟨ret_bool (by symm;rw [decide_eq_true_iff];have := Hnm.out;rw [List.take_length,HL.out,List.take_length] at this;exact this),q1⟩
 ·have hb : ((l1.length : Int) != l2.length) = true := by simp;omega
  have hne : l1 ≠ l2 := fun e => hlen (by rw [e])
  go_enter Tryz.func28,Tryz.ntmps28
  go_wp2
  go_ret
  exact ⟨ret_bool (by symm;simpa using hne),0,rfl⟩
end Go.Proofs.YtknkhnahflmjiaaGreatDoor

namespace Go.Proofs.YtknkhnahflmjiaaGreatDoor
open Go.RowKit Go.Shelf
theorem neg_good {b : FrT} (hb : frGood b = true) : frGood ⟨-b.num,b.den⟩ = true ∧ qOf ⟨-b.num,b.den⟩ = -qOf b := by
 have h := q_parts hb
 have e : frOf (-qOf b) = ⟨-b.num,b.den⟩ := by
  unfold frOf
  rw [Rat.neg_num,Rat.neg_den,h.1,h.2]
  have := good_bd hb
  congr 1
  omega
 have hok : fracOk (-qOf b) = true := by
  have := good_bd hb
  unfold fracOk
  rw [Rat.neg_num,Rat.neg_den,h.1,h.2,Bool.and_eq_true,decide_eq_true_iff,decide_eq_true_iff]
  omega
 refine ⟨by rw [← e];exact good_q hok,by rw [← e,q_fr]⟩
set_option maxRecDepth 100000 in
set_option maxHeartbeats 2000000 in
theorem raSub (a b : FrT) (w : World) (ha : frGood a = true) (hb : frGood b = true) :
  Calls Tryz.prog 65 #[a.val,b.val] w fun e w' => e = .returned (fracV (qOf a - qOf b)) ∧ Below w.heap.size w w' := by
 have hva := fun W => raValid a W
 have hvb := fun W => raValid b W
 rw [ha] at hva
 rw [hb] at hvb
 obtain ⟨n1,n2⟩ := neg_good hb
 have hA := fun W => raAdd a ⟨-b.num,b.den⟩ W ha n1
 rw [n2,← Rat.sub_eq_add_neg] at hA
 have hbd := good_bd hb
 have v1 : IntKind.i64.wrap (-b.num) = -b.num := IntWalk.i64_in _ (by omega)
 obtain ⟨fx,fy,fz,hf⟩ := fracV_form (qOf a - qOf b)
 rw [hf] at hA ⊢
 clear ha hb n1 n2 hbd hf
 have HA := Lib.hid hA
 clear hA
 obtain ⟨an,ad⟩ := a
 obtain ⟨bn,bd⟩ := b
 simp only at *
 have D0 := ((Blk.new w 23 #[.int .i64 an,.int .i64 ad]).alloc (.cells #[.int .i64 bn,.int .i64 bd] 23)).alloc (.cells #[.int .i64 0,.int .i64 0] 23)
 have D1 := (Blk.new (w.alloc (.cells #[.int .i64 an,.int .i64 ad] 23)) 23 #[.int .i64 bn,.int .i64 bd]).alloc (.cells #[.int .i64 0,.int .i64 0] 23)
 have D2 := Blk.new ((w.alloc (.cells #[.int .i64 an,.int .i64 ad] 23)).alloc (.cells #[.int .i64 bn,.int .i64 bd] 23)) 23 #[.int .i64 0,.int .i64 0]
 have hB := (((Below.refl _ w).alloc (Nat.le_refl _) (.cells #[.int .i64 an,.int .i64 ad] 23)).alloc (by simp) (.cells #[.int .i64 bn,.int .i64 bd] 23)).alloc (by simp;omega) (.cells #[.int .i64 0,.int .i64 0] 23)
 rw [show ((w.alloc (.cells #[.int .i64 an,.int .i64 ad] 23)).alloc (.cells #[.int .i64 bn,.int .i64 bd] 23)).heap.size = w.heap.size + 1 + 1 by simp] at D2
 rw [World.size_alloc] at D1
 go_enter Tryz.func65,Tryz.ntmps65
 go_wp2_with fail
 generalize ((w.alloc (.cells #[.int .i64 an,.int .i64 ad] 23)).alloc (.cells #[.int .i64 bn,.int .i64 bd] 23)).alloc (.cells #[.int .i64 0,.int .i64 0] 23) = W1 at *
 refine (hva W1).mono ?_
 rintro e w2 ⟨rfl,hb2⟩
 have D0 := D0.below hb2 D0.lt
 have D1 := D1.below hb2 D1.lt
 have D2 := D2.below hb2 D2.lt
 have hB := hB.trans (hb2.mono hB.size)
 have u0 := D1.cell 0
 have u1 := D1.cell 1
 simp only [List.getElem?_toArray,List.getElem?_cons_succ,List.getElem?_cons_zero] at u0 u1
 go_wp2_with fail
 refine (hvb w2).mono ?_
 rintro e w3 ⟨rfl,hb3⟩
 clear u0 u1 hva hvb
 have D0 := D0.below hb3 D0.lt
 have D1 := D1.below hb3 D1.lt
 have D2 := Lib.hid (D2.below hb3 D2.lt)
 have HB := Lib.hid (hB.trans (hb3.mono hB.size))
 have u0 := D0.cell 0
 have u1 := D0.cell 1
 have u2 := D1.cell 0
 have u3 := D1.cell 1
 simp only [List.getElem?_toArray,List.getElem?_cons_succ,List.getElem?_cons_zero] at u0 u1 u2 u3
 clear hb2 hb3 hB D0 D1
 go_wp2_with fail
 refine (HA.out _).mono ?_
 rintro e w4 ⟨rfl,hb4⟩
 have D24 := D2.out.below hb4 D2.out.lt
 have HB4 := HB.out.trans (hb4.mono HB.out.size)
 clear u0 u1 u2 u3
 have q0 := D24.cell 0
 have f0 := D24.frozen 0
 have E1 := (D24.set_ 0 (.int .i64 fx))
 have f1 := E1.frozen 1
 have E2 := E1.set_ 1 (.int .i64 fy)
 have p0 := E2.cell 0
 have p1 := E2.cell 1
 have r1 := E1.cell 1
 simp only [List.setIfInBounds_toArray,List.set_cons_zero,List.set_cons_succ,List.getElem?_toArray,List.getElem?_cons_succ,List.getElem?_cons_zero] at q0 p0 p1 r1
 have HBz := Lib.hid ((HB4.setCell (p := ⟨w.heap.size + 1 + 1,0,none⟩) (by show w.heap.size ≤ w.heap.size + 1 + 1;omega) (.int .i64 fx)).setCell (p := ⟨w.heap.size + 1 + 1,1,none⟩) (by show w.heap.size ≤ w.heap.size + 1 + 1;omega) (.int .i64 fy))
 clear D24 HB4 E1 E2
 go_wp2_with fail
 refine bodyPost_ret (v := .tuple #[.agg #[.int .i64 fx,.int .i64 fy],.int .i64 fz]) (by simp [results,Tryz.results65,go_sem,p0,p1]) rfl ?_
 exact ⟨rfl,HBz.out⟩
def spare23 (m : Int) (f a : FrT) : Rat := qOf ⟨m,1⟩ / qOf f - qOf a
def sparesL (m : Int) (f : FrT) (l : List FrT) : List FrT := l.map fun a => frOf (spare23 m f a)
def spareE (s : SetT) (f : FrT) : Int := if givenE s f = 0 then (if fracOk (qOf ⟨s.most,1⟩ / qOf f) = true then (if (linesL s).all (fun a => fracOk (spare23 s.most f a)) = true then 0 else 5) else 5) else givenE s f
def Spare23Post (s : SetT) (f : FrT) (w : World) (e : Ending) (w' : World) : Prop :=
 Below w.heap.size w w' ∧ ((spareE s f = 0 ∧ ∃ v,e = .returned (.tuple #[v,.int .i64 0]) ∧ FrsAt w' w'.heap.size v (sparesL s.most f (linesL s))) ∨ (spareE s f ≠ 0 ∧ e = .returned (.tuple #[.slice none 0 0,.int .i64 (spareE s f)])))
theorem cutP {G F : Nat → World → Prop} {R : Prop} (h2 : (∀ n w,F n w → G n w) → R) (h1 : ∀ n w,F n w → G n w) : R := h2 h1
theorem frac_okV {q : Rat} {fx fy fz : Int} (h : fracV q = .tuple #[.agg #[.int .i64 fx,.int .i64 fy],.int .i64 fz]) : (fracOk q = true → frGood ⟨fx,fy⟩ = true ∧ frOf q = ⟨fx,fy⟩ ∧ fz = 0) ∧ (fracOk q = false → fz = 5) := by
 refine ⟨fun hk => ?_,fun hk => ?_⟩
 ·have h2 := fracV_ok hk
  rw [h] at h2
  injection h2 with h2
  injection h2 with h2
  injection h2 with h3 h4
  injection h3 with h3
  injection h3 with h3
  injection h3 with h5 h6
  injection h5 with _ h5
  injection h6 with h6 _
  injection h6 with _ h6
  injection h4 with h4 _
  injection h4 with _ h4
  have e : frOf q = ⟨fx,fy⟩ := by unfold frOf;rw [h5,h6]
  exact ⟨by rw [← e];exact good_q hk,e,h4⟩
 ·have h2 := fracV_no hk
  rw [h] at h2
  injection h2 with h2
  injection h2 with h2
  injection h2 with h3 h4
  injection h4 with h4 _
  injection h4 with _ h4
set_option maxRecDepth 100000 in
set_option maxHeartbeats 4000000 in
theorem lmSpare (v : Value) (s : SetT) (f : FrT) (w : World) (hv : SetAt w w.heap.size v s) (hn : SetNames s) : Calls Tryz.prog 19 #[v,f.val] w (Spare23Post s f w) := by
 have HGv := fun W (hb : Below w.heap.size w W) => lmGiven v s f W ((hv.below hb (Nat.le_refl _)).mono hb.size) hn
 obtain ⟨Al,cl,Ai,ci,Ab,cb,rfl,-,-,-⟩ := hv
 unfold Given23Post at HGv
 unfold Spare23Post
 have hfv : f.val = .agg #[.int .i64 f.num,.int .i64 f.den] := rfl
 have HCE : Hid (spareE s f = if givenE s f = 0 then (if fracOk (qOf ⟨s.most,1⟩ / qOf f) = true then (if (linesL s).all (fun a => fracOk (spare23 s.most f a)) = true then 0 else 5) else 5) else givenE s f) := rfl
 have HGI : Hid (givenE s f = 0 → setB s = true ∧ facE f = 0 ∧ linesErr s = 0) := given23
 have HFI : Hid (facE f = 0 → frGood f = true ∧ f.den ≤ f.num ∧ f.num ≤ 100 ∧ f.den ≤ 100) := fac23
 have HLn : Hid (linesErr s = 0 → setB s = true ∧ (∀ f ∈ linesL s,frGood f = true) ∧ (linesL s).length ≤ 12 ∧ 0 < (linesL s).length) := lines23
 generalize linesL s = l at *
 obtain ⟨fn,hfn⟩ : ∃ fn,f.num = fn := ⟨_,rfl⟩
 obtain ⟨fd,hfd⟩ : ∃ fd,f.den = fd := ⟨_,rfl⟩
 rw [hfn,hfd] at hfv
 rw [hfv] at HGv ⊢
 have HD := Lib.hid ((Blk.new w 37 #[.string s.name,.int .i64 s.depth,.int .i64 s.low,.int .i64 s.high,.int .i64 s.len,.slice Al s.lines.length cl,.int .i64 s.pipe,.int .i64 s.arbor,.int .i64 s.purch,.int .i64 s.most,.int .i64 s.brake,.slice Ai s.items.length ci,.slice Ab s.bricks.length cb]).alloc (.cells #[.int .i64 fn,.int .i64 fd] 23))
 have hE := Blk.new (w.alloc (.cells #[.string s.name,.int .i64 s.depth,.int .i64 s.low,.int .i64 s.high,.int .i64 s.len,.slice Al s.lines.length cl,.int .i64 s.pipe,.int .i64 s.arbor,.int .i64 s.purch,.int .i64 s.most,.int .i64 s.brake,.slice Ai s.items.length ci,.slice Ab s.bricks.length cb] 37)) 23 #[.int .i64 fn,.int .i64 fd]
 rw [World.size_alloc] at hE
 have HE := Lib.hid hE
 have HB1 := Lib.hid (((Below.refl _ w).alloc (Nat.le_refl _) (.cells #[.string s.name,.int .i64 s.depth,.int .i64 s.low,.int .i64 s.high,.int .i64 s.len,.slice Al s.lines.length cl,.int .i64 s.pipe,.int .i64 s.arbor,.int .i64 s.purch,.int .i64 s.most,.int .i64 s.brake,.slice Ai s.items.length ci,.slice Ab s.bricks.length cb] 37)).alloc (by simp) (.cells #[.int .i64 fn,.int .i64 fd] 23))
 have hgv := HGv _ HB1.out
 clear HGv hn hE
 unfold setVal at *
 go_enter Tryz.func19,Tryz.ntmps19
 go_upto_region 1 with fail
 generalize (w.alloc (.cells #[.string s.name,.int .i64 s.depth,.int .i64 s.low,.int .i64 s.high,.int .i64 s.len,.slice Al s.lines.length cl,.int .i64 s.pipe,.int .i64 s.arbor,.int .i64 s.purch,.int .i64 s.most,.int .i64 s.brake,.slice Ai s.items.length ci,.slice Ab s.bricks.length cb] 37)).alloc (.cells #[.int .i64 fn,.int .i64 fd] 23) = W1 at *
 have e0 := HE.out.cell 0
 have e1 := HE.out.cell 1
 have z0 := HD.out.cell 0;have z1 := HD.out.cell 1;have z2 := HD.out.cell 2;have z3 := HD.out.cell 3;have z4 := HD.out.cell 4;have z5 := HD.out.cell 5;have z6 := HD.out.cell 6;have z7 := HD.out.cell 7;have z8 := HD.out.cell 8;have z9 := HD.out.cell 9;have z10 := HD.out.cell 10;have z11 := HD.out.cell 11;have z12 := HD.out.cell 12
 simp only [List.getElem?_toArray,List.getElem?_cons_succ,List.getElem?_cons_zero] at e0 e1 z0 z1 z2 z3 z4 z5 z6 z7 z8 z9 z10 z11 z12
 go_upto_region 2 with (first | (go_at_call 62;refine hgv.mono ?_;rintro e w2 ⟨hb2,⟨hG,v4,rfl,h4⟩ | ⟨hG,rfl⟩⟩))
 rotate_left
 ·have HB2 := Lib.hid (HB1.out.trans (hb2.mono HB1.out.size))
  have hc : spareE s f = givenE s f := by rw [HCE.out,if_neg hG]
  have HC2 : Hid (spareE s f ≠ 0) := by unfold Hid;rw [hc];exact hG
  have HC3 := Lib.hid hc
  have hk2 : (givenE s f != 0) = true := bne_iff_ne.2 hG
  generalize givenE s f = k at *
  clear hgv hb2 hG hc HCE HGI HFI HE HD HB1 e0 e1 z0 z1 z2 z3 z4 z5 z6 z7 z8 z9 z10 z11 z12 HLn
  go_wp2_with fail
  go_ret2
  exact ⟨HB2.out,.inr ⟨HC2.out,by rw [HC3.out];rfl⟩⟩
 obtain ⟨hset,hfac,hle⟩ := HGI.out hG
 obtain ⟨hgood,hnum⟩ := HFI.out hfac
 obtain ⟨-,hlg,hl12,-⟩ := HLn.out hle
 have hmost := (setB_ok hset).most
 have hgz : (givenE s f != 0) = false := by rw [hG];rfl
 have HCF : Hid (spareE s f = if fracOk (qOf ⟨s.most,1⟩ / qOf f) = true then (if l.all (fun a => fracOk (spare23 s.most f a)) = true then 0 else 5) else 5) := by unfold Hid;rw [HCE.out,if_pos hG]
 rw [hG] at *
 have HB2 := Lib.hid (HB1.out.trans (hb2.mono HB1.out.size))
 have HD2 := Lib.hid (HD.out.below hb2 HD.out.lt)
 have HE2 := Lib.hid (HE.out.below hb2 HE.out.lt)
 clear e0 e1 z0 z1 z2 z3 z4 z5 z6 z7 z8 z9 z10 z11 z12 hgv hb2 HCE HGI HFI HD HE HB1 hset hfac hle hgz
 obtain ⟨A,c,rfl,-,hc2,hcl⟩ := h4.open_
 have HCL := Lib.hid hcl
 unfold maxLen at hc2
 have hdv := fun W => raDiv ⟨s.most,1⟩ f W (good_one (by omega) (by omega)) hgood (by have := good_bd hgood;omega)
 obtain ⟨fx,fy,fz,hfv2⟩ := fracV_form (qOf ⟨s.most,1⟩ / qOf f)
 rw [hfv2] at hdv
 have HFV := Lib.hid (frac_okV hfv2)
 have HDv : Hid (∀ W,Calls Tryz.prog 50 #[.agg #[.int .i64 s.most,.int .i64 1],.agg #[.int .i64 fn,.int .i64 fd]] W fun e w' => e = .returned (.tuple #[.agg #[.int .i64 fx,.int .i64 fy],.int .i64 fz]) ∧ Below W.heap.size W w') := fun W => by
  have h := hdv W
  rw [hfv] at h
  exact h
 have HO := Lib.hid fun W => lmOf s.most W
 have HSb : Hid (∀ a,a ∈ l → frGood ⟨fx,fy⟩ = true → qOf ⟨fx,fy⟩ = qOf ⟨s.most,1⟩ / qOf f → ∀ W,Calls Tryz.prog 65 #[.agg #[.int .i64 fx,.int .i64 fy],a.val] W fun e w' => e = .returned (fracV (spare23 s.most f a)) ∧ Below W.heap.size W w') := fun a ha hg hq W => by
  have h := raSub ⟨fx,fy⟩ a W hg (hlg a ha)
  rw [hq] at h
  exact h
 have HSq : Hid (∀ a,spare23 s.most f a = spare23 s.most f a) := fun _ => rfl
 clear hdv hfv2 hlg h4 hcl hgood hnum hfn hfd hfv hG hmost HLn
 go_upto_region 4 with fail
 have HDl : Hid (w.heap.size < w2.heap.size) := HD2.out.lt
 have HEl : Hid (w.heap.size + 1 < w2.heap.size) := HE2.out.lt
 have HD9 := Lib.hid (HD2.out.cell 9)
 have HE0 := Lib.hid (HE2.out.cell 0)
 have HE1 := Lib.hid (HE2.out.cell 1)
 simp only [List.getElem?_toArray,List.getElem?_cons_succ,List.getElem?_cons_zero] at HD9 HE0 HE1
 apply cutP (F := fun n9 w9 => Below w2.heap.size w2 w9 ∧ w2.heap.size ≤ n9 ∧ Blk w9 n9 23 #[.int .i64 fx,.int .i64 fy])
 ·intro key
  have HQ := Lib.hid ((Below.refl w2.heap.size w2).drew)
  refine wp_region_po (fun i => ([.pointer (some ⟨w.heap.size,9,none⟩),.int .i64 s.most,undef,.agg #[.int .i64 fn,.int .i64 fd],undef,undef,undef,undef,undef,undef,undef] : List Value).getD i undef) [2,4,8,9] (by kernel_rfl) (by kernel_rfl) (by kernel_rfl) (by decide) ?_
  generalize w2.drew = W3 at *
  have b9 := (HQ.out.cell (p := ⟨w.heap.size,9,none⟩) HDl.out).trans HD9.out
  have b0 := (HQ.out.cell (p := ⟨w.heap.size + 1,0,none⟩) HEl.out).trans HE0.out
  have b1 := (HQ.out.cell (p := ⟨w.heap.size + 1,1,none⟩) HEl.out).trans HE1.out
  refine poJ_step (L := [2,4,8,9]) rfl (by decide) ?_ ?_
  ·simp only [putAll,Act.put,List.setIfInBounds_toArray,List.set_cons_zero,List.set_cons_succ,readsQ]
   refine ⟨?_,?_,?_,?_,?_,?_,?_,?_,?_,?_,?_,trivial⟩
   all_goals first
    | exact .inl rfl
    | exact .inr (.inl (by decide +kernel))
    | (refine .inr (.inr ?_);go_simp;done)
  intro i o hi hr ho
  simp only [List.mem_cons,List.not_mem_nil,or_false] at hi
  rcases hi with rfl | rfl | rfl | rfl
  ·obtain rfl := Option.some.inj ho
   clear hr ho
   refine .inr (.inr ⟨51,#[.int .i64 s.most],by simp only [putAll,Act.put,List.setIfInBounds_toArray,List.set_cons_zero,List.set_cons_succ,];go_simp,?_⟩)
   refine (HO.out _).mono ?_
   rintro e w3 ⟨rfl,hb_w3⟩
   refine ⟨_,fun i => ([.pointer (some ⟨w.heap.size,9,none⟩),.int .i64 s.most,.agg #[.int .i64 s.most,.int .i64 1],.agg #[.int .i64 fn,.int .i64 fd],undef,undef,undef,undef,undef,undef,undef] : List Value).getD i undef,rfl,agreeL_all (by refine ⟨?_,?_,?_,?_,?_,?_,?_,?_,?_,?_,?_,trivial⟩ <;> first | exact .inl rfl | exact .inr (.inr rfl) | exact .inr (.inl (by decide +kernel))),rfl,?_⟩
   have HQ := Lib.hid (HQ.out.trans (hb_w3.mono HQ.out.size))
   have b9 := (HQ.out.cell (p := ⟨w.heap.size,9,none⟩) HDl.out).trans HD9.out
   have b0 := (HQ.out.cell (p := ⟨w.heap.size + 1,0,none⟩) HEl.out).trans HE0.out
   have b1 := (HQ.out.cell (p := ⟨w.heap.size + 1,1,none⟩) HEl.out).trans HE1.out
   refine poJ_step (L := [4,8,9]) rfl (by decide) ?_ ?_
   ·simp only [putAll,Act.put,List.setIfInBounds_toArray,List.set_cons_zero,List.set_cons_succ,readsQ]
    refine ⟨?_,?_,?_,?_,?_,?_,?_,?_,?_,?_,?_,trivial⟩
    all_goals first
     | exact .inl rfl
     | exact .inr (.inl (by decide +kernel))
     | (refine .inr (.inr ?_);go_simp;done)
   intro i o hi hr ho
   simp only [List.mem_cons,List.not_mem_nil,or_false] at hi
   rcases hi with rfl | rfl | rfl
   ·obtain rfl := Option.some.inj ho
    clear hr ho
    refine .inr (.inr ⟨50,#[.agg #[.int .i64 s.most,.int .i64 1],.agg #[.int .i64 fn,.int .i64 fd]],by simp only [putAll,Act.put,List.setIfInBounds_toArray,List.set_cons_zero,List.set_cons_succ,];go_simp,?_⟩)
    refine (HDv.out _).mono ?_
    rintro e w4 ⟨rfl,hb_w4⟩
    refine ⟨_,fun i => ([.pointer (some ⟨w.heap.size,9,none⟩),.int .i64 s.most,.agg #[.int .i64 s.most,.int .i64 1],.agg #[.int .i64 fn,.int .i64 fd],.tuple #[.agg #[.int .i64 fx,.int .i64 fy],.int .i64 fz],.tuple #[.agg #[.int .i64 fx,.int .i64 fy],.int .i64 fz],.agg #[.int .i64 fx,.int .i64 fy],.int .i64 fz,undef,undef,.int .i64 fz] : List Value).getD i undef,rfl,agreeL_all (by refine ⟨?_,?_,?_,?_,?_,?_,?_,?_,?_,?_,?_,trivial⟩ <;> first | exact .inl rfl | exact .inr (.inr rfl) | exact .inr (.inl (by decide +kernel))),rfl,?_⟩
    have HQ := Lib.hid (HQ.out.trans (hb_w4.mono HQ.out.size))
    have b9 := (HQ.out.cell (p := ⟨w.heap.size,9,none⟩) HDl.out).trans HD9.out
    have b0 := (HQ.out.cell (p := ⟨w.heap.size + 1,0,none⟩) HEl.out).trans HE0.out
    have b1 := (HQ.out.cell (p := ⟨w.heap.size + 1,1,none⟩) HEl.out).trans HE1.out
    refine poJ_step (L := [8,9]) rfl (by decide) ?_ ?_
    ·simp only [putAll,Act.put,List.setIfInBounds_toArray,List.set_cons_zero,List.set_cons_succ,readsQ]
     refine ⟨?_,?_,?_,?_,?_,?_,?_,?_,?_,?_,?_,trivial⟩
     all_goals first
      | exact .inl rfl
      | exact .inr (.inl (by decide +kernel))
      | (refine .inr (.inr ?_);go_simp;done)
    intro i o hi hr ho
    simp only [List.mem_cons,List.not_mem_nil,or_false] at hi
    rcases hi with rfl | rfl
    ·obtain rfl := Option.some.inj ho
     clear hr ho
     have HQ0 := HQ
     have hqs := HQ.out.size
     have hqa := HQ.out.alloc hqs (.cells #[.int .i64 0,.int .i64 0] 23)
     refine .inr (.inl ⟨_,(w4.alloc (.cells #[.int .i64 0,.int .i64 0] 23)),fun i => ([.pointer (some ⟨w.heap.size,9,none⟩),.int .i64 s.most,.agg #[.int .i64 s.most,.int .i64 1],.agg #[.int .i64 fn,.int .i64 fd],.tuple #[.agg #[.int .i64 fx,.int .i64 fy],.int .i64 fz],.tuple #[.agg #[.int .i64 fx,.int .i64 fy],.int .i64 fz],.agg #[.int .i64 fx,.int .i64 fy],.int .i64 fz,.pointer (some ⟨w4.heap.size,0,none⟩),undef,.int .i64 fz] : List Value).getD i undef,by simp only [putAll,Act.put,List.setIfInBounds_toArray,List.set_cons_zero,List.set_cons_succ,];go_simp,agreeL_all (by refine ⟨?_,?_,?_,?_,?_,?_,?_,?_,?_,?_,?_,trivial⟩ <;> first | exact .inl rfl | exact .inr (.inr rfl) | exact .inr (.inl (by decide +kernel))),rfl,?_⟩)
     have HQ := Lib.hid hqa
     have b9 := (HQ.out.cell (p := ⟨w.heap.size,9,none⟩) HDl.out).trans HD9.out
     have b0 := (HQ.out.cell (p := ⟨w.heap.size + 1,0,none⟩) HEl.out).trans HE0.out
     have b1 := (HQ.out.cell (p := ⟨w.heap.size + 1,1,none⟩) HEl.out).trans HE1.out
     refine poJ_step (L := [9]) rfl (by decide) ?_ ?_
     ·simp only [putAll,Act.put,List.setIfInBounds_toArray,List.set_cons_zero,List.set_cons_succ,readsQ]
      refine ⟨?_,?_,?_,?_,?_,?_,?_,?_,?_,?_,?_,trivial⟩
      all_goals first
       | exact .inl rfl
       | exact .inr (.inl (by decide +kernel))
       | (refine .inr (.inr ?_);go_simp;done)
     intro i o hi hr ho
     simp only [List.mem_cons,List.not_mem_nil,or_false] at hi
     subst hi
     obtain rfl := Option.some.inj ho
     clear hr ho
     have HN2 := Lib.hid (Blk.new w4 23 #[.int .i64 0,.int .i64 0])
     have r0 := HN2.out.cell 0
     have f0 := HN2.out.frozen 0
     have r1 := (HN2.out.set_ 0 (.int .i64 fx)).cell 1
     have f1 := (HN2.out.set_ 0 (.int .i64 fx)).frozen 1
     simp only [List.setIfInBounds_toArray,List.set_cons_zero,List.getElem?_toArray,List.getElem?_cons_succ,List.getElem?_cons_zero] at r0 r1
     refine .inl ⟨rfl,(w4.alloc (.cells #[.int .i64 fx,.int .i64 fy] 23)),fun i => ([.pointer (some ⟨w.heap.size,9,none⟩),.int .i64 s.most,.agg #[.int .i64 s.most,.int .i64 1],.agg #[.int .i64 fn,.int .i64 fd],.tuple #[.agg #[.int .i64 fx,.int .i64 fy],.int .i64 fz],.tuple #[.agg #[.int .i64 fx,.int .i64 fy],.int .i64 fz],.agg #[.int .i64 fx,.int .i64 fy],.int .i64 fz,.pointer (some ⟨w4.heap.size,0,none⟩),undef,.int .i64 fz] : List Value).getD i undef,by simp only [putAll,Act.put,List.setIfInBounds_toArray,List.set_cons_zero,List.set_cons_succ,];go_simp,agreeL_all (by refine ⟨?_,?_,?_,?_,?_,?_,?_,?_,?_,?_,?_,trivial⟩ <;> first | exact .inl rfl | exact .inr (.inr rfl) | exact .inr (.inl (by decide +kernel))),?_⟩
     refine poJ_end rfl ?_ ?_
     ·simp only [putAll,Act.put,List.setIfInBounds_toArray,List.set_cons_zero,List.set_cons_succ,readsQ]
      refine ⟨?_,?_,?_,?_,?_,?_,?_,?_,?_,?_,?_,trivial⟩
      all_goals first
       | exact .inl rfl
       | exact .inr (.inl (by decide +kernel))
       | (refine .inr (.inr ?_);go_simp;done)
     simp only [putAll,Act.put,List.setIfInBounds_toArray,List.set_cons_zero,List.set_cons_succ,]
     have HBz := Lib.hid (HQ0.out.alloc HQ0.out.size (.cells #[.int .i64 fx,.int .i64 fy] 23))
     have HLz := Lib.hid HQ0.out.size
     have HFz := Lib.hid (Blk.new w4 23 #[.int .i64 fx,.int .i64 fy])
     generalize (w4.alloc (.cells #[.int .i64 fx,.int .i64 fy] 23)) = w9 at HBz HFz ⊢
     generalize w4.heap.size = n9 at HLz HFz ⊢
     exact key n9 w9 ⟨HBz.out,HLz.out,HFz.out⟩
    ·exact absurd hr (by rw [show rdP .any _ [8,9] 9 = false by kernel_rfl];decide)
   ·obtain rfl := Option.some.inj ho
    clear hr ho
    have hqs := HQ.out.size
    have hqa := HQ.out.alloc hqs (.cells #[.int .i64 0,.int .i64 0] 23)
    refine .inr (.inl ⟨_,(w3.alloc (.cells #[.int .i64 0,.int .i64 0] 23)),fun i => ([.pointer (some ⟨w.heap.size,9,none⟩),.int .i64 s.most,.agg #[.int .i64 s.most,.int .i64 1],.agg #[.int .i64 fn,.int .i64 fd],undef,undef,undef,undef,.pointer (some ⟨w3.heap.size,0,none⟩),undef,undef] : List Value).getD i undef,by simp only [putAll,Act.put,List.setIfInBounds_toArray,List.set_cons_zero,List.set_cons_succ,];go_simp,agreeL_all (by refine ⟨?_,?_,?_,?_,?_,?_,?_,?_,?_,?_,?_,trivial⟩ <;> first | exact .inl rfl | exact .inr (.inr rfl) | exact .inr (.inl (by decide +kernel))),rfl,?_⟩)
    have HQ := Lib.hid hqa
    have b9 := (HQ.out.cell (p := ⟨w.heap.size,9,none⟩) HDl.out).trans HD9.out
    have b0 := (HQ.out.cell (p := ⟨w.heap.size + 1,0,none⟩) HEl.out).trans HE0.out
    have b1 := (HQ.out.cell (p := ⟨w.heap.size + 1,1,none⟩) HEl.out).trans HE1.out
    have HLq := Lib.hid hqs
    have HN2 := Lib.hid (Blk.new w3 23 #[.int .i64 0,.int .i64 0])
    refine poJ_step (L := [4,9]) rfl (by decide) ?_ ?_
    ·simp only [putAll,Act.put,List.setIfInBounds_toArray,List.set_cons_zero,List.set_cons_succ,readsQ]
     refine ⟨?_,?_,?_,?_,?_,?_,?_,?_,?_,?_,?_,trivial⟩
     all_goals first
      | exact .inl rfl
      | exact .inr (.inl (by decide +kernel))
      | (refine .inr (.inr ?_);go_simp;done)
    intro i o hi hr ho
    simp only [List.mem_cons,List.not_mem_nil,or_false] at hi
    rcases hi with rfl | rfl
    ·obtain rfl := Option.some.inj ho
     clear hr ho
     refine .inr (.inr ⟨50,#[.agg #[.int .i64 s.most,.int .i64 1],.agg #[.int .i64 fn,.int .i64 fd]],by simp only [putAll,Act.put,List.setIfInBounds_toArray,List.set_cons_zero,List.set_cons_succ,];go_simp,?_⟩)
     refine (HDv.out _).mono ?_
     rintro e w4 ⟨rfl,hb_w4⟩
     refine ⟨_,fun i => ([.pointer (some ⟨w.heap.size,9,none⟩),.int .i64 s.most,.agg #[.int .i64 s.most,.int .i64 1],.agg #[.int .i64 fn,.int .i64 fd],.tuple #[.agg #[.int .i64 fx,.int .i64 fy],.int .i64 fz],.tuple #[.agg #[.int .i64 fx,.int .i64 fy],.int .i64 fz],.agg #[.int .i64 fx,.int .i64 fy],.int .i64 fz,.pointer (some ⟨w3.heap.size,0,none⟩),undef,.int .i64 fz] : List Value).getD i undef,rfl,agreeL_all (by refine ⟨?_,?_,?_,?_,?_,?_,?_,?_,?_,?_,?_,trivial⟩ <;> first | exact .inl rfl | exact .inr (.inr rfl) | exact .inr (.inl (by decide +kernel))),rfl,?_⟩
     have HQ := Lib.hid (HQ.out.trans (hb_w4.mono HQ.out.size))
     have b9 := (HQ.out.cell (p := ⟨w.heap.size,9,none⟩) HDl.out).trans HD9.out
     have b0 := (HQ.out.cell (p := ⟨w.heap.size + 1,0,none⟩) HEl.out).trans HE0.out
     have b1 := (HQ.out.cell (p := ⟨w.heap.size + 1,1,none⟩) HEl.out).trans HE1.out
     have HN2 := Lib.hid (HN2.out.below hb_w4 HN2.out.lt)
     refine poJ_step (L := [9]) rfl (by decide) ?_ ?_
     ·simp only [putAll,Act.put,List.setIfInBounds_toArray,List.set_cons_zero,List.set_cons_succ,readsQ]
      refine ⟨?_,?_,?_,?_,?_,?_,?_,?_,?_,?_,?_,trivial⟩
      all_goals first
       | exact .inl rfl
       | exact .inr (.inl (by decide +kernel))
       | (refine .inr (.inr ?_);go_simp;done)
     intro i o hi hr ho
     simp only [List.mem_cons,List.not_mem_nil,or_false] at hi
     subst hi
     obtain rfl := Option.some.inj ho
     clear hr ho
     have r0 := HN2.out.cell 0
     have f0 := HN2.out.frozen 0
     have r1 := (HN2.out.set_ 0 (.int .i64 fx)).cell 1
     have f1 := (HN2.out.set_ 0 (.int .i64 fx)).frozen 1
     simp only [List.setIfInBounds_toArray,List.set_cons_zero,List.getElem?_toArray,List.getElem?_cons_succ,List.getElem?_cons_zero] at r0 r1
     refine .inl ⟨rfl,((w4.setCell ⟨w3.heap.size,0,none⟩ (.int .i64 fx)).setCell ⟨w3.heap.size,1,none⟩ (.int .i64 fy)),fun i => ([.pointer (some ⟨w.heap.size,9,none⟩),.int .i64 s.most,.agg #[.int .i64 s.most,.int .i64 1],.agg #[.int .i64 fn,.int .i64 fd],.tuple #[.agg #[.int .i64 fx,.int .i64 fy],.int .i64 fz],.tuple #[.agg #[.int .i64 fx,.int .i64 fy],.int .i64 fz],.agg #[.int .i64 fx,.int .i64 fy],.int .i64 fz,.pointer (some ⟨w3.heap.size,0,none⟩),undef,.int .i64 fz] : List Value).getD i undef,by simp only [putAll,Act.put,List.setIfInBounds_toArray,List.set_cons_zero,List.set_cons_succ,];go_simp,agreeL_all (by refine ⟨?_,?_,?_,?_,?_,?_,?_,?_,?_,?_,?_,trivial⟩ <;> first | exact .inl rfl | exact .inr (.inr rfl) | exact .inr (.inl (by decide +kernel))),?_⟩
     refine poJ_end rfl ?_ ?_
     ·simp only [putAll,Act.put,List.setIfInBounds_toArray,List.set_cons_zero,List.set_cons_succ,readsQ]
      refine ⟨?_,?_,?_,?_,?_,?_,?_,?_,?_,?_,?_,trivial⟩
      all_goals first
       | exact .inl rfl
       | exact .inr (.inl (by decide +kernel))
       | (refine .inr (.inr ?_);go_simp;done)
     simp only [putAll,Act.put,List.setIfInBounds_toArray,List.set_cons_zero,List.set_cons_succ,]
     have HLz := HLq
     have HBz := Lib.hid ((HQ.out.setCell (p := ⟨w3.heap.size,0,none⟩) HLq.out (.int .i64 fx)).setCell (p := ⟨w3.heap.size,1,none⟩) HLq.out (.int .i64 fy))
     have HFz := Lib.hid ((HN2.out.set_ 0 (.int .i64 fx)).set_ 1 (.int .i64 fy))
     simp only [List.setIfInBounds_toArray,List.set_cons_zero,List.set_cons_succ,] at HFz
     generalize ((w4.setCell ⟨w3.heap.size,0,none⟩ (.int .i64 fx)).setCell ⟨w3.heap.size,1,none⟩ (.int .i64 fy)) = w9 at HBz HFz ⊢
     generalize w3.heap.size = n9 at HLz HFz ⊢
     exact key n9 w9 ⟨HBz.out,HLz.out,HFz.out⟩
    ·exact absurd hr (by rw [show rdP .any _ [4,9] 9 = false by kernel_rfl];decide)
   ·exact absurd hr (by rw [show rdP .any _ [4,8,9] 9 = false by kernel_rfl];decide)
  ·exact absurd hr (by rw [show rdP .any _ [2,4,8,9] 4 = false by kernel_rfl];decide)
  ·obtain rfl := Option.some.inj ho
   clear hr ho
   have hqs := HQ.out.size
   have hqa := HQ.out.alloc hqs (.cells #[.int .i64 0,.int .i64 0] 23)
   refine .inr (.inl ⟨_,(W3.alloc (.cells #[.int .i64 0,.int .i64 0] 23)),fun i => ([.pointer (some ⟨w.heap.size,9,none⟩),.int .i64 s.most,undef,.agg #[.int .i64 fn,.int .i64 fd],undef,undef,undef,undef,.pointer (some ⟨W3.heap.size,0,none⟩),undef,undef] : List Value).getD i undef,by simp only [putAll,Act.put,List.setIfInBounds_toArray,List.set_cons_zero,List.set_cons_succ,];go_simp,agreeL_all (by refine ⟨?_,?_,?_,?_,?_,?_,?_,?_,?_,?_,?_,trivial⟩ <;> first | exact .inl rfl | exact .inr (.inr rfl) | exact .inr (.inl (by decide +kernel))),rfl,?_⟩)
   have HQ := Lib.hid hqa
   have b9 := (HQ.out.cell (p := ⟨w.heap.size,9,none⟩) HDl.out).trans HD9.out
   have b0 := (HQ.out.cell (p := ⟨w.heap.size + 1,0,none⟩) HEl.out).trans HE0.out
   have b1 := (HQ.out.cell (p := ⟨w.heap.size + 1,1,none⟩) HEl.out).trans HE1.out
   have HLq := Lib.hid hqs
   have HN2 := Lib.hid (Blk.new W3 23 #[.int .i64 0,.int .i64 0])
   refine poJ_step (L := [2,4,9]) rfl (by decide) ?_ ?_
   ·simp only [putAll,Act.put,List.setIfInBounds_toArray,List.set_cons_zero,List.set_cons_succ,readsQ]
    refine ⟨?_,?_,?_,?_,?_,?_,?_,?_,?_,?_,?_,trivial⟩
    all_goals first
     | exact .inl rfl
     | exact .inr (.inl (by decide +kernel))
     | (refine .inr (.inr ?_);go_simp;done)
   intro i o hi hr ho
   simp only [List.mem_cons,List.not_mem_nil,or_false] at hi
   rcases hi with rfl | rfl | rfl
   ·obtain rfl := Option.some.inj ho
    clear hr ho
    refine .inr (.inr ⟨51,#[.int .i64 s.most],by simp only [putAll,Act.put,List.setIfInBounds_toArray,List.set_cons_zero,List.set_cons_succ,];go_simp,?_⟩)
    refine (HO.out _).mono ?_
    rintro e w3 ⟨rfl,hb_w3⟩
    refine ⟨_,fun i => ([.pointer (some ⟨w.heap.size,9,none⟩),.int .i64 s.most,.agg #[.int .i64 s.most,.int .i64 1],.agg #[.int .i64 fn,.int .i64 fd],undef,undef,undef,undef,.pointer (some ⟨W3.heap.size,0,none⟩),undef,undef] : List Value).getD i undef,rfl,agreeL_all (by refine ⟨?_,?_,?_,?_,?_,?_,?_,?_,?_,?_,?_,trivial⟩ <;> first | exact .inl rfl | exact .inr (.inr rfl) | exact .inr (.inl (by decide +kernel))),rfl,?_⟩
    have HQ := Lib.hid (HQ.out.trans (hb_w3.mono HQ.out.size))
    have b9 := (HQ.out.cell (p := ⟨w.heap.size,9,none⟩) HDl.out).trans HD9.out
    have b0 := (HQ.out.cell (p := ⟨w.heap.size + 1,0,none⟩) HEl.out).trans HE0.out
    have b1 := (HQ.out.cell (p := ⟨w.heap.size + 1,1,none⟩) HEl.out).trans HE1.out
    have HN2 := Lib.hid (HN2.out.below hb_w3 HN2.out.lt)
    refine poJ_step (L := [4,9]) rfl (by decide) ?_ ?_
    ·simp only [putAll,Act.put,List.setIfInBounds_toArray,List.set_cons_zero,List.set_cons_succ,readsQ]
     refine ⟨?_,?_,?_,?_,?_,?_,?_,?_,?_,?_,?_,trivial⟩
     all_goals first
      | exact .inl rfl
      | exact .inr (.inl (by decide +kernel))
      | (refine .inr (.inr ?_);go_simp;done)
    intro i o hi hr ho
    simp only [List.mem_cons,List.not_mem_nil,or_false] at hi
    rcases hi with rfl | rfl
    ·obtain rfl := Option.some.inj ho
     clear hr ho
     refine .inr (.inr ⟨50,#[.agg #[.int .i64 s.most,.int .i64 1],.agg #[.int .i64 fn,.int .i64 fd]],by simp only [putAll,Act.put,List.setIfInBounds_toArray,List.set_cons_zero,List.set_cons_succ,];go_simp,?_⟩)
     refine (HDv.out _).mono ?_
     rintro e w4 ⟨rfl,hb_w4⟩
     refine ⟨_,fun i => ([.pointer (some ⟨w.heap.size,9,none⟩),.int .i64 s.most,.agg #[.int .i64 s.most,.int .i64 1],.agg #[.int .i64 fn,.int .i64 fd],.tuple #[.agg #[.int .i64 fx,.int .i64 fy],.int .i64 fz],.tuple #[.agg #[.int .i64 fx,.int .i64 fy],.int .i64 fz],.agg #[.int .i64 fx,.int .i64 fy],.int .i64 fz,.pointer (some ⟨W3.heap.size,0,none⟩),undef,.int .i64 fz] : List Value).getD i undef,rfl,agreeL_all (by refine ⟨?_,?_,?_,?_,?_,?_,?_,?_,?_,?_,?_,trivial⟩ <;> first | exact .inl rfl | exact .inr (.inr rfl) | exact .inr (.inl (by decide +kernel))),rfl,?_⟩
     have HQ := Lib.hid (HQ.out.trans (hb_w4.mono HQ.out.size))
     have b9 := (HQ.out.cell (p := ⟨w.heap.size,9,none⟩) HDl.out).trans HD9.out
     have b0 := (HQ.out.cell (p := ⟨w.heap.size + 1,0,none⟩) HEl.out).trans HE0.out
     have b1 := (HQ.out.cell (p := ⟨w.heap.size + 1,1,none⟩) HEl.out).trans HE1.out
     have HN2 := Lib.hid (HN2.out.below hb_w4 HN2.out.lt)
     refine poJ_step (L := [9]) rfl (by decide) ?_ ?_
     ·simp only [putAll,Act.put,List.setIfInBounds_toArray,List.set_cons_zero,List.set_cons_succ,readsQ]
      refine ⟨?_,?_,?_,?_,?_,?_,?_,?_,?_,?_,?_,trivial⟩
      all_goals first
       | exact .inl rfl
       | exact .inr (.inl (by decide +kernel))
       | (refine .inr (.inr ?_);go_simp;done)
     intro i o hi hr ho
     simp only [List.mem_cons,List.not_mem_nil,or_false] at hi
     subst hi
     obtain rfl := Option.some.inj ho
     clear hr ho
     have r0 := HN2.out.cell 0
     have f0 := HN2.out.frozen 0
     have r1 := (HN2.out.set_ 0 (.int .i64 fx)).cell 1
     have f1 := (HN2.out.set_ 0 (.int .i64 fx)).frozen 1
     simp only [List.setIfInBounds_toArray,List.set_cons_zero,List.getElem?_toArray,List.getElem?_cons_succ,List.getElem?_cons_zero] at r0 r1
     refine .inl ⟨rfl,((w4.setCell ⟨W3.heap.size,0,none⟩ (.int .i64 fx)).setCell ⟨W3.heap.size,1,none⟩ (.int .i64 fy)),fun i => ([.pointer (some ⟨w.heap.size,9,none⟩),.int .i64 s.most,.agg #[.int .i64 s.most,.int .i64 1],.agg #[.int .i64 fn,.int .i64 fd],.tuple #[.agg #[.int .i64 fx,.int .i64 fy],.int .i64 fz],.tuple #[.agg #[.int .i64 fx,.int .i64 fy],.int .i64 fz],.agg #[.int .i64 fx,.int .i64 fy],.int .i64 fz,.pointer (some ⟨W3.heap.size,0,none⟩),undef,.int .i64 fz] : List Value).getD i undef,by simp only [putAll,Act.put,List.setIfInBounds_toArray,List.set_cons_zero,List.set_cons_succ,];go_simp,agreeL_all (by refine ⟨?_,?_,?_,?_,?_,?_,?_,?_,?_,?_,?_,trivial⟩ <;> first | exact .inl rfl | exact .inr (.inr rfl) | exact .inr (.inl (by decide +kernel))),?_⟩
     refine poJ_end rfl ?_ ?_
     ·simp only [putAll,Act.put,List.setIfInBounds_toArray,List.set_cons_zero,List.set_cons_succ,readsQ]
      refine ⟨?_,?_,?_,?_,?_,?_,?_,?_,?_,?_,?_,trivial⟩
      all_goals first
       | exact .inl rfl
       | exact .inr (.inl (by decide +kernel))
       | (refine .inr (.inr ?_);go_simp;done)
     simp only [putAll,Act.put,List.setIfInBounds_toArray,List.set_cons_zero,List.set_cons_succ,]
     have HLz := HLq
     have HBz := Lib.hid ((HQ.out.setCell (p := ⟨W3.heap.size,0,none⟩) HLq.out (.int .i64 fx)).setCell (p := ⟨W3.heap.size,1,none⟩) HLq.out (.int .i64 fy))
     have HFz := Lib.hid ((HN2.out.set_ 0 (.int .i64 fx)).set_ 1 (.int .i64 fy))
     simp only [List.setIfInBounds_toArray,List.set_cons_zero,List.set_cons_succ,] at HFz
     generalize ((w4.setCell ⟨W3.heap.size,0,none⟩ (.int .i64 fx)).setCell ⟨W3.heap.size,1,none⟩ (.int .i64 fy)) = w9 at HBz HFz ⊢
     generalize W3.heap.size = n9 at HLz HFz ⊢
     exact key n9 w9 ⟨HBz.out,HLz.out,HFz.out⟩
    ·exact absurd hr (by rw [show rdP .any _ [4,9] 9 = false by kernel_rfl];decide)
   ·exact absurd hr (by rw [show rdP .any _ [2,4,9] 4 = false by kernel_rfl];decide)
   ·exact absurd hr (by rw [show rdP .any _ [2,4,9] 9 = false by kernel_rfl];decide)
  ·exact absurd hr (by rw [show rdP .any _ [2,4,8,9] 9 = false by kernel_rfl];decide)
 ·rintro n9 w9 ⟨hb9,hl9,hk9⟩
  have HB9 := Lib.hid hb9
  have HK9 := Lib.hid hk9
  have HN9 : Hid (n9 < w9.heap.size) := hk9.lt
  clear hb9 hl9 hk9 HDv HO HD9 HE0 HE1 HDl HEl HD2 HE2
  cases hok : fracOk (qOf ⟨s.most,1⟩ / qOf f) with
  | false =>
   have hfz := HFV.out.2 hok
   have HC5 : Hid (spareE s f = 5) := by unfold Hid;rw [HCF.out,if_neg (by rw [hok];decide)]
   have HBz := Lib.hid (HB2.out.trans (HB9.out.mono HB2.out.size))
   subst hfz
   clear HFV hok HCF HSb HSq HCL
   go_wp2_with fail
   go_ret2
   exact ⟨HBz.out,.inr ⟨by rw [HC5.out];decide,by rw [HC5.out];rfl⟩⟩
  | true =>
   obtain ⟨hgd,hfo,hfz⟩ := HFV.out.1 hok
   have hq : qOf ⟨fx,fy⟩ = qOf ⟨s.most,1⟩ / qOf f := by rw [← hfo,q_fr]
   have HSc := Lib.hid fun a ha W => HSb.out a ha hgd hq W
   have HC0 : Hid (spareE s f = if l.all (fun a => fracOk (spare23 s.most f a)) = true then 0 else 5) := by unfold Hid;rw [HCF.out,if_pos hok]
   subst hfz
   clear HFV hok HCF HSb HSq hgd hfo hq
   obtain ⟨iF,hiF,hzF0,hzF1,hzF2⟩ := info_parts info_frac
   have HL0 : Hid (w9.ownsRow w9.heap.size 23 2 (.slice none 0 0) 0 ((sparesL s.most f (l.take 0)).flatMap FrT.cells) ∧ Below w9.heap.size w9 w9) := ⟨World.ownsRow_nil _ _ _ _,Below.refl _ _⟩
   go_upto_region 9 with fail
   go_loopw [36,9] (fun ix u wr => ∃ (k : Nat) (ov : Value),k ≤ l.length ∧ ix = .int .i64 k ∧ ov = u ∧ Hid (wr.ownsRow w9.heap.size 23 2 ov k ((sparesL s.most f (l.take k)).flatMap FrT.cells) ∧ Below w9.heap.size w9 wr) ∧ Hid ((l.take k).all (fun a => fracOk (spare23 s.most f a)) = true)) (fun ix _ _ => l.length - (intOf ix).toNat)
   case atStart => exact ⟨0,_,Nat.zero_le _,rfl,rfl,HL0,rfl⟩
   case round =>
    clear HL0
    obtain ⟨k,ov,hk,rfl,rfl,HT,HA⟩ := hrel
    have k0 : (0 : Int) ≤ (k : Int) := Int.natCast_nonneg _
    have HBw := Lib.hid (HB9.out.trans (HT.out.2.mono HB9.out.size))
    by_cases hkl : k < l.length
    ·have k1 : (k : Int) < (l.length : Int) := by omega
     obtain ⟨b1,o1,rfl,hb1,hx⟩ := HCL.out k hkl
     have y0 := (HBw.out.cell (p := ⟨b1,o1 + k * 2,none⟩) hb1).trans (hx k hkl).1
     have y1 := (HBw.out.cell (p := ⟨b1,o1 + k * 2 + 1,none⟩) hb1).trans (hx k hkl).2
     have hsb := HSc.out l[k] (List.getElem_mem hkl)
     have HTk : Hid (∀ (h : k < l.length),sparesL s.most f (l.take (k + 1)) = sparesL s.most f (l.take k) ++ [frOf (spare23 s.most f l[k])]) := fun h => by unfold sparesL;rw [take_snoc l k h,List.map_append];rfl
     have HTA : Hid (∀ (h : k < l.length),(l.take (k + 1)).all (fun a => fracOk (spare23 s.most f a)) = fracOk (spare23 s.most f l[k])) := fun h => by rw [take_snoc l k h,List.all_append,HA.out];simp
     have HNo : Hid (fracOk (spare23 s.most f l[k]) = false → l.all (fun a => fracOk (spare23 s.most f a)) = false) := fun h => by
      rw [List.all_eq_false]
      exact ⟨l[k],List.getElem_mem hkl,by rw [h];simp⟩
     obtain ⟨gx,gy,gz,hg⟩ := fracV_form (spare23 s.most f l[k])
     have HGV := Lib.hid (frac_okV hg)
     rw [hg] at hsb
     have hav : l[k].val = .agg #[.int .i64 l[k].num,.int .i64 l[k].den] := rfl
     rw [hav] at hsb
     have HBx := Lib.hid (Blk.new wr 23 #[.int .i64 l[k].num,.int .i64 l[k].den])
     have hbw := (Below.refl wr.heap.size wr).alloc (Nat.le_refl _) (.cells #[.int .i64 l[k].num,.int .i64 l[k].den] 23)
     have HT4 : Hid ((wr.alloc (.cells #[.int .i64 l[k].num,.int .i64 l[k].den] 23)).ownsRow w9.heap.size 23 2 ov k ((sparesL s.most f (l.take k)).flatMap FrT.cells) ∧ Below w9.heap.size w9 (wr.alloc (.cells #[.int .i64 l[k].num,.int .i64 l[k].den] 23))) := ⟨ownsRow_of HT.out.1 hbw,HT.out.2.alloc HT.out.2.size _⟩
     have q0 := (HT4.out.2.cell (p := ⟨n9,0,none⟩) HN9.out).trans (HK9.out.cell 0)
     have q1 := (HT4.out.2.cell (p := ⟨n9,1,none⟩) HN9.out).trans (HK9.out.cell 1)
     have x0 := HBx.out.cell 0
     have x1 := HBx.out.cell 1
     simp only [List.getElem?_toArray,List.getElem?_cons_succ,List.getElem?_cons_zero] at q0 q1 x0 x1
     have HTn := Lib.hid (HTk.out hkl)
     have HTan := Lib.hid (HTA.out hkl)
     clear hx hg hav hbw HTk HTA
     generalize spare23 s.most f l[k] = sq at *
     go_upto_region 12 with (first | (go_at_call 65;refine (hsb _).mono ?_;rintro e w5 ⟨rfl,hb5⟩))
     have HT5 : Hid (w5.ownsRow w9.heap.size 23 2 ov k ((sparesL s.most f (l.take k)).flatMap FrT.cells) ∧ Below w9.heap.size w9 w5) := ⟨ownsRow_of HT4.out.1 hb5,HT4.out.2.trans (hb5.mono HT4.out.2.size)⟩
     clear y0 y1 q0 q1 x0 x1 hb5 HT4 HT HBx HBw
     cases hks : fracOk sq with
     | false =>
      have hgz := HGV.out.2 hks
      have HC5 : Hid (spareE s f = 5) := by unfold Hid;rw [HC0.out,if_neg (by rw [HNo.out hks];decide)]
      have HBz := Lib.hid (HB2.out.trans ((HB9.out.trans ((HT5.out.2.alloc HT5.out.2.size (.cells #[.int .i64 gx,.int .i64 gy] 23)).mono HB9.out.size)).mono HB2.out.size))
      subst hgz
      clear hks HNo
      go_wp2_with fail
      go_ret2
      exact ⟨HBz.out,.inr ⟨by rw [HC5.out];decide,by rw [HC5.out];rfl⟩⟩
     | true =>
      obtain ⟨-,hgo,hgz⟩ := HGV.out.1 hks
      rw [hks] at HTan
      rw [hgo] at HTn
      subst hgz
      have hb6 := ((Below.refl w5.heap.size w5).alloc (Nat.le_refl _) (.cells #[.int .i64 gx,.int .i64 gy] 23))
      have hb7 := hb6.alloc hb6.size (.cells #[.int .i64 gx,.int .i64 gy] 23)
      have HT7 : Hid (((w5.alloc (.cells #[.int .i64 gx,.int .i64 gy] 23)).alloc (.cells #[.int .i64 gx,.int .i64 gy] 23)).ownsRow w9.heap.size 23 2 ov k ((sparesL s.most f (l.take k)).flatMap FrT.cells)) := ownsRow_of HT5.out.1 hb7
      have HB7 := Lib.hid (HT5.out.2.trans (hb7.mono HT5.out.2.size))
      have hnew := World.news_of_block (Blk.new (w5.alloc (.cells #[.int .i64 gx,.int .i64 gy] 23)) 23 #[.int .i64 gx,.int .i64 gy])
      rw [World.size_alloc] at hnew
      have Hnew := Lib.hid hnew
      have x0 := (Blk.new w5 23 #[.int .i64 gx,.int .i64 gy]).cell 0
      have x1 := (Blk.new w5 23 #[.int .i64 gx,.int .i64 gy]).cell 1
      simp only [List.getElem?_toArray,List.getElem?_cons_succ,List.getElem?_cons_zero] at x0 x1
      have hsz7 := HB7.out.size
      clear hks HNo hgo hb6 hb7 hnew HT5
      go_wp2_with (at_builtin;refine wpList_append_own _ rfl _ _ 42 rfl w9.heap.size 23 iF (.agg #[.int .i64 0,.int .i64 0]) 2 16 Tryz.underlying42 hiF hzF0 hzF1 hzF2 rfl (by decide) _ _ _ rfl HT7.out ⟨w5.heap.size + 1,0,none⟩ 1 1 [.int .i64 gx,.int .i64 gy] rfl rfl Hnew.out (by simp [Value.oneCell']) (by unfold maxLen;omega) (by omega) hsz7 ?_;intro v8 w8 hown8 hgrow8 _;have HO8 := Lib.hid hown8;have HB8 := Lib.hid (HB7.out.grown hgrow8 hsz7 (fun k e => (HT7.out.lt k e).1));clear hown8 hgrow8)
      go_roundw
      case rel => exact ⟨k + 1,_,by omega,by go_num,rfl,⟨by rw [HTn.out,List.flatMap_append];exact HO8.out,HB8.out⟩,HTan.out⟩
      case measure => simp [intOf];omega
    ·obtain rfl : k = l.length := by omega
     have HA2 : Hid (spareE s f = 0) := by unfold Hid;rw [HC0.out,if_pos (by have h := HA.out;rw [List.take_length] at h;exact h)]
     have HBz := Lib.hid (HB2.out.trans (HBw.out.mono HB2.out.size))
     have HOz := HT.out.1
     rw [List.take_length] at HOz
     have HOz := Lib.hid HOz
     have HLen : Hid ((sparesL s.most f l).length = l.length) := by unfold Hid sparesL;rw [List.length_map]
     clear HC0 HBw
     go_wp2_with fail
     go_ret2
     exact ⟨HBz.out,.inl ⟨HA2.out,ov,rfl,by unfold FrsAt;rw [HLen.out];exact Flat.of_own HOz.out⟩⟩
end Go.Proofs.YtknkhnahflmjiaaGreatDoor

namespace Go.Proofs.YtknkhnahflmjiaaGreatDoor
open Go.RowKit Go.Shelf
def ex23 : SetT := ⟨⟨#[115]⟩,0,0,1000,1000,[0,1000],60,0,1,300,0,[],[]⟩
set_option maxRecDepth 100000 in
set_option maxHeartbeats 2000000 in
theorem lawExample23 (w : World) : Calls Tryz.prog 48 #[] w fun e w' => ∃ v,e = .returned v ∧ SetAt w' w'.heap.size v ex23 ∧ Below w.heap.size w w' := by
 go_enter Tryz.func48,Tryz.ntmps48
 go_wp2_with fail
 have h1 := ints_new (w.alloc (.cells #[.string ⟨#[115]⟩,.int .i64 0,.int .i64 0,.int .i64 1000,.int .i64 1000,.slice (some ⟨w.heap.size + 1,0,none⟩) 2 2,.int .i64 60,.int .i64 0,.int .i64 1,.int .i64 300,.int .i64 0,.slice none 0 0,.slice none 0 0] 37)) 3 [0,1000] (by decide)
 have hb1 : Below w.heap.size w (w.alloc (.cells #[.string ⟨#[115]⟩,.int .i64 0,.int .i64 0,.int .i64 1000,.int .i64 1000,.slice (some ⟨w.heap.size + 1,0,none⟩) 2 2,.int .i64 60,.int .i64 0,.int .i64 1,.int .i64 300,.int .i64 0,.slice none 0 0,.slice none 0 0] 37)) := (Below.refl _ _).alloc (Nat.le_refl _) _
 have hd := Blk.new w 37 #[.string ⟨#[115]⟩,.int .i64 0,.int .i64 0,.int .i64 1000,.int .i64 1000,.slice (some ⟨w.heap.size + 1,0,none⟩) 2 2,.int .i64 60,.int .i64 0,.int .i64 1,.int .i64 300,.int .i64 0,.slice none 0 0,.slice none 0 0]
 have hs : (w.alloc (.cells #[.string ⟨#[115]⟩,.int .i64 0,.int .i64 0,.int .i64 1000,.int .i64 1000,.slice (some ⟨w.heap.size + 1,0,none⟩) 2 2,.int .i64 60,.int .i64 0,.int .i64 1,.int .i64 300,.int .i64 0,.slice none 0 0,.slice none 0 0] 37)).heap.size = w.heap.size + 1 := by simp
 generalize w.alloc (.cells #[.string ⟨#[115]⟩,.int .i64 0,.int .i64 0,.int .i64 1000,.int .i64 1000,.slice (some ⟨w.heap.size + 1,0,none⟩) 2 2,.int .i64 60,.int .i64 0,.int .i64 1,.int .i64 300,.int .i64 0,.slice none 0 0,.slice none 0 0] 37) = W1 at *
 rw [hs] at h1
 have h1 : IntsAt (W1.alloc (.cells #[.int .i64 0,.int .i64 1000] 3)) (W1.alloc (.cells #[.int .i64 0,.int .i64 1000] 3)).heap.size (.slice (some ⟨w.heap.size + 1,0,none⟩) 2 2) [0,1000] := h1
 have hd3 := hd.alloc (.cells #[.int .i64 0,.int .i64 1000] 3)
 have hb2 : Below W1.heap.size W1 (W1.alloc (.cells #[.int .i64 0,.int .i64 1000] 3)) := (Below.refl _ _).alloc (Nat.le_refl _) _
 have HB := Lib.hid (hb1.trans (hb2.mono hb1.size))
 generalize W1.alloc (.cells #[.int .i64 0,.int .i64 1000] 3) = W4 at *
 have z0 := hd3.cell 0
 have z1 := hd3.cell 1
 have z2 := hd3.cell 2
 have z3 := hd3.cell 3
 have z4 := hd3.cell 4
 have z5 := hd3.cell 5
 have z6 := hd3.cell 6
 have z7 := hd3.cell 7
 have z8 := hd3.cell 8
 have z9 := hd3.cell 9
 have z10 := hd3.cell 10
 have z11 := hd3.cell 11
 have z12 := hd3.cell 12
 simp only [List.getElem?_toArray,List.getElem?_cons_succ,List.getElem?_cons_zero] at z0 z1 z2 z3 z4 z5 z6 z7 z8 z9 z10 z11 z12
 refine bodyPost_ret (v := .agg #[.string ⟨#[115]⟩,.int .i64 0,.int .i64 0,.int .i64 1000,.int .i64 1000,.slice (some ⟨w.heap.size + 1,0,none⟩) 2 2,.int .i64 60,.int .i64 0,.int .i64 1,.int .i64 300,.int .i64 0,.slice none 0 0,.slice none 0 0]) (by simp [results,Tryz.results48,go_sem,z0,z1,z2,z3,z4,z5,z6,z7,z8,z9,z10,z11,z12]) rfl ?_
 exact ⟨_,rfl,⟨_,_,_,_,_,_,rfl,h1,⟨none,0,rfl,Nat.le_refl _,Nat.zero_le _,fun h => absurd h (Nat.lt_irrefl 0)⟩,⟨none,0,rfl,Nat.le_refl _,Nat.zero_le _,fun h => absurd h (Nat.lt_irrefl 0)⟩⟩,HB.out⟩
theorem ex23_names : SetNames ex23 := ⟨(show 1 ≤ maxLen by unfold maxLen;decide),(fun x hx => absurd hx List.not_mem_nil),(fun x hx => absurd hx List.not_mem_nil)⟩
theorem ex23_check : check23E ex23 ⟨11,1⟩ = 0 := by decide +kernel
theorem ex23_finds : finds23 ex23.most ⟨11,1⟩ (linesL ex23) = [⟨1,⟨#[49]⟩⟩,⟨1,⟨#[50]⟩⟩] := by decide +kernel
theorem ex23_spare : spareE ex23 ⟨8,1⟩ = 0 := by decide +kernel
theorem ex23_spares : sparesL ex23.most ⟨8,1⟩ (linesL ex23) = [⟨15,2⟩,⟨15,2⟩] := by decide +kernel
theorem ex23_fac : fracV (qOf ⟨300,1⟩ / qOf ⟨30,1⟩) = .tuple #[.agg #[.int .i64 10,.int .i64 1],.int .i64 0] := by
 have h : fracOk (qOf ⟨300,1⟩ / qOf ⟨30,1⟩) = true ∧ (qOf ⟨300,1⟩ / qOf ⟨30,1⟩).num = 10 ∧ (qOf ⟨300,1⟩ / qOf ⟨30,1⟩).den = 1 := by decide +kernel
 rw [fracV_ok h.1,h.2.1,h.2.2]
 rfl
theorem law23Whole (n : Int) (w : World) : Calls Tryz.prog 15 #[.int .i64 n] w fun e w' => e = .returned (.agg #[.int .i64 n,.int .i64 1]) ∧ Below w.heap.size w w' := by
 have z0 := (Blk.new w 23 #[.int .i64 n,.int .i64 1]).cell 0
 have z1 := (Blk.new w 23 #[.int .i64 n,.int .i64 1]).cell 1
 simp only [List.getElem?_toArray,List.getElem?_cons_succ,List.getElem?_cons_zero] at z0 z1
 go_enter Tryz.func15,Tryz.ntmps15
 go_wp2_with fail
 refine bodyPost_ret (v := .agg #[.int .i64 n,.int .i64 1]) (by simp [results,Tryz.results15,go_sem,z0,z1]) rfl ?_
 exact ⟨rfl,(Below.refl _ _).alloc (Nat.le_refl _) _⟩
def gC23 (v0 : Value) : GPost := ⟨fun v => v = v0,fun _ _ => True,⟨_,rfl⟩,fun _ _ _ _ _ => trivial,false⟩
def gF23 (l : List FrT) : GPost := ⟨fun v => ∃ g,v = .slice (some ⟨g,0,none⟩) l.length l.length,fun v w => FrsAt w w.heap.size v l,⟨_,0,rfl⟩,fun _ _ _ hb h => (FrsAt.below h hb (Nat.le_refl _)).mono hb.size,false⟩
def gD23 (l : List FindT) : GPost := ⟨fun v => ∃ g,v = .slice (some ⟨g,0,none⟩) l.length l.length,fun v w => FindsAt w w.heap.size v l,⟨_,0,rfl⟩,fun _ _ _ hb h => (FindsAt.below h hb (Nat.le_refl _)).mono hb.size,false⟩
theorem gF23_new {P : Program} {o : Oper} {a : Act} {w : World} {T : TypeId} {l : List FrT} (hl : l.length ≤ 100) (h : (execOp a.eval o).run P w = .ok (.value (.slice (some ⟨w.heap.size,0,none⟩) l.length l.length)) (w.alloc (.cells (l.flatMap FrT.cells).toArray T))) : newAt P o a (gF23 l) w := by
 refine ⟨_,_,h,(Below.refl _ _).alloc (Nat.le_refl _) _,⟨_,rfl⟩,⟨some ⟨w.heap.size,0,none⟩,l.length,rfl,Nat.le_refl _,by unfold maxLen;omega,fun _ => ⟨w.heap.size,0,rfl,by simp,fun j u hu => ?_⟩⟩,fun h => by cases h⟩
 rw [Nat.zero_add,(Blk.new w T _).cell]
 simpa using hu
theorem gD23_new {P : Program} {o : Oper} {a : Act} {w : World} {T : TypeId} {l : List FindT} (hl : l.length ≤ 100) (h : (execOp a.eval o).run P w = .ok (.value (.slice (some ⟨w.heap.size,0,none⟩) l.length l.length)) (w.alloc (.cells (l.flatMap FindT.cells).toArray T))) : newAt P o a (gD23 l) w := by
 refine ⟨_,_,h,(Below.refl _ _).alloc (Nat.le_refl _) _,⟨_,rfl⟩,⟨some ⟨w.heap.size,0,none⟩,l.length,rfl,Nat.le_refl _,by unfold maxLen;omega,fun _ => ⟨w.heap.size,0,rfl,by simp,fun j u hu => ?_⟩⟩,fun h => by cases h⟩
 rw [Nat.zero_add,(Blk.new w T _).cell]
 simpa using hu
theorem whole23_g (n : Int) (w : World) : Calls Tryz.prog 15 #[.int .i64 n] w fun e w' => ∃ v,e = .returned v ∧ Below w.heap.size w w' ∧ (gC23 (.agg #[.int .i64 n,.int .i64 1])).σ v ∧ (gC23 (.agg #[.int .i64 n,.int .i64 1])).φ v w' :=
 (law23Whole n w).mono fun _ _ ⟨he,hb⟩ => ⟨_,he,hb,rfl,trivial⟩
theorem ex23Spare (v : Value) (w : World) (hv : SetAt w w.heap.size v ex23) : Calls Tryz.prog 19 #[v,.agg #[.int .i64 8,.int .i64 1]] w fun e w' => ∃ A c,e = .returned (.tuple #[.slice A 2 c,.int .i64 0]) ∧ FrsAt w' w'.heap.size (.slice A 2 c) [⟨15,2⟩,⟨15,2⟩] ∧ Below w.heap.size w w' := by
 refine (lmSpare v ex23 ⟨8,1⟩ w hv ex23_names).mono ?_
 rintro e w' ⟨hb,⟨-,u,rfl,h⟩ | ⟨h,-⟩⟩
 ·rw [ex23_spares] at h
  obtain ⟨A,c,rfl,-⟩ := h.open_
  exact ⟨A,c,rfl,h,hb⟩
 ·exact absurd ex23_spare h
theorem ex23Check (v : Value) (w : World) (hv : SetAt w w.heap.size v ex23) : Calls Tryz.prog 18 #[v,.agg #[.int .i64 11,.int .i64 1]] w fun e w' => ∃ A c,e = .returned (.tuple #[.slice A 2 c,.int .i64 0]) ∧ FindsAt w' w'.heap.size (.slice A 2 c) [⟨1,⟨#[49]⟩⟩,⟨1,⟨#[50]⟩⟩] ∧ Below w.heap.size w w' := by
 refine (lmCheck v ex23 ⟨11,1⟩ w hv ex23_names).mono ?_
 rintro e w' ⟨hb,⟨-,u,rfl,h⟩ | ⟨h,-⟩⟩
 ·rw [ex23_finds] at h
  obtain ⟨A,c,rfl,-⟩ := h.open_
  exact ⟨A,c,rfl,h,hb⟩
 ·exact absurd ex23_check h
set_option maxRecDepth 100000 in
set_option maxHeartbeats 4000000 in
theorem lawAwake23 (w : World) : Calls Tryz.prog 11 #[] w fun e w' => e = .returned (.bool true) ∧ Below w.heap.size w w' := by
 have HFa := Lib.hid fun W => lmFactor ⟨30,1⟩ 300 W (by decide +kernel) (by decide) (by decide)
 rw [ex23_fac] at HFa
 go_enter Tryz.func11,Tryz.ntmps11
 go_upto_region 2 with (first | (go_at_call 15;refine (law23Whole 30 _).mono ?_;rintro e w1 ⟨rfl,hb1⟩) | (go_at_call 12;refine (HFa.out _).mono ?_;rintro e w2 ⟨rfl,hb2⟩))
 have HX := Lib.hid (Blk.new w2 23 #[.int .i64 10,.int .i64 1])
 have HB := Lib.hid ((hb1.trans (hb2.mono hb1.size)).alloc (hb1.trans (hb2.mono hb1.size)).size (.cells #[.int .i64 10,.int .i64 1] 23))
 clear hb1 hb2 HFa
 generalize w2.alloc (.cells #[.int .i64 10,.int .i64 1] 23) = W3 at *
 generalize w2.heap.size = x1 at *
 go_upto_region 3 with (first | (go_at_call 48;refine (lawExample23 _).mono ?_;rintro e w4 ⟨v4,rfl,hS4,hb4⟩) | (go_at_call 15;refine (law23Whole 8 _).mono ?_;rintro e w5 ⟨rfl,hb5⟩) | (go_at_call 19;refine (ex23Spare v4 _ ((hS4.below hb5 (Nat.le_refl _)).mono hb5.size)).mono ?_;rintro e w6 ⟨AS,cS,rfl,hF6,hb6⟩))
 have hb46 := (hb4.trans (hb5.mono hb4.size)).trans (hb6.mono (hb4.trans (hb5.mono hb4.size)).size)
 have HX := Lib.hid (HX.out.below hb46 HX.out.lt)
 have HB := Lib.hid (HB.out.trans (hb46.mono HB.out.size))
 clear hS4 hb4 hb5 hb6 hb46
 go_upto_region 4 with (first | (go_at_call 48;refine (lawExample23 _).mono ?_;rintro e w4 ⟨v4,rfl,hS4,hb4⟩) | (go_at_call 15;refine (law23Whole 11 _).mono ?_;rintro e w5 ⟨rfl,hb5⟩) | (go_at_call 18;refine (ex23Check v4 _ ((hS4.below hb5 (Nat.le_refl _)).mono hb5.size)).mono ?_;rintro e w7 ⟨AC,cC,rfl,hF7,hb6⟩))
 have hb46 := (hb4.trans (hb5.mono hb4.size)).trans (hb6.mono (hb4.trans (hb5.mono hb4.size)).size)
 have HX := Lib.hid (HX.out.below hb46 HX.out.lt)
 have HB := Lib.hid (HB.out.trans (hb46.mono HB.out.size))
 have HFs := Lib.hid ((hF6.below hb46 (Nat.le_refl _)).mono hb46.size)
 have HFc := Lib.hid hF7
 clear hS4 hb4 hb5 hb6 hb46 hF6 hF7
 have y0 := HX.out.cell 0
 have y1 := HX.out.cell 1
 simp only [List.getElem?_toArray,List.getElem?_cons_succ,List.getElem?_cons_zero] at y0 y1
 have u0 := HeldB.cell y0
 have u1 := HeldB.cell y1
 clear y0 y1
 refine wp_region_grow 29 (fun jx => if jx = 4 then some (gC23 (.agg #[.int .i64 10,.int .i64 1])) else if jx = 15 then some (gF23 [⟨15,2⟩,⟨15,2⟩]) else if jx = 16 then some (gC23 (.bool true)) else if jx = 26 then some (gD23 [⟨1,⟨#[49]⟩⟩,⟨1,⟨#[50]⟩⟩]) else if jx = 27 then some (gC23 (.bool true)) else none) (by kernel_rfl) (by kernel_rfl) ?_
 simp only [List.take_succ_cons,List.take_zero,List.drop_succ_cons,List.drop_zero]
 first | refine wpG_quiet1W (by first | rfl | go_simp) rfl rfl ?_ | refine wpG_pickW rfl (by first | rfl | go_simp) rfl ?_
 go_big_quiet_step (fail)
 refine wpQuiet_nil ?_
 first | refine wpG_quiet1W (by first | rfl | go_simp) rfl rfl ?_ | refine wpG_pickW rfl (by first | rfl | go_simp) rfl ?_
 go_big_quiet_step (fail)
 refine wpQuiet_nil ?_
 first | refine wpG_quiet1W (by first | rfl | go_simp) rfl rfl ?_ | refine wpG_pickW rfl (by first | rfl | go_simp) rfl ?_
 go_big_quiet_step (fail)
 refine wpQuiet_nil ?_
 first | refine wpG_quiet1W (by first | rfl | go_simp) rfl rfl ?_ | refine wpG_pickW rfl (by first | rfl | go_simp) rfl ?_
 go_big_quiet_step (fail)
 refine wpQuiet_nil ?_
 refine wpG_callW (by first | rfl | go_simp) rfl (fun w1 hb1 _ => ⟨15,#[.int .i64 10],by go_simp,whole23_g 10 w1⟩) ?_
 rintro _ rfl
 simp only [Act.put,List.setIfInBounds_toArray,List.set_cons_zero,List.set_cons_succ]
 first | refine wpG_quiet1W (by first | rfl | go_simp) rfl rfl ?_ | refine wpG_pickW rfl (by first | rfl | go_simp) rfl ?_
 go_big_quiet_step (fail)
 refine wpQuiet_nil ?_
 first | refine wpG_quiet1W (by first | rfl | go_simp) rfl rfl ?_ | refine wpG_pickW rfl (by first | rfl | go_simp) rfl ?_
 go_big_quiet_step (fail)
 refine wpQuiet_nil ?_
 first | refine wpG_quiet1W (by first | rfl | go_simp) rfl rfl ?_ | refine wpG_pickW rfl (by first | rfl | go_simp) rfl ?_
 go_big_quiet_step (fail)
 refine wpQuiet_nil ?_
 first | refine wpG_quiet1W (by first | rfl | go_simp) rfl rfl ?_ | refine wpG_pickW rfl (by first | rfl | go_simp) rfl ?_
 go_big_quiet_step (fail)
 refine wpQuiet_nil ?_
 first | refine wpG_quiet1W (by first | rfl | go_simp) rfl rfl ?_ | refine wpG_pickW rfl (by first | rfl | go_simp) rfl ?_
 go_big_quiet_step (fail)
 refine wpQuiet_nil ?_
 first | refine wpG_quiet1W (by first | rfl | go_simp) rfl rfl ?_ | refine wpG_pickW rfl (by first | rfl | go_simp) rfl ?_
 go_big_quiet_step (fail)
 refine wpQuiet_nil ?_
 first | refine wpG_quiet1W (by first | rfl | go_simp) rfl rfl ?_ | refine wpG_pickW rfl (by first | rfl | go_simp) rfl ?_
 go_big_quiet_step (fail)
 refine wpQuiet_nil ?_
 first | refine wpG_quiet1W (by first | rfl | go_simp) rfl rfl ?_ | refine wpG_pickW rfl (by first | rfl | go_simp) rfl ?_
 go_big_quiet_step (fail)
 refine wpQuiet_nil ?_
 first | refine wpG_quiet1W (by first | rfl | go_simp) rfl rfl ?_ | refine wpG_pickW rfl (by first | rfl | go_simp) rfl ?_
 go_big_quiet_step (fail)
 refine wpQuiet_nil ?_
 first | refine wpG_quiet1W (by first | rfl | go_simp) rfl rfl ?_ | refine wpG_pickW rfl (by first | rfl | go_simp) rfl ?_
 go_big_quiet_step (fail)
 refine wpQuiet_nil ?_
 refine wpG_newW (by first | rfl | go_simp) rfl (fun w1 hb1 _ => gF23_new (T := 23) (l := [⟨15,2⟩,⟨15,2⟩]) (by decide) (by go_simp;first | rfl | exact ⟨rfl,rfl⟩)) ?_
 rintro _ ⟨g39,rfl⟩
 simp only [Act.put,List.setIfInBounds_toArray,List.set_cons_zero,List.set_cons_succ]
 refine wpG_callW (by first | rfl | go_simp) rfl ?_ ?_
 ·intro w1 hb1 hk
  have h39 : FrsAt w1 w1.heap.size (.slice (some ⟨g39,0,none⟩) 2 2) [⟨15,2⟩,⟨15,2⟩] := hk 39 (of_decide_eq_true (by kernel_rfl))
  exact ⟨28,#[.slice AS 2 cS,.slice (some ⟨g39,0,none⟩) 2 2],by go_simp,(equalFrac _ _ _ _ w1.heap.size w1 ((HFs.out.below hb1 (Nat.le_refl _)).mono hb1.size) h39).mono fun _ _ hp => ⟨_,hp.1,(let ⟨n,e⟩ := hp.2;e ▸ below_drewN (Below.refl _ _) n),rfl,trivial⟩⟩
 rintro _ rfl
 simp only [Act.put,List.setIfInBounds_toArray,List.set_cons_zero,List.set_cons_succ]
 first | refine wpG_quiet1W (by first | rfl | go_simp) rfl rfl ?_ | refine wpG_pickW rfl (by first | rfl | go_simp) rfl ?_
 go_big_quiet_step (fail)
 refine wpQuiet_nil ?_
 first | refine wpG_quiet1W (by first | rfl | go_simp) rfl rfl ?_ | refine wpG_pickW rfl (by first | rfl | go_simp) rfl ?_
 go_big_quiet_step (fail)
 refine wpQuiet_nil ?_
 first | refine wpG_quiet1W (by first | rfl | go_simp) rfl rfl ?_ | refine wpG_pickW rfl (by first | rfl | go_simp) rfl ?_
 go_big_quiet_step (fail)
 refine wpQuiet_nil ?_
 first | refine wpG_quiet1W (by first | rfl | go_simp) rfl rfl ?_ | refine wpG_pickW rfl (by first | rfl | go_simp) rfl ?_
 go_big_quiet_step (fail)
 refine wpQuiet_nil ?_
 first | refine wpG_quiet1W (by first | rfl | go_simp) rfl rfl ?_ | refine wpG_pickW rfl (by first | rfl | go_simp) rfl ?_
 go_big_quiet_step (fail)
 refine wpQuiet_nil ?_
 first | refine wpG_quiet1W (by first | rfl | go_simp) rfl rfl ?_ | refine wpG_pickW rfl (by first | rfl | go_simp) rfl ?_
 go_big_quiet_step (fail)
 refine wpQuiet_nil ?_
 first | refine wpG_quiet1W (by first | rfl | go_simp) rfl rfl ?_ | refine wpG_pickW rfl (by first | rfl | go_simp) rfl ?_
 go_big_quiet_step (fail)
 refine wpQuiet_nil ?_
 first | refine wpG_quiet1W (by first | rfl | go_simp) rfl rfl ?_ | refine wpG_pickW rfl (by first | rfl | go_simp) rfl ?_
 go_big_quiet_step (fail)
 refine wpQuiet_nil ?_
 first | refine wpG_quiet1W (by first | rfl | go_simp) rfl rfl ?_ | refine wpG_pickW rfl (by first | rfl | go_simp) rfl ?_
 go_big_quiet_step (fail)
 refine wpQuiet_nil ?_
 refine wpG_newW (by first | rfl | go_simp) rfl (fun w1 hb1 _ => gD23_new (T := 49) (l := [⟨1,⟨#[49]⟩⟩,⟨1,⟨#[50]⟩⟩]) (by decide) (by go_simp;first | rfl | exact ⟨rfl,rfl⟩)) ?_
 rintro _ ⟨g50,rfl⟩
 simp only [Act.put,List.setIfInBounds_toArray,List.set_cons_zero,List.set_cons_succ]
 refine wpG_callW (by first | rfl | go_simp) rfl ?_ ?_
 ·intro w1 hb1 hk
  have h50 : FindsAt w1 w1.heap.size (.slice (some ⟨g50,0,none⟩) 2 2) [⟨1,⟨#[49]⟩⟩,⟨1,⟨#[50]⟩⟩] := hk 50 (of_decide_eq_true (by kernel_rfl))
  exact ⟨27,#[.slice AC 2 cC,.slice (some ⟨g50,0,none⟩) 2 2],by go_simp,(equalFind _ _ _ _ w1.heap.size w1 ((HFc.out.below hb1 (Nat.le_refl _)).mono hb1.size) h50).mono fun _ _ hp => ⟨_,hp.1,(let ⟨n,e⟩ := hp.2;e ▸ below_drewN (Below.refl _ _) n),rfl,trivial⟩⟩
 rintro _ rfl
 simp only [Act.put,List.setIfInBounds_toArray,List.set_cons_zero,List.set_cons_succ]
 first | refine wpG_quiet1W (by first | rfl | go_simp) rfl rfl ?_ | refine wpG_pickW rfl (by first | rfl | go_simp) rfl ?_
 go_big_quiet_step (fail)
 refine wpQuiet_nil ?_
 refine wpG_nil ?_
 intro w8 hb8 hF
 clear hF
 go_wp2_with fail
 go_ret
 exact ⟨rfl,HB.out.trans (hb8.mono HB.out.size)⟩
end Go.Proofs.YtknkhnahflmjiaaGreatDoor

namespace Go.Proofs.YtknkhnahflmjiaaGreatDoor
open Go.RowKit Go.Shelf
def AnsB (w : World) (e : Ending) (w' : World) : Prop := ∃ q : Bool,e = .returned (.bool q) ∧ Below w.heap.size w w'
set_option maxRecDepth 100000 in
set_option maxHeartbeats 4000000 in
theorem refSmall (v : Value) (s : SetT) (n : Int) (w : World) (hv : SetAt w w.heap.size v s) (_hsz : s.name.size ≤ maxLen) (hnm : ∀ x ∈ s.items,x.name.size ≤ maxLen) (hbm : ∀ x ∈ s.bricks,x.name.size ≤ maxLen) :
  Calls Tryz.prog 41 #[v,.int .i64 n] w (AnsB w) := by
 obtain ⟨Al,cl,Ai,ci,Ab,cb,rfl,hL,hI,hB⟩ := hv
 obtain ⟨_,_,e,hl1,hl2,-⟩ := hL.open_
 injection e with e1 _ e2
 subst e1 e2
 obtain ⟨_,_,e,hi1,hi2,hic⟩ := hI.open_
 injection e with e1 _ e2
 subst e1 e2
 obtain ⟨_,_,e,hk1,hk2,hkc⟩ := hB.open_
 injection e with e1 _ e2
 subst e1 e2
 have HI := Lib.hid hic
 have HK := Lib.hid hkc
 have HN := Lib.hid hnm
 have HM := Lib.hid hbm
 have HD := Lib.hid (Blk.new w 37 #[.string s.name,.int .i64 s.depth,.int .i64 s.low,.int .i64 s.high,.int .i64 s.len,.slice Al s.lines.length cl,.int .i64 s.pipe,.int .i64 s.arbor,.int .i64 s.purch,.int .i64 s.most,.int .i64 s.brake,.slice Ai s.items.length ci,.slice Ab s.bricks.length cb])
 have HB1 := Lib.hid ((Below.refl _ w).alloc (Nat.le_refl _) (.cells #[.string s.name,.int .i64 s.depth,.int .i64 s.low,.int .i64 s.high,.int .i64 s.len,.slice Al s.lines.length cl,.int .i64 s.pipe,.int .i64 s.arbor,.int .i64 s.purch,.int .i64 s.most,.int .i64 s.brake,.slice Ai s.items.length ci,.slice Ab s.bricks.length cb] 37))
 unfold maxLen at hl2 hi2 hk2
 unfold setVal
 clear hL hI hB hic hkc hnm hbm
 by_cases c0 : 60 < (s.name.size : Int)
 ·have d0 : decide (60 < (s.name.size : Int)) = true := decide_eq_true c0
  go_enter Tryz.func41,Tryz.ntmps41
  go_wp2
  go_ret
  exact ⟨_,rfl,HB1.out⟩
 have d0 : decide (60 < (s.name.size : Int)) = false := decide_eq_false c0
 by_cases c1 : 12 < (s.lines.length : Int)
 ·have d1 : decide (12 < (s.lines.length : Int)) = true := decide_eq_true c1
  go_enter Tryz.func41,Tryz.ntmps41
  go_wp2
  go_ret
  exact ⟨_,rfl,HB1.out⟩
 have d1 : decide (12 < (s.lines.length : Int)) = false := decide_eq_false c1
 by_cases c2 : n < (s.items.length : Int)
 ·have d2 : decide (n < (s.items.length : Int)) = true := decide_eq_true c2
  by_cases c3 : (s.items.length : Int) ≤ 40
  ·have d3 : decide ((s.items.length : Int) ≤ 40) = true := decide_eq_true c3
   go_enter Tryz.func41,Tryz.ntmps41
   go_wp2
   go_ret
   exact ⟨_,rfl,HB1.out⟩
  have d3 : decide ((s.items.length : Int) ≤ 40) = false := decide_eq_false c3
  by_cases c4 : 45 < (s.items.length : Int)
  ·have d4 : decide (45 < (s.items.length : Int)) = true := decide_eq_true c4
   go_enter Tryz.func41,Tryz.ntmps41
   go_wp2
   go_ret
   exact ⟨_,rfl,HB1.out⟩
  have d4 : decide (45 < (s.items.length : Int)) = false := decide_eq_false c4
  by_cases c5 : 10 < (s.bricks.length : Int)
  ·have d5 : decide (10 < (s.bricks.length : Int)) = true := decide_eq_true c5
   go_enter Tryz.func41,Tryz.ntmps41
   go_wp2
   go_ret
   exact ⟨_,rfl,HB1.out⟩
  have d5 : decide (10 < (s.bricks.length : Int)) = false := decide_eq_false c5
  go_enter Tryz.func41,Tryz.ntmps41
  go_wp2
  generalize w.alloc (.cells #[.string s.name,.int .i64 s.depth,.int .i64 s.low,.int .i64 s.high,.int .i64 s.len,.slice Al s.lines.length cl,.int .i64 s.pipe,.int .i64 s.arbor,.int .i64 s.purch,.int .i64 s.most,.int .i64 s.brake,.slice Ai s.items.length ci,.slice Ab s.bricks.length cb] 37) = W1 at *
  have z11 := HD.out.cell 11
  have z12 := HD.out.cell 12
  simp only [List.getElem?_toArray,List.getElem?_cons_succ,List.getElem?_cons_zero] at z11 z12
  go_loopw [5] (fun x wr => ∃ k : Nat,k ≤ s.items.length ∧ x = .int .i64 k ∧ W1 = wr) (fun x _ => s.items.length - (intOf x).toNat)
  case atStart => exact ⟨0,Nat.zero_le _,rfl,rfl⟩
  case round =>
   obtain ⟨k,hk,rfl,rfl⟩ := hrel
   by_cases hkl : k < s.items.length
   ·obtain ⟨b,off,rfl,hb,hc⟩ := HI.out k hkl
    have y0 := (HB1.out.cell (p := ⟨b,off + k * 7,none⟩) hb).trans (hc k hkl).1
    have hz := HN.out _ (List.getElem_mem hkl)
    unfold maxLen at hz
    have i1 : (0 : Int) ≤ (k : Int) := Int.natCast_nonneg _
    have i2 : (k : Int) < (s.items.length : Int) := by omega
    clear hc
    by_cases g : 60 < (s.items[k].name.size : Int)
    ·have gd := decide_eq_true g
     go_wp2
     go_ret
     exact ⟨_,rfl,HB1.out⟩
    ·have gd := decide_eq_false g
     go_wp2
     go_roundw
     case rel => exact ⟨k + 1,by omega,by go_num,by trivial⟩
     case measure => simp [intOf];omega
   ·obtain rfl : k = s.items.length := by omega
    go_wp2
    go_loopw [6] (fun x wr => ∃ k : Nat,k ≤ s.bricks.length ∧ x = .int .i64 k ∧ W1 = wr) (fun x _ => s.bricks.length - (intOf x).toNat)
    case atStart => exact ⟨0,Nat.zero_le _,rfl,rfl⟩
    case round =>
     obtain ⟨k,hk,rfl,rfl⟩ := hrel
     by_cases hkl : k < s.bricks.length
     ·obtain ⟨b,off,rfl,hb,hc⟩ := HK.out k hkl
      have y0 := (HB1.out.cell (p := ⟨b,off + k * 3,none⟩) hb).trans (hc k hkl).1
      have hz := HM.out _ (List.getElem_mem hkl)
      unfold maxLen at hz
      have i1 : (0 : Int) ≤ (k : Int) := Int.natCast_nonneg _
      have i2 : (k : Int) < (s.bricks.length : Int) := by omega
      clear hc
      by_cases g : 60 < (s.bricks[k].name.size : Int)
      ·have gd := decide_eq_true g
       go_wp2
       go_ret
       exact ⟨_,rfl,HB1.out⟩
      ·have gd := decide_eq_false g
       go_wp2
       go_roundw
       case rel => exact ⟨k + 1,by omega,by go_num,by trivial⟩
       case measure => simp [intOf];omega
     ·obtain rfl : k = s.bricks.length := by omega
      go_wp2
      go_ret
      exact ⟨_,rfl,HB1.out⟩
 have d2 : decide (n < (s.items.length : Int)) = false := decide_eq_false c2
 by_cases c4 : 45 < (s.items.length : Int)
 ·have d4 : decide (45 < (s.items.length : Int)) = true := decide_eq_true c4
  go_enter Tryz.func41,Tryz.ntmps41
  go_wp2
  go_ret
  exact ⟨_,rfl,HB1.out⟩
 have d4 : decide (45 < (s.items.length : Int)) = false := decide_eq_false c4
 by_cases c5 : 10 < (s.bricks.length : Int)
 ·have d5 : decide (10 < (s.bricks.length : Int)) = true := decide_eq_true c5
  go_enter Tryz.func41,Tryz.ntmps41
  go_wp2
  go_ret
  exact ⟨_,rfl,HB1.out⟩
 have d5 : decide (10 < (s.bricks.length : Int)) = false := decide_eq_false c5
 go_enter Tryz.func41,Tryz.ntmps41
 go_wp2
 generalize w.alloc (.cells #[.string s.name,.int .i64 s.depth,.int .i64 s.low,.int .i64 s.high,.int .i64 s.len,.slice Al s.lines.length cl,.int .i64 s.pipe,.int .i64 s.arbor,.int .i64 s.purch,.int .i64 s.most,.int .i64 s.brake,.slice Ai s.items.length ci,.slice Ab s.bricks.length cb] 37) = W1 at *
 have z11 := HD.out.cell 11
 have z12 := HD.out.cell 12
 simp only [List.getElem?_toArray,List.getElem?_cons_succ,List.getElem?_cons_zero] at z11 z12
 go_loopw [5] (fun x wr => ∃ k : Nat,k ≤ s.items.length ∧ x = .int .i64 k ∧ W1 = wr) (fun x _ => s.items.length - (intOf x).toNat)
 case atStart => exact ⟨0,Nat.zero_le _,rfl,rfl⟩
 case round =>
  obtain ⟨k,hk,rfl,rfl⟩ := hrel
  by_cases hkl : k < s.items.length
  ·obtain ⟨b,off,rfl,hb,hc⟩ := HI.out k hkl
   have y0 := (HB1.out.cell (p := ⟨b,off + k * 7,none⟩) hb).trans (hc k hkl).1
   have hz := HN.out _ (List.getElem_mem hkl)
   unfold maxLen at hz
   have i1 : (0 : Int) ≤ (k : Int) := Int.natCast_nonneg _
   have i2 : (k : Int) < (s.items.length : Int) := by omega
   clear hc
   by_cases g : 60 < (s.items[k].name.size : Int)
   ·have gd := decide_eq_true g
    go_wp2
    go_ret
    exact ⟨_,rfl,HB1.out⟩
   ·have gd := decide_eq_false g
    go_wp2
    go_roundw
    case rel => exact ⟨k + 1,by omega,by go_num,by trivial⟩
    case measure => simp [intOf];omega
  ·obtain rfl : k = s.items.length := by omega
   go_wp2
   go_loopw [6] (fun x wr => ∃ k : Nat,k ≤ s.bricks.length ∧ x = .int .i64 k ∧ W1 = wr) (fun x _ => s.bricks.length - (intOf x).toNat)
   case atStart => exact ⟨0,Nat.zero_le _,rfl,rfl⟩
   case round =>
    obtain ⟨k,hk,rfl,rfl⟩ := hrel
    by_cases hkl : k < s.bricks.length
    ·obtain ⟨b,off,rfl,hb,hc⟩ := HK.out k hkl
     have y0 := (HB1.out.cell (p := ⟨b,off + k * 3,none⟩) hb).trans (hc k hkl).1
     have hz := HM.out _ (List.getElem_mem hkl)
     unfold maxLen at hz
     have i1 : (0 : Int) ≤ (k : Int) := Int.natCast_nonneg _
     have i2 : (k : Int) < (s.bricks.length : Int) := by omega
     clear hc
     by_cases g : 60 < (s.bricks[k].name.size : Int)
     ·have gd := decide_eq_true g
      go_wp2
      go_ret
      exact ⟨_,rfl,HB1.out⟩
     ·have gd := decide_eq_false g
      go_wp2
      go_roundw
      case rel => exact ⟨k + 1,by omega,by go_num,by trivial⟩
      case measure => simp [intOf];omega
    ·obtain rfl : k = s.bricks.length := by omega
     go_wp2
     go_ret
     exact ⟨_,rfl,HB1.out⟩
end Go.Proofs.YtknkhnahflmjiaaGreatDoor
