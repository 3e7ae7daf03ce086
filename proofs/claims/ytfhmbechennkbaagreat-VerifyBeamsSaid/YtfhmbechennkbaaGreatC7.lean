/- Parts of the proof, laid into one text: SlB, Ratio, BmValid, VerA, BmTop, VerB. -/
import Derived.Test.YtfhmbechennkbaaGreatC6
namespace Go.Proofs.YtfhmbechennkbaaGreat
open Go.RowKit Go.Shelf
abbrev LoadT.val (x:LoadT):Value:=.agg #[.int .i64 x.pos,.int .i64 x.wt]
set_option maxRecDepth 100000 in
set_option maxHeartbeats 400000 in
theorem indexFuncLoad (v : Value) (l : List LoadT) (K : Nat) (C : Array Value) (p : LoadT → Bool) (eg : ∀ args w,(callFunc K args).run Tryz.prog w = .ok (.enter K args) w) (w : World) (hl : LoadsAt w w.heap.size v l)
  (hf:∀ t ∈ l,∀ w',Below w.heap.size w w'→Calls Tryz.prog K (#[t.val] ++ C) w' fun e w'' => e = .returned (.bool (p t))∧Below w'.heap.size w' w'') :
  Calls Tryz.prog 65 #[v,.func (.func K) #[] C] w fun e w' => e = .returned (.int .i64 (idxOf (l.findIdx? p)))∧Below w.heap.size w w':=by
 obtain ⟨A,c,rfl,hc1,hc2,hcell⟩:=hl.open_
 unfold maxLen at hc2
 have HF:=Lib.hid hf
 clear hf
 go_enter Tryz.func65,Tryz.ntmps65
 go_wp2
 go_loopw [8] (fun x wr => ∃ j:Nat,j≤l.length∧x = .int .i64 j∧(l.take j).findIdx? p=none∧Below w.heap.size w wr) (fun x _ => l.length-(intOf x).toNat)
 case atStart => exact ⟨0,Nat.zero_le _,rfl,by simp,Below.refl _ _⟩
 case round =>
  obtain ⟨j,hj,rfl,hnm,hbel⟩:=hrel
  have Hnm:=Lib.hid hnm
  clear hnm
  by_cases hlt:j<l.length
  ·obtain ⟨b,off,rfl,hb,hcell⟩:=hcell j hlt
   have h0:=(hbel.cell (p:=⟨b,off+j*2,none⟩) hb).trans (hcell j hlt).1
   have h1:=(hbel.cell (p:=⟨b,off+j*2+1,none⟩) hb).trans (hcell j hlt).2
   clear hcell
   have hcall:=HF.out l[j] (List.getElem_mem hlt)
   cases hq:p l[j] with
   | true =>
    rw [hq] at hcall
    go_wp2_with (go_at_fn K;refine (hcall _ hbel).mono ?_;rintro e w' ⟨rfl,hb'⟩)
    go_ret
    exact ⟨by rw [find_hit Hnm.out hlt hq];rfl,hbel.trans (hb'.mono hbel.size)⟩
   | false =>
    rw [hq] at hcall
    go_wp2_with (go_at_fn K;refine (hcall _ hbel).mono ?_;rintro e w' ⟨rfl,hb'⟩)
    go_roundw
    case rel => exact ⟨j+1,by omega,by go_num,find_miss Hnm.out hlt hq,hbel.trans (hb'.mono hbel.size)⟩
    case measure => simp [intOf];omega
  ·have hje:j=l.length:=by omega
   subst hje
   go_wp2
   go_ret
   exact ⟨by rw [← List.take_length (l:=l),Hnm.out];rfl,hbel⟩
set_option maxHeartbeats 400000 in
theorem containsFuncLoad (v : Value) (l : List LoadT) (K : Nat) (C : Array Value) (p : LoadT → Bool) (eg : ∀ args w,(callFunc K args).run Tryz.prog w = .ok (.enter K args) w) (w : World) (hl : LoadsAt w w.heap.size v l)
  (hf:∀ t ∈ l,∀ w',Below w.heap.size w w'→Calls Tryz.prog K (#[t.val] ++ C) w' fun e w'' => e = .returned (.bool (p t))∧Below w'.heap.size w' w'') :
  Calls Tryz.prog 27 #[v,.func (.func K) #[] C] w fun e w' => e = .returned (.bool (l.any p))∧Below w.heap.size w w':=by
 have hc:=indexFuncLoad v l K C p eg w hl hf
 have hbd:=idx_bd p l
 have HA:=Lib.hid (idx_any p l)
 generalize idxOf (l.findIdx? p)=x at *
 clear hf hl
 go_enter Tryz.func27,Tryz.ntmps27
 go_wp2_with (go_at_call 65;refine hc.mono ?_;rintro e w' ⟨rfl,hb'⟩)
 go_ret
 exact ⟨ret_bool HA.out,hb'⟩
set_option maxRecDepth 100000 in
set_option maxHeartbeats 400000 in
theorem indexFuncFrac (v : Value) (l : List FrT) (K : Nat) (C : Array Value) (p : FrT → Bool) (eg : ∀ args w,(callFunc K args).run Tryz.prog w = .ok (.enter K args) w) (w : World) (hl : FrsAt w w.heap.size v l)
  (hf:∀ t ∈ l,∀ w',Below w.heap.size w w'→Calls Tryz.prog K (#[t.val] ++ C) w' fun e w'' => e = .returned (.bool (p t))∧Below w'.heap.size w' w'') :
  Calls Tryz.prog 66 #[v,.func (.func K) #[] C] w fun e w' => e = .returned (.int .i64 (idxOf (l.findIdx? p)))∧Below w.heap.size w w':=by
 obtain ⟨A,c,rfl,hc1,hc2,hcell⟩:=hl.open_
 unfold maxLen at hc2
 have HF:=Lib.hid hf
 clear hf
 go_enter Tryz.func66,Tryz.ntmps66
 go_wp2
 go_loopw [8] (fun x wr => ∃ j:Nat,j≤l.length∧x = .int .i64 j∧(l.take j).findIdx? p=none∧Below w.heap.size w wr) (fun x _ => l.length-(intOf x).toNat)
 case atStart => exact ⟨0,Nat.zero_le _,rfl,by simp,Below.refl _ _⟩
 case round =>
  obtain ⟨j,hj,rfl,hnm,hbel⟩:=hrel
  have Hnm:=Lib.hid hnm
  clear hnm
  by_cases hlt:j<l.length
  ·obtain ⟨b,off,rfl,hb,hcell⟩:=hcell j hlt
   have h0:=(hbel.cell (p:=⟨b,off+j*2,none⟩) hb).trans (hcell j hlt).1
   have h1:=(hbel.cell (p:=⟨b,off+j*2+1,none⟩) hb).trans (hcell j hlt).2
   clear hcell
   have hcall:=HF.out l[j] (List.getElem_mem hlt)
   cases hq:p l[j] with
   | true =>
    rw [hq] at hcall
    go_wp2_with (go_at_fn K;refine (hcall _ hbel).mono ?_;rintro e w' ⟨rfl,hb'⟩)
    go_ret
    exact ⟨by rw [find_hit Hnm.out hlt hq];rfl,hbel.trans (hb'.mono hbel.size)⟩
   | false =>
    rw [hq] at hcall
    go_wp2_with (go_at_fn K;refine (hcall _ hbel).mono ?_;rintro e w' ⟨rfl,hb'⟩)
    go_roundw
    case rel => exact ⟨j+1,by omega,by go_num,find_miss Hnm.out hlt hq,hbel.trans (hb'.mono hbel.size)⟩
    case measure => simp [intOf];omega
  ·have hje:j=l.length:=by omega
   subst hje
   go_wp2
   go_ret
   exact ⟨by rw [← List.take_length (l:=l),Hnm.out];rfl,hbel⟩
set_option maxHeartbeats 400000 in
theorem containsFuncFrac (v : Value) (l : List FrT) (K : Nat) (C : Array Value) (p : FrT → Bool) (eg : ∀ args w,(callFunc K args).run Tryz.prog w = .ok (.enter K args) w) (w : World) (hl : FrsAt w w.heap.size v l)
  (hf:∀ t ∈ l,∀ w',Below w.heap.size w w'→Calls Tryz.prog K (#[t.val] ++ C) w' fun e w'' => e = .returned (.bool (p t))∧Below w'.heap.size w' w'') :
  Calls Tryz.prog 29 #[v,.func (.func K) #[] C] w fun e w' => e = .returned (.bool (l.any p))∧Below w.heap.size w w':=by
 have hc:=indexFuncFrac v l K C p eg w hl hf
 have hbd:=idx_bd p l
 have HA:=Lib.hid (idx_any p l)
 generalize idxOf (l.findIdx? p)=x at *
 clear hf hl
 go_enter Tryz.func29,Tryz.ntmps29
 go_wp2_with (go_at_call 66;refine hc.mono ?_;rintro e w' ⟨rfl,hb'⟩)
 go_ret
 exact ⟨ret_bool HA.out,hb'⟩
set_option maxHeartbeats 1000000 in
theorem raGcd (a b:Nat) (w:World) (_ha:a<18446744073709551616) (hb:b<18446744073709551616) :
  Calls Tryz.prog 67 #[.int .u64 a,.int .u64 b] w fun e w' => e = .returned (.int .u64 (Nat.gcd a b:Nat))∧∃ n,w.drewN n=w':=by
 go_enter Tryz.func67,Tryz.ntmps67
 go_wp2
 go_loopw [0,1] (fun x y wr => ∃ i j n:Nat,x = .int .u64 i∧y = .int .u64 j∧j<18446744073709551616∧Hid (Nat.gcd i j=Nat.gcd a b)∧wr=w.drewN n) (fun _ y _ => (intOf y).toNat)
 case atStart => exact ⟨a,b,0,rfl,rfl,hb,rfl,rfl⟩
 case round =>
  obtain ⟨i,j,n,rfl,rfl,hj,HG,rfl⟩:=hrel
  by_cases h0:j=0
  ·subst h0
   go_wp2
   go_ret
   refine ⟨?_,n,rfl⟩
   rw [← HG.out,Nat.gcd_zero_right]
   rfl
  ·have e0:((j:Int) != 0)=true:=bne_iff_ne.2 (by omega)
   have e1:((j:Int) == 0)=false:=beq_eq_false_iff_ne.2 (by omega)
   have e2:(i:Int).tmod (j:Int)=((i % j:Nat):Int):=(Int.ofNat_tmod i j).symm
   have e3:IntKind.u64.wrap ((i % j:Nat):Int)=((i % j:Nat):Int):=by
    have:=Nat.mod_lt i (Nat.pos_of_ne_zero h0)
    show ((i % j:Nat):Int) % 18446744073709551616=_
    omega
   have e4:¬ (j:Int)=0:=by omega
   have hlt:i % j<j:=Nat.mod_lt i (Nat.pos_of_ne_zero h0)
   have HG':Hid (Nat.gcd j (i % j)=Nat.gcd a b):=by
    unfold Hid
    rw [← HG.out,Nat.gcd_comm i j,Nat.gcd_rec j i,Nat.gcd_comm]
   have HL:=Lib.hid hlt
   generalize i % j=m at *
   clear hlt h0
   go_wp2
   go_quiet (fail)
   go_wp2
   go_roundw
   case rel => exact ⟨j,m,_,rfl,rfl,by have:=HL.out;omega,HG',World.drewN_drewN ..⟩
   case measure => have:=HL.out;simp [intOf];omega
set_option maxHeartbeats 1000000 in
theorem raSize (n:Int) (w:World) (h1 : -1152921504606846976≤n) (h2:n≤1152921504606846976) :
  Calls Tryz.prog 68 #[.int .i64 n] w fun e w' => e = .returned (.int .u64 (n.natAbs:Nat))∧w=w':=by
 by_cases h0:n<0
 ·have e1:IntKind.u64.wrap n=n+18446744073709551616:=by
   show n % 18446744073709551616=_
   omega
  have e2:Hid (IntKind.u64.wrap (-(n+18446744073709551616))=((n.natAbs:Nat):Int)):=by
   show (-(n+18446744073709551616)) % 18446744073709551616=_
   omega
  clear h1 h2
  go_enter Tryz.func68,Tryz.ntmps68
  go_wp2
  go_ret
  refine ⟨?_,rfl⟩
  rw [← e2.out]
  rfl
 ·have e1:Hid (IntKind.u64.wrap n=((n.natAbs:Nat):Int)):=by
   show n % 18446744073709551616=_
   omega
  clear h1 h2
  go_enter Tryz.func68,Tryz.ntmps68
  go_wp2
  go_ret
  refine ⟨?_,rfl⟩
  rw [← e1.out]
  rfl
def frGood (x:FrT):Bool:=decide (1≤x.den) && decide (x.den≤1152921504606846976) && decide (-1152921504606846976≤x.num) && decide (x.num≤1152921504606846976) && (((Nat.gcd x.num.natAbs x.den.natAbs:Nat):Int) == 1)
set_option maxHeartbeats 2000000 in
theorem raValid (x:FrT) (w:World):Calls Tryz.prog 31 #[x.val] w fun e w' => e = .returned (.bool (frGood x))∧Below w.heap.size w w':=by
 have HD:=Lib.hid (Blk.new w 37 #[.int .i64 x.num,.int .i64 x.den])
 have HB:=Lib.hid ((Below.refl _ w).alloc (Nat.le_refl _) (.cells #[.int .i64 x.num,.int .i64 x.den] 37))
 obtain ⟨num,den⟩:=x
 simp only at *
 have z0:=HD.out.cell 0
 have z1:=HD.out.cell 1
 simp only [List.getElem?_toArray,List.getElem?_cons_succ,List.getElem?_cons_zero] at z0 z1
 clear HD
 go_enter Tryz.func31,Tryz.ntmps31
 go_wp2
 generalize w.alloc (.cells #[.int .i64 num,.int .i64 den] 37)=W1 at *
 by_cases c1:1≤den
 rotate_left
 ·have d1:decide (1≤den)=false:=decide_eq_false c1
  have HV:Hid (frGood ⟨num,den⟩=false):=by unfold Hid frGood;simp only [d1];rfl
  clear c1
  go_quiet (fail)
  go_wp2
  go_ret
  exact ⟨ret_bool HV.out.symm,below_drewN HB.out _⟩
 have d1:decide (1≤den)=true:=decide_eq_true c1
 by_cases c2:den≤1152921504606846976
 rotate_left
 ·have d2:decide (den≤1152921504606846976)=false:=decide_eq_false c2
  have HV:Hid (frGood ⟨num,den⟩=false):=by unfold Hid frGood;simp only [d1,d2];rfl
  clear c1 c2
  go_quiet (fail)
  go_wp2
  go_ret
  exact ⟨ret_bool HV.out.symm,below_drewN HB.out _⟩
 have d2:decide (den≤1152921504606846976)=true:=decide_eq_true c2
 by_cases c3 : -1152921504606846976≤num
 rotate_left
 ·have d3:decide (-1152921504606846976≤num)=false:=decide_eq_false c3
  have HV:Hid (frGood ⟨num,den⟩=false):=by unfold Hid frGood;simp only [d1,d2,d3];rfl
  clear c1 c2 c3
  go_quiet (fail)
  go_wp2
  go_ret
  exact ⟨ret_bool HV.out.symm,below_drewN HB.out _⟩
 have d3:decide (-1152921504606846976≤num)=true:=decide_eq_true c3
 by_cases c4:num≤1152921504606846976
 rotate_left
 ·have d4:decide (num≤1152921504606846976)=false:=decide_eq_false c4
  have HV:Hid (frGood ⟨num,den⟩=false):=by unfold Hid frGood;simp only [d1,d2,d3,d4];rfl
  clear c1 c2 c3 c4
  go_quiet (fail)
  go_wp2
  go_ret
  exact ⟨ret_bool HV.out.symm,below_drewN HB.out _⟩
 have d4:decide (num≤1152921504606846976)=true:=decide_eq_true c4
 have HV:Hid (frGood ⟨num,den⟩=(((Nat.gcd num.natAbs den.natAbs:Nat):Int) == 1)):=by unfold Hid frGood;simp only [d1,d2,d3,d4];rfl
 have hS:=fun n => quiet_left (raSize num (W1.drewN n) c3 c4)
 have hw:IntKind.u64.wrap den=((den.natAbs:Nat):Int):=by
  show den % 18446744073709551616=_
  omega
 have hG:=fun n => quiet_left' (raGcd num.natAbs den.natAbs (W1.drewN n) (by omega) (by omega))
 clear c1 c2 c3 c4
 generalize Nat.gcd num.natAbs den.natAbs=g at *
 go_quiet (first | (go_at_call 68;exact hS _) | (go_at_call 67;exact hG _))
 go_wp2
 go_ret
 exact ⟨ret_bool HV.out.symm,below_drewN HB.out _⟩
def loadOk (bl:Int) (x:LoadT):Bool:=!decide (x.pos<0) && !decide (bl<x.pos) && !decide (x.wt<0) && !decide (67108864<x.wt)
def supGood (b:BeamT) (i:Nat):Bool:=!decide (supAt b i<0) && !decide (b.len<supAt b i) && (decide (i=0) || !decide (supAt b i≤supAt b (i-1)))
def supsGood (b:BeamT) (k:Nat):Bool:=decide (∀ i,i<k→supGood b i=true)
def okHead (b:BeamT):Bool:=nameB b.name && !decide (b.len<1) && !decide (1048576<b.len) && !decide (b.even<0) && !decide (1048576<b.even) && !decide ((b.sup.length:Int)<1) && !decide (10<(b.sup.length:Int)) && !decide (40<(b.loads.length:Int))
def okBm (b:BeamT):Bool:=okHead b && supsGood b b.sup.length && b.loads.all (loadOk b.len)
theorem not_any_not {α:Type} (l:List α) (p:α→Bool):(!l.any fun x => !p x)=l.all p:=by
 induction l with
 | nil => rfl
 | cons x l ih => rw [List.any_cons,List.all_cons,Bool.not_or,Bool.not_not,ih]
theorem okBm_head {b:BeamT} (h:okHead b=false):okBm b=false:=by unfold okBm;rw [h];rfl
theorem okBm_sup {b:BeamT} {k:Nat} (hk:k<b.sup.length) (h:supGood b k=false):okBm b=false:=by
 have:supsGood b b.sup.length=false:=by
  unfold supsGood
  rw [decide_eq_false_iff_not]
  intro hh
  rw [hh k hk] at h
  cases h
 unfold okBm
 rw [this,Bool.and_false,Bool.false_and]
theorem supsGood_zero (b:BeamT):supsGood b 0=true:=by unfold supsGood;simp
theorem supsGood_succ {b:BeamT} {k:Nat} (h:supsGood b k=true) (h1:supGood b k=true):supsGood b (k+1)=true:=by
 unfold supsGood at *
 rw [decide_eq_true_iff] at *
 intro i hi
 rcases Nat.lt_succ_iff_lt_or_eq.1 hi with h2 | rfl
 ·exact h i h2
 ·exact h1
theorem okBm_all {b:BeamT} (h:okHead b=true) (h1:supsGood b b.sup.length=true):okBm b=b.loads.all (loadOk b.len):=by unfold okBm;rw [h,h1];rfl
theorem okBm_ok {b:BeamT} (h:okBm b=true):BeamOk b:=by
 unfold okBm okHead supsGood at h
 simp only [Bool.and_eq_true,Bool.not_eq_true',decide_eq_false_iff_not,decide_eq_true_eq,List.all_eq_true] at h
 obtain ⟨⟨⟨⟨⟨⟨⟨⟨⟨h0,h1⟩,h2⟩,h3⟩,h4⟩,h5⟩,h6⟩,h7⟩,h8⟩,h9⟩:=h
 have h8':∀ i,i<b.sup.length→¬ supAt b i<0∧¬ b.len<supAt b i∧(i=0∨¬ supAt b i≤supAt b (i-1)):=fun i hi => by
  have:=h8 i hi
  unfold supGood at this
  simpa [and_assoc] using this
 refine ⟨by omega,by omega,by omega,fun i hi => ?_,fun i hi => ?_,by omega,fun x hx => ?_⟩
 ·have:=h8' i hi;omega
 ·have:=(h8' (i+1) hi).2.2;simp at this;omega
 ·have:=h9 x hx
  unfold loadOk at this
  simp only [Bool.and_eq_true,Bool.not_eq_true',decide_eq_false_iff_not] at this
  omega
theorem entersBV:∀ args w,(callFunc 28 args).run Tryz.prog w = .ok (.enter 28 args) w:=enters_of Tryz.func28 (by kernel_rfl) rfl
set_option maxHeartbeats 1000000 in
theorem bmValid1 (D:Nat) (x:LoadT) (bl:Int) (w:World) (n:ByteArray) (u2 u3 u4:Value) (h1:Blk w D 25 #[.string n,.int .i64 bl,u2,u3,u4]) :
  Calls Tryz.prog 28 #[x.val,.pointer (some ⟨D,0,none⟩)] w fun e w' => e = .returned (.bool (!loadOk bl x))∧Below w.heap.size w w':=by
 have HB:=Lib.hid ((Below.refl _ w).alloc (Nat.le_refl _) (.cells #[.int .i64 x.pos,.int .i64 x.wt] 35))
 have HD:=Lib.hid (Blk.new w 35 #[.int .i64 x.pos,.int .i64 x.wt])
 have y:=(h1.below HB.out h1.lt).cell 1
 have y0:=HD.out.cell 0
 have y1:=HD.out.cell 1
 simp only [List.getElem?_toArray,List.getElem?_cons_succ,List.getElem?_cons_zero] at y y0 y1
 obtain ⟨pos,wt⟩:=x
 simp only at *
 by_cases c0:pos<0
 ·have d0:decide (pos<0)=true:=decide_eq_true c0
  have HV:Hid ((!loadOk bl ⟨pos,wt⟩)=true):=by unfold Hid loadOk;simp only [d0];rfl
  clear h1
  go_enter Tryz.func28,Tryz.ntmps28
  go_wp2_with fail
  go_ret
  exact ⟨ret_bool HV.out.symm,HB.out⟩
 have d0:decide (pos<0)=false:=decide_eq_false c0
 by_cases c1:bl<pos
 ·have d1:decide (bl<pos)=true:=decide_eq_true c1
  have HV:Hid ((!loadOk bl ⟨pos,wt⟩)=true):=by unfold Hid loadOk;simp only [d0,d1];rfl
  clear h1
  go_enter Tryz.func28,Tryz.ntmps28
  go_wp2_with fail
  go_ret
  exact ⟨ret_bool HV.out.symm,HB.out⟩
 have d1:decide (bl<pos)=false:=decide_eq_false c1
 by_cases c2:wt<0
 ·have d2:decide (wt<0)=true:=decide_eq_true c2
  have HV:Hid ((!loadOk bl ⟨pos,wt⟩)=true):=by unfold Hid loadOk;simp only [d0,d1,d2];rfl
  clear h1
  go_enter Tryz.func28,Tryz.ntmps28
  go_wp2_with fail
  go_ret
  exact ⟨ret_bool HV.out.symm,HB.out⟩
 have d2:decide (wt<0)=false:=decide_eq_false c2
 by_cases c3:67108864<wt
 ·have d3:decide (67108864<wt)=true:=decide_eq_true c3
  have HV:Hid ((!loadOk bl ⟨pos,wt⟩)=true):=by unfold Hid loadOk;simp only [d0,d1,d2,d3];rfl
  clear h1
  go_enter Tryz.func28,Tryz.ntmps28
  go_wp2_with fail
  go_ret
  exact ⟨ret_bool HV.out.symm,HB.out⟩
 have d3:decide (67108864<wt)=false:=decide_eq_false c3
 have HV:Hid ((!loadOk bl ⟨pos,wt⟩)=false):=by unfold Hid loadOk;simp only [d0,d1,d2,d3];rfl
 clear h1
 go_enter Tryz.func28,Tryz.ntmps28
 go_wp2_with fail
 go_ret
 exact ⟨ret_bool HV.out.symm,HB.out⟩
set_option maxRecDepth 100000 in
set_option maxHeartbeats 4000000 in
theorem bmValid (v:Value) (b:BeamT) (w:World) (hv:BeamAt w w.heap.size v b) (hn:b.name.size≤maxLen):Calls Tryz.prog 11 #[v] w fun e w' => e = .returned (.bool (okBm b))∧Below w.heap.size w w':=by
 obtain ⟨As,cs,Al,cl,rfl,hS,hL⟩:=hv
 have HN:=fun W => decIsName b.name hn W
 obtain ⟨_,_,e,hs1,hs2,hSc⟩:=hS.open_
 injection e with e1 _ e2
 subst e1 e2
 unfold maxLen at hs2
 have HL:=Lib.hid hL
 have HSc:=Lib.hid hSc
 have HD:=Lib.hid (Blk.new w 25 #[.string b.name,.int .i64 b.len,.slice As b.sup.length cs,.slice Al b.loads.length cl,.int .i64 b.even])
 have HB:=Lib.hid ((Below.refl _ w).alloc (Nat.le_refl _) (.cells #[.string b.name,.int .i64 b.len,.slice As b.sup.length cs,.slice Al b.loads.length cl,.int .i64 b.even] 25))
 clear hS hSc hn hL
 go_enter Tryz.func11,Tryz.ntmps11
 go_wp2_with (exact Go.WalkKit.wp_stop)
 generalize w.alloc (.cells #[.string b.name,.int .i64 b.len,.slice As b.sup.length cs,.slice Al b.loads.length cl,.int .i64 b.even] 25)=W1 at *
 have y0:=HD.out.cell 0
 have y1:=HD.out.cell 1
 have y2:=HD.out.cell 2
 have y3:=HD.out.cell 3
 have y4:=HD.out.cell 4
 simp only [List.getElem?_toArray,List.getElem?_cons_succ,List.getElem?_cons_zero] at y0 y1 y2 y3 y4
 have hn0:=HN W1
 cases d0:nameB b.name with
 | false =>
  rw [d0] at hn0
  have HV:Hid (okBm b=false):=by unfold Hid;refine okBm_head ?_;unfold okHead;simp only [d0];rfl
  go_wp2_with (go_at_call 26;refine hn0.mono ?_;rintro e w' ⟨rfl,rfl⟩)
  go_ret
  exact ⟨ret_bool HV.out.symm,HB.out⟩
 | true =>
  rw [d0] at hn0
  by_cases c1:b.len<1
  ·have d1:decide (b.len<1)=true:=decide_eq_true c1
   have HV:Hid (okBm b=false):=by unfold Hid;refine okBm_head ?_;unfold okHead;simp only [d0,d1];rfl
   go_wp2_with (go_at_call 26;refine hn0.mono ?_;rintro e w' ⟨rfl,rfl⟩)
   go_ret
   exact ⟨ret_bool HV.out.symm,HB.out⟩
  have d1:decide (b.len<1)=false:=decide_eq_false c1
  by_cases c2:1048576<b.len
  ·have d2:decide (1048576<b.len)=true:=decide_eq_true c2
   have HV:Hid (okBm b=false):=by unfold Hid;refine okBm_head ?_;unfold okHead;simp only [d0,d1,d2];rfl
   go_wp2_with (go_at_call 26;refine hn0.mono ?_;rintro e w' ⟨rfl,rfl⟩)
   go_ret
   exact ⟨ret_bool HV.out.symm,HB.out⟩
  have d2:decide (1048576<b.len)=false:=decide_eq_false c2
  by_cases c3:b.even<0
  ·have d3:decide (b.even<0)=true:=decide_eq_true c3
   have HV:Hid (okBm b=false):=by unfold Hid;refine okBm_head ?_;unfold okHead;simp only [d0,d1,d2,d3];rfl
   go_wp2_with (go_at_call 26;refine hn0.mono ?_;rintro e w' ⟨rfl,rfl⟩)
   go_ret
   exact ⟨ret_bool HV.out.symm,HB.out⟩
  have d3:decide (b.even<0)=false:=decide_eq_false c3
  by_cases c4:1048576<b.even
  ·have d4:decide (1048576<b.even)=true:=decide_eq_true c4
   have HV:Hid (okBm b=false):=by unfold Hid;refine okBm_head ?_;unfold okHead;simp only [d0,d1,d2,d3,d4];rfl
   go_wp2_with (go_at_call 26;refine hn0.mono ?_;rintro e w' ⟨rfl,rfl⟩)
   go_ret
   exact ⟨ret_bool HV.out.symm,HB.out⟩
  have d4:decide (1048576<b.even)=false:=decide_eq_false c4
  by_cases c5:(b.sup.length:Int)<1
  ·have d5:decide ((b.sup.length:Int)<1)=true:=decide_eq_true c5
   have HV:Hid (okBm b=false):=by unfold Hid;refine okBm_head ?_;unfold okHead;simp only [d0,d1,d2,d3,d4,d5];rfl
   go_wp2_with (go_at_call 26;refine hn0.mono ?_;rintro e w' ⟨rfl,rfl⟩)
   go_ret
   exact ⟨ret_bool HV.out.symm,HB.out⟩
  have d5:decide ((b.sup.length:Int)<1)=false:=decide_eq_false c5
  by_cases c6:10<(b.sup.length:Int)
  ·have d6:decide (10<(b.sup.length:Int))=true:=decide_eq_true c6
   have HV:Hid (okBm b=false):=by unfold Hid;refine okBm_head ?_;unfold okHead;simp only [d0,d1,d2,d3,d4,d5,d6];rfl
   go_wp2_with (go_at_call 26;refine hn0.mono ?_;rintro e w' ⟨rfl,rfl⟩)
   go_ret
   exact ⟨ret_bool HV.out.symm,HB.out⟩
  have d6:decide (10<(b.sup.length:Int))=false:=decide_eq_false c6
  by_cases c7:40<(b.loads.length:Int)
  ·have d7:decide (40<(b.loads.length:Int))=true:=decide_eq_true c7
   have HV:Hid (okBm b=false):=by unfold Hid;refine okBm_head ?_;unfold okHead;simp only [d0,d1,d2,d3,d4,d5,d6,d7];rfl
   go_wp2_with (go_at_call 26;refine hn0.mono ?_;rintro e w' ⟨rfl,rfl⟩)
   go_ret
   exact ⟨ret_bool HV.out.symm,HB.out⟩
  have d7:decide (40<(b.loads.length:Int))=false:=decide_eq_false c7
  have HH:Hid (okHead b=true):=by unfold Hid okHead;simp only [d0,d1,d2,d3,d4,d5,d6,d7];rfl
  obtain ⟨bs,os,rfl,hbs,hSx⟩:=HSc.out 0 (by omega)
  have HSx:Hid (∀ j,j<b.sup.length→W1.cell? ⟨bs,os+j,none⟩=some (.int .i64 (supAt b j))):=fun j hj => by
   have h:=(HB.out.cell (p:=⟨bs,os+j,none⟩) hbs).trans (hSx j hj)
   unfold supAt
   rw [List.getD_eq_getElem?_getD,List.getElem?_eq_getElem hj]
   exact h
  clear hSx HSc
  go_wp2_with (go_at_call 26;refine hn0.mono ?_;rintro e w' ⟨rfl,rfl⟩)
  go_loopw [50] (fun x wr => ∃ k:Nat,k≤b.sup.length∧x = .int .i64 k∧Hid (supsGood b k=true)∧W1=wr) (fun x _ => b.sup.length-(intOf x).toNat)
  case atStart => exact ⟨0,Nat.zero_le _,rfl,supsGood_zero b,rfl⟩
  case round =>
   obtain ⟨k,hk,rfl,HG,rfl⟩:=hrel
   by_cases hlt:k<b.sup.length
   ·have z:=HSx.out k hlt
    have i1:(0:Int)≤(k:Int):=Int.natCast_nonneg _
    have i2:(k:Int)<(b.sup.length:Int):=by omega
    by_cases e1:supAt b k<0
    ·have f1:decide (supAt b k<0)=true:=decide_eq_true e1
     have HV:Hid (okBm b=false):=okBm_sup hlt (by unfold supGood;rw [f1];rfl)
     go_wp2
     go_ret
     exact ⟨ret_bool HV.out.symm,HB.out⟩
    have f1:decide (supAt b k<0)=false:=decide_eq_false e1
    by_cases e2:b.len<supAt b k
    ·have f2:decide (b.len<supAt b k)=true:=decide_eq_true e2
     have HV:Hid (okBm b=false):=okBm_sup hlt (by unfold supGood;rw [f1,f2];rfl)
     go_wp2
     go_ret
     exact ⟨ret_bool HV.out.symm,HB.out⟩
    have f2:decide (b.len<supAt b k)=false:=decide_eq_false e2
    by_cases e3:k=0
    ·have f3':¬ (0:Int)<(k:Int):=by omega
     have f3:decide ((0:Int)<(k:Int))=false:=decide_eq_false f3'
     have HV:Hid (supsGood b (k+1)=true):=supsGood_succ HG.out (by unfold supGood;rw [f1,f2,decide_eq_true e3];rfl)
     clear e3
     go_wp2
     go_roundw
     case rel => exact ⟨k+1,hlt,by go_num,HV,by trivial⟩
     case measure => simp [intOf];omega
    have f3:decide ((0:Int)<(k:Int))=true:=decide_eq_true (by omega)
    have z0:=HSx.out (k-1) (by omega)
    have i4:((k:Int)-1).toNat=k-1:=by omega
    have i5:(0:Int)≤(k:Int)-1:=by omega
    have i6:(k:Int)-1<(b.sup.length:Int):=by omega
    have v1:IntKind.i64.wrap ((k:Int)-1)=(k:Int)-1:=IntWalk.i64_in _ (by omega)
    have E3:Hid (¬ k=0):=e3
    by_cases e4:supAt b k≤supAt b (k-1)
    ·have f4:decide (supAt b k≤supAt b (k-1))=true:=decide_eq_true e4
     have HV:Hid (okBm b=false):=okBm_sup hlt (by unfold supGood;rw [f1,f2,f4,decide_eq_false E3.out];rfl)
     go_wp2
     go_ret
     exact ⟨ret_bool HV.out.symm,HB.out⟩
    have f4:decide (supAt b k≤supAt b (k-1))=false:=decide_eq_false e4
    have HV:Hid (supsGood b (k+1)=true):=supsGood_succ HG.out (by unfold supGood;rw [f1,f2,f4,decide_eq_false E3.out];rfl)
    go_wp2
    go_roundw
    case rel => exact ⟨k+1,hlt,by go_num,HV,by trivial⟩
    case measure => simp [intOf];omega
   ·have hje:k=b.sup.length:=by omega
    subst hje
    have HV:Hid (okBm b=b.loads.all (loadOk b.len)):=okBm_all HH.out HG.out
    have hc := containsFuncLoad (.slice Al b.loads.length cl) b.loads 28 #[.pointer (some ⟨w.heap.size,0,none⟩)] (fun x => !loadOk b.len x) entersBV W1 ((HL.out.below HB.out (Nat.le_refl _)).mono HB.out.size)
     (fun t _ w' hb' => bmValid1 _ t _ w' _ _ _ _ (HD.out.below hb' HD.out.lt))
    go_wp2_with (go_at_call 27;refine hc.mono ?_;rintro e w' ⟨rfl,hb'⟩)
    go_ret
    refine ⟨ret_bool ?_,HB.out.trans (hb'.mono HB.out.size)⟩
    rw [HV.out]
    exact not_any_not _ _
theorem entersVV:∀ args w,(callFunc 30 args).run Tryz.prog w = .ok (.enter 30 args) w:=enters_of Tryz.func30 (by kernel_rfl) rfl
set_option maxHeartbeats 1000000 in
theorem vrValid1 (x:FrT) (w:World):Calls Tryz.prog 30 #[x.val] w fun e w' => e = .returned (.bool (!frGood x))∧Below w.heap.size w w':=by
 have HD:=Lib.hid (Blk.new w 37 #[.int .i64 x.num,.int .i64 x.den])
 have HB:=Lib.hid ((Below.refl _ w).alloc (Nat.le_refl _) (.cells #[.int .i64 x.num,.int .i64 x.den] 37))
 have hv:=raValid x (w.alloc (.cells #[.int .i64 x.num,.int .i64 x.den] 37))
 obtain ⟨num,den⟩:=x
 simp only at *
 have z0:=HD.out.cell 0
 have z1:=HD.out.cell 1
 simp only [List.getElem?_toArray,List.getElem?_cons_succ,List.getElem?_cons_zero] at z0 z1
 clear HD
 go_enter Tryz.func30,Tryz.ntmps30
 go_wp2_with (go_at_call 31;refine hv.mono ?_;rintro e w' ⟨rfl,hb'⟩)
 go_ret
 exact ⟨rfl,HB.out.trans (hb'.mono HB.out.size)⟩
def allGood (l:List FrT):Bool:=l.all frGood
set_option maxHeartbeats 1000000 in
theorem vrValid (v1 v2:Value) (l1 l2:List FrT) (D:Nat) (T:TypeId) (w:World) (hD:Blk w D T #[v1,v2]) (h1:FrsAt w w.heap.size v1 l1) (h2:FrsAt w w.heap.size v2 l2) :
  Calls Tryz.prog 12 #[.slice (some ⟨D,0,none⟩) 2 2] w fun e w' => e = .returned (.bool (allGood l1 && allGood l2))∧Below w.heap.size w w':=by
 have hc1:=containsFuncFrac v1 l1 30 #[] (fun x => !frGood x) entersVV w h1 (fun t _ w' _ => vrValid1 t w')
 have hc2:=fun W (hb:Below w.heap.size w W) => containsFuncFrac v2 l2 30 #[] (fun x => !frGood x) entersVV W ((h2.below hb (Nat.le_refl _)).mono hb.size) (fun t _ w' _ => vrValid1 t w')
 have e1:Hid ((l1.any fun x => !frGood x) = !allGood l1):=by
  unfold Hid allGood
  rw [← not_any_not,Bool.not_not]
 have e2:Hid ((l2.any fun x => !frGood x) = !allGood l2):=by
  unfold Hid allGood
  rw [← not_any_not,Bool.not_not]
 rw [e1.out] at hc1
 rw [e2.out] at hc2
 have Hc2:=Lib.hid hc2
 have HD:=Lib.hid hD
 have y0:=hD.cell 0
 have y1:=hD.cell 1
 simp only [List.getElem?_toArray,List.getElem?_cons_succ,List.getElem?_cons_zero] at y0 y1
 clear h1 h2 hc2 hD
 go_enter Tryz.func12,Tryz.ntmps12
 go_wp2
 go_loopw [7] (fun x wr => (x = .int .i64 0∧wr=w)∨(x = .int .i64 1∧Hid (Below w.heap.size w wr)∧Hid (allGood l1=true))∨(x = .int .i64 2∧Hid (Below w.heap.size w wr)∧Hid (allGood l1=true)∧Hid (allGood l2=true))) (fun x _ => 2-(intOf x).toNat)
 case atStart => exact .inl ⟨rfl,rfl⟩
 case round =>
  rcases hrel with ⟨rfl,rfl⟩ | ⟨rfl,HB,HA⟩ | ⟨rfl,HB,HA,HA2⟩
  ·rcases Bool.eq_false_or_eq_true (allGood l1) with hg | hg
   rotate_left
   ·have HG:=Lib.hid hg
    rw [hg] at hc1
    go_wp2_with (go_at_call 29;refine hc1.mono ?_;rintro e w' ⟨rfl,hb'⟩)
    go_ret
    exact ⟨ret_bool (by rw [HG.out];rfl),hb'⟩
   ·rw [hg] at hc1
    have HG:=Lib.hid hg
    clear hg
    go_wp2_with (go_at_call 29;refine hc1.mono ?_;rintro e w' ⟨rfl,hb'⟩)
    go_roundw
    case rel => exact .inr (.inl ⟨by trivial,hb',HG⟩)
    case measure => simp [intOf]
  ·have hc:=Hc2.out _ HB.out
   have z1:=(HB.out.cell (p:=⟨D,1,none⟩) HD.out.lt).trans y1
   rcases Bool.eq_false_or_eq_true (allGood l2) with hg | hg
   rotate_left
   ·have HG:=Lib.hid hg
    rw [hg] at hc
    go_wp2_with (go_at_call 29;refine hc.mono ?_;rintro e w' ⟨rfl,hb'⟩)
    go_ret
    exact ⟨ret_bool (by rw [HA.out,HG.out];rfl),HB.out.trans (hb'.mono HB.out.size)⟩
   ·rw [hg] at hc
    have HG:=Lib.hid hg
    clear hg
    go_wp2_with (go_at_call 29;refine hc.mono ?_;rintro e w' ⟨rfl,hb'⟩)
    go_roundw
    case rel => exact .inr (.inr ⟨by trivial,HB.out.trans (hb'.mono HB.out.size),HA,HG⟩)
    case measure => simp [intOf]
  ·go_wp2
   go_ret
   exact ⟨ret_bool (by rw [HA.out,HA2.out];rfl),HB.out⟩
set_option maxRecDepth 100000 in
set_option maxHeartbeats 1000000 in
theorem equalFrac (v1 v2:Value) (l1 l2:List FrT) (B:Nat) (w:World) (hl1:FrsAt w B v1 l1) (hl2:FrsAt w B v2 l2) :
  Calls Tryz.prog 35 #[v1,v2] w fun e w' => e = .returned (.bool (decide (l1=l2)))∧∃ n,w.drewN n=w':=by
 obtain ⟨A1,c1,rfl,hc1,hd1,hcell1⟩:=hl1.open_
 obtain ⟨A2,c2,rfl,hc2,hd2,hcell2⟩:=hl2.open_
 unfold maxLen at hd1 hd2
 clear hl1 hl2
 by_cases hlen:l1.length=l2.length
 ·have HL:=Lib.hid hlen
  have hb:((l1.length:Int) != l2.length)=false:=by simp [hlen]
  have hle1:l1.length≤l2.length:=by omega
  have hle2:l2.length≤l1.length:=by omega
  clear hlen
  go_enter Tryz.func35,Tryz.ntmps35
  go_wp2
  go_loopw [13] (fun s wr => ∃ j:Nat,j≤l1.length∧s = .int .i64 j∧l1.take j=l2.take j∧∃ n,wr=w.drewN n) (fun x _ => l1.length-(intOf x).toNat)
  case atStart => exact ⟨0,Nat.zero_le _,rfl,by simp,0,rfl⟩
  case round =>
   obtain ⟨j,hj,rfl,hnm,n,rfl⟩:=hrel
   have Hnm:=Lib.hid hnm
   clear hnm
   by_cases hlt:j<l1.length
   ·have hlt2:j<l2.length:=by omega
    obtain ⟨b1,off1,rfl,hb1,hcell1⟩:=hcell1 j hlt
    obtain ⟨b2,off2,rfl,hb2,hcell2⟩:=hcell2 j hlt2
    obtain ⟨h1,h1'⟩:=hcell1 j hlt
    obtain ⟨h2,h2'⟩:=hcell2 j hlt2
    clear hcell1 hcell2
    by_cases hq:l1[j]=l2[j]
    ·have ht:(l1[j].num == l2[j].num)=true:=by rw [hq];exact beq_self_eq_true _
     have ht':(l1[j].den == l2[j].den)=true:=by rw [hq];exact beq_self_eq_true _
     have HQ:=Lib.hid hq
     clear hq
     go_wp2
     go_quiet (fail)
     go_wp2
     go_roundw
     case rel => exact ⟨j+1,by omega,by go_num,by rw [take_snoc l1 j hlt,take_snoc l2 j hlt2,Hnm.out,HQ.out],_,rfl⟩
     case measure => simp [intOf];omega
    ·have HQ:=Lib.hid hq
     by_cases hn:l1[j].num=l2[j].num
     ·have ht:(l1[j].num == l2[j].num)=true:=beq_iff_eq.2 hn
      have ht':(l1[j].den == l2[j].den)=false:=beq_eq_false_iff_ne.2 fun h => HQ.out (by
       cases e1:l1[j];cases e2:l2[j]
       rw [e1,e2] at hn h
       simp only at hn h
       rw [hn,h])
      clear hq hn
      go_wp2
      go_quiet (fail)
      go_wp2
      go_ret
      exact ⟨ret_bool (by symm;rw [decide_eq_false_iff_not];intro e;subst e;exact HQ.out rfl),q2⟩
     ·have ht:(l1[j].num == l2[j].num)=false:=beq_eq_false_iff_ne.2 hn
      clear hq hn
      go_wp2
      go_quiet (fail)
      go_wp2
      go_ret
      exact ⟨ret_bool (by symm;rw [decide_eq_false_iff_not];intro e;subst e;exact HQ.out rfl),q2⟩
   ·have hje:j=l1.length:=by omega
    subst hje
    go_wp2
    go_ret
    exact ⟨ret_bool (by symm;rw [decide_eq_true_iff];have:=Hnm.out;rw [List.take_length,HL.out,List.take_length] at this;exact this),q1⟩
 ·have hb:((l1.length:Int) != l2.length)=true:=by simp;omega
  have hne:l1≠l2:=fun e => hlen (by rw [e])
  go_enter Tryz.func35,Tryz.ntmps35
  go_wp2
  go_ret
  exact ⟨ret_bool (by symm;simpa using hne),0,rfl⟩
set_option maxHeartbeats 1000000 in
theorem vrSame (v1 v2:Value) (l1 l2:List FrT) (B:Nat) (w:World) (hl1:FrsAt w B v1 l1) (hl2:FrsAt w B v2 l2) :
  Calls Tryz.prog 15 #[v1,v2] w fun e w' => e = .returned (.bool (decide (l1=l2)))∧∃ n,w.drewN n=w':=by
 have hE:=equalFrac v1 v2 l1 l2 B w hl1 hl2
 go_enter Tryz.func15,Tryz.ntmps15
 go_wp2_with (go_at_call 35;refine hE.mono ?_;rintro e w' ⟨rfl,n,rfl⟩)
 go_ret
 exact ⟨rfl,n,rfl⟩
def beamErr (b:BeamT):Int:=if okBm b then (if tiltOk b then 0 else 22) else 1
def GivenPost (b:BeamT) (w:World) (e:Ending) (w':World):Prop :=
 Below w.heap.size w w'∧((okBm b=true∧tiltOk b=true∧∃ v,e = .returned (.tuple #[v,.int .i64 0])∧ExsAt w' v (momL b))∨(beamErr b≠0∧e = .returned (.tuple #[.slice none 0 0,.int .i64 (beamErr b)])))
def TellPost (b:BeamT) (l:List Rat) (w:World) (e:Ending) (w':World):Prop :=
 Below w.heap.size w w'∧((okBm b=true∧tiltOk b=true∧allOk l=true∧∃ v,e = .returned (.tuple #[v,.int .i64 0])∧FrsAt w' w'.heap.size v (l.map frOf))∨(∃ k,k≠0∧(beamErr b≠0∨allOk l=false)∧e = .returned (.tuple #[.slice none 0 0,.int .i64 k])∧(beamErr b=0→k=5)))
theorem FracsPost.tell {b:BeamT} {l:List Rat} {w w1 w':World} {e:Ending} (h:FracsPost l w1 e w') (hb:Below w.heap.size w w1) (h1:okBm b=true) (h2:tiltOk b=true):TellPost b l w e w':=by
 obtain ⟨hb',⟨h3,v,rfl,h4⟩ | ⟨h3,rfl⟩⟩:=h
 ·refine ⟨hb.trans (hb'.mono hb.size),.inl ⟨h1,h2,h3,v,rfl,?_⟩⟩
  have:=Flat.of_own h4
  unfold FrsAt
  rw [List.length_map]
  exact this
 ·exact ⟨hb.trans (hb'.mono hb.size),.inr ⟨5,by decide,.inr h3,rfl,fun _ => rfl⟩⟩
set_option maxRecDepth 100000 in
set_option maxHeartbeats 4000000 in
theorem bmGiven (v:Value) (b:BeamT) (w:World) (hv:BeamAt w w.heap.size v b) (hn:b.name.size≤maxLen):Calls Tryz.prog 32 #[v] w (GivenPost b w):=by
 have HVa:=fun W h => bmValid v b W h hn
 have HMo:=fun h W h1 => bmMoments v b W h1 h
 obtain ⟨As,cs,Al,cl,rfl,hS,hL⟩:=hv
 have HV:Hid (BeamAt w w.heap.size (.agg #[.string b.name,.int .i64 b.len,.slice As b.sup.length cs,.slice Al b.loads.length cl,.int .i64 b.even]) b):=⟨As,cs,Al,cl,rfl,hS,hL⟩
 have HD:=Lib.hid (Blk.new w 25 #[.string b.name,.int .i64 b.len,.slice As b.sup.length cs,.slice Al b.loads.length cl,.int .i64 b.even])
 have HB:=Lib.hid ((Below.refl _ w).alloc (Nat.le_refl _) (.cells #[.string b.name,.int .i64 b.len,.slice As b.sup.length cs,.slice Al b.loads.length cl,.int .i64 b.even] 25))
 clear hS hL
 go_enter Tryz.func32,Tryz.ntmps32
 go_wp2_with (exact Go.WalkKit.wp_stop)
 generalize w.alloc (.cells #[.string b.name,.int .i64 b.len,.slice As b.sup.length cs,.slice Al b.loads.length cl,.int .i64 b.even] 25)=W1 at *
 have hva:=HVa W1 (HV.out.grow HB.out)
 have HMo:=Lib.hid HMo
 have y0:=HD.out.cell 0
 have y1:=HD.out.cell 1
 have y2:=HD.out.cell 2
 have y3:=HD.out.cell 3
 have y4:=HD.out.cell 4
 simp only [List.getElem?_toArray,List.getElem?_cons_succ,List.getElem?_cons_zero] at y0 y1 y2 y3 y4
 clear HVa
 cases hok:okBm b with
 | false =>
  rw [hok] at hva
  have HE:Hid (beamErr b=1):=by unfold Hid beamErr;rw [hok];rfl
  go_wp2_with (go_at_call 11;refine hva.mono ?_;rintro e w2 ⟨rfl,hb2⟩)
  go_ret2
  exact ⟨HB.out.trans (hb2.mono HB.out.size),.inr ⟨by rw [HE.out];decide,by rw [HE.out];rfl⟩⟩
 | true =>
  rw [hok] at hva
  have Hok:=Lib.hid hok
  clear hok
  cases ht:tiltOk b with
  | false =>
   have HT:=Lib.hid ht
   clear ht
   have HE:Hid (beamErr b=22):=by unfold Hid beamErr;rw [Hok.out,HT.out];rfl
   go_wp2_with (first | (go_at_call 11;refine hva.mono ?_;rintro e w2 ⟨rfl,hb2⟩;have HB2:=Lib.hid (HB.out.trans (hb2.mono HB.out.size));have HD2:=Lib.hid (HD.out.below hb2 HD.out.lt);clear hb2;have z0:=HD2.out.cell 0;have z1:=HD2.out.cell 1;have z2:=HD2.out.cell 2;have z3:=HD2.out.cell 3;have z4:=HD2.out.cell 4;simp only [List.getElem?_toArray,List.getElem?_cons_succ,List.getElem?_cons_zero] at z0 z1 z2 z3 z4;have hmo:=HMo.out (okBm_ok Hok.out) w2 (HV.out.grow HB2.out);unfold MomPost at hmo;rw [HT.out] at hmo) | (go_at_call 69;refine hmo.mono ?_;rintro e w3 ⟨hb3,v3,rfl,h3⟩))
   go_ret2
   exact ⟨HB2.out.trans (hb3.mono HB2.out.size),.inr ⟨by rw [HE.out];decide,by rw [HE.out];rfl⟩⟩
  | true =>
   have HT:=Lib.hid ht
   clear ht
   go_wp2_with (first | (go_at_call 11;refine hva.mono ?_;rintro e w2 ⟨rfl,hb2⟩;have HB2:=Lib.hid (HB.out.trans (hb2.mono HB.out.size));have HD2:=Lib.hid (HD.out.below hb2 HD.out.lt);clear hb2;have z0:=HD2.out.cell 0;have z1:=HD2.out.cell 1;have z2:=HD2.out.cell 2;have z3:=HD2.out.cell 3;have z4:=HD2.out.cell 4;simp only [List.getElem?_toArray,List.getElem?_cons_succ,List.getElem?_cons_zero] at z0 z1 z2 z3 z4;have hmo:=HMo.out (okBm_ok Hok.out) w2 (HV.out.grow HB2.out);unfold MomPost at hmo;rw [HT.out] at hmo) | (go_at_call 69;refine hmo.mono ?_;rintro e w3 ⟨hb3,v3,rfl,h3⟩))
   go_ret2
   exact ⟨HB2.out.trans (hb3.mono HB2.out.size),.inl ⟨Hok.out,HT.out,v3,rfl,h3⟩⟩
set_option maxRecDepth 100000 in
set_option maxHeartbeats 4000000 in
theorem bmReactions (v:Value) (b:BeamT) (w:World) (hv:BeamAt w w.heap.size v b) (hn:b.name.size≤maxLen):Calls Tryz.prog 13 #[v] w (TellPost b (reactL b) w):=by
 have HGi:=fun W h => bmGiven v b W h hn
 have HRe:=fun h W u h1 hu => bmReacts v u b W h1 hu h
 have HV:=Lib.hid hv
 obtain ⟨As,cs,Al,cl,rfl,hS,hL⟩:=hv
 have HD:=Lib.hid (Blk.new w 25 #[.string b.name,.int .i64 b.len,.slice As b.sup.length cs,.slice Al b.loads.length cl,.int .i64 b.even])
 have HB:=Lib.hid ((Below.refl _ w).alloc (Nat.le_refl _) (.cells #[.string b.name,.int .i64 b.len,.slice As b.sup.length cs,.slice Al b.loads.length cl,.int .i64 b.even] 25))
 clear hS hL
 go_enter Tryz.func13,Tryz.ntmps13
 go_wp2_with (exact Go.WalkKit.wp_stop)
 generalize w.alloc (.cells #[.string b.name,.int .i64 b.len,.slice As b.sup.length cs,.slice Al b.loads.length cl,.int .i64 b.even] 25)=W1 at *
 have hgi:=HGi W1 (HV.out.grow HB.out)
 have HRe:=Lib.hid HRe
 have y0:=HD.out.cell 0
 have y1:=HD.out.cell 1
 have y2:=HD.out.cell 2
 have y3:=HD.out.cell 3
 have y4:=HD.out.cell 4
 simp only [List.getElem?_toArray,List.getElem?_cons_succ,List.getElem?_cons_zero] at y0 y1 y2 y3 y4
 clear HGi
 by_cases hc:okBm b=true∧tiltOk b=true
 ·obtain ⟨hok,htl⟩:=hc
  have HE:Hid (¬ beamErr b≠0):=by unfold Hid beamErr;rw [hok,htl];simp
  have Hok:=Lib.hid hok
  have Htl:=Lib.hid htl
  clear hok htl
  have hgi':Calls Tryz.prog 32 #[.agg #[.string b.name,.int .i64 b.len,.slice As b.sup.length cs,.slice Al b.loads.length cl,.int .i64 b.even]] W1 fun e w' => ∃ u,e = .returned (.tuple #[u,.int .i64 0])∧Hid (Below W1.heap.size W1 w')∧Hid (ExsAt w' u (momL b)):=by
   refine hgi.mono ?_
   rintro e w' ⟨h1,⟨-,-,u,rfl,h2⟩ | ⟨h2,-⟩⟩
   ·exact ⟨u,rfl,h1,h2⟩
   ·exact absurd h2 HE.out
  clear hgi
  go_wp2_with (first | (go_at_call 32;refine hgi'.mono ?_;rintro e w2 ⟨u,rfl,hb2,hE2⟩;have HB2:=Lib.hid (HB.out.trans (hb2.out.mono HB.out.size));have HD2:=Lib.hid (HD.out.below hb2.out HD.out.lt);clear hb2;have z0:=HD2.out.cell 0;have z1:=HD2.out.cell 1;have z2:=HD2.out.cell 2;have z3:=HD2.out.cell 3;have z4:=HD2.out.cell 4;simp only [List.getElem?_toArray,List.getElem?_cons_succ,List.getElem?_cons_zero] at z0 z1 z2 z3 z4;have hre:=HRe.out (okBm_ok Hok.out) w2 u (HV.out.grow HB2.out) hE2.out) | (go_at_call 34;refine hre.mono ?_;rintro e w3 ⟨hb3,v3,rfl,hE3⟩;have HB3:=Lib.hid (HB2.out.trans (hb3.mono HB2.out.size));have hfr:=bmFracs v3 (reactL b) w3 hE3 (by have:=(okBm_ok Hok.out).sup1;unfold reactL;simp;omega);clear hb3 hE3) | (go_at_call 33;refine hfr.mono ?_;intro e w4 h4;have hT:=FracsPost.tell h4 HB3.out Hok.out Htl.out;obtain ⟨-,⟨-,v4,rfl,-⟩ | ⟨-,rfl⟩⟩:=h4))
  all_goals
   go_ret2
   exact hT
 ·have HE:Hid (¬ (okBm b=true∧tiltOk b=true)):=hc
  clear hc
  have hgi':Calls Tryz.prog 32 #[.agg #[.string b.name,.int .i64 b.len,.slice As b.sup.length cs,.slice Al b.loads.length cl,.int .i64 b.even]] W1 fun e w' => beamErr b≠0∧e = .returned (.tuple #[.slice none 0 0,.int .i64 (beamErr b)])∧Hid (Below W1.heap.size W1 w'):=by
   refine hgi.mono ?_
   rintro e w' ⟨h1,⟨h3,h4,-⟩ | ⟨h2,rfl⟩⟩
   ·exact absurd ⟨h3,h4⟩ HE.out
   ·exact ⟨h2,rfl,h1⟩
  clear hgi
  generalize hk:beamErr b=k at *
  have HK:=Lib.hid hk
  clear hk
  go_wp2_with (go_at_call 32;refine hgi'.mono ?_;rintro e w2 ⟨hk,rfl,hb2⟩;have hk1:(k == 0)=false:=beq_eq_false_iff_ne.2 hk;have hk2:(k != 0)=true:=bne_iff_ne.2 hk)
  go_ret2
  exact ⟨HB.out.trans (hb2.out.mono HB.out.size),.inr ⟨k,hk,.inl (by rw [HK.out];exact hk),rfl,fun h => absurd h (by rw [HK.out];exact hk)⟩⟩
set_option maxRecDepth 100000 in
set_option maxHeartbeats 4000000 in
theorem bmMomentsT (v:Value) (b:BeamT) (w:World) (hv:BeamAt w w.heap.size v b) (hn:b.name.size≤maxLen):Calls Tryz.prog 14 #[v] w (TellPost b (momL b) w):=by
 have HGi:=fun W h => bmGiven v b W h hn
 have HV:=Lib.hid hv
 obtain ⟨As,cs,Al,cl,rfl,hS,hL⟩:=hv
 have HD:=Lib.hid (Blk.new w 25 #[.string b.name,.int .i64 b.len,.slice As b.sup.length cs,.slice Al b.loads.length cl,.int .i64 b.even])
 have HB:=Lib.hid ((Below.refl _ w).alloc (Nat.le_refl _) (.cells #[.string b.name,.int .i64 b.len,.slice As b.sup.length cs,.slice Al b.loads.length cl,.int .i64 b.even] 25))
 clear hS hL
 go_enter Tryz.func14,Tryz.ntmps14
 go_wp2_with (exact Go.WalkKit.wp_stop)
 generalize w.alloc (.cells #[.string b.name,.int .i64 b.len,.slice As b.sup.length cs,.slice Al b.loads.length cl,.int .i64 b.even] 25)=W1 at *
 have hgi:=HGi W1 (HV.out.grow HB.out)
 have y0:=HD.out.cell 0
 have y1:=HD.out.cell 1
 have y2:=HD.out.cell 2
 have y3:=HD.out.cell 3
 have y4:=HD.out.cell 4
 simp only [List.getElem?_toArray,List.getElem?_cons_succ,List.getElem?_cons_zero] at y0 y1 y2 y3 y4
 clear HGi
 by_cases hc:okBm b=true∧tiltOk b=true
 ·obtain ⟨hok,htl⟩:=hc
  have HE:Hid (¬ beamErr b≠0):=by unfold Hid beamErr;rw [hok,htl];simp
  have Hok:=Lib.hid hok
  have Htl:=Lib.hid htl
  clear hok htl
  have hgi':Calls Tryz.prog 32 #[.agg #[.string b.name,.int .i64 b.len,.slice As b.sup.length cs,.slice Al b.loads.length cl,.int .i64 b.even]] W1 fun e w' => ∃ u,e = .returned (.tuple #[u,.int .i64 0])∧Hid (Below W1.heap.size W1 w')∧Hid (ExsAt w' u (momL b)):=by
   refine hgi.mono ?_
   rintro e w' ⟨h1,⟨-,-,u,rfl,h2⟩ | ⟨h2,-⟩⟩
   ·exact ⟨u,rfl,h1,h2⟩
   ·exact absurd h2 HE.out
  clear hgi
  go_wp2_with (first | (go_at_call 32;refine hgi'.mono ?_;rintro e w2 ⟨u,rfl,hb2,hE2⟩;have HB2:=Lib.hid (HB.out.trans (hb2.out.mono HB.out.size));have hfr:=bmFracs u (momL b) w2 hE2.out (by have:=(okBm_ok Hok.out).sup1;unfold momL;simp;omega);clear hb2 hE2) | (go_at_call 33;refine hfr.mono ?_;intro e w4 h4;have hT:=FracsPost.tell h4 HB2.out Hok.out Htl.out;obtain ⟨-,⟨-,v4,rfl,-⟩ | ⟨-,rfl⟩⟩:=h4))
  all_goals
   go_ret2
   exact hT
 ·have HE:Hid (¬ (okBm b=true∧tiltOk b=true)):=hc
  clear hc
  have hgi':Calls Tryz.prog 32 #[.agg #[.string b.name,.int .i64 b.len,.slice As b.sup.length cs,.slice Al b.loads.length cl,.int .i64 b.even]] W1 fun e w' => beamErr b≠0∧e = .returned (.tuple #[.slice none 0 0,.int .i64 (beamErr b)])∧Hid (Below W1.heap.size W1 w'):=by
   refine hgi.mono ?_
   rintro e w' ⟨h1,⟨h3,h4,-⟩ | ⟨h2,rfl⟩⟩
   ·exact absurd ⟨h3,h4⟩ HE.out
   ·exact ⟨h2,rfl,h1⟩
  clear hgi
  generalize hk:beamErr b=k at *
  have HK:=Lib.hid hk
  clear hk
  go_wp2_with (go_at_call 32;refine hgi'.mono ?_;rintro e w2 ⟨hk,rfl,hb2⟩;have hk1:(k == 0)=false:=beq_eq_false_iff_ne.2 hk;have hk2:(k != 0)=true:=bne_iff_ne.2 hk)
  go_ret2
  exact ⟨HB.out.trans (hb2.out.mono HB.out.size),.inr ⟨k,hk,.inl (by rw [HK.out];exact hk),rfl,fun h => absurd h (by rw [HK.out];exact hk)⟩⟩
def beamArg (b:BeamT) (r m:List FrT):Bool:=okBm b && (allGood r && allGood m)
def beamIs (b:BeamT) (r m:List FrT):Bool:=tiltOk b && allOk (reactL b) && allOk (momL b) && decide (r=(reactL b).map frOf) && decide (m=(momL b).map frOf)
def VBeamPost (b:BeamT) (r m:List FrT) (w:World) (e:Ending) (w':World):Prop :=
 Below w.heap.size w w'∧((beamArg b r m=false∧e = .returned (.tuple #[.bool false,.int .i64 1]))∨(beamArg b r m=true∧e = .returned (.tuple #[.bool (beamIs b r m),.int .i64 0])))
theorem beamIs_all {b:BeamT} {r m:List FrT} (h1:tiltOk b=true) (h2:allOk (reactL b)=true) (h3:allOk (momL b)=true):beamIs b r m=(decide (r=(reactL b).map frOf) && decide (m=(momL b).map frOf)):=by
 unfold beamIs;rw [h1,h2,h3];rfl
theorem tell_yes {f:FuncId} {args:Array Value} {W:World} {b:BeamT} {l:List Rat} (h:Calls Tryz.prog f args W (TellPost b l W)) (h1:okBm b=true) (h2:tiltOk b=true) (h3:allOk l=true) :
  Calls Tryz.prog f args W fun e w' => ∃ u,e = .returned (.tuple #[u,.int .i64 0])∧Hid (Below W.heap.size W w')∧Hid (FrsAt w' w'.heap.size u (l.map frOf)):=by
 refine h.mono ?_
 rintro e w' ⟨hb,⟨-,-,-,u,rfl,h⟩ | ⟨k,hk,h | h,-⟩⟩
 ·exact ⟨u,rfl,hb,h⟩
 ·exact absurd (by unfold beamErr;rw [h1,h2];rfl) h
 ·rw [h3] at h;cases h
theorem tell_no {f:FuncId} {args:Array Value} {W:World} {b:BeamT} {l:List Rat} (h:Calls Tryz.prog f args W (TellPost b l W)) (h1:(tiltOk b && allOk l)=false) :
  Calls Tryz.prog f args W fun e w' => ∃ k,k≠0∧e = .returned (.tuple #[.slice none 0 0,.int .i64 k])∧Hid (Below W.heap.size W w'):=by
 refine h.mono ?_
 rintro e w' ⟨hb,⟨-,h2,h3,u,rfl,h⟩ | ⟨k,hk,-,h,-⟩⟩
 ·rw [h2,h3] at h1;cases h1
 ·exact ⟨k,hk,h,hb⟩
set_option maxRecDepth 100000 in
set_option maxHeartbeats 4000000 in
theorem vrBeam (v v1 v2:Value) (b:BeamT) (r m:List FrT) (w:World) (hv:BeamAt w w.heap.size v b) (hn:b.name.size≤maxLen) (hr:FrsAt w w.heap.size v1 r) (hm:FrsAt w w.heap.size v2 m) :
  Calls Tryz.prog 5 #[v,v1,v2] w (VBeamPost b r m w):=by
 have HVa:=fun W h => bmValid v b W h hn
 have HRe:=fun W h => bmReactions v b W h hn
 have HMo:=fun W h => bmMomentsT v b W h hn
 have HV:=Lib.hid hv
 obtain ⟨A1,c1,rfl,-⟩:=hr.open_
 obtain ⟨A2,c2,rfl,-⟩:=hm.open_
 have HR:=Lib.hid hr
 have HM:=Lib.hid hm
 obtain ⟨As,cs,Al,cl,rfl,hS,hL⟩:=hv
 have HD:=Lib.hid (Blk.new w 25 #[.string b.name,.int .i64 b.len,.slice As b.sup.length cs,.slice Al b.loads.length cl,.int .i64 b.even])
 have HB:=Lib.hid ((Below.refl _ w).alloc (Nat.le_refl _) (.cells #[.string b.name,.int .i64 b.len,.slice As b.sup.length cs,.slice Al b.loads.length cl,.int .i64 b.even] 25))
 clear hS hL hr hm
 go_enter Tryz.func5,Tryz.ntmps5
 go_wp2_with (exact Go.WalkKit.wp_stop)
 generalize w.alloc (.cells #[.string b.name,.int .i64 b.len,.slice As b.sup.length cs,.slice Al b.loads.length cl,.int .i64 b.even] 25)=W1 at *
 have hva:=HVa W1 (HV.out.grow HB.out)
 replace HRe:=Lib.hid HRe
 replace HMo:=Lib.hid HMo
 have y0:=HD.out.cell 0
 have y1:=HD.out.cell 1
 have y2:=HD.out.cell 2
 have y3:=HD.out.cell 3
 have y4:=HD.out.cell 4
 simp only [List.getElem?_toArray,List.getElem?_cons_succ,List.getElem?_cons_zero] at y0 y1 y2 y3 y4
 clear HVa
 rcases Bool.eq_false_or_eq_true (okBm b) with hok | hok
 rotate_left
 ·rw [hok] at hva
  have HE:Hid (beamArg b r m=false):=by unfold Hid beamArg;rw [hok];rfl
  clear hok
  go_wp2_with (go_at_call 11;refine hva.mono ?_;rintro e w2 ⟨rfl,hb2⟩)
  go_ret2
  exact ⟨HB.out.trans (hb2.mono HB.out.size),.inl ⟨HE.out,rfl⟩⟩
 rw [hok] at hva
 have Hok:=Lib.hid hok
 clear hok
 have HVV:=Lib.hid fun W D T hb hD => vrValid (.slice A1 r.length c1) (.slice A2 m.length c2) r m D T W hD ((HR.out.below hb (Nat.le_refl _)).mono (Below.size hb)) ((HM.out.below hb (Nat.le_refl _)).mono (Below.size hb))
 rcases Bool.eq_false_or_eq_true (allGood r && allGood m) with hg | hg
 rotate_left
 ·have HE:Hid (beamArg b r m=false):=by unfold Hid beamArg;rw [hg,Bool.and_false]
  rw [hg] at HVV
  clear hg
  go_wp2_with (first | (go_at_call 11;refine hva.mono ?_;rintro e w2 ⟨rfl,hb2⟩;have HB2:=Lib.hid ((HB.out.trans (hb2.mono HB.out.size)).alloc (Nat.le_trans HB.out.size hb2.size) (.cells #[.slice A1 r.length c1,.slice A2 m.length c2] 26));have HD2:=Lib.hid ((HD.out.below hb2 HD.out.lt).alloc (.cells #[.slice A1 r.length c1,.slice A2 m.length c2] 26));have hvv:=HVV.out _ _ _ HB2.out (Blk.new w2 26 #[.slice A1 r.length c1,.slice A2 m.length c2])) | (go_at_call 12;refine hvv.mono ?_;rintro e w3 ⟨rfl,hb3⟩))
  go_ret2
  exact ⟨HB2.out.trans (hb3.mono HB2.out.size),.inl ⟨HE.out,rfl⟩⟩
 have HE:Hid (beamArg b r m=true):=by unfold Hid beamArg;rw [hg,Hok.out];rfl
 rw [hg] at HVV
 clear hg
 rcases Bool.eq_false_or_eq_true (tiltOk b && allOk (reactL b)) with ha | ha
 rotate_left
 ·have HI:Hid (beamIs b r m=false):=by unfold Hid beamIs;rw [ha];rfl
  have Ha:=Lib.hid ha
  clear ha
  go_wp2_with (first | (go_at_call 11;refine hva.mono ?_;rintro e w2 ⟨rfl,hb2⟩;have HB2:=Lib.hid ((HB.out.trans (hb2.mono HB.out.size)).alloc (Nat.le_trans HB.out.size hb2.size) (.cells #[.slice A1 r.length c1,.slice A2 m.length c2] 26));have HD2:=Lib.hid ((HD.out.below hb2 HD.out.lt).alloc (.cells #[.slice A1 r.length c1,.slice A2 m.length c2] 26));have hvv:=HVV.out _ _ _ HB2.out (Blk.new w2 26 #[.slice A1 r.length c1,.slice A2 m.length c2])) | (go_at_call 12;refine hvv.mono ?_;rintro e w3 ⟨rfl,hb3⟩;have HB3:=Lib.hid (HB2.out.trans (hb3.mono HB2.out.size));have HD3:=Lib.hid (HD2.out.below hb3 HD2.out.lt);clear hb3;have z0:=HD3.out.cell 0;have z1:=HD3.out.cell 1;have z2:=HD3.out.cell 2;have z3:=HD3.out.cell 3;have z4:=HD3.out.cell 4;simp only [List.getElem?_toArray,List.getElem?_cons_succ,List.getElem?_cons_zero] at z0 z1 z2 z3 z4;have hre:=tell_no (HRe.out w3 (HV.out.grow HB3.out)) Ha.out) | (go_at_call 13;refine hre.mono ?_;rintro e w4 ⟨k,hk,rfl,hb4⟩;have hk1:(k == 0)=false:=beq_eq_false_iff_ne.2 hk;have hk2:(k != 0)=true:=bne_iff_ne.2 hk))
  go_ret2
  exact ⟨HB3.out.trans (hb4.out.mono HB3.out.size),.inr ⟨HE.out,by rw [HI.out];rfl⟩⟩
 have Ha:Hid (tiltOk b=true∧allOk (reactL b)=true):=by unfold Hid;simpa using ha
 clear ha
 rcases Bool.eq_false_or_eq_true (allOk (momL b)) with hm | hm
 rotate_left
 ·have HI:Hid (beamIs b r m=false):=by unfold Hid beamIs;rw [hm,Bool.and_false];rfl
  have Hm:=Lib.hid hm
  clear hm
  go_wp2_with (first | (go_at_call 11;refine hva.mono ?_;rintro e w2 ⟨rfl,hb2⟩;have HB2:=Lib.hid ((HB.out.trans (hb2.mono HB.out.size)).alloc (Nat.le_trans HB.out.size hb2.size) (.cells #[.slice A1 r.length c1,.slice A2 m.length c2] 26));have HD2:=Lib.hid ((HD.out.below hb2 HD.out.lt).alloc (.cells #[.slice A1 r.length c1,.slice A2 m.length c2] 26));have hvv:=HVV.out _ _ _ HB2.out (Blk.new w2 26 #[.slice A1 r.length c1,.slice A2 m.length c2])) | (go_at_call 12;refine hvv.mono ?_;rintro e w3 ⟨rfl,hb3⟩;have HB3:=Lib.hid (HB2.out.trans (hb3.mono HB2.out.size));have HD3:=Lib.hid (HD2.out.below hb3 HD2.out.lt);clear hb3;have z0:=HD3.out.cell 0;have z1:=HD3.out.cell 1;have z2:=HD3.out.cell 2;have z3:=HD3.out.cell 3;have z4:=HD3.out.cell 4;simp only [List.getElem?_toArray,List.getElem?_cons_succ,List.getElem?_cons_zero] at z0 z1 z2 z3 z4;have hre:=tell_yes (HRe.out w3 (HV.out.grow HB3.out)) Hok.out Ha.out.1 Ha.out.2) | (go_at_call 13;refine hre.mono ?_;rintro e w4 ⟨u4,rfl,hb4,hF4⟩;have HB4:=Lib.hid (HB3.out.trans (hb4.out.mono HB3.out.size));have HD4:=Lib.hid (HD3.out.below hb4.out HD3.out.lt);clear hb4;have x0:=HD4.out.cell 0;have x1:=HD4.out.cell 1;have x2:=HD4.out.cell 2;have x3:=HD4.out.cell 3;have x4:=HD4.out.cell 4;simp only [List.getElem?_toArray,List.getElem?_cons_succ,List.getElem?_cons_zero] at x0 x1 x2 x3 x4;have hmo:=tell_no (HMo.out w4 (HV.out.grow HB4.out)) (by rw [Hm.out,Bool.and_false])) | (go_at_call 14;refine hmo.mono ?_;rintro e w5 ⟨k,hk,rfl,hb5⟩;have hk1:(k == 0)=false:=beq_eq_false_iff_ne.2 hk;have hk2:(k != 0)=true:=bne_iff_ne.2 hk))
  go_ret2
  exact ⟨HB4.out.trans (hb5.out.mono HB4.out.size),.inr ⟨HE.out,by rw [HI.out];rfl⟩⟩
 have HI:Hid (beamIs b r m=(decide (r=(reactL b).map frOf) && decide (m=(momL b).map frOf))):=beamIs_all Ha.out.1 Ha.out.2 hm
 have Hm:=Lib.hid hm
 clear hm
 rcases Bool.eq_false_or_eq_true (decide (r=(reactL b).map frOf)) with p1 | p1
 ·rcases Bool.eq_false_or_eq_true (decide (m=(momL b).map frOf)) with p2 | p2
  all_goals
   have P1:=Lib.hid p1
   have P2:=Lib.hid p2
   rw [p1,p2] at HI
   clear p1 p2
   go_wp2_with (first | (go_at_call 11;refine hva.mono ?_;rintro e w2 ⟨rfl,hb2⟩;have HB2:=Lib.hid ((HB.out.trans (hb2.mono HB.out.size)).alloc (Nat.le_trans HB.out.size hb2.size) (.cells #[.slice A1 r.length c1,.slice A2 m.length c2] 26));have HD2:=Lib.hid ((HD.out.below hb2 HD.out.lt).alloc (.cells #[.slice A1 r.length c1,.slice A2 m.length c2] 26));have hvv:=HVV.out _ _ _ HB2.out (Blk.new w2 26 #[.slice A1 r.length c1,.slice A2 m.length c2])) | (go_at_call 12;refine hvv.mono ?_;rintro e w3 ⟨rfl,hb3⟩;have HB3:=Lib.hid (HB2.out.trans (hb3.mono HB2.out.size));have HD3:=Lib.hid (HD2.out.below hb3 HD2.out.lt);clear hb3;have z0:=HD3.out.cell 0;have z1:=HD3.out.cell 1;have z2:=HD3.out.cell 2;have z3:=HD3.out.cell 3;have z4:=HD3.out.cell 4;simp only [List.getElem?_toArray,List.getElem?_cons_succ,List.getElem?_cons_zero] at z0 z1 z2 z3 z4;have hre:=tell_yes (HRe.out w3 (HV.out.grow HB3.out)) Hok.out Ha.out.1 Ha.out.2) | (go_at_call 13;refine hre.mono ?_;rintro e w4 ⟨u4,rfl,hb4,hF4⟩;have HB4:=Lib.hid (HB3.out.trans (hb4.out.mono HB3.out.size));have HD4:=Lib.hid (HD3.out.below hb4.out HD3.out.lt);clear hb4;have x0:=HD4.out.cell 0;have x1:=HD4.out.cell 1;have x2:=HD4.out.cell 2;have x3:=HD4.out.cell 3;have x4:=HD4.out.cell 4;simp only [List.getElem?_toArray,List.getElem?_cons_succ,List.getElem?_cons_zero] at x0 x1 x2 x3 x4;have hmo:=tell_yes (HMo.out w4 (HV.out.grow HB4.out)) Hok.out Ha.out.1 Hm.out) | (go_at_call 14;refine hmo.mono ?_;rintro e w5 ⟨u5,rfl,hb5,hF5⟩;have HB5:=Lib.hid (HB4.out.trans (hb5.out.mono HB4.out.size));have hs1:=vrSame (.slice A1 r.length c1) u4 r ((reactL b).map frOf) _ w5 ((HR.out.below HB5.out (Nat.le_refl _)).mono HB5.out.size) ((hF4.out.below hb5.out (Nat.le_refl _)).mono hb5.out.size);have hs2:=fun n => vrSame (.slice A2 m.length c2) u5 m ((momL b).map frOf) _ (w5.drewN n) ((HM.out.below (below_drewN HB5.out n) (Nat.le_refl _)).mono HB5.out.size) (hF5.out.below (below_drewN (Below.refl _ _) n) (Nat.le_refl _));rw [P1.out] at hs1;rw [P2.out] at hs2) | (go_at_call 15;refine hs1.mono ?_;rintro e w6 ⟨rfl,n6,rfl⟩) | (go_at_call 15;refine (hs2 _).mono ?_;rintro e w7 ⟨rfl,n7,rfl⟩))
   go_ret2
   exact ⟨below_drewN HB5.out _,.inr ⟨HE.out,by rw [HI.out];rfl⟩⟩
 ·rcases Bool.eq_false_or_eq_true (decide (m=(momL b).map frOf)) with p2 | p2
  all_goals
   have P1:=Lib.hid p1
   have P2:=Lib.hid p2
   rw [p1,p2] at HI
   clear p1 p2
   go_wp2_with (first | (go_at_call 11;refine hva.mono ?_;rintro e w2 ⟨rfl,hb2⟩;have HB2:=Lib.hid ((HB.out.trans (hb2.mono HB.out.size)).alloc (Nat.le_trans HB.out.size hb2.size) (.cells #[.slice A1 r.length c1,.slice A2 m.length c2] 26));have HD2:=Lib.hid ((HD.out.below hb2 HD.out.lt).alloc (.cells #[.slice A1 r.length c1,.slice A2 m.length c2] 26));have hvv:=HVV.out _ _ _ HB2.out (Blk.new w2 26 #[.slice A1 r.length c1,.slice A2 m.length c2])) | (go_at_call 12;refine hvv.mono ?_;rintro e w3 ⟨rfl,hb3⟩;have HB3:=Lib.hid (HB2.out.trans (hb3.mono HB2.out.size));have HD3:=Lib.hid (HD2.out.below hb3 HD2.out.lt);clear hb3;have z0:=HD3.out.cell 0;have z1:=HD3.out.cell 1;have z2:=HD3.out.cell 2;have z3:=HD3.out.cell 3;have z4:=HD3.out.cell 4;simp only [List.getElem?_toArray,List.getElem?_cons_succ,List.getElem?_cons_zero] at z0 z1 z2 z3 z4;have hre:=tell_yes (HRe.out w3 (HV.out.grow HB3.out)) Hok.out Ha.out.1 Ha.out.2) | (go_at_call 13;refine hre.mono ?_;rintro e w4 ⟨u4,rfl,hb4,hF4⟩;have HB4:=Lib.hid (HB3.out.trans (hb4.out.mono HB3.out.size));have HD4:=Lib.hid (HD3.out.below hb4.out HD3.out.lt);clear hb4;have x0:=HD4.out.cell 0;have x1:=HD4.out.cell 1;have x2:=HD4.out.cell 2;have x3:=HD4.out.cell 3;have x4:=HD4.out.cell 4;simp only [List.getElem?_toArray,List.getElem?_cons_succ,List.getElem?_cons_zero] at x0 x1 x2 x3 x4;have hmo:=tell_yes (HMo.out w4 (HV.out.grow HB4.out)) Hok.out Ha.out.1 Hm.out) | (go_at_call 14;refine hmo.mono ?_;rintro e w5 ⟨u5,rfl,hb5,hF5⟩;have HB5:=Lib.hid (HB4.out.trans (hb5.out.mono HB4.out.size));have hs1:=vrSame (.slice A1 r.length c1) u4 r ((reactL b).map frOf) _ w5 ((HR.out.below HB5.out (Nat.le_refl _)).mono HB5.out.size) ((hF4.out.below hb5.out (Nat.le_refl _)).mono hb5.out.size);have hs2:=fun n => vrSame (.slice A2 m.length c2) u5 m ((momL b).map frOf) _ (w5.drewN n) ((HM.out.below (below_drewN HB5.out n) (Nat.le_refl _)).mono HB5.out.size) (hF5.out.below (below_drewN (Below.refl _ _) n) (Nat.le_refl _));rw [P1.out] at hs1;rw [P2.out] at hs2) | (go_at_call 15;refine hs1.mono ?_;rintro e w6 ⟨rfl,n6,rfl⟩) | (go_at_call 15;refine (hs2 _).mono ?_;rintro e w7 ⟨rfl,n7,rfl⟩))
   go_ret2
   exact ⟨below_drewN HB5.out _,.inr ⟨HE.out,by rw [HI.out];rfl⟩⟩
end Go.Proofs.YtfhmbechennkbaaGreat
