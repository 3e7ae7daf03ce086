/- Lemmas. -/
import Derived.Test.YtmmhehgajkaniaaGreatDoorY7
namespace Go.Proofs.YtmmhehgajkaniaaGreatDoor
set_option maxRecDepth 100000
set_option maxHeartbeats 40000000
open Go.RowKit Go.Shelf
noncomputable def fK (l:List Task) (c p:Int) (s:List Int) (n:Int):Bool:=(cm l s==0)&&(qS l c p s&&((ga l s l.length==n)&&(oU l c p==n)))
theorem CK {l:List Task} {c p:Int} (h:bE l c p=0):cK l c p=true:=by
 unfold bE at h;cases hv:cK l c p
 ·rw[hv] at h;simp at h
 rfl
def vx7 (l:List Task) (c p:Int):Prop:=(∃L y,Covers l [l.length] L y)∧∃K z,Heavy l c p (2^l.length) K z
theorem VT (v:Value) (l:List Task) (c p:Int) (w:World) (hl:TasksAt w w.heap.size v l) (hg:bE l c p=0) :
  Calls Tryz.prog 32 #[v,.int .i64 c,.int .i64 p] w fun e w'=>e=.returned (.tuple #[.int .i64 (oU l c p),.int .i64 0])∧vx7 l c p∧Below w.heap.size w w' :=
 (zl v l c p w hl).mono fun e w' h=>by
  obtain⟨hb,⟨ky,rfl⟩|⟨hz,L,K,y,s,hc,hh,rfl⟩⟩:=h
  ·exact absurd hg ky
  unfold oU;rw[xo hc,qR hh];exact⟨rfl,⟨⟨L,y,hc⟩,⟨K,s,hh⟩⟩,hb⟩
theorem DR (v u:Value) (l:List Task) (c p:Int) (s:List Int) (n:Int) (w:World) (hl:TasksAt w w.heap.size v l) (hs:bg w w.heap.size u s) (hw:OU s) :
  Calls Tryz.prog 14 #[v,.int .i64 c,.int .i64 p,u,.int .i64 n] w fun e w'=>e=.returned (.tuple #[.bool ((bE l c p==0)&&fK l c p s n),.int .i64 (bE l c p)])∧(bE l c p=0→vx7 l c p)∧Below w.heap.size w w':=by
 have HT:Y0 (∀w1,Below w.heap.size w w1→TasksAt w1 w1.heap.size v l):=fun w1 hb=>(hl.below hb (yA _)).mono hb.size;have HS:Y0 (∀w1,Below w.heap.size w w1→bg w1 w1.heap.size u s):=fun w1 hb=>(hs.below hb (yA _)).mono hb.size;by_cases hg:bE l c p=0;rotate_left
 ·have hB:=qjA v l c p w hl hg;have e1:(bE l c p==0)=false:=zb hg;have e2:(bE l c p != 0)=true:=bne_iff_ne.2 hg;rw[e1,Bool.false_and];clear hl hs hg;generalize bE l c p=g at*;go_enter Tryz.func14,Tryz.ntmps14;go_wp2_with (go_at_call 32;refine hB.mono ?_;rintro e w1 ⟨rfl,ak⟩);go_ret2;exact⟨rfl,(fun h=>by rw[h] at e2;cases e2),ak⟩
 have hB:=VT v l c p w hl hg;have hce:lC l c p s=cm l s:=ze (CK hg);have hr:ft l=true:=(iJ l).2 (lg hg).1;have GJ:Y0 (∀w1,Below w.heap.size w w1→Calls Tryz.prog 33 #[v,.int .i64 c,.int .i64 p,u] w1 (tT l c p s w1)):=fun w1 hb=>I2 v _ l c p s w1 (HT.o w1 hb) (HS.o w1 hb) hw;have BU:Y0 (∀w1,Below w.heap.size w w1→Calls Tryz.prog 34 #[v,u] w1 (qX l s w1)):=fun w1 hb=>Ef v _ l s w1 (HT.o w1 hb) (HS.o w1 hb) hw
 unfold tT at GJ;unfold qX at BU;rw[hce] at GJ;rw[hg];clear hl hs hg hce;by_cases ly:cm l s=0;rotate_left
 ·have e1:(cm l s==0)=false:=zb ly;have e2:(cm l s != 0)=true:=bne_iff_ne.2 ly;have HV:Y0 (fK l c p s n=false):=by unfold Y0 fK;rw[e1];rfl
  rw[yC ly,Bool.false_and] at GJ;clear ly;generalize cm l s=st at*;generalize oU l c p=bn at*;go_enter Tryz.func14,Tryz.ntmps14;go_wp2_with (first|(go_at_call 32;refine hB.mono ?_;rintro e w1 ⟨rfl,hcx,ak⟩)|(go_at_call 33;refine (GJ.o _ ak).mono ?_;rintro e w2 ⟨aU,rfl⟩));go_ret2;exact⟨by rw[HV.o];rfl,fun _=>hcx,ak.trans (aU.mono ak.size)⟩
 rw[ly] at GJ BU;have PD:=zh ly;rw[show decide ((0:Int)=0)=true from rfl] at GJ;simp only[Bool.true_and] at GJ;clear ly;rcases yL (qS l c p s) with hk|hk;rotate_left
 ·have HV:Y0 (fK l c p s n=false):=by unfold Y0 fK;rw[hk,Bool.false_and,Bool.and_false]
  rw[hk] at GJ;clear hk;generalize oU l c p=bn at*;go_enter Tryz.func14,Tryz.ntmps14;go_wp2_with (first|(go_at_call 32;refine hB.mono ?_;rintro e w1 ⟨rfl,hcx,ak⟩)|(go_at_call 33;refine (GJ.o _ ak).mono ?_;rintro e w2 ⟨aU,rfl⟩));go_ret2;exact⟨by rw[HV.o];rfl,fun _=>hcx,ak.trans (aU.mono ak.size)⟩
 have vvE:Y0 (∀w1,Below w.heap.size w w1→Calls Tryz.prog 34 #[v,u] w1 fun e w'=>e=.returned (.tuple #[.int .i64 (ga l s l.length),.int .i64 0])∧Below w1.heap.size w1 w'):=fun w1 hb=>(BU.o w1 hb).mono fun e w' h=>by
  obtain⟨ev,⟨ky,-⟩|⟨-,rfl⟩⟩:=h
  ·rw[hr] at ky;cases ky
  exact⟨rfl,ev⟩
 rw[hk] at GJ;have HV:Y0 (fK l c p s n=((ga l s l.length==n)&&(oU l c p==n))):=by unfold Y0 fK;rw[hk,PD.o];rfl
 clear hk BU hr;rcases yL (ga l s l.length==n) with hn|hn
 all_goals
  rw[hn] at HV;generalize ga l s l.length=ln at*;generalize oU l c p=bn at*;go_enter Tryz.func14,Tryz.ntmps14;go_wp2_with (first|(go_at_call 32;refine hB.mono ?_;rintro e w1 ⟨rfl,hcx,ak⟩)|(go_at_call 33;refine (GJ.o _ ak).mono ?_;rintro e w2 ⟨aU,rfl⟩;have bM:=ak.trans (aU.mono ak.size))|(go_at_call 34;refine (vvE.o _ bM).mono ?_;rintro e w4 ⟨rfl,bU⟩));go_ret2;exact⟨by rw[HV.o];rfl,fun _=>hcx,bM.trans (bU.mono bM.size)⟩
theorem Il (v u:Value) (l:List Task) (c p:Int) (s:List Int) (n:Int) (w:World) (hl:TasksAt w w.heap.size v l) (hs:bg w w.heap.size u s) (hw:OU s) :
  Calls Tryz.prog 14 #[v,.int .i64 c,.int .i64 p,u,.int .i64 n] w fun e w'=>e=.returned (.tuple #[.bool ((bE l c p==0)&&fK l c p s n),.int .i64 (bE l c p)])∧Below w.heap.size w w' :=
 (DR v u l c p s n w hl hs hw).mono fun _ _ h=>⟨h.1,h.2.2⟩
def lh:Task:=⟨⟨#[116]⟩,7,0,0,none,0,[]⟩
def il:List Task:=[lh]
theorem V6 {i j:Nat}:¬lZ il i j:=by
 rintro⟨hi,hj,h⟩;have hi':i<1:=hi;have hj':j<1:=hj;obtain rfl:i=0:=by omega
 obtain rfl:j=0:=by omega
 revert h
 simp[il,lh]
theorem BD {z:List Nat} (h:Chain il z):z=[]∨z=[0]:=by
 match z,h with
 | [],_=>exact .inl rfl
 | [i],h=>
  have:i<1:=h.1 i (by simp);obtain rfl:i=0:=by omega
  exact .inr rfl
 | i::j::t,h=>exact absurd (Chain.cons_iff.1 h).1 V6
theorem KC:Covers il [1] 7 [0]:=by
 have s0:gD il 0=7:=rfl;refine⟨Chain.one (show 0<1 by omega),.inl (by omega),by simp[bo,s0],fun z hz _=>?_,fun z hz _ hs=>?_⟩
 ·rcases BD hz with rfl|rfl
  ·simp[bo]
  simp[bo,s0]
 rcases BD hz with rfl|rfl
 ·simp[bo] at hs
 exact .inl rfl
theorem V5:tU il 1 1=0:=by
 simp[tU,pW,dR,il,lh]
theorem O4:Heavy il 1 1 (2^1) 7 1:=by
 have s0:gD il 0=7:=rfl;refine⟨fun i k hi hk hi' hk'=>?_,show 1<2^1 by decide,by simp[bo,ek,il,List.range_succ,Nat.testBit,gD,lens,lh],fun z hz hc=>?_,fun z hz h1 hc=>?_,.inr (by decide)⟩
 ·have hi3:i<1:=hi;omega
 ·have Ma:z<2:=hz;rcases (show z=0∨z=1 by omega) with rfl|rfl <;> simp[bo,ek,il,List.range_succ,Nat.testBit,gD,lens,lh]
 obtain rfl:z=0:=by omega
 simp[bo,ek,il,List.range_succ,Nat.testBit,lh]
theorem O3:RightT il:=by
 have hn:dw ⟨#[116]⟩=true:=by decide
 refine { len:=show 1≤8 by omega,field:=fun i hi=>?_,dist:=by decide,bef:=(fR _).2 fun t ht=>?_,acyc:=⟨id,fun k hk j hj=>?_⟩ }
 ·have hi':i<1:=hi;obtain rfl:i=0:=by omega
  simp[eF,il,lh,hn,Zw]
 ·simp only[il,List.mem_cons,List.not_mem_nil,or_false] at ht;subst ht;exact Good.nil _ _
 rw[lX hk] at hj;unfold ow at hj;rw[List.mem_map] at hj;obtain⟨s,hs,rfl⟩:=hj;have hk':k<1:=hk;obtain rfl:k=0:=by omega
 simp[il,lh] at hs
theorem O5:bE il 1 1=0:=by
 have h:=(iJ _).2 O3;unfold bE cK;rw[h];simp[Zw,fJ,il,lh]
theorem Gi:oU il 1 1=7:=by
 unfold oU;rw[V5,xo (l:=il) KC,qR (l:=il) O4];rfl
