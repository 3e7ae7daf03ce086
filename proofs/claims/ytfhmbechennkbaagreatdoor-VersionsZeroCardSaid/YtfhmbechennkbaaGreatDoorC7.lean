/- Lemmas. -/
import Derived.Test.YtfhmbechennkbaaGreatDoorC6
namespace Go.Proofs.YtfhmbechennkbaaGreatDoor
set_option maxRecDepth 100000
set_option maxHeartbeats 40000000
open Go.RowKit Go.Shelf
abbrev LoadT.val (x:LoadT):Value:=.agg #[.int .i64 x.pos,.int .i64 x.wt]
theorem Cv (v:Value) (l:List LoadT) (K:Nat) (C:Array Value) (p:LoadT→Bool) (eg:∀ args w,(callFunc K args).run Tryz.prog w = .ok (.enter K args) w) (w:World) (hl:LoadsAt w w.heap.size v l)
  (hf:∀ t∈l,∀ w',Below w.heap.size w w'→Calls Tryz.prog K (#[t.val]++C) w' fun e sN=>e = .returned (.bool (p t))∧Below w'.heap.size w' sN) :
  Calls Tryz.prog 213 #[v,.func (.func K) #[] C] w fun e w'=>e = .returned (.int .i64 (ff (l.findIdx? p)))∧Below w.heap.size w w':=by
 obtain⟨A,c,rfl,gC,dr,ah⟩:=hl.open_
 unfold maxLen at dr
 have HF:=zh hf
 clear hf
 go_enter Tryz.func213,Tryz.ntmps213
 go_wp2
 go_loopw [8] (fun x wr=>∃ j:Nat,j≤l.length∧x = .int .i64 j∧(l.take j).findIdx? p=none∧Below w.heap.size w wr) (fun x _=>l.length-(intOf x).toNat)
 case atStart=>exact⟨0,yI _,rfl,by simp,yB _ _⟩
 obtain⟨j,hj,rfl,gg,av⟩:=hrel
 have lp:=zh gg
 clear gg
 by_cases aw:j<l.length
 ·obtain⟨b,off,rfl,hb,ah⟩:=ah j aw
  have h0:=(av.cell (p:=⟨b,off+j*2,none⟩) hb).trans (ah j aw).1
  have h1:=(av.cell (p:=⟨b,off+j*2+1,none⟩) hb).trans (ah j aw).2
  clear ah
  have eo:=HF.o l[j] (yV aw)
  cases hq:p l[j]
  case true=>
   rw[hq] at eo
   go_wp2_with (go_at_fn K;refine (eo _ av).mono ?_;rintro e w' ⟨rfl,gZ⟩)
   go_ret
   exact⟨by rw[su lp.o aw hq];rfl,av.trans (gZ.mono av.size)⟩
  rw[hq] at eo
  go_wp2_with (go_at_fn K;refine (eo _ av).mono ?_;rintro e w' ⟨rfl,gZ⟩)
  go_roundw
  case rel=>exact⟨j+1,by omega,by go_num,pN lp.o aw hq,av.trans (gZ.mono av.size)⟩
  simp[intOf];omega
 have mQ:j=l.length:=by omega
 subst mQ
 go_wp2
 go_ret
 exact⟨by rw[← yT (l:=l),lp.o];rfl,av⟩
theorem tM (v:Value) (l:List LoadT) (K:Nat) (C:Array Value) (p:LoadT→Bool) (eg:∀ args w,(callFunc K args).run Tryz.prog w = .ok (.enter K args) w) (w:World) (hl:LoadsAt w w.heap.size v l)
  (hf:∀ t∈l,∀ w',Below w.heap.size w w'→Calls Tryz.prog K (#[t.val]++C) w' fun e sN=>e = .returned (.bool (p t))∧Below w'.heap.size w' sN) :
  Calls Tryz.prog 185 #[v,.func (.func K) #[] C] w fun e w'=>e = .returned (.bool (l.any p))∧Below w.heap.size w w':=by
 have hc:=Cv v l K C p eg w hl hf
 have hbd:=VT p l
 have HA:=zh (N1 p l)
 generalize ff (l.findIdx? p)=x at *
 clear hf hl
 go_enter Tryz.func185,Tryz.ntmps185
 go_wp2_with (go_at_call 213;refine hc.mono ?_;rintro e w' ⟨rfl,gZ⟩)
 go_ret
 exact⟨Ze HA.o,gZ⟩
def cK (bl:Int) (x:LoadT):Bool:=!decide (x.pos<0) && !decide (bl<x.pos) && !decide (x.wt<0) && !decide (67108864<x.wt)
def eO (b:BeamT) (i:Nat):Bool:=!decide (ak b i<0) && !decide (b.len<ak b i)&&(decide (i=0) || !decide (ak b i≤ak b (i-1)))
def cR (b:BeamT) (k:Nat):Bool:=decide (∀ i,i<k→eO b i=true)
def dj (b:BeamT):Bool:=da b.name && !decide (b.len<1) && !decide (1048576<b.len) && !decide (b.even<0) && !decide (1048576<b.even) && !decide ((b.sup.length:Int)<1) && !decide (10<(b.sup.length:Int)) && !decide (40<(b.loads.length:Int))
def dt (b:BeamT):Bool:=dj b&&cR b b.sup.length&&b.loads.all (cK b.len)
theorem I7 {α:Type} (l:List α) (p:α→Bool):(!l.any fun x=>!p x)=l.all p:=by
 induction l with
 | nil=>rfl
 | cons x l ih=>rw[List.any_cons,List.all_cons,Bool.not_or,Bool.not_not,ih]
theorem cM {b:BeamT} (h:dj b=false):dt b=false:=by unfold dt;rw[h];rfl
theorem lZ {b:BeamT} {k:Nat} (hk:k<b.sup.length) (h:eO b k=false):dt b=false:=by
 have:cR b b.sup.length=false:=by
  unfold cR
  rw[YE]
  intro hh
  rw[hh k hk] at h
  cases h
 unfold dt
 rw[this,Bool.and_false,Bool.false_and]
theorem qf (b:BeamT):cR b 0=true:=by unfold cR;simp
theorem j7 {b:BeamT} {k:Nat} (h:cR b k=true) (h1:eO b k=true):cR b (k+1)=true:=by
 unfold cR at *
 rw[yO] at *
 intro i hi
 rcases Nat.lt_succ_iff_lt_or_eq.1 hi with h2 | rfl
 ·exact h i h2
 exact h1
theorem V3 {b:BeamT} (h:dj b=true) (h1:cR b b.sup.length=true):dt b=b.loads.all (cK b.len):=by unfold dt;rw[h,h1];rfl
theorem kr {b:BeamT} (h:dt b=true):BeamOk b:=by
 unfold dt dj cR at h
 simp only[Bool.and_eq_true,Bool.not_eq_true',decide_eq_false_iff_not,decide_eq_true_eq,List.all_eq_true] at h
 obtain⟨⟨⟨⟨⟨⟨⟨⟨⟨h0,h1⟩,h2⟩,h3⟩,h4⟩,h5⟩,h6⟩,h7⟩,h8⟩,h9⟩:=h
 have h8':∀ i,i<b.sup.length→¬ ak b i<0∧¬ b.len<ak b i∧(i=0∨¬ ak b i≤ak b (i-1)):=fun i hi=>by
  have:=h8 i hi
  unfold eO at this
  simpa[and_assoc] using this
 refine⟨by omega,by omega,by omega,fun i hi=>?_,fun i hi=>?_,by omega,fun x hx=>?_⟩
 ·have:=h8' i hi;omega
 ·have:=(h8' (i+1) hi).2.2;simp at this;omega
 have:=h9 x hx
 unfold cK at this
 simp only[Bool.and_eq_true,Bool.not_eq_true',decide_eq_false_iff_not] at this
 omega
theorem Xs:∀ args w,(callFunc 186 args).run Tryz.prog w = .ok (.enter 186 args) w:=enters_of Tryz.func186 (by kernel_rfl) rfl
theorem XE (D:Nat) (x:LoadT) (bl:Int) (w:World) (n:ByteArray) (u2 u3 u4:Value) (h1:Blk w D 122 #[.string n,.int .i64 bl,u2,u3,u4]) :
  Calls Tryz.prog 186 #[x.val,.pointer (some ⟨D,0,none⟩)] w fun e w'=>e = .returned (.bool (!cK bl x))∧Below w.heap.size w w':=by
 have HB:=zh ((yB _ w).alloc (yA _) (.cells #[.int .i64 x.pos,.int .i64 x.wt] 162))
 have HD:=zh (Blk.new w 162 #[.int .i64 x.pos,.int .i64 x.wt])
 have y:=(h1.below HB.o h1.lt).cell 1
 have y0:=HD.o.cell 0
 have y1:=HD.o.cell 1
 simp only[aP,aQ,aO] at y y0 y1
 obtain⟨pos,wt⟩:=x
 simp only at *
 by_cases c0:pos<0
 ·have d0:decide (pos<0)=true:=yD c0
  have HV:Y0 ((!cK bl ⟨pos,wt⟩)=true):=by unfold Y0 cK;simp only[d0];rfl
  clear h1
  go_enter Tryz.func186,Tryz.ntmps186
  go_wp2_with fail
  go_ret
  exact⟨Ze HV.o.symm,HB.o⟩
 have d0:decide (pos<0)=false:=yC c0
 by_cases c1:bl<pos
 ·have d1:decide (bl<pos)=true:=yD c1
  have HV:Y0 ((!cK bl ⟨pos,wt⟩)=true):=by unfold Y0 cK;simp only[d0,d1];rfl
  clear h1
  go_enter Tryz.func186,Tryz.ntmps186
  go_wp2_with fail
  go_ret
  exact⟨Ze HV.o.symm,HB.o⟩
 have d1:decide (bl<pos)=false:=yC c1
 by_cases c2:wt<0
 ·have d2:decide (wt<0)=true:=yD c2
  have HV:Y0 ((!cK bl ⟨pos,wt⟩)=true):=by unfold Y0 cK;simp only[d0,d1,d2];rfl
  clear h1
  go_enter Tryz.func186,Tryz.ntmps186
  go_wp2_with fail
  go_ret
  exact⟨Ze HV.o.symm,HB.o⟩
 have d2:decide (wt<0)=false:=yC c2
 by_cases c3:67108864<wt
 ·have d3:decide (67108864<wt)=true:=yD c3
  have HV:Y0 ((!cK bl ⟨pos,wt⟩)=true):=by unfold Y0 cK;simp only[d0,d1,d2,d3];rfl
  clear h1
  go_enter Tryz.func186,Tryz.ntmps186
  go_wp2_with fail
  go_ret
  exact⟨Ze HV.o.symm,HB.o⟩
 have d3:decide (67108864<wt)=false:=yC c3
 have HV:Y0 ((!cK bl ⟨pos,wt⟩)=false):=by unfold Y0 cK;simp only[d0,d1,d2,d3];rfl
 clear h1
 go_enter Tryz.func186,Tryz.ntmps186
 go_wp2_with fail
 go_ret
 exact⟨Ze HV.o.symm,HB.o⟩
theorem qqs (v:Value) (b:BeamT) (w:World) (hv:BeamAt w w.heap.size v b) (hn:b.name.size≤maxLen):Calls Tryz.prog 153 #[v] w fun e w'=>e = .returned (.bool (dt b))∧Below w.heap.size w w':=by
 obtain⟨As,cs,Al,cl,rfl,hS,hL⟩:=hv
 have HN:=fun W=>pO b.name hn W
 obtain⟨_,_,e,mz,jU,uD⟩:=hS.open_
 injection e with e1 _ e2
 subst e1 e2
 unfold maxLen at jU
 have HL:=zh hL
 have HSc:=zh uD
 have HD:=zh (Blk.new w 122 (zC b As cs Al cl))
 have HB:=zh ((yB _ w).alloc (yA _) (.cells (zC b As cs Al cl) 122))
 clear hS uD hn hL
 go_enter Tryz.func153,Tryz.ntmps153
 go_wp2_with (exact Go.WalkKit.wp_stop)
 generalize w.alloc (.cells (zC b As cs Al cl) 122)=W1 at *
 obtain⟨y0,y1,y2,y3,y4⟩:=HD.o.c5
 have Bi:=HN W1
 cases d0:da b.name
 ·rw[d0] at Bi
  have HV:Y0 (dt b=false):=by unfold Y0;refine cM ?_;unfold dj;simp only[d0];rfl
  go_wp2_with (go_at_call 107;refine Bi.mono ?_;rintro e w' ⟨rfl,rfl⟩)
  go_ret
  exact⟨Ze HV.o.symm,HB.o⟩
 rw[d0] at Bi
 by_cases c1:b.len<1
 ·have d1:decide (b.len<1)=true:=yD c1
  have HV:Y0 (dt b=false):=by unfold Y0;refine cM ?_;unfold dj;simp only[d0,d1];rfl
  go_wp2_with (go_at_call 107;refine Bi.mono ?_;rintro e w' ⟨rfl,rfl⟩)
  go_ret
  exact⟨Ze HV.o.symm,HB.o⟩
 have d1:decide (b.len<1)=false:=yC c1
 by_cases c2:1048576<b.len
 ·have d2:decide (1048576<b.len)=true:=yD c2
  have HV:Y0 (dt b=false):=by unfold Y0;refine cM ?_;unfold dj;simp only[d0,d1,d2];rfl
  go_wp2_with (go_at_call 107;refine Bi.mono ?_;rintro e w' ⟨rfl,rfl⟩)
  go_ret
  exact⟨Ze HV.o.symm,HB.o⟩
 have d2:decide (1048576<b.len)=false:=yC c2
 by_cases c3:b.even<0
 ·have d3:decide (b.even<0)=true:=yD c3
  have HV:Y0 (dt b=false):=by unfold Y0;refine cM ?_;unfold dj;simp only[d0,d1,d2,d3];rfl
  go_wp2_with (go_at_call 107;refine Bi.mono ?_;rintro e w' ⟨rfl,rfl⟩)
  go_ret
  exact⟨Ze HV.o.symm,HB.o⟩
 have d3:decide (b.even<0)=false:=yC c3
 by_cases c4:1048576<b.even
 ·have d4:decide (1048576<b.even)=true:=yD c4
  have HV:Y0 (dt b=false):=by unfold Y0;refine cM ?_;unfold dj;simp only[d0,d1,d2,d3,d4];rfl
  go_wp2_with (go_at_call 107;refine Bi.mono ?_;rintro e w' ⟨rfl,rfl⟩)
  go_ret
  exact⟨Ze HV.o.symm,HB.o⟩
 have d4:decide (1048576<b.even)=false:=yC c4
 by_cases c5:(b.sup.length:Int)<1
 ·have d5:decide ((b.sup.length:Int)<1)=true:=yD c5
  have HV:Y0 (dt b=false):=by unfold Y0;refine cM ?_;unfold dj;simp only[d0,d1,d2,d3,d4,d5];rfl
  go_wp2_with (go_at_call 107;refine Bi.mono ?_;rintro e w' ⟨rfl,rfl⟩)
  go_ret
  exact⟨Ze HV.o.symm,HB.o⟩
 have d5:decide ((b.sup.length:Int)<1)=false:=yC c5
 by_cases c6:10<(b.sup.length:Int)
 ·have d6:decide (10<(b.sup.length:Int))=true:=yD c6
  have HV:Y0 (dt b=false):=by unfold Y0;refine cM ?_;unfold dj;simp only[d0,d1,d2,d3,d4,d5,d6];rfl
  go_wp2_with (go_at_call 107;refine Bi.mono ?_;rintro e w' ⟨rfl,rfl⟩)
  go_ret
  exact⟨Ze HV.o.symm,HB.o⟩
 have d6:decide (10<(b.sup.length:Int))=false:=yC c6
 by_cases c7:40<(b.loads.length:Int)
 ·have d7:decide (40<(b.loads.length:Int))=true:=yD c7
  have HV:Y0 (dt b=false):=by unfold Y0;refine cM ?_;unfold dj;simp only[d0,d1,d2,d3,d4,d5,d6,d7];rfl
  go_wp2_with (go_at_call 107;refine Bi.mono ?_;rintro e w' ⟨rfl,rfl⟩)
  go_ret
  exact⟨Ze HV.o.symm,HB.o⟩
 have d7:decide (40<(b.loads.length:Int))=false:=yC c7
 have HH:Y0 (dj b=true):=by unfold Y0 dj;simp only[d0,d1,d2,d3,d4,d5,d6,d7];rfl
 obtain⟨bs,os,rfl,ip,D6⟩:=HSc.o 0 (by omega)
 have lq:Y0 (∀ j,j<b.sup.length→W1.cell? ⟨bs,os+j,none⟩=some (.int .i64 (ak b j))):=fun j hj=>by
  have h:=(HB.o.cell (p:=⟨bs,os+j,none⟩) ip).trans (D6 j hj)
  unfold ak
  rw[yN,yM hj]
  exact h
 clear D6 HSc
 go_wp2_with (go_at_call 107;refine Bi.mono ?_;rintro e w' ⟨rfl,rfl⟩)
 go_loopw [50] (fun x wr=>∃ k:Nat,k≤b.sup.length∧x = .int .i64 k∧Y0 (cR b k=true)∧W1=wr) (fun x _=>b.sup.length-(intOf x).toNat)
 case atStart=>exact⟨0,yI _,rfl,qf b,rfl⟩
 obtain⟨k,hk,rfl,HG,rfl⟩:=hrel
 by_cases aw:k<b.sup.length
 ·have z:=lq.o k aw
  have i1:(0:Int)≤(k:Int):=yE _
  have i2:(k:Int)<(b.sup.length:Int):=by omega
  by_cases e1:ak b k<0
  ·have f1:decide (ak b k<0)=true:=yD e1
   have HV:Y0 (dt b=false):=lZ aw (by unfold eO;rw[f1];rfl)
   go_wp2
   go_ret
   exact⟨Ze HV.o.symm,HB.o⟩
  have f1:decide (ak b k<0)=false:=yC e1
  by_cases e2:b.len<ak b k
  ·have f2:decide (b.len<ak b k)=true:=yD e2
   have HV:Y0 (dt b=false):=lZ aw (by unfold eO;rw[f1,f2];rfl)
   go_wp2
   go_ret
   exact⟨Ze HV.o.symm,HB.o⟩
  have f2:decide (b.len<ak b k)=false:=yC e2
  by_cases e3:k=0
  ·have f3':¬ (0:Int)<(k:Int):=by omega
   have f3:decide ((0:Int)<(k:Int))=false:=yC f3'
   have HV:Y0 (cR b (k+1)=true):=j7 HG.o (by unfold eO;rw[f1,f2,decide_eq_true e3];rfl)
   clear e3
   go_wp2
   go_roundw
   case rel=>exact⟨k+1,aw,by go_num,HV,by trivial⟩
   simp[intOf];omega
  have f3:decide ((0:Int)<(k:Int))=true:=yD (by omega)
  have z0:=lq.o (k-1) (by omega)
  have i4:((k:Int)-1).toNat=k-1:=by omega
  have i5:(0:Int)≤(k:Int)-1:=by omega
  have i6:(k:Int)-1<(b.sup.length:Int):=by omega
  have v1:IntKind.i64.wrap ((k:Int)-1)=(k:Int)-1:=yF _ (by omega)
  have E3:Y0 (¬ k=0):=e3
  by_cases e4:ak b k≤ak b (k-1)
  ·have f4:decide (ak b k≤ak b (k-1))=true:=yD e4
   have HV:Y0 (dt b=false):=lZ aw (by unfold eO;rw[f1,f2,f4,decide_eq_false E3.o];rfl)
   go_wp2
   go_ret
   exact⟨Ze HV.o.symm,HB.o⟩
  have f4:decide (ak b k≤ak b (k-1))=false:=yC e4
  have HV:Y0 (cR b (k+1)=true):=j7 HG.o (by unfold eO;rw[f1,f2,f4,decide_eq_false E3.o];rfl)
  go_wp2
  go_roundw
  case rel=>exact⟨k+1,aw,by go_num,HV,by trivial⟩
  simp[intOf];omega
 have mQ:k=b.sup.length:=by omega
 subst mQ
 have HV:Y0 (dt b=b.loads.all (cK b.len)):=V3 HH.o HG.o
 have hc := tM (.slice Al b.loads.length cl) b.loads 186 #[.pointer (some ⟨w.heap.size,0,none⟩)] (fun x=>!cK b.len x) Xs W1 ((HL.o.below HB.o (yA _)).mono HB.o.size)
  (fun t _ w' gZ=>XE _ t _ w' _ _ _ _ (HD.o.below gZ HD.o.lt))
 go_wp2_with (go_at_call 185;refine hc.mono ?_;rintro e w' ⟨rfl,gZ⟩)
 go_ret
 refine⟨Ze ?_,HB.o.trans (gZ.mono HB.o.size)⟩
 rw[HV.o]
 exact I7 _ _
def eX (b:BeamT):Int:=if dt b then (if cJ b then 0 else 22) else 1
def QC (b:BeamT) (w:World) (e:Ending) (w':World):Prop :=
 Below w.heap.size w w'∧((dt b=true∧cJ b=true∧∃ v,e = .returned (.tuple #[v,.int .i64 0])∧ExsAt w' v (tr b))∨(eX b≠0∧e = .returned (.tuple #[.slice none 0 0,.int .i64 (eX b)])))
theorem qqt (v:Value) (b:BeamT) (w:World) (hv:BeamAt w w.heap.size v b) (hn:b.name.size≤maxLen):Calls Tryz.prog 117 #[v] w (QC b w):=by
 have JK:=fun W h=>qqs v b W h hn
 have FF:=fun h W h1=>Ql v b W h1 h
 obtain⟨As,cs,Al,cl,rfl,hS,hL⟩:=hv
 have HV:Y0 (BeamAt w w.heap.size (.agg (zC b As cs Al cl)) b):=⟨As,cs,Al,cl,rfl,hS,hL⟩
 have HD:=zh (Blk.new w 122 (zC b As cs Al cl))
 have HB:=zh ((yB _ w).alloc (yA _) (.cells (zC b As cs Al cl) 122))
 clear hS hL
 go_enter Tryz.func117,Tryz.ntmps117
 go_wp2_with (exact Go.WalkKit.wp_stop)
 generalize w.alloc (.cells (zC b As cs Al cl) 122)=W1 at *
 have Cf:=JK W1 (HV.o.grow HB.o)
 have FF:=zh FF
 obtain⟨y0,y1,y2,y3,y4⟩:=HD.o.c5
 clear JK
 cases aK:dt b
 ·rw[aK] at Cf
  have HE:Y0 (eX b=1):=by unfold Y0 eX;rw[aK];rfl
  go_wp2_with (go_at_call 153;refine Cf.mono ?_;rintro e w2 ⟨rfl,bE⟩)
  go_ret2
  exact⟨HB.o.trans (bE.mono HB.o.size),.inr ⟨by rw[HE.o];decide,by rw[HE.o];rfl⟩⟩
 rw[aK] at Cf
 have Zt:=zh aK
 clear aK
 cases ht:cJ b
 ·have HT:=zh ht
  clear ht
  have HE:Y0 (eX b=22):=by unfold Y0 eX;rw[Zt.o,HT.o];rfl
  go_wp2_with (first | (go_at_call 153;refine Cf.mono ?_;rintro e w2 ⟨rfl,bE⟩;have bK:=zh (HB.o.trans (bE.mono HB.o.size));have cF:=zh (HD.o.below bE HD.o.lt);clear bE;have z0:=cF.o.cell 0;have z1:=cF.o.cell 1;have z2:=cF.o.cell 2;have z3:=cF.o.cell 3;have z4:=cF.o.cell 4;simp only[aP,aQ,aO] at z0 z1 z2 z3 z4;have hmo:=FF.o (kr Zt.o) w2 (HV.o.grow bK.o);unfold Fs at hmo;rw[HT.o] at hmo) | (go_at_call 154;refine hmo.mono ?_;rintro e w3 ⟨cO,v3,rfl,h3⟩))
  go_ret2
  exact⟨bK.o.trans (cO.mono bK.o.size),.inr ⟨by rw[HE.o];decide,by rw[HE.o];rfl⟩⟩
 have HT:=zh ht
 clear ht
 go_wp2_with (first | (go_at_call 153;refine Cf.mono ?_;rintro e w2 ⟨rfl,bE⟩;have bK:=zh (HB.o.trans (bE.mono HB.o.size));have cF:=zh (HD.o.below bE HD.o.lt);clear bE;have z0:=cF.o.cell 0;have z1:=cF.o.cell 1;have z2:=cF.o.cell 2;have z3:=cF.o.cell 3;have z4:=cF.o.cell 4;simp only[aP,aQ,aO] at z0 z1 z2 z3 z4;have hmo:=FF.o (kr Zt.o) w2 (HV.o.grow bK.o);unfold Fs at hmo;rw[HT.o] at hmo) | (go_at_call 154;refine hmo.mono ?_;rintro e w3 ⟨cO,v3,rfl,h3⟩))
 go_ret2
 exact⟨bK.o.trans (cO.mono bK.o.size),.inl ⟨Zt.o,HT.o,v3,rfl,h3⟩⟩
theorem DD (v1 v2:Value) (l1 l2:List FrT) (B:Nat) (w:World) (pL:FrsAt w B v1 l1) (rW:FrsAt w B v2 l2) :
  Calls Tryz.prog 54 #[v1,v2] w fun e w'=>e = .returned (.bool (decide (l1=l2)))∧∃ n,w.drewN n=w':=by
 obtain⟨A1,c1,rfl,gC,jo,bn⟩:=pL.open_
 obtain⟨A2,c2,rfl,dr,im,bM⟩:=rW.open_
 unfold maxLen at jo im
 clear pL rW
 by_cases bL:l1.length=l2.length
 ·have HL:=zh bL
  have hb:((l1.length:Int) != l2.length)=false:=by simp[bL]
  have qzh:l1.length≤l2.length:=by omega
  have qzg:l2.length≤l1.length:=by omega
  clear bL
  go_enter Tryz.func54,Tryz.ntmps54
  go_wp2
  go_loopw [13] (fun s wr=>∃ j:Nat,j≤l1.length∧s = .int .i64 j∧l1.take j=l2.take j∧∃ n,wr=w.drewN n) (fun x _=>l1.length-(intOf x).toNat)
  case atStart=>exact⟨0,yI _,rfl,by simp,0,rfl⟩
  obtain⟨j,hj,rfl,gg,n,rfl⟩:=hrel
  have lp:=zh gg
  clear gg
  by_cases aw:j<l1.length
  ·have et:j<l2.length:=by omega
   obtain⟨b1,ct,rfl,ao,bn⟩:=bn j aw
   obtain⟨b2,L3,rfl,bE,bM⟩:=bM j et
   obtain⟨h1,h1'⟩:=bn j aw
   obtain⟨h2,h2'⟩:=bM j et
   clear bn bM
   by_cases hq:l1[j]=l2[j]
   ·have ht:(l1[j].num==l2[j].num)=true:=by rw[hq];exact YF _
    have ht':(l1[j].den==l2[j].den)=true:=by rw[hq];exact YF _
    have HQ:=zh hq
    clear hq
    go_wp2
    go_quiet (fail)
    go_wp2
    go_roundw
    case rel=>exact⟨j+1,by omega,by go_num,by rw[aC l1 j aw,aC l2 j et,lp.o,HQ.o],_,rfl⟩
    simp[intOf];omega
   have HQ:=zh hq
   by_cases hn:l1[j].num=l2[j].num
   ·have ht:(l1[j].num==l2[j].num)=true:=beq_iff_eq.2 hn
    have ht':(l1[j].den==l2[j].den)=false:=beq_eq_false_iff_ne.2 fun h=>HQ.o (by
     cases e1:l1[j];cases e2:l2[j]
     rw[e1,e2] at hn h
     simp only at hn h
     rw[hn,h])
    clear hq hn
    go_wp2
    go_quiet (fail)
    go_wp2
    go_ret
    exact⟨Ze (by symm;rw[YE];intro e;subst e;exact HQ.o rfl),q2⟩
   have ht:(l1[j].num==l2[j].num)=false:=beq_eq_false_iff_ne.2 hn
   clear hq hn
   go_wp2
   go_quiet (fail)
   go_wp2
   go_ret
   exact⟨Ze (by symm;rw[YE];intro e;subst e;exact HQ.o rfl),q2⟩
  have mQ:j=l1.length:=by omega
  subst mQ
  go_wp2
  go_ret
  exact⟨Ze (by symm;rw[yO];have:=lp.o;rw[yT,HL.o,yT] at this;exact this),q1⟩
 have hb:((l1.length:Int) != l2.length)=true:=by simp;omega
 have fB:l1≠l2:=fun e=>bL (by rw[e])
 go_enter Tryz.func54,Tryz.ntmps54
 go_wp2
 go_ret
 exact⟨Ze (by symm;simpa using fB),0,rfl⟩
end Go.Proofs.YtfhmbechennkbaaGreatDoor
