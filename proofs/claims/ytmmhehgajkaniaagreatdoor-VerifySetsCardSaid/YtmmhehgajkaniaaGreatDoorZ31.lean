/- Lemmas. -/
import Derived.Lib.AppendIntMem
import Derived.Lib.ItoaLen
import Derived.Lib.SmallJoins
import Derived.Shelf.Strings.Count
import Derived.Shelf.Strings.OnBuilder
import Derived.Shelf.Strings.Prefix
import Derived.Test.YtmmhehgajkaniaaGreatDoorZ30
namespace Go.Proofs.YtmmhehgajkaniaaGreatDoor
set_option maxRecDepth 100000
set_option maxHeartbeats 40000000
open Go.RowKit Go.Shelf
inductive Wd where
 | s (b:ByteArray)
 | n (i:Int)
theorem itoaLaysM:LaysM.n171 Tryz.prog LZ:={ F0 with
 i0:=by kernel_rfl
 i2:=by kernel_rfl
 i3:=by kernel_rfl
 i4:=by kernel_rfl
 i5:=by kernel_rfl
 i9:=by kernel_rfl
 i20:=by kernel_rfl
 i37:=by kernel_rfl
 i46:=by kernel_rfl
 i51:=by kernel_rfl
 i53:=by kernel_rfl
 i171:=by kernel_rfl
 i173:=by kernel_rfl
 i212:=by kernel_rfl
 i232:=by kernel_rfl
 i233:=by kernel_rfl
 m17:=by kernel_rfl
 m18:=by kernel_rfl
 m19:=by kernel_rfl }
def Tab (w:World):Prop:=Lib.TabIs Tryz.prog w "internal/strconv.uint64pow10" .u64 Lib.pow10Tab
theorem Tab.below {w w':World} (h:Tab w) (hb:Below w.heap.size w w'):Tab w':=Joins.tab_stays itoaLaysM.m17 h hb (yA _)
def MW (n0 n:Nat) (ds:List UInt8):Prop:=(ds=[]∧n=n0)∨(ds≠[]∧n=0∧ds=Lib.decDigits n0)∨(ds≠[]∧0<n∧Lib.decDigits n++ds=Lib.decDigits n0)
theorem KE {n0 n:Nat} {ds:List UInt8} (h:MW n0 n ds) (hc:0<n∨ds=[]):MW n0 (n/10) (UInt8.ofNat (48+n%10)::ds):=by
  have key:Lib.decDigits n++ds=Lib.decDigits n0:=by
    rcases h with⟨h1,h2⟩|⟨h1,h2,h3⟩|⟨h1,h2,h3⟩
    · rw[h1,h2,List.append_nil]
    · exact absurd hc (by
     rintro (h|h);·omega
     exact h1 h)
    exact h3
  by_cases hn:n<10
  · refine .inr (.inl ⟨by simp,by omega,?_⟩)
    rw[←key,Lib.decDigits_one hn,Nat.mod_eq_of_lt hn];rfl
  refine .inr (.inr ⟨by simp,by omega,?_⟩);rw[←key]
  conv=>rhs; rw[Lib.decDigits,dif_neg hn]
  rw[List.append_assoc];rfl
theorem OC {n0 n:Nat} {ds:List UInt8} (h:MW n0 n ds) (h1:n=0) (h2:ds≠[]):ds=Lib.decDigits n0:=by
 rcases h with⟨h3,_⟩|⟨_,_,h3⟩|⟨_,h3,_⟩
 ·exact absurd h3 h2
 ·exact h3
 omega
theorem KG (m:Nat) (W:World):(convert 200 9 (.slice (some ⟨W.heap.size,0,none⟩) 1 1)).run Tryz.prog (W.alloc (.cells #[.int .u8 (48+(m:Int)%10)] 5))=.ok (.string ⟨#[UInt8.ofNat (48+m%10)]⟩) (W.alloc (.cells #[.int .u8 (48+(m:Int)%10)] 5)):=by
 refine run_convert_bytes_back (P:=Tryz.prog) _ 200 9 5 ⟨W.heap.size,0,none⟩ 1 [UInt8.ofNat (48+m%10)] Tryz.underlying200 Tryz.underlying5 Tryz.underlying9 ?_;intro j hj;obtain rfl:j=0:=by simp at hj;omega
 rw[Addr.add_lit,(Blk.new W 5 #[.int .u8 (48+(m:Int)%10)]).cell]
 have:(UInt8.ofNat (48+m%10)).toNat=48+m%10:=by
  rw[UInt8.toNat_ofNat'];omega
 simp only[List.getElem_cons_zero,this];simp
def Ld (m:Nat) (ds:List UInt8):Prop:=ds.length≤13∧(0<m→m*10^ds.length≤10^12)
theorem Gp {m:Nat} {ds:List UInt8} {c:UInt8} (h:Ld m ds) (hc:0<m∨ds=[]):Ld (m/10) (c::ds):=by
 have hl:ds.length≤12:=by
  rcases hc with hc|hc
  ·have h1:=h.2 hc;rcases Nat.lt_or_ge 12 ds.length with h2|h2
   ·have h3:10^13≤10^ds.length:=Nat.pow_le_pow_right (by decide) h2;have h4:10^ds.length≤m*10^ds.length:=Nat.le_mul_of_pos_left _ hc;have h5:(10:Nat)^12<10^13:=by decide
    omega
   exact h2
  rw[hc];exact yI _
 refine⟨by rw[List.length_cons];omega,fun hm=>?_⟩;have h1:=h.2 (by omega);have h2:m/10*10≤m:=Nat.div_mul_le_self m 10;have h3:=Nat.mul_le_mul_right (10^ds.length) h2;rw[List.length_cons,yW,Nat.mul_comm (10^ds.length) 10,←yY];exact yH h3 h1
theorem Ny (n:Nat) (w:World) (hn:n≤10^12):Calls Tryz.prog 106 #[.int .i64 n,.int .i64 1] w fun e w'=>e=.returned (.string ⟨(Lib.decDigits n).toArray⟩)∧Below w.heap.size w w':=by
 have HN:=zh hn;clear hn;go_enter Tryz.func106,Tryz.ntmps106;go_wp2_with fail;go_loopw [0,5] (fun x y wr=>∃(m:Nat) (ds:List UInt8),m≤n∧x=.int .i64 m∧y=.string ⟨ds.toArray⟩∧MW n m ds∧Ld m ds∧Below w.heap.size w wr) (fun x y _=>(intOf x).toNat+(match y with|.string s=>if s.size=0 then 1 else 0|_=>0))
 case atStart=>exact⟨n,[],yA _,rfl,rfl,.inl ⟨rfl,rfl⟩,⟨yI _,fun _=>by simpa using HN.o⟩,yB _ _⟩
 obtain⟨m,ds,hm,rfl,rfl,hd,hg,hb⟩:=hrel;have vvT:(m:Int)≤1000000000000:=by have:=HN.o;omega
 by_cases hc:0<m∨ds=[]
 ·have HD:=zh (KE hd hc);have HG:=zh (Gp (c:=UInt8.ofNat (48+m%10)) hg hc);have hl:ds.length≤13:=hg.1;obtain⟨c,hc0⟩:=zo (UInt8.ofNat (48+m%10));rw[hc0] at HD HG;have hcv:=fun W=>KG m W;rw[hc0] at hcv;have hcc:∀W,(Op.stringOp .add ⟨#[c]⟩ ⟨ds.toArray⟩).run Tryz.prog W=.ok (.string ⟨(c::ds).toArray⟩) W:=fun W=>run_string_add_lists W [c] ds (by simp) (by omega);have hdm:m/10≤n:=yH (YK _ _) hm;have HB:=zh (hb.alloc hb.size (.cells #[.int .u8 (48+(m:Int)%10)] 5))
  clear hd hg hb hc0;rcases Nat.eq_zero_or_pos m with h0|h0
  ·have FJ:ds=[]:=hc.elim (fun h=>absurd h (by omega)) id;have hls:(ds.length:Int)<1:=by rw[FJ];simp
   have FF:ds.length=0:=by rw[FJ];rfl
   have Xr:=zh FF;subst h0;rw[show (48:Int)+((0:Nat):Int)%10=48 by decide] at hcv HB;rw[Nat.zero_div] at HD HG;clear hc FJ FF hl;go_wp2_with fail;go_roundw
   case rel=>exact⟨0,_,yI _,rfl,rfl,HD.o,HG.o,HB.o⟩
   simp[intOf,ByteArray.size,Xr.o]
  have d0:decide (0<m)=true:=yD h0;clear hc;go_wp2_with fail;go_roundw
  case rel=>exact⟨m/10,_,hdm,by go_num,rfl,HD.o,HG.o,HB.o⟩
  simp[intOf,ByteArray.size];omega
 have h0:m=0:=by omega
 have FJ:ds≠[]:=fun h=>hc (.inr h);subst h0;have HE:=zh (OC hd rfl FJ);have HB:=zh hb;have hlp:0<ds.length:=List.length_pos_iff.2 FJ;have hls:¬((ds.length:Int)<1):=by omega
 clear hd hg hb hc FJ;go_wp2_with fail;go_ret;refine⟨?_,HB.o⟩;rw[←HE.o];rfl
theorem ZA {n:Nat} (hn:n≤10^12):(Lib.decDigits n).length≤14:=by
 have:∀k m:Nat,m≤10^k→(Lib.decDigits m).length≤k+2:=fun k=>by
  induction k with
  | zero=>
   intro m hm;rw[Lib.decDigits_one (by simp at hm;omega)];simp
  | succ k ih=>
   intro m hm;by_cases h:m<10
   ·rw[Lib.decDigits_one h];simp
   rw[Lib.decDigits,dif_neg h,yQ]
   have:=ih (m/10) (by rw[yW] at hm;omega);simp only[List.length_singleton];omega
 exact this 12 n hn
theorem I7 (n:Nat) (w:World) (hn:n≤10^12):Calls Tryz.prog 60 #[.int .i64 n,.int .i64 0] w fun e w'=>e=.returned (.string ⟨(Lib.decDigits n).toArray⟩)∧Below w.heap.size w w':=by
 have hD:=Ny n w hn;have hz:∀W,(Op.stringOp .add ⟨#[]⟩ ⟨(Lib.decDigits n).toArray⟩).run Tryz.prog W=.ok (.string ⟨(Lib.decDigits n).toArray⟩) W:=fun W=>by
  have h1:=ZA hn;simpa using run_string_add_lists (P:=Tryz.prog) W [] (Lib.decDigits n) (by simp) (by omega)
 have d0:¬((n:Int)<0):=by omega
 clear hn;go_enter Tryz.func60,Tryz.ntmps60;go_wp2_with fail;refine hD.mono ?_;rintro e w2 ⟨rfl,aU⟩;go_wp2_with fail;go_ret;exact⟨rfl,aU⟩
structure TwoR (W0 W:World) (ov sv:Value) (fo fs:List FindT):Prop where
 bel:Below W0.heap.size W0 W
 rowO:W.ownsRow W0.heap.size 91 2 ov fo.length (fo.flatMap FindT.cells)
 rowS:W.ownsRow W0.heap.size 91 2 sv fs.length (fs.flatMap FindT.cells)
 ap:∀k,ov.ownBlock=some k→sv.ownBlock≠some k
section
variable {W0 W W':World} {ov sv:Value} {fo fs:List FindT}
theorem TwoR.grow (h:TwoR W0 W ov sv fo fs) (hb:Below W.heap.size W W'):TwoR W0 W' ov sv fo fs :=
 ⟨h.bel.trans (hb.mono h.bel.size),dB h.rowO hb,dB h.rowS hb,h.ap⟩
theorem TwoR.pushO (h:TwoR W0 W ov sv fo fs) {v':Value} {y:FindT} (aK:W'.ownsRow W0.heap.size 91 2 v' (fo.length+1) (fo.flatMap FindT.cells++[.int .i64 y.kind,.string y.name])) (hg:W.grownBy W' ov.ownBlock) (DF:v'.ownBlock=ov.ownBlock∨v'.ownBlock=some W.heap.size) :
  TwoR W0 W' v' sv (fo++[y]) fs:=by
 refine⟨h.bel.grown hg h.bel.size (fun k e=>(h.rowO.lt k e).1),?_,h.rowS.kept hg (Cz fun k e e2=>h.ap k e2 e),fun k e e2=>?_⟩
 ·rw[yQ,List.flatMap_append];exact aK
 rcases DF with h1|h1
 ·exact h.ap k (h1.symm.trans e) e2
 rw[h1] at e
 have:=(h.rowS.lt k e2).2;injection e with e;omega
theorem TwoR.pushS (h:TwoR W0 W ov sv fo fs) {v':Value} {y:FindT} (aK:W'.ownsRow W0.heap.size 91 2 v' (fs.length+1) (fs.flatMap FindT.cells++[.int .i64 y.kind,.string y.name])) (hg:W.grownBy W' sv.ownBlock) (DF:v'.ownBlock=sv.ownBlock∨v'.ownBlock=some W.heap.size) :
  TwoR W0 W' ov v' fo (fs++[y]):=by
 refine⟨h.bel.grown hg h.bel.size (fun k e=>(h.rowS.lt k e).1),h.rowO.kept hg (Cz fun k e e2=>h.ap k e e2),?_,fun k e e2=>?_⟩
 ·rw[yQ,List.flatMap_append];exact aK
 rcases DF with h1|h1
 ·exact h.ap k e (h1.symm.trans e2)
 rw[h1] at e2
 have:=(h.rowO.lt k e).2;injection e2 with e2;omega
end
theorem Ou {f:FrT} {l:List FrT} {k:Nat} (hk:k<l.length) (h:eQ f (l.take k)=true):(bF (dI l[k]*dI f)=true→eQ f (l.take (k+1))=true)∧(bF (dI l[k]*dI f)=false→eQ f l=false):=by
 unfold eQ at*;refine⟨fun h2=>?_,fun h2=>?_⟩
 ·rw[List.take_add_one,yM hk,List.all_append,h];simp[h2]
 rw[List.all_eq_false];exact⟨l[k],yV hk,by rw[h2];decide⟩
theorem Nu (v:Value) (s:SetT) (f:FrT) (w:World) (hv:SetAt w w.heap.size v s) (hn:SetNames s):Calls Tryz.prog 28 #[v,f.val] w (Check23Post s f w):=by
 have HGv:=fun W (hb:Below w.heap.size w W)=>Nt v s f W ((hv.below hb (yA _)).mono hb.size) hn;have BV:=fun W (hb:Below w.heap.size w W)=>AU v s W ((hv.below hb (yA _)).mono hb.size) hn;obtain⟨Al,cl,Ai,ci,Ab,cb,rfl,-,-,-⟩:=hv;unfold LinesPost at BV;unfold Check23Post;have hfv:f.val=.agg #[.int .i64 f.num,.int .i64 f.den]:=rfl;have WM:Y0 (bT s f=if dD s f=0 then (if eQ f (bR s)=true then 0 else 5) else dD s f):=rfl
 have MQ:=zh (Zp s f);have HGI:Y0 (dD s f=0→cD s=true∧fp f=0∧Zs s=0):=Mx;have HFI:Y0 (fp f=0→au f=true∧f.den≤f.num∧f.num≤100∧f.den≤100):=qju;have BU:Y0 (Zs s=0→cD s=true∧(∀f∈bR s,au f=true)∧(bR s).length≤12∧0<(bR s).length):=LU;generalize bR s=l at*;obtain⟨fn,Xe⟩:=zo (f.num);obtain⟨fd,hfd⟩:=zo (f.den);rw[Xe,hfd] at hfv;rw[hfv] at HGv⊢;have HD:=zh ((Blk.new w 26 (zA s Al cl Ai ci Ab cb)).alloc (.cells #[.int .i64 fn,.int .i64 fd] 29))
 have hE:=Blk.new (w.alloc (.cells (zA s Al cl Ai ci Ab cb) 26)) 29 #[.int .i64 fn,.int .i64 fd];rw[yZ] at hE;have HE:=zh hE;have HB:=zh (pI w (.cells (zA s Al cl Ai ci Ab cb) 26) (.cells #[.int .i64 fn,.int .i64 fd] 29));have BV:=zh BV;have hgv:=HGv _ HB.o;clear HGv hn hE;unfold fc at*;go_enter Tryz.func28,Tryz.ntmps28;go_upto_region 1 with fail;generalize (w.alloc (.cells (zA s Al cl Ai ci Ab cb) 26)).alloc (.cells #[.int .i64 fn,.int .i64 fd] 29)=W1 at*
 obtain⟨z0,z1,z2,z3,z4,z5,z6,z7,z8,z9,j8,fS,iT⟩:=HD.o.c13;obtain⟨e0,e1⟩:=HE.o.c2;go_upto_region 2 with (first|(go_at_call 58;refine hgv.mono ?_;rintro e w2 ⟨rfl,aU⟩));have dZ:=zh (HB.o.trans (aU.mono HB.o.size));have cY:=zh (HD.o.below aU HD.o.lt);have iq:=zh (HE.o.below aU HE.o.lt);clear z0 z1 z2 z3 z4 z5 z6 z7 z8 z9 j8 fS iT e0 e1 hgv aU HD HE HB;by_cases Hj:fX s f=0;rotate_left
 ·have HC:Y0 (bT s f=fX s f∧fX s f≠0):=by
   have h:=MQ.o;rw[if_neg Hj] at h;exact⟨by rw[WM.o,if_neg (by rw[h];exact Hj),h],Hj⟩
  have GZ:(fX s f != 0)=true:=bne_iff_ne.2 Hj;generalize fX s f=k at*;clear Hj WM HGI HFI MQ;go_wp2_with fail;go_ret2;exact⟨dZ.o,.inr ⟨by rw[HC.o.1];exact HC.o.2,by rw[HC.o.1];rfl⟩⟩
 have PL:Y0 (dD s f=Zs s):=by unfold Y0;rw[MQ.o,if_pos Hj]
 rw[Hj] at*;clear Hj MQ;obtain⟨z0,z1,z2,z3,z4,z5,z6,z7,z8,z9,j8,fS,iT⟩:=cY.o.c13;go_upto_region 5 with (first|(go_at_call 26;refine (BV.o _ dZ.o).mono ?_;rintro e w3 ⟨bM,⟨hG,v4,rfl,h4⟩|⟨hG,rfl⟩⟩));rotate_left
 ·have cZ:=zh (dZ.o.trans (bM.mono dZ.o.size));have HC:Y0 (bT s f=Zs s∧Zs s≠0):=⟨by rw[WM.o,if_neg (by rw[PL.o];exact hG),PL.o],hG⟩;have GZ:(Zs s != 0)=true:=bne_iff_ne.2 hG;generalize Zs s=k at*;clear hG WM HGI HFI PL z0 z1 z2 z3 z4 z5 z6 z7 z8 z9 j8 fS iT BV;go_wp2_with fail;go_ret2;exact⟨cZ.o,.inr ⟨by rw[HC.o.1];exact HC.o.2,by rw[HC.o.1];rfl⟩⟩
 have hG2:dD s f=0:=by rw[PL.o];exact hG
 obtain⟨hU,U9,ko⟩:=HGI.o hG2;obtain⟨FI,FE⟩:=HFI.o U9;obtain⟨-,hlg,vzy,-⟩:=BU.o ko;have xN:=(Zm hU).most;have HCF:Y0 (bT s f=if eQ f l=true then 0 else 5):=by unfold Y0;rw[WM.o,if_pos hG2]
 have cZ:=zh (dZ.o.trans (bM.mono dZ.o.size));have d9:=zh (cY.o.below bM cY.o.lt);have H7:=zh (iq.o.below bM iq.o.lt);clear z0 z1 z2 z3 z4 z5 z6 z7 z8 z9 j8 fS iT bM WM HGI HFI cY iq dZ hU U9 ko PL hG2 BV;obtain⟨A,c,rfl,-,cM,eG⟩:=h4.open_;have HCL:=zh eG;unfold maxLen at cM;have HLG:=zh hlg;have HKp:=zh fun a W (h:au a=true)=>qqo a f s.most W h FI ⟨Int.le_trans (by decide) xN.1,xN.2⟩;rw[hfv] at HKp
 have HKv:Y0 (∀a,LY s.most f a=if bF (dI a*dI f)=true then .tuple #[.bool (!ct s.most f a),.int .i64 0] else .tuple #[.bool false,.int .i64 5]):=fun _=>rfl;have HFn:Y0 (pB s.most f (l)=cV 1 (ct s.most f) (l) l.length++cV 2 ef (l) l.length):=rfl;have HFs:=zh fun k (hk:k<l.length) (h:eQ f (l.take k)=true)=>Ou hk h;have HF0:Y0 (eQ f (l.take 0)=true):=rfl;have HFl:Y0 (eQ f (l.take l.length)=eQ f l):=by unfold Y0;rw[List.take_length]
 clear BU FI FE hlg h4 eG Xe hfd xN hG hfv;have vn:Y0 (TwoR w3 w3 (.slice none 0 0) (.slice none 0 0) (cV 1 (ct s.most f) l 0) (cV 2 ef l 0)):=
  ⟨yB _ _,yJ _ _ _ _,yJ _ _ _ _,fun k e=>by simp[Value.ownBlock] at e⟩
 obtain⟨iF,Bt,oC,oB,oA⟩:=info_parts p8;go_wp2_with fail;go_loopw [11,9,10,12,13,14] (fun ix u v GL GK u14 wr=>∃(k:Nat) (ov sv:Value),k≤l.length∧ix=.int .i64 k∧ov=u∧sv=v∧Y0 (eQ f (l.take k)=true)∧Y0 (TwoR w3 wr ov sv (cV 1 (ct s.most f) l k) (cV 2 ef l k))) (fun ix _ _ _ _ _ _=>l.length-(intOf ix).toNat)
 case atStart=>exact⟨0,_,_,yI _,rfl,rfl,rfl,HF0,vn⟩
 clear vn HF0;obtain⟨k,ov,sv,hk,rfl,rfl,rfl,HFt,HT⟩:=hrel;have k0:(0:Int)≤(k:Int):=yE _;have Me:=lV (kind:=1) (p:=ct s.most f) (l:=l) k;have Ux:=lV (kind:=2) (p:=ef) (l:=l) k;by_cases ay:k<l.length
 ·have k1:(k:Int)<(l.length:Int):=by omega
  obtain⟨b1,o1,rfl,ak,hx⟩:=HCL.o k ay;have HX0:=zh (hx k ay).1;have zP:=zh (hx k ay).2;have Ar:=zh fun h=>p9 (kind:=1) (p:=ct s.most f) ay h;have zx:=zh fun h=>rW (kind:=1) (p:=ct s.most f) ay h;have rh:=zh fun h=>p9 (kind:=2) (p:=ef) ay h;have vt:=zh fun h=>rW (kind:=2) (p:=ef) ay h;have xS:=HLG.o _ (yV ay);have hkp:=fun W=>HKp.o l[k] W xS;have hfs:=HFs.o k ay HFt.o;rw[HKv.o] at hkp;clear hx xS;obtain⟨o1b,ho1⟩:=zo (ct s.most f l[k])
  obtain⟨o2b,C8⟩:=zo (ef l[k]);have WZ:decide (l[k].num<0)=o2b:=C8;rw[ho1] at hkp;have U4:k+1<100:=by omega
  have hIt:=fun W=>I7 (k+1) W (yH (YG U4) (by decide));obtain⟨ib,hib⟩:=zo (F3 (k+1));have vxo:(⟨(Lib.decDigits (k+1)).toArray⟩:ByteArray)=ib:=hib;rw[vxo,Int.natCast_add,Int.natCast_one] at hIt;rw[hib] at Ar rh;have v1:IntKind.i64.wrap ((k:Int)+1)=(k:Int)+1:=yF _ (by omega);have hav:l[k].val=.agg #[.int .i64 l[k].num,.int .i64 l[k].den]:=rfl;rw[hav] at hkp;clear hav hib vxo;generalize l[k].num=num at*
  generalize l[k].den=den at*;generalize bF (dI l[k]*dI f)=ok at*;have HIt:=zh hIt;have HKk:=zh hkp;have HSl:=zh WZ;have Hfs:=zh hfs;clear hIt hkp WZ hfs;have y0:=(HT.o.bel.cell (p:=⟨b1,o1+k*2,none⟩) ak).trans HX0.o;have y1:=(HT.o.bel.cell (p:=⟨b1,o1+k*2+1,none⟩) ak).trans zP.o;have z9:=(HT.o.bel.cell (p:=⟨w.heap.size,9,none⟩) d9.o.lt).trans (d9.o.cell 9);have e0:=(HT.o.bel.cell (p:=⟨w.heap.size+1,0,none⟩) H7.o.lt).trans (H7.o.cell 0)
  have e1:=(HT.o.bel.cell (p:=⟨w.heap.size+1,1,none⟩) H7.o.lt).trans (H7.o.cell 1);simp only[aG,aH,aD] at z9 e0 e1;go_upto_region 11 with fail;have t0:=YL y0;have t1:=YL y1;have t2:=YL z9;have t3:=YL e0;have t4:=YL e1;clear y0 y1 z9 e0 e1;obtain⟨kb,ke,hkv,hko,Pw⟩:∃(kb:Bool) (ke:Int),(if ok=true then Value.tuple #[.bool (!o1b),.int .i64 0] else .tuple #[.bool false,.int .i64 5])=.tuple #[.bool kb,.int .i64 ke]∧(ok=true→kb=(!o1b)∧ke=0)∧(ok=false→ke=5):=by
   cases ok
   ·exact⟨false,5,rfl,fun h=>absurd h (by decide),fun _=>rfl⟩
   exact⟨!o1b,0,rfl,fun _=>⟨rfl,rfl⟩,fun h=>absurd h (by decide)⟩
  rw[hkv] at HKk;have HKo:=zh hko;have HKn:=zh Pw;clear hkv hko Pw;have cC:=HeldB.call (W:=wr) fun w' _=>HKk.o w';refine bB (by kernel_rfl) (by kernel_rfl) ?_
  repeat (go_big_quiet_step (first|(go_at_call 59;with_reducible exact cC _)))
  refine YE ?_;rintro w4 ⟨⟨w4',bU⟩,rfl⟩;have KV:=zh (HT.o.grow bU);clear t0 t1 t2 t3 t4 cC bU HKk HT;cases bL:ok
  ·obtain rfl:=HKn.o bL;have MS:Y0 (bT s f=5):=by unfold Y0;rw[HCF.o,if_neg (by rw[Hfs.o.2 bL];decide)]
   have wd:=zh (cZ.o.trans (KV.o.bel.mono cZ.o.size));clear bL HKo HKn Hfs KV;go_wp2_with fail;go_ret2;exact⟨wd.o,.inr ⟨by rw[MS.o];decide,by rw[MS.o];rfl⟩⟩
  obtain⟨rfl,rfl⟩:=HKo.o bL;have HFt:=zh (Hfs.o.1 bL);clear bL HKo HKn Hfs;go_upto_region 15 with (first|(go_at_call 60;refine (HIt.o _).mono ?_;rintro e w5 ⟨rfl,aR⟩));have HT:=zh (KV.o.grow aR);clear KV aR;have y0:=(HT.o.bel.cell (p:=⟨b1,o1+k*2,none⟩) ak).trans HX0.o;have WZ:=HSl.o;cases o1b
  ·have vq2:=zx.o ho1;rw[←vq2] at HT;cases o2b
   ·have ky:=vt.o C8;go_wp2_with fail;go_roundw
    case rel=>exact⟨k+1,_,_,by omega,by go_num,rfl,rfl,HFt,by rw[ky];exact HT⟩
    simp[intOf];omega
   have hye:=rh.o C8;have HT:=zh (HT.o.grow (zn w5 (.cells #[.int .i64 2,.string ib] 91)));have my:=zh (World.news_of_block (Blk.new w5 91 #[.int .i64 2,.string ib]));have de:=HT.o.bel.size;go_wp2_with (at_builtin;refine wpList_append_own_at _ rfl _ _ 59 rfl w3.heap.size 91 iF (.agg #[.int .i64 0,.string ⟨#[]⟩]) 2 24 Tryz.underlying59 Bt oC oB oA rfl (by decide) _ _ _ rfl HT.o.rowS ⟨w5.heap.size,0,none⟩ 1 1 [.int .i64 2,.string ib] rfl rfl my.o (by simp[Value.oneCell']) (by unfold maxLen;omega) (by omega) de ?_;intro v8 w8 jk fh _ oK;have HT:=zh (HT.o.pushS (y:=⟨2,ib⟩) jk fh oK);clear jk fh oK)
   go_roundw
   case rel=>exact⟨k+1,_,_,by omega,by go_num,rfl,rfl,HFt,by rw[hye];exact HT⟩
   simp[intOf];omega
  have vqZ:=Ar.o ho1;have HT:=zh (HT.o.grow (zn w5 (.cells #[.int .i64 1,.string ib] 91)));have my:=zh (World.news_of_block (Blk.new w5 91 #[.int .i64 1,.string ib]));have de:=HT.o.bel.size;clear y0;go_upto_region 17 with (at_builtin;refine wpList_append_own_at _ rfl _ _ 59 rfl w3.heap.size 91 iF (.agg #[.int .i64 0,.string ⟨#[]⟩]) 2 24 Tryz.underlying59 Bt oC oB oA rfl (by decide) _ _ _ rfl HT.o.rowO ⟨w5.heap.size,0,none⟩ 1 1 [.int .i64 1,.string ib] rfl rfl my.o (by simp[Value.oneCell']) (by unfold maxLen;omega) (by omega) de ?_;intro v8 w8 jk fh _ oK;have HT:=zh (HT.o.pushO (y:=⟨1,ib⟩) jk fh oK);have y0:=(HT.o.bel.cell (p:=⟨b1,o1+k*2,none⟩) ak).trans HX0.o;clear jk fh oK)
  rw[←vqZ] at HT;cases o2b
  ·have ky:=vt.o C8;go_wp2_with fail;go_roundw
   case rel=>exact⟨k+1,_,_,by omega,by go_num,rfl,rfl,HFt,by rw[ky];exact HT⟩
   simp[intOf];omega
  have hye:=rh.o C8;have HT:=zh (HT.o.grow (zn w8 (.cells #[.int .i64 2,.string ib] 91)));have my:=zh (World.news_of_block (Blk.new w8 91 #[.int .i64 2,.string ib]));have de:=HT.o.bel.size;go_wp2_with (at_builtin;refine wpList_append_own_at _ rfl _ _ 59 rfl w3.heap.size 91 iF (.agg #[.int .i64 0,.string ⟨#[]⟩]) 2 24 Tryz.underlying59 Bt oC oB oA rfl (by decide) _ _ _ rfl HT.o.rowS ⟨w8.heap.size,0,none⟩ 1 1 [.int .i64 2,.string ib] rfl rfl my.o (by simp[Value.oneCell']) (by unfold maxLen;omega) (by omega) de ?_;intro v8 w8 jk fh _ oK;have HT:=zh (HT.o.pushS (y:=⟨2,ib⟩) jk fh oK);clear jk fh oK)
  go_roundw
  case rel=>exact⟨k+1,_,_,by omega,by go_num,rfl,rfl,HFt,by rw[hye];exact HT⟩
  simp[intOf];omega
 obtain rfl:k=l.length:=by omega
 have lA:=HFt.o;rw[HFl.o] at lA;have HC0:Y0 (bT s f=0):=by unfold Y0;rw[HCF.o,if_pos lA]
 have vzr:(cV 1 (ct s.most f) l l.length).length≤100:=by omega
 have vzq:(cV 2 ef l l.length).length≤100:=by omega
 have qjU:Y0 (cV 1 (ct s.most f) l l.length++cV 2 ef l l.length=pB s.most f l):=HFn.o.symm;generalize cV 1 (ct s.most f) l l.length=F1 at*;generalize cV 2 ef l l.length=F2 at*;have wd:=zh (cZ.o.trans (HT.o.bel.mono cZ.o.size));have gg:=HT.o.bel.size;obtain⟨hnl,Me⟩:=qM F2;clear lA HFt HCF HFs HFl;rcases Ix HT.o.rowS with⟨rfl,hl⟩|⟨gk,vxJ,rfl,hnw⟩
 ·subst hl;go_wp2_with (at_builtin;refine wpList_append_own_none rfl _ _ 59 rfl w3.heap.size 91 iF 2 Tryz.underlying59 Bt _ _ _ rfl HT.o.rowO rfl ?_);go_ret2;exact⟨wd.o,.inl ⟨HC0.o,_,rfl,by rw[←qjU.o,List.append_nil];exact Flat.of_own HT.o.rowO⟩⟩
 go_wp2_with (at_builtin;refine wpList_append_own _ rfl _ _ 59 rfl w3.heap.size 91 iF (.agg #[.int .i64 0,.string ⟨#[]⟩]) 2 24 Tryz.underlying59 Bt oC oB oA rfl (by decide) _ _ _ rfl HT.o.rowO _ _ _ _ rfl hnl hnw Me (by unfold maxLen;omega) (by omega) gg ?_;intro v9 w9 uw oF _;have HO9:=zh uw;have nG:=zh (HT.o.bel.grown oF gg (fun k e=>(HT.o.rowO.lt k e).1));clear uw oF);go_ret2;exact⟨cZ.o.trans (nG.o.mono cZ.o.size),.inl ⟨HC0.o,_,rfl,by
  have h:=HO9.o;rw[←yQ,←List.flatMap_append,qjU.o] at h;exact Flat.of_own h⟩⟩
theorem XQ (v v1:Value) (s:SetT) (l:List FrT) (f:FrT) (w:World) (hv:SetAt w w.heap.size v s) (hn:SetNames s) (hl:FrsAt w w.heap.size v1 l) :
  Calls Tryz.prog 11 #[v,v1,f.val] w fun e w'=>e=.returned (.bool (wJ s l f))∧Below w.heap.size w w':=by
 have BV:=zh fun W (hb:Below w.heap.size w W)=>(AU v s W (hv.grow hb) hn).mono fun _ _ h=>h.uni;have GJ:=zh fun W (hb:Below w.heap.size w W)=>(Nu v s f W (hv.grow hb) hn).mono fun _ _ h=>h.uni;obtain⟨Al,cl,Ai,ci,Ab,cb,rfl,-,-,-⟩:=hv;obtain⟨A1,c1,rfl,-⟩:=hl.open_;have Xr:=zh hl;obtain⟨fn,fd⟩:=f
 try simp only[FrT.val] at*
 have HSm:=zh fun u1 W (h1:FrsAt W W.heap.size u1 (bR s)) (hb:Below w.heap.size w W)=>Nv (.slice A1 l.length c1) u1 l (bR s) W (Xr.o.grow hb) h1;have GH:Y0 (wJ s l ⟨fn,fd⟩=(decide (Zs s=0)&&(decide (l=bR s)&&(decide (bT s ⟨fn,fd⟩=0)&&decide (ckN s ⟨fn,fd⟩=0))))):=by
  unfold Y0 wJ;rw[decide_eq_decide.2 (@eq_comm _ (bR s) l)]
 generalize wJ s l ⟨fn,fd⟩=vv at*;generalize Zs s=le at*;generalize bT s ⟨fn,fd⟩=ce at*;generalize ckN s ⟨fn,fd⟩=cn at*;generalize bR s=ll at*;have HD:=zh ((Blk.new w 26 (zA s Al cl Ai ci Ab cb)).alloc (.cells #[.int .i64 fn,.int .i64 fd] 29));have hE:=Blk.new (w.alloc (.cells (zA s Al cl Ai ci Ab cb) 26)) 29 #[.int .i64 fn,.int .i64 fd];rw[yZ] at hE;have HE:=zh hE;have HB:=zh (((yB _ w).alloc (yA _) (.cells (zA s Al cl Ai ci Ab cb) 26)).alloc (by simp) (.cells #[.int .i64 fn,.int .i64 fd] 29))
 clear hE hn hl;unfold fc at*;go_enter Tryz.func11,Tryz.ntmps11;go_upto_region 1 with fail;generalize (w.alloc (.cells (zA s Al cl Ai ci Ab cb) 26)).alloc (.cells #[.int .i64 fn,.int .i64 fd] 29)=W1 at*;obtain⟨z0,z1,z2,z3,z4,z5,z6,z7,z8,z9,j8,fS,iT⟩:=HD.o.c13;obtain⟨e0,e1⟩:=HE.o.c2;have U1:=BV.o _ HB.o;go_upto_region 2 with (first|(go_at_call 26;refine U1.mono ?_;rintro e w6 ⟨A6,n6,cp6,rfl,ie,hF6⟩))
 have HF6:=zh hF6;have kH:=zh (HB.o.trans (ie.mono HB.o.size));have ri:=zh (HD.o.below ie HD.o.lt);have WI:=zh (HE.o.below ie HE.o.lt);clear ie hF6 U1 BV z0 z1 z2 z3 z4 z5 z6 z7 z8 z9 j8 fS iT e0 e1 HB HD HE;by_cases ZJ:le=0;rotate_left
 ·have g0:(le != 0)=true:=bne_iff_ne.2 ZJ;have ck:Y0 (vv=false):=by rw[GH.o,yC ZJ];rfl
  clear ZJ;go_wp2_with fail;go_ret;exact⟨Ze ck.o.symm,kH.o⟩
 subst ZJ;have Mc:=HSm.o _ _ (HF6.o rfl) kH.o;rw[yD (rfl:(0:Int)=0),Bool.true_and] at GH;obtain⟨qs,hqs⟩:∃q,decide (l=ll)=q:=⟨_,rfl⟩;rw[hqs] at Mc GH;clear hqs HSm HF6;cases qs
 ·go_wp2_with (first|(go_at_call 27;refine Mc.mono ?_;rintro e w7 ⟨rfl,lF⟩));go_ret;exact⟨Ze GH.o.symm,kH.o.trans (lF.mono kH.o.size)⟩
 go_upto_region 4 with (first|(go_at_call 27;refine Mc.mono ?_;rintro e w7 ⟨rfl,lF⟩));have pd:=zh (kH.o.trans (lF.mono kH.o.size));have Lc:=zh (ri.o.below lF ri.o.lt);have HE7:=zh (WI.o.below lF WI.o.lt);clear Mc lF kH ri WI;obtain⟨z0,z1,z2,z3,z4,z5,z6,z7,z8,z9,j8,fS,iT⟩:=Lc.o.c13;obtain⟨e0,e1⟩:=HE7.o.c2;have hck:=GJ.o _ pd.o;go_upto_region 5 with (first|(go_at_call 28;refine hck.mono ?_;rintro e w8 ⟨A8,c8,rfl,aJ⟩))
 have ep:=zh (pd.o.trans (aJ.mono pd.o.size));clear aJ hck GJ z0 z1 z2 z3 z4 z5 z6 z7 z8 z9 j8 fS iT e0 e1 pd Lc HE7;by_cases ZK:ce=0
 ·subst ZK;obtain⟨qn,hqn⟩:∃q,((cn:Int)==0)=q:=⟨_,rfl⟩;have hqd:decide (cn=0)=qn:=by
   rw[←hqn];rw[Bool.eq_iff_iff,decide_eq_true_eq,beq_iff_eq];omega
  have ck:Y0 (vv=qn):=by rw[GH.o,hqd];rfl
  clear hqd GH;cases qn
  all_goals
   go_wp2_with fail;go_ret;exact⟨Ze ck.o.symm,ep.o⟩
 have g0:(ce==0)=false:=zb ZK;have ck:Y0 (vv=false):=by rw[GH.o,yC ZK];rfl
 clear ZK GH;go_wp2_with fail;go_ret;exact⟨Ze ck.o.symm,ep.o⟩
theorem qqp (v:Value) (l:List FrT) (w:World) (hv:FrsAt w w.heap.size v l):Calls Tryz.prog 8 #[v] w fun e w'=>e=.returned (.bool (bk l))∧Below w.heap.size w w':=by
 obtain⟨Af,cf,rfl,fU,cM,aj⟩:=hv.open_;unfold maxLen at cM;have HC:=zh aj;clear hv aj;go_enter Tryz.func8,Tryz.ntmps8;go_wp2_with fail;go_loopw [3] (fun x wr=>∃k:Nat,k≤l.length∧x=.int .i64 k∧Y0 (bk (l.take k)=true)∧Y0 (Below w.heap.size w wr)) (fun x _=>l.length-(intOf x).toNat)
 case atStart=>exact⟨0,yI _,rfl,rfl,yB _ _⟩
 obtain⟨k,hk,rfl,HA,HB⟩:=hrel;have i1:(0:Int)≤(k:Int):=yE _;by_cases ao:k<l.length
 ·have i2:(k:Int)<(l.length:Int):=by omega
  obtain⟨b,o,rfl,hb,jJ⟩:=HC.o k ao;obtain⟨x0,x1⟩:=jJ k ao;have x0:=(HB.o.cell (p:=⟨b,o+k*2,none⟩) hb).trans x0;have x1:=(HB.o.cell (p:=⟨b,o+k*2+1,none⟩) hb).trans x1;have gM:Y0 (au l[k]=false→bk l=false):=fun h=>by
   unfold bk;rw[List.all_eq_false];exact⟨l[k],yV ao,by rw[h];decide⟩
  have mz:Y0 (au l[k]=true→bk (l.take (k+1))=true):=fun h=>by
   have h1:=HA.o;unfold bk at h1⊢;rw[aY l k ao,List.all_append,h1];simpa using h
  clear jJ;generalize l[k]=x at*;go_wp2_with fail;refine (wO x _).mono ?_;rintro e w5 ⟨rfl,aR⟩;have cJ:=zh (HB.o.trans (aR.mono HB.o.size));clear aR x0 x1 HB;cases hg:au x
  case true=>
   have HV:=zh (mz.o hg);clear hg;go_wp2_with fail;go_roundw
   case rel=>exact⟨k+1,ao,by go_num,HV,cJ⟩
   simp[intOf];omega
  have HV:=zh (gM.o hg);clear hg;go_wp2_with fail;go_ret;exact⟨Ze HV.o.symm,cJ.o⟩
 obtain rfl:k=l.length:=by omega
 rw[yT] at HA;go_wp2_with fail;go_ret;exact⟨Ze HA.o.symm,HB.o⟩
