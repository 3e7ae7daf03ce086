/- Lemmas. -/
import Derived.Test.YtmmhehgajkaniaaGreatDoorZ15
namespace Go.Proofs.YtmmhehgajkaniaaGreatDoor
set_option maxRecDepth 100000
set_option maxHeartbeats 40000000
open Go.RowKit Go.Shelf
structure ChkS (W0 W:World) (g:Nat) (fn fd er:Int) (ov sv:Value) (fo fs:List FindT):Prop where
 bel:Below W0.heap.size W0 W
 chk:Blk W g 87 #[.int .i64 fn,.int .i64 fd,.int .i64 er]
 low:W0.heap.size≤g
 rowO:W.ownsRow W0.heap.size 91 2 ov fo.length (fo.flatMap FindT.cells)
 rowS:W.ownsRow W0.heap.size 91 2 sv fs.length (fs.flatMap FindT.cells)
 no:ov.ownBlock≠some g
 ns:sv.ownBlock≠some g
 ap:∀k,ov.ownBlock=some k→sv.ownBlock≠some k
section
variable {W0 W W':World} {g:Nat} {fn fd er:Int} {ov sv:Value} {fo fs:List FindT}
theorem ChkS.grow (h:ChkS W0 W g fn fd er ov sv fo fs) (hb:Below W.heap.size W W'):ChkS W0 W' g fn fd er ov sv fo fs :=
 ⟨h.bel.trans (hb.mono h.bel.size),h.chk.below hb h.chk.lt,h.low,dB h.rowO hb,dB h.rowS hb,h.no,h.ns,h.ap⟩
theorem Cz {v:Value} {row:Option Nat} (h:∀k,v.ownBlock=some k→row≠some k):v.ownBlock=none∨v.ownBlock≠row:=by
 cases e:v.ownBlock with
 | none=>exact .inl rfl
 | some k=>exact .inr fun e2=>h k e e2.symm
theorem ChkS.err (h:ChkS W0 W g fn fd er ov sv fo fs) (z:Int):ChkS W0 (W.setCell ⟨g,2,none⟩ (.int .i64 z)) g fn fd z ov sv fo fs :=
 ⟨h.bel.setCell (p:=⟨g,2,none⟩) h.low _,h.chk.set_ 2 _,h.low,h.rowO.kept (h.chk.setGrown 2 _) (.inr h.no),h.rowS.kept (h.chk.setGrown 2 _) (.inr h.ns),h.no,h.ns,h.ap⟩
theorem ChkS.pushO (h:ChkS W0 W g fn fd er ov sv fo fs) {v':Value} {y:FindT} (aK:W'.ownsRow W0.heap.size 91 2 v' (fo.length+1) (fo.flatMap FindT.cells++[.int .i64 y.kind,.string y.name])) (hg:W.grownBy W' ov.ownBlock) (DF:v'.ownBlock=ov.ownBlock∨v'.ownBlock=some W.heap.size) :
  ChkS W0 W' g fn fd er v' sv (fo++[y]) fs:=by
 refine⟨h.bel.grown hg h.bel.size (fun k e=>(h.rowO.lt k e).1),h.chk.kept hg h.no.symm,h.low,?_,h.rowS.kept hg (Cz fun k e e2=>h.ap k e2 e),fun e=>?_,h.ns,fun k e e2=>?_⟩
 ·rw[yQ,List.flatMap_append];exact aK
 ·rcases DF with h1|h1
  ·exact h.no (h1.symm.trans e)
  rw[h1] at e
  have:=h.chk.lt;injection e with e;omega
 rcases DF with h1|h1
 ·exact h.ap k (h1.symm.trans e) e2
 rw[h1] at e
 have:=(h.rowS.lt k e2).2;injection e with e;omega
theorem ChkS.pushS (h:ChkS W0 W g fn fd er ov sv fo fs) {v':Value} {y:FindT} (aK:W'.ownsRow W0.heap.size 91 2 v' (fs.length+1) (fs.flatMap FindT.cells++[.int .i64 y.kind,.string y.name])) (hg:W.grownBy W' sv.ownBlock) (DF:v'.ownBlock=sv.ownBlock∨v'.ownBlock=some W.heap.size) :
  ChkS W0 W' g fn fd er ov v' fo (fs++[y]):=by
 refine⟨h.bel.grown hg h.bel.size (fun k e=>(h.rowS.lt k e).1),h.chk.kept hg h.ns.symm,h.low,h.rowO.kept hg (Cz fun k e e2=>h.ap k e e2),?_,h.no,fun e=>?_,fun k e e2=>?_⟩
 ·rw[yQ,List.flatMap_append];exact aK
 ·rcases DF with h1|h1
  ·exact h.ns (h1.symm.trans e)
  rw[h1] at e
  have:=h.chk.lt;injection e with e;omega
 rcases DF with h1|h1
 ·exact h.ap k e (h1.symm.trans e2)
 rw[h1] at e2
 have:=(h.rowO.lt k e).2;injection e2 with e2;omega
end
theorem Blk.errW {W:World} {k g:Nat} {t:TypeId} {cs:Array Value} {ok:Bool} (h:Blk W k t cs) (dL:k≠g):Blk (errW ok g W) k t cs:=by
 cases ok
 case true=>exact h
 exact h.far (p:=⟨g,2,none⟩) dL _
theorem LU {s:SetT} (h:Zs s=0):cD s=true∧(∀f∈bR s,au f=true)∧(bR s).length≤12∧0<(bR s).length:=by
 unfold Zs at h;cases hs:cD s
 ·rw[hs] at h;cases h
 rw[hs] at h;cases ha:dM (cd (eZ s))
 ·rw[ha] at h;cases h
 refine⟨rfl,fun f hf=>?_,?_⟩
 ·unfold bR at hf;rw[List.mem_map] at hf;obtain⟨q,hq,rfl⟩:=hf;unfold dM at ha;exact K8 (List.all_eq_true.1 ha q hq)
 have h2:=Ce hs;have e:(bR s).length=s.lines.length:=by
  unfold bR cd;rw[yP,yP,List.length_range];rfl
 omega
def tE (f:FrT) (l:List FrT) (k:Nat):Int:=if eQ f (l.take k)=true then 0 else 5
theorem Ow {f:FrT} {l:List FrT}:tE f l 0=0:=rfl
theorem Vu {f:FrT} {l:List FrT}:tE f l l.length=if eQ f l=true then 0 else 5:=by unfold tE;rw[List.take_length]
theorem Ox {f:FrT} {l:List FrT} {k:Nat} (hk:k<l.length):tE f l (k+1)=if bF (dI l[k]*dI f)=true then tE f l k else 5:=by
 unfold tE eQ;rw[List.take_add_one,yM hk,List.all_append];cases h:bF (dI l[k]*dI f) <;> simp[h]
theorem BB {W0 W W':World} {g:Nat} {fn fd er:Int} {ov sv:Value} {fo fs:List FindT} {ok:Bool} (h:ChkS W0 W g fn fd er ov sv fo fs) (hb:Below W.heap.size W W'):ChkS W0 (errW ok g W') g fn fd (if ok=true then er else 5) ov sv fo fs:=by
 cases ok
 case true=>rw[if_pos rfl];exact h.grow hb
 rw[if_neg (by decide)];exact (h.grow hb).err 5
def bT (s:SetT) (f:FrT):Int:=if dD s f=0 then (if eQ f (bR s)=true then 0 else 5) else dD s f
def Check23Post (s:SetT) (f:FrT) (w:World) (e:Ending) (w':World):Prop :=
 Below w.heap.size w w'∧((bT s f=0∧∃v,e=.returned (.tuple #[v,.int .i64 0])∧FindsAt w' w'.heap.size v (pB s.most f (bR s)))∨(bT s f≠0∧e=.returned (.tuple #[.slice none 0 0,.int .i64 (bT s f)])))
theorem Mx {s:SetT} {f:FrT} (h:dD s f=0):cD s=true∧fp f=0∧Zs s=0:=by
 unfold dD at h;split at h
 ·rename_i h1
  split at h
  ·rename_i h2
   exact⟨h1,h2,h⟩
  rename_i h2
  exact absurd h h2
 cases h
theorem qju {f:FrT} (h:fp f=0):au f=true∧f.den≤f.num∧f.num≤100∧f.den≤100:=by
 unfold fp at h;split at h
 ·rename_i h1
  split at h
  ·rename_i h2
   exact⟨h1,h2⟩
  cases h
 cases h
theorem Yn (v:Value) (s:SetT) (f:FrT) (w:World) (hv:SetAt w w.heap.size v s) (hn:SetNames s):Calls Tryz.prog 19 #[v,f.val] w (Check23Post s f w):=by
 have HGv:=fun W (hb:Below w.heap.size w W)=>Ym v s f W ((hv.below hb (yA _)).mono hb.size) hn;obtain⟨Al,cl,Ai,ci,Ab,cb,rfl,-,-,-⟩:=hv;unfold pe at HGv;unfold Check23Post;have hfv:f.val=.agg #[.int .i64 f.num,.int .i64 f.den]:=rfl;have WM:Y0 (bT s f=if dD s f=0 then (if eQ f (bR s)=true then 0 else 5) else dD s f):=rfl;have HGI:Y0 (dD s f=0→cD s=true∧fp f=0∧Zs s=0):=Mx;have HFI:Y0 (fp f=0→au f=true∧f.den≤f.num∧f.num≤100∧f.den≤100):=qju
 have BU:Y0 (Zs s=0→cD s=true∧(∀f∈bR s,au f=true)∧(bR s).length≤12∧0<(bR s).length):=LU;generalize bR s=l at*;obtain⟨fn,Xe⟩:=zo (f.num);obtain⟨fd,hfd⟩:=zo (f.den);rw[Xe,hfd] at hfv;rw[hfv] at HGv⊢;have HD:=zh ((Blk.new w 26 (zA s Al cl Ai ci Ab cb)).alloc (.cells #[.int .i64 fn,.int .i64 fd] 29));have hE:=Blk.new (w.alloc (.cells (zA s Al cl Ai ci Ab cb) 26)) 29 #[.int .i64 fn,.int .i64 fd];rw[yZ] at hE
 have HE:=zh hE;have cP:=zh (((yB _ w).alloc (yA _) (.cells (zA s Al cl Ai ci Ab cb) 26)).alloc (by simp) (.cells #[.int .i64 fn,.int .i64 fd] 29));have hgv:=HGv _ cP.o;clear HGv hn hE hfv;unfold fc at*;go_enter Tryz.func19,Tryz.ntmps19;go_upto_region 1 with fail;generalize (w.alloc (.cells (zA s Al cl Ai ci Ab cb) 26)).alloc (.cells #[.int .i64 fn,.int .i64 fd] 29)=W1 at*;have e0:=HE.o.cell 0;have e1:=HE.o.cell 1
 have z0:=HD.o.cell 0;have z1:=HD.o.cell 1;have z2:=HD.o.cell 2;have z3:=HD.o.cell 3;have z4:=HD.o.cell 4;have z5:=HD.o.cell 5;have z6:=HD.o.cell 6;have z7:=HD.o.cell 7;have z8:=HD.o.cell 8;have z9:=HD.o.cell 9;have j8:=HD.o.cell 10;have fS:=HD.o.cell 11;have iT:=HD.o.cell 12;simp only[aG,aH,aD] at e0 e1 z0 z1 z2 z3 z4 z5 z6 z7 z8 z9 j8 fS iT;go_upto_region 2 with (first|(go_at_call 45;refine hgv.mono ?_;rintro e w2 ⟨aU,⟨hG,v4,rfl,h4⟩|⟨hG,rfl⟩⟩))
 rotate_left
 ·have dZ:=zh (cP.o.trans (aU.mono cP.o.size));have hc:bT s f=dD s f:=by rw[WM.o,if_neg hG]
  have PP:Y0 (bT s f≠0):=by unfold Y0;rw[hc];exact hG
  have HC3:=zh hc;have GZ:(dD s f != 0)=true:=bne_iff_ne.2 hG;generalize dD s f=k at*;clear hgv aU hG hc WM HGI HFI HE HD cP e0 e1 z0 z1 z2 z3 z4 z5 z6 z7 z8 z9 j8 fS iT;go_wp2_with fail;go_ret2;exact⟨dZ.o,.inr ⟨PP.o,by rw[HC3.o];rfl⟩⟩
 obtain⟨hU,U9,ko⟩:=HGI.o hG;obtain⟨FI,FE⟩:=HFI.o U9;obtain⟨-,hlg,vzy,-⟩:=BU.o ko;have xN:=(Zm hU).most;have vh:(dD s f != 0)=false:=by rw[hG];rfl
 have HCF:Y0 (bT s f=if eQ f l=true then 0 else 5):=by unfold Y0;rw[WM.o,if_pos hG]
 rw[hG] at*;have dZ:=zh (cP.o.trans (aU.mono cP.o.size));have cY:=zh (HD.o.below aU HD.o.lt);have iq:=zh (HE.o.below aU HE.o.lt);clear e0 e1 z0 z1 z2 z3 z4 z5 z6 z7 z8 z9 j8 fS iT hgv aU WM HGI HFI HD HE cP hU U9 ko vh;obtain⟨A,c,rfl,-,cM,eG⟩:=h4.open_;have HCL:=zh eG;unfold maxLen at cM;have HLG:=zh hlg;obtain⟨e0,e1⟩:=iq.o.c2;have jO:=zh fun a m W (h:au a=true) (hC:Blk W w2.heap.size 87 #[.int .i64 f.num,.int .i64 f.den,.int .i64 m])=>qjb a f s.most w2.heap.size m W h FI ⟨Int.le_trans (by decide) xN.1,xN.2⟩ hC
 rw[Xe,hfd] at jO;have HFn:Y0 (pB s.most f (l)=cV 1 (ct s.most f) (l) l.length++cV 2 ef (l) l.length):=rfl;have HEA:Y0 (tE f (l) l.length=if eQ f (l)=true then 0 else 5):=Vu;have HEZ:Y0 (∀k (hk:k<l.length),tE f (l) (k+1)=if bF (dI l[k]*dI f)=true then tE f (l) k else 5):=fun k hk=>Ox hk;have HE0:Y0 (tE f (l) 0=0):=Ow;clear BU FI FE hlg h4 eG Xe hfd xN hG;have vn:Y0 (ChkS w2 (w2.alloc (.cells #[.int .i64 fn,.int .i64 fd,.int .i64 0] 87)) w2.heap.size fn fd (tE f l 0) (.slice none 0 0) (.slice none 0 0) (cV 1 (ct s.most f) l 0) (cV 2 ef l 0)):=by
  rw[HE0.o];exact⟨(yB _ _).alloc (yA _) _,Blk.new _ _ _,yA _,yJ _ _ _ _,yJ _ _ _ _,(by simp[Value.ownBlock]),(by simp[Value.ownBlock]),fun k e=>by simp[Value.ownBlock] at e⟩
 obtain⟨iF,Bt,oC,oB,oA⟩:=info_parts p8;go_upto_region 7 with fail;generalize w2.alloc (.cells #[.int .i64 fn,.int .i64 fd,.int .i64 0] 87)=W3 at*;clear e0 e1;go_loopw [28,9,10] (fun ix u v wr=>∃(k:Nat) (ov sv:Value),k≤l.length∧ix=.int .i64 k∧ov=u∧sv=v∧Y0 (ChkS w2 wr w2.heap.size fn fd (tE f l k) ov sv (cV 1 (ct s.most f) l k) (cV 2 ef l k))) (fun ix _ _ _=>l.length-(intOf ix).toNat)
 case atStart=>exact⟨0,_,_,yI _,rfl,rfl,rfl,vn⟩
 clear vn;obtain⟨k,ov,sv,hk,rfl,rfl,rfl,HT⟩:=hrel;have k0:(0:Int)≤(k:Int):=yE _;have Me:=lV (kind:=1) (p:=ct s.most f) (l:=l) k;have Ux:=lV (kind:=2) (p:=ef) (l:=l) k;by_cases ay:k<l.length
 ·have k1:(k:Int)<(l.length:Int):=by omega
  obtain⟨b1,o1,rfl,ak,hx⟩:=HCL.o k ay;have y0:=(HT.o.bel.cell (p:=⟨b1,o1+k*2,none⟩) ak).trans (hx k ay).1;have y1:=(HT.o.bel.cell (p:=⟨b1,o1+k*2+1,none⟩) ak).trans (hx k ay).2;have Ar:=zh fun h=>p9 (kind:=1) (p:=ct s.most f) ay h;have zx:=zh fun h=>rW (kind:=1) (p:=ct s.most f) ay h;have rh:=zh fun h=>p9 (kind:=2) (p:=ef) ay h;have vt:=zh fun h=>rW (kind:=2) (p:=ef) ay h;have hes:=HEZ.o k ay;have xS:=HLG.o _ (yV ay)
  clear hx;have HA:=zh (HT.o.grow ((yB _ wr).alloc (yA _) (.cells #[.int .i64 l[k].num,.int .i64 l[k].den] 29)));have hov:=jO.o l[k] (tE f l k) _ xS HA.o.chk;obtain⟨o1b,ho1⟩:=zo (ct s.most f l[k]);obtain⟨o2b,C8⟩:=zo (ef l[k]);have WZ:decide (l[k].num<0)=o2b:=C8;rw[ho1] at hov;go_upto_region 9 with fail;have HX:=zh (Blk.new wr 29 #[.int .i64 l[k].num,.int .i64 l[k].den]);have DD:ov.ownBlock≠some wr.heap.size:=fun e=>Nat.lt_irrefl _ (HT.o.rowO.lt _ e).2
  have gg:sv.ownBlock≠some wr.heap.size:=fun e=>Nat.lt_irrefl _ (HT.o.rowS.lt _ e).2;have xW:wr.heap.size≠w2.heap.size:=fun e=>Nat.lt_irrefl _ (e▸HT.o.chk.lt);have z9:=(HA.o.bel.cell (p:=⟨w.heap.size,9,none⟩) cY.o.lt).trans (cY.o.cell 9);have z0:=(HA.o.bel.cell (p:=⟨w.heap.size,0,none⟩) cY.o.lt).trans (cY.o.cell 0);have x0:=HX.o.cell 0;have x1:=HX.o.cell 1;have c0:=HA.o.chk.cell 0;simp only[aG,aH,aD] at z9 z0 x0 x1 c0
  clear y0 y1 HT xS;have U4:k+1<100:=by omega
  have hIt:=fun W=>XE (k+1) U4 W;obtain⟨ib,hib⟩:=zo (F3 (k+1));rw[hib,Int.natCast_add,Int.natCast_one] at hIt;rw[hib] at Ar rh;have v1:IntKind.i64.wrap ((k:Int)+1)=(k:Int)+1:=yF _ (by omega);generalize wr.alloc (.cells #[.int .i64 l[k].num,.int .i64 l[k].den] 29)=W4 at*;generalize wr.heap.size=bx at*;obtain⟨num,FE⟩:=zo (l[k].num);obtain⟨den,Y8⟩:=zo (l[k].den);have hav:l[k].val=.agg #[.int .i64 num,.int .i64 den]:=by rw[←FE,←Y8]
  rw[hav] at hov;rw[FE,Y8] at HX;rw[FE] at x0 WZ;rw[Y8] at x1;generalize bF (dI l[k]*dI f)=ok at*;clear FE Y8 hav hib;go_upto_region 10 with (first|(go_at_call 46;refine (hIt _).mono ?_;rintro e w5 ⟨rfl,rfl⟩));cases o1b
  ·have vq2:=zx.o ho1;go_upto_region 12 with (first|(go_at_call 47;refine hov.mono ?_;rintro e w5 ⟨rfl,w4,bU,rfl⟩));have HT:=zh (BB (ok:=ok) HA.o bU);rw[←hes] at HT;have HX:=zh ((HX.o.below bU HX.o.lt).errW (ok:=ok) xW);generalize errW ok w2.heap.size w4=w5 at*;clear bU HA x0 x1 c0 z9 z0;have x0:=HX.o.cell 0;simp only[aG,aD] at x0;rw[←vq2] at HT;cases o2b
   ·have ky:=vt.o C8;go_wp2_with fail;go_roundw
    case rel=>exact⟨k+1,_,_,by omega,by go_num,rfl,rfl,by rw[ky];exact HT⟩
    simp[intOf];omega
   have hye:=rh.o C8;have HT:=zh (HT.o.grow ((yB _ w5).alloc (yA _) (.cells #[.int .i64 2,.string ib] 91)));have my:=zh (World.news_of_block (Blk.new w5 91 #[.int .i64 2,.string ib]));have de:=HT.o.bel.size;go_wp2_with (at_builtin;refine wpList_append_own_at _ rfl _ _ 59 rfl w2.heap.size 91 iF (.agg #[.int .i64 0,.string ⟨#[]⟩]) 2 24 Tryz.underlying59 Bt oC oB oA rfl (by decide) _ _ _ rfl HT.o.rowS ⟨w5.heap.size,0,none⟩ 1 1 [.int .i64 2,.string ib] rfl rfl my.o (by simp[Value.oneCell']) (by unfold maxLen;omega) (by omega) de ?_;intro v8 w8 jk fh _ oK;have HT:=zh (HT.o.pushS (y:=⟨2,ib⟩) jk fh oK);clear jk fh oK)
   go_roundw
   case rel=>exact⟨k+1,_,_,by omega,by go_num,rfl,rfl,by rw[hye];exact HT⟩
   simp[intOf];omega
  have vqZ:=Ar.o ho1;go_upto_region 11 with (first|(go_at_call 47;refine hov.mono ?_;rintro e w5 ⟨rfl,w4,bU,rfl⟩));have HT:=zh (BB (ok:=ok) HA.o bU);rw[←hes] at HT;have HX:=zh ((HX.o.below bU HX.o.lt).errW (ok:=ok) xW);generalize errW ok w2.heap.size w4=w5 at*;clear bU HA x0 x1 c0 z9 z0;have x0:=HX.o.cell 0;simp only[aG,aD] at x0;have HT:=zh (HT.o.grow ((yB _ w5).alloc (yA _) (.cells #[.int .i64 1,.string ib] 91)))
  have HX:=zh (HX.o.alloc (.cells #[.int .i64 1,.string ib] 91));have my:=zh (World.news_of_block (Blk.new w5 91 #[.int .i64 1,.string ib]));have de:=HT.o.bel.size;go_upto_region 12 with (at_builtin;refine wpList_append_own_at _ rfl _ _ 59 rfl w2.heap.size 91 iF (.agg #[.int .i64 0,.string ⟨#[]⟩]) 2 24 Tryz.underlying59 Bt oC oB oA rfl (by decide) _ _ _ rfl HT.o.rowO ⟨w5.heap.size,0,none⟩ 1 1 [.int .i64 1,.string ib] rfl rfl my.o (by simp[Value.oneCell']) (by unfold maxLen;omega) (by omega) de ?_;intro v8 w8 jk fh _ oK;have HT:=zh (HT.o.pushO (y:=⟨1,ib⟩) jk fh oK);have HX:=zh (HX.o.kept fh DD.symm);have x0:=HX.o.cell 0;simp only[aG,aD] at x0;clear jk fh oK)
  rw[←vqZ] at HT;cases o2b
  ·have ky:=vt.o C8;go_wp2_with fail;go_roundw
   case rel=>exact⟨k+1,_,_,by omega,by go_num,rfl,rfl,by rw[ky];exact HT⟩
   simp[intOf];omega
  have hye:=rh.o C8;have HT:=zh (HT.o.grow ((yB _ w8).alloc (yA _) (.cells #[.int .i64 2,.string ib] 91)));have my:=zh (World.news_of_block (Blk.new w8 91 #[.int .i64 2,.string ib]));have de:=HT.o.bel.size;go_wp2_with (at_builtin;refine wpList_append_own_at _ rfl _ _ 59 rfl w2.heap.size 91 iF (.agg #[.int .i64 0,.string ⟨#[]⟩]) 2 24 Tryz.underlying59 Bt oC oB oA rfl (by decide) _ _ _ rfl HT.o.rowS ⟨w8.heap.size,0,none⟩ 1 1 [.int .i64 2,.string ib] rfl rfl my.o (by simp[Value.oneCell']) (by unfold maxLen;omega) (by omega) de ?_;intro v8 w8 jk fh _ oK;have HT:=zh (HT.o.pushS (y:=⟨2,ib⟩) jk fh oK);clear jk fh oK)
  go_roundw
  case rel=>exact⟨k+1,_,_,by omega,by go_num,rfl,rfl,by rw[hye];exact HT⟩
  simp[intOf];omega
 obtain rfl:k=l.length:=by omega
 have HT:=HT;rw[HEA.o] at HT;have c2:=HT.o.chk.cell 2;simp only[aG,aH,aD] at c2;by_cases lA:eQ f l=true
 ·rw[if_pos lA] at HT c2;have HC0:Y0 (bT s f=0):=by unfold Y0;rw[HCF.o,if_pos lA]
  obtain⟨Ao,co,hov,-⟩:=Flat.of_own HT.o.rowO;obtain⟨As,cs,hsv,-⟩:=Flat.of_own HT.o.rowS;subst hov hsv;have vzr:(cV 1 (ct s.most f) l l.length).length≤100:=by omega
  have vzq:(cV 2 ef l l.length).length≤100:=by omega
  have qjU:Y0 (cV 1 (ct s.most f) l l.length++cV 2 ef l l.length=pB s.most f l):=HFn.o.symm;generalize cV 1 (ct s.most f) l l.length=F1 at*;generalize cV 2 ef l l.length=F2 at*;obtain⟨N1,sR⟩:=zo (F1.length);obtain⟨N2,zN⟩:=zo (F2.length);have hcc:=fun W (hb:Below wr.heap.size wr W) G (hk:Blk W G 59 #[.slice Ao F1.length co,.slice As F2.length cs])=>KH _ _ F1 F2 G 2 w2.heap.size w2.heap.size W (dB HT.o.rowO hb) (dB HT.o.rowS hb) (by omega) hk
  have cM:=hcc _ ((yB _ wr).alloc (yA _) (.cells #[.slice Ao F1.length co,.slice As F2.length cs] 59)) wr.heap.size (Blk.new _ _ _);have wd:=zh (dZ.o.trans ((HT.o.bel.alloc HT.o.bel.size (.cells #[.slice Ao F1.length co,.slice As F2.length cs] 59)).mono dZ.o.size));rw[sR,zN] at cM wd⊢;clear hcc lA sR zN;go_wp2_with (first|(go_at_call 48;refine cM.mono ?_;rintro e w9 ⟨v9,rfl,hF9,jz⟩));go_ret2;exact⟨wd.o.trans (jz.mono wd.o.size),.inl ⟨HC0.o,v9,rfl,by rw[←qjU.o];exact hF9⟩⟩
 rw[if_neg lA] at HT c2;have MS:Y0 (bT s f=5):=by unfold Y0;rw[HCF.o,if_neg lA]
 have wd:=zh (dZ.o.trans (HT.o.bel.mono dZ.o.size));clear lA;go_wp2_with (exact zX);go_quiet (fail);go_wp2_with fail;go_ret2;exact⟨Zf wd.o _,.inr ⟨by rw[MS.o];decide,by rw[MS.o];rfl⟩⟩
def ckN (s:SetT) (f:FrT):Nat:=if bT s f=0 then (pB s.most f (bR s)).length else 0
def wJ (s:SetT) (l:List FrT) (f:FrT):Bool:=decide (Zs s=0)&&(decide (bR s=l)&&(decide (bT s f=0)&&decide (ckN s f=0)))
def mF (s:SetT) (l:List FrT) (f:FrT):Bool:=cD s&&(bk l&&bk [f])
def wA (s:SetT) (l:List FrT) (f:FrT):Int:=if mF s l f=true then (if fp f=0 then 0 else 2) else 1
def kJ (s:SetT) (l:List FrT) (f:FrT):Value:=.tuple #[.bool (decide (wA s l f=0)&&wJ s l f),.int .i64 (wA s l f)]
theorem LinesPost.uni {s:SetT} {w w':World} {e:Ending} (h:LinesPost s w e w'):∃A n c,e=.returned (.tuple #[.slice A n c,.int .i64 (Zs s)])∧Below w.heap.size w w'∧(Zs s=0→FrsAt w' w'.heap.size (.slice A n c) (bR s)):=by
 obtain⟨hb,⟨h0,v,rfl,hF⟩|⟨h0,rfl⟩⟩:=h
 ·obtain⟨A,c,rfl,-⟩:=hF.open_;exact⟨A,_,c,by rw[h0],hb,fun _=>hF⟩
 exact⟨none,0,0,rfl,hb,fun h=>absurd h h0⟩
theorem Check23Post.uni {s:SetT} {f:FrT} {w w':World} {e:Ending} (h:Check23Post s f w e w'):∃A c,e=.returned (.tuple #[.slice A (ckN s f) c,.int .i64 (bT s f)])∧Below w.heap.size w w':=by
 obtain⟨hb,⟨h0,v,rfl,hF⟩|⟨h0,rfl⟩⟩:=h
 ·obtain⟨A,c,rfl,-⟩:=hF.open_;exact⟨A,c,by unfold ckN;rw[if_pos h0,h0],hb⟩
 exact⟨none,0,by unfold ckN;rw[if_neg h0],hb⟩
theorem Zz {n d:Int} (h:au ⟨n,d⟩=true) (h0:¬n<d) (h1:¬100<n) (h2:¬100<d):fp ⟨n,d⟩=0:=by
 unfold fp;rw[if_pos h,if_pos (by simp only;omega)]
theorem Z0 {n d:Int} (h:au ⟨n,d⟩=true) (h0:n<d∨100<n∨100<d):fp ⟨n,d⟩≠0:=by
 unfold fp;rw[if_pos h,if_neg (by simp only;omega)];decide
theorem uA {f:FrT} (h:bk [f]=true):au f=true:=by
 unfold bk at h;simpa using h
theorem AA {s:SetT} {l:List FrT} {f:FrT} (h:mF s l f=false):kJ s l f=.tuple #[.bool false,.int .i64 1]:=by
 unfold kJ wA;rw[h];rfl
theorem MZ {s:SetT} {l:List FrT} {f:FrT} (h:mF s l f=true) (h2:fp f≠0):kJ s l f=.tuple #[.bool false,.int .i64 2]:=by
 unfold kJ wA;rw[if_pos h,if_neg h2];rfl
theorem PX {s:SetT} {l:List FrT} {f:FrT} (h:mF s l f=true) (h2:fp f=0):kJ s l f=.tuple #[.bool (wJ s l f),.int .i64 0]:=by
 unfold kJ wA;rw[if_pos h,if_pos h2];rfl
theorem Zy (w:World) (T:TypeId) (fn fd:Int):FrsAt (w.alloc (.cells #[.int .i64 fn,.int .i64 fd] T)) (w.alloc (.cells #[.int .i64 fn,.int .i64 fd] T)).heap.size (.slice (some ⟨w.heap.size,0,none⟩) 1 1) [⟨fn,fd⟩]:=by
 refine⟨some ⟨w.heap.size,0,none⟩,1,rfl,yA _,by unfold maxLen;omega,fun _=>⟨w.heap.size,0,rfl,by simp,fun j u hu=>?_⟩⟩;rw[yR,(Blk.new w T #[.int .i64 fn,.int .i64 fd]).cell];simpa[FrT.cells] using hu
theorem qjY (v v1:Value) (s:SetT) (l:List FrT) (f:FrT) (w:World) (hv:SetAt w w.heap.size v s) (hn:SetNames s) (hl:FrsAt w w.heap.size v1 l) :
  Calls Tryz.prog 6 #[v,v1,f.val] w fun e w'=>e=.returned (kJ s l f)∧Below w.heap.size w w':=by
 have BQ:=zh fun W (hb:Below w.heap.size w W)=>zp v s W (hv.grow hb) hn;have BV:=zh fun W (hb:Below w.heap.size w W)=>(LV v s W (hv.grow hb) hn).mono fun _ _ h=>h.uni;have GJ:=zh fun W (hb:Below w.heap.size w W)=>(Yn v s f W (hv.grow hb) hn).mono fun _ _ h=>h.uni;obtain⟨Al,cl,Ai,ci,Ab,cb,rfl,-,-,-⟩:=hv;obtain⟨A1,c1,rfl,-⟩:=hl.open_;have Xr:=zh hl;obtain⟨fn,fd⟩:=f
 try simp only[FrT.val] at*
 have vxL:=zh fun u W D T (h:FrsAt W W.heap.size u [⟨fn,fd⟩]) (hb:Below w.heap.size w W) (hD:Blk W D T #[.slice A1 l.length c1,u])=>Lk (.slice A1 l.length c1) u l [⟨fn,fd⟩] D T W hD (Xr.o.grow hb) h;have vw9:Y0 (cD s=false→kJ s l ⟨fn,fd⟩=.tuple #[.bool false,.int .i64 1]):=fun h=>AA (by unfold mF;rw[h];rfl);have MU:Y0 ((bk l&&bk [⟨fn,fd⟩])=false→kJ s l ⟨fn,fd⟩=.tuple #[.bool false,.int .i64 1]):=fun h=>AA (by unfold mF;rw[h,Bool.and_false])
 have tQ:Y0 (cD s=true→(bk l&&bk [⟨fn,fd⟩])=true→(fn<fd∨100<fn∨100<fd)→kJ s l ⟨fn,fd⟩=.tuple #[.bool false,.int .i64 2]):=fun h1 h2 h3=>MZ (by unfold mF;rw[h1,h2];rfl) (Z0 (uA (by rw[Bool.and_eq_true] at h2;exact h2.2)) h3);have GH:Y0 (cD s=true→(bk l&&bk [⟨fn,fd⟩])=true→fd≤fn→fn≤100→fd≤100→kJ s l ⟨fn,fd⟩=.tuple #[.bool (decide (Zs s=0)&&(decide (bR s=l)&&(decide (bT s ⟨fn,fd⟩=0)&&decide (ckN s ⟨fn,fd⟩=0)))),.int .i64 0]):=fun h1 h2 h3 h4 h5=>PX (by unfold mF;rw[h1,h2];rfl) (Zz (uA (by rw[Bool.and_eq_true] at h2;exact h2.2)) (Int.not_lt.2 h3) (Int.not_lt.2 h4) (Int.not_lt.2 h5))
 generalize kJ s l ⟨fn,fd⟩=vv at*;generalize Zs s=le at*;generalize bT s ⟨fn,fd⟩=ce at*;generalize ckN s ⟨fn,fd⟩=cn at*;have HSm:=zh fun u1 W (h1:FrsAt W W.heap.size u1 (bR s)) (hb:Below w.heap.size w W)=>Im u1 (.slice A1 l.length c1) (bR s) l W.heap.size W h1 (Xr.o.grow hb);generalize bR s=ll at*;generalize (bk l&&bk [⟨fn,fd⟩])=gd at*;generalize cD s=sb at*;have HD:=zh ((Blk.new w 26 (zA s Al cl Ai ci Ab cb)).alloc (.cells #[.int .i64 fn,.int .i64 fd] 29))
 have hE:=Blk.new (w.alloc (.cells (zA s Al cl Ai ci Ab cb) 26)) 29 #[.int .i64 fn,.int .i64 fd];rw[yZ] at hE;have HE:=zh hE;have HB:=zh (((yB _ w).alloc (yA _) (.cells (zA s Al cl Ai ci Ab cb) 26)).alloc (by simp) (.cells #[.int .i64 fn,.int .i64 fd] 29));clear hE hn hl;unfold fc at*;go_enter Tryz.func6,Tryz.ntmps6;go_upto_region 1 with fail;generalize (w.alloc (.cells (zA s Al cl Ai ci Ab cb) 26)).alloc (.cells #[.int .i64 fn,.int .i64 fd] 29)=W1 at*
 obtain⟨z0,z1,z2,z3,z4,z5,z6,z7,z8,z9,j8,fS,iT⟩:=HD.o.c13;obtain⟨e0,e1⟩:=HE.o.c2;have nJ:=BQ.o _ HB.o;cases sb
 ·have HV:=zh (vw9.o rfl);clear vw9 MU tQ GH;go_wp2_with (first|(go_at_call 15;refine nJ.mono ?_;rintro e w2 ⟨rfl,aU⟩));go_ret2;exact⟨congrArg Ending.returned HV.o.symm,HB.o.trans (aU.mono HB.o.size)⟩
 replace tQ:=zh (tQ.o rfl)
 replace GH:=zh (GH.o rfl)
 clear vw9;go_wp2_with (first|(go_at_call 15;exact zX));refine nJ.mono ?_;rintro e w2 ⟨rfl,aU⟩;have dZ:=zh (HB.o.trans (aU.mono HB.o.size));have cY:=zh (HD.o.below aU HD.o.lt);have iq:=zh (HE.o.below aU HE.o.lt);clear aU nJ z0 z1 z2 z3 z4 z5 z6 z7 z8 z9 j8 fS iT e0 e1 HB HD HE BQ;obtain⟨e0,e1⟩:=iq.o.c2;have hF3:=Zy w2 29 fn fd;have cZ:=zh (dZ.o.alloc dZ.o.size (.cells #[.int .i64 fn,.int .i64 fd] 29))
 have d9:=zh (cY.o.alloc (.cells #[.int .i64 fn,.int .i64 fd] 29));have H7:=zh (iq.o.alloc (.cells #[.int .i64 fn,.int .i64 fd] 29));have hN3:=(w2.alloc (.cells #[.int .i64 fn,.int .i64 fd] 29)).size_alloc (.cells #[.slice A1 l.length c1,.slice (some ⟨w2.heap.size,0,none⟩) 1 1] 27);have vwo:=(yB (w2.alloc (.cells #[.int .i64 fn,.int .i64 fd] 29)).heap.size (w2.alloc (.cells #[.int .i64 fn,.int .i64 fd] 29))).alloc (yA _) (.cells #[.slice A1 l.length c1,.slice (some ⟨w2.heap.size,0,none⟩) 1 1] 27)
 have fI:=zh (cZ.o.trans (vwo.mono cZ.o.size));have jC:=zh (d9.o.alloc (.cells #[.slice A1 l.length c1,.slice (some ⟨w2.heap.size,0,none⟩) 1 1] 27));have HE4:=zh (H7.o.alloc (.cells #[.slice A1 l.length c1,.slice (some ⟨w2.heap.size,0,none⟩) 1 1] 27));have xK:=vxL.o (.slice (some ⟨w2.heap.size,0,none⟩) 1 1) _ _ 27 (hF3.grow vwo) fI.o (Blk.new (w2.alloc (.cells #[.int .i64 fn,.int .i64 fd] 29)) 27 #[.slice A1 l.length c1,.slice (some ⟨w2.heap.size,0,none⟩) 1 1])
 rw[yZ] at xK;clear hF3 hN3 vwo dZ cY iq cZ d9 H7 vxL;cases gd
 ·have HV:=zh (MU.o rfl);clear MU tQ GH;go_wp2_with (first|(go_at_call 16;refine xK.mono ?_;rintro e w5 ⟨rfl,aR⟩));go_ret2;exact⟨congrArg Ending.returned HV.o.symm,fI.o.trans (aR.mono fI.o.size)⟩
 replace tQ:=zh (tQ.o rfl)
 replace GH:=zh (GH.o rfl)
 clear MU;go_upto_region 3 with (first|(go_at_call 16;refine xK.mono ?_;rintro e w5 ⟨rfl,aR⟩));have cJ:=zh (fI.o.trans (aR.mono fI.o.size));have pK:=zh (jC.o.below aR jC.o.lt);have Ax:=zh (HE4.o.below aR HE4.o.lt);clear aR xK e0 e1 fI jC HE4;obtain⟨e0,e1⟩:=Ax.o.c2;by_cases c0:fn<fd
 ·have d0:decide (fn<fd)=true:=yD c0;have HV:=zh (tQ.o (.inl c0));clear c0 tQ;go_wp2_with fail;go_ret2;exact⟨congrArg Ending.returned HV.o.symm,cJ.o⟩
 have d0:decide (fn<fd)=false:=yC c0;by_cases c2:100<fn
 ·have d1:decide (100<fn)=true:=yD c2;have HV:=zh (tQ.o (.inr (.inl c2)));clear c0 c2 tQ;go_wp2_with fail;go_ret2;exact⟨congrArg Ending.returned HV.o.symm,cJ.o⟩
 have d1:decide (100<fn)=false:=yC c2;by_cases c3:100<fd
 ·have d2:decide (100<fd)=true:=yD c3;have HV:=zh (tQ.o (.inr (.inr c3)));clear c0 c2 c3 tQ;go_wp2_with fail;go_ret2;exact⟨congrArg Ending.returned HV.o.symm,cJ.o⟩
 have d2:decide (100<fd)=false:=yC c3;have HV:=zh (GH.o (Int.not_lt.1 c0) (Int.not_lt.1 c2) (Int.not_lt.1 c3));clear c0 c2 c3 tQ GH;obtain⟨z0,z1,z2,z3,z4,z5,z6,z7,z8,z9,j8,fS,iT⟩:=pK.o.c13;have U1:=BV.o _ cJ.o;go_upto_region 6 with (first|(go_at_call 17;refine U1.mono ?_;rintro e w6 ⟨A6,n6,cp6,rfl,ie,hF6⟩));have HF6:=zh hF6;have kH:=zh (cJ.o.trans (ie.mono cJ.o.size));have ri:=zh (pK.o.below ie pK.o.lt)
 have WI:=zh (Ax.o.below ie Ax.o.lt);clear ie hF6 U1 BV z0 z1 z2 z3 z4 z5 z6 z7 z8 z9 j8 fS iT e0 e1 d0 d1 d2 cJ pK Ax;by_cases ZJ:le=0;rotate_left
 ·have g0:(le != 0)=true:=bne_iff_ne.2 ZJ;have ck:Y0 (vv=.tuple #[.bool false,.int .i64 0]):=by rw[HV.o,yC ZJ];rfl
  clear ZJ;go_wp2_with fail;go_ret2;exact⟨congrArg Ending.returned ck.o.symm,kH.o⟩
 subst ZJ;have Mc:=HSm.o _ _ (HF6.o rfl) kH.o;rw[yD (rfl:(0:Int)=0),Bool.true_and] at HV;obtain⟨qs,hqs⟩:∃q,decide (ll=l)=q:=⟨_,rfl⟩;rw[hqs] at Mc HV;clear hqs HSm HF6;cases qs
 ·go_wp2_with (first|(go_at_call 18;refine Mc.mono ?_;rintro e w7 ⟨rfl,n7,rfl⟩));go_ret2;exact⟨congrArg Ending.returned HV.o.symm,Zf kH.o _⟩
 go_upto_region 8 with (first|(go_at_call 18;refine Mc.mono ?_;rintro e w7 ⟨rfl,n7,rfl⟩));have pd:=zh (Zf kH.o n7);have Lc:=zh (ri.o.drewN n7);have HE7:=zh (WI.o.drewN n7);clear Mc kH ri WI;obtain⟨z0,z1,z2,z3,z4,z5,z6,z7,z8,z9,j8,fS,iT⟩:=Lc.o.c13;obtain⟨e0,e1⟩:=HE7.o.c2;have hck:=GJ.o _ pd.o;go_upto_region 9 with (first|(go_at_call 19;refine hck.mono ?_;rintro e w8 ⟨A8,c8,rfl,aJ⟩));have ep:=zh (pd.o.trans (aJ.mono pd.o.size))
 clear aJ hck GJ z0 z1 z2 z3 z4 z5 z6 z7 z8 z9 j8 fS iT e0 e1 pd Lc HE7;by_cases ZK:ce=0
 ·subst ZK;obtain⟨qn,hqn⟩:∃q,((cn:Int)==0)=q:=⟨_,rfl⟩;have hqd:decide (cn=0)=qn:=by
   rw[←hqn];rw[Bool.eq_iff_iff,decide_eq_true_eq,beq_iff_eq];omega
  have ck:Y0 (vv=.tuple #[.bool qn,.int .i64 0]):=by rw[HV.o,hqd];rfl
  clear hqd HV;cases qn
  all_goals
   go_wp2_with fail;go_ret2;exact⟨congrArg Ending.returned ck.o.symm,ep.o⟩
 have g0:(ce==0)=false:=zb ZK;have ck:Y0 (vv=.tuple #[.bool false,.int .i64 0]):=by rw[HV.o,yC ZK];rfl
 clear ZK HV;go_wp2_with fail;go_ret2;exact⟨congrArg Ending.returned ck.o.symm,ep.o⟩
section
variable {P:Program} {ops:Array Oper} {W:World} {Φ:Nat→Option GPost}
theorem bG {K:Act→aL→Prop} {k:Nat} {o:Oper} {r:List Oper} {a:Act} {F:aL} (hw:Region.wanted o (yielded ops a.tmps)=true) (hs:sY o=true) (hΦ:Φ k=none)
  (h:wpQuiet P ops (fun w'=>∃x:HeldB W,w'=x.w) (fun a'=>wu P ops W Φ K (k+1) r a' (iM F o.dst (lQ ops o F))) [o] a):wu P ops W Φ K k (o::r) a F:=by
 simp only[wpQuiet] at h;rw[if_pos hw] at h;obtain⟨v,hq,h⟩:=h;show bW P ops W o (Φ k) _ a F;unfold bW;rw[if_pos hw,hΦ];exact⟨v,AX (fun w hw=>⟨⟨w,hw⟩,rfl⟩) hs hq,h⟩
theorem zV {o:Oper} {c x y:Operand} (ho:o.op=.pick c x y) {ρ:Operand→Value} {w w':World} {f:FuncId} {args:Array Value}:(execOp ρ o).run P w ≠ .ok (.enter f args) w':=by
 intro h;unfold execOp at h;rw[ho] at h;dsimp only at h
 rw[Sem.run_bind] at h
 cases hs:(asBool (ρ c)).run P w with
 | ok b w2=>
  rw[hs] at h;simp only[Result.andThen,Sem.run_pure] at h;injection h with h1 _;cases h1
 | halt x w2=>
  rw[hs] at h;simp only[Result.andThen] at h;cases h
theorem cg {K:Act→aL→Prop} {k:Nat} {o:Oper} {c x y:Operand} {r:List Oper} {a:Act} {F:aL} (ho:o.op=.pick c x y) (hw:Region.wanted o (yielded ops a.tmps)=true) (hΦ:Φ k=none)
  (h:wpQuiet P ops (fun w'=>∃x:HeldB W,w'=x.w) (fun a'=>wu P ops W Φ K (k+1) r a' (iM F o.dst (lQ ops o F))) [o] a):wu P ops W Φ K k (o::r) a F:=by
 simp only[wpQuiet] at h;rw[if_pos hw] at h;obtain⟨v,hq,h⟩:=h;show bW P ops W o (Φ k) _ a F;unfold bW;rw[if_pos hw,hΦ];refine⟨v,fun w hb=>?_,h⟩;have h1:=hq w ⟨⟨w,hb⟩,rfl⟩;have h2:=fun f args w'=>zV (P:=P) ho (ρ:=a.eval) (w:=w) (w':=w') (f:=f) (args:=args);unfold Oper.quietAt at h1;generalize (execOp a.eval o).run P w=q at*
 cases q with
 | ok n w'=>
  cases n <;> simp only[Oper.quietUpon] at h1
  case value u=>exact h1
  case skip=>exact h1
  case enter f args=>exact absurd rfl (h2 f args w')
 | halt x w'=>simp only[Oper.quietUpon] at h1
theorem sU {K:Act→aL→Prop} {k:Nat} {o:Oper} {r:List Oper} {a:Act} {F:aL} {φ:GPost} (hw:Region.wanted o (yielded ops a.tmps)=true) (hφ:Φ k=some φ)
  (h:∀w,Below W.heap.size W w→lQ ops o F w→sD P o a φ w) (hK:∀v,φ.σ v→wu P ops W Φ K (k+1) r (a.put o.dst v) (iM F o.dst (φ.φ v))) (Y6:φ.fr=false:=by rfl):wu P ops W Φ K k (o::r) a F:=by
 show bW P ops W o (Φ k) _ a F;unfold bW;rw[if_pos hw,hφ];exact⟨fun w h1 h2=>.inl ⟨Y6,h w h1 h2⟩,hK⟩
end
theorem vwA {l1 l2:List FrT} {k:Nat} (h1:k<l1.length) (h2:k<l2.length) (h:l1[k]≠l2[k]):decide (l1=l2)=false:=yC fun e=>by
 subst e;exact h rfl
theorem qjt {l1 l2:List FrT} (hl:l1.length=l2.length) (h:l1.take l1.length=l2.take l1.length):decide (l1=l2)=true:=yD (by
 rw[yT,hl,yT] at h;exact h)
theorem Nv (v1 v2:Value) (l1 l2:List FrT) (w:World) (h1:FrsAt w w.heap.size v1 l1) (h2:FrsAt w w.heap.size v2 l2):Calls Tryz.prog 27 #[v1,v2] w fun e w'=>e=.returned (.bool (decide (l1=l2)))∧Below w.heap.size w w':=by
 obtain⟨A1,c1,rfl,On,Xg,hC1⟩:=h1.open_;obtain⟨A2,c2,rfl,ak,aU,Xj⟩:=h2.open_;unfold maxLen at Xg aU;have PQ:=zh hC1;have PP:=zh Xj;clear h1 h2 hC1 Xj;by_cases hl:l1.length=l2.length;rotate_left
 ·have e0:((l1.length:Int) != (l2.length:Int))=true:=by rw[bne_iff_ne];omega
  have e1:((l1.length:Int)==(l2.length:Int))=false:=zb (by omega);have HV:Y0 (decide (l1=l2)=false):=yC fun e=>hl (by rw[e]);clear hl;go_enter Tryz.func27,Tryz.ntmps27;go_wp2_with fail;go_ret;exact⟨Ze HV.o.symm,yB _ _⟩
 have e0:((l1.length:Int) != (l2.length:Int))=false:=by rw[hl];simp
 have Hl:=zh hl;go_enter Tryz.func27,Tryz.ntmps27;go_wp2_with fail;clear hl e0;go_loopw [5] (fun x wr=>∃k:Nat,k≤l1.length∧x=.int .i64 k∧Y0 (l1.take k=l2.take k)∧Y0 (Below w.heap.size w wr)) (fun x _=>l1.length-(intOf x).toNat)
 case atStart=>exact⟨0,yI _,rfl,by unfold Y0;rw[List.take_zero,List.take_zero],yB _ _⟩
 obtain⟨k,hk,rfl,HA,HB⟩:=hrel;have i1:(0:Int)≤(k:Int):=yE _;by_cases ao:k<l1.length
 ·have mV:k<l2.length:=by have:=Hl.o;omega
  have i2:(k:Int)<(l1.length:Int):=by omega
  have i3:(k:Int)<(l2.length:Int):=by omega
  obtain⟨b,o,rfl,hb,jJ⟩:=PQ.o k ao;obtain⟨x0,x1⟩:=jJ k ao;obtain⟨b',o',rfl,ev,vxs⟩:=PP.o k mV;obtain⟨y0,y1⟩:=vxs k mV;have x0:=(HB.o.cell (p:=⟨b,o+k*2,none⟩) hb).trans x0;have x1:=(HB.o.cell (p:=⟨b,o+k*2+1,none⟩) hb).trans x1;have y0:=(HB.o.cell (p:=⟨b',o'+k*2,none⟩) ev).trans y0;have y1:=(HB.o.cell (p:=⟨b',o'+k*2+1,none⟩) ev).trans y1;have gM:=zh (fun h=>vwA ao mV h);have mz:Y0 (l1[k]=l2[k]→l1.take (k+1)=l2.take (k+1)):=fun h=>by
   rw[aY l1 k ao,aY l2 k mV,HA.o,h]
  clear jJ vxs;generalize l1[k]=x at*;generalize l2[k]=y at*;obtain⟨n1,d1⟩:=x;obtain⟨n2,d2⟩:=y;simp only at x0 x1 y0 y1;by_cases hn:n1=n2
  ·subst hn;by_cases hd:d1=d2
   ·subst hd;have HV:=zh (mz.o rfl);clear mz gM;go_wp2_with fail;go_region_both
    all_goals
     go_wp2_with fail;go_roundw
     case rel=>exact⟨k+1,ao,by go_num,HV,Zf HB.o _⟩
     simp[intOf];omega
   have HV:=zh (gM.o (fun e=>hd (by injection e)));have e3:(d1==d2)=false:=zb hd;have e4:(d1 != d2)=true:=by rw[bne_iff_ne];exact hd
   clear mz gM;go_wp2_with fail;go_region_both
   all_goals
    go_wp2_with fail;go_ret;exact⟨Ze HV.o.symm,Zf HB.o _⟩
  have HV:=zh (gM.o (fun e=>hn (by injection e)));have e3:(n1==n2)=false:=zb hn;have e4:(n1 != n2)=true:=by rw[bne_iff_ne];exact hn
  clear mz gM;go_wp2_with fail;go_region_both
  all_goals
   go_wp2_with fail;go_ret;exact⟨Ze HV.o.symm,Zf HB.o _⟩
 obtain rfl:k=l1.length:=by omega
 have HV:=zh (qjt Hl.o HA.o);go_wp2_with fail;go_ret;exact⟨Ze HV.o.symm,HB.o⟩
theorem qjn (A n:Nat):A/2^n=2*(A/2^(n+1))+A/2^n%2:=by
 rw[yW,←YB];omega
theorem O7 {A b n q r:Nat} (hb:0<b) (hr:A/2^(n+1)%b=r) (hq:A/2^(n+1)/b=q) :
  (A/2^n%b=if b≤2*r+A/2^n%2 then 2*r+A/2^n%2-b else 2*r+A/2^n%2)∧(A/2^n/b=if b≤2*r+A/2^n%2 then 2*q+1 else 2*q):=by
 have hd:=YI (A/2^(n+1)) b;rw[hr,hq] at hd;have hrb:r<b:=by rw[←hr];exact YJ _ hb
 have hA:=qjn A n;have ht:A/2^n%2<2:=YJ _ (by decide);generalize A/2^n%2=t at*;have e:A/2^n=b*(2*q)+(2*r+t):=by
  rw[hA,←hd,yX,Nat.mul_left_comm];omega
 by_cases h:b≤2*r+t
 ·rw[if_pos h,if_pos h];have e2:A/2^n=b*(2*q+1)+(2*r+t-b):=by
   rw[e,yX,Nat.mul_one];omega
  have ao:2*r+t-b<b:=by omega
  rw[e2];exact⟨by rw[Nat.mul_add_mod,Nat.mod_eq_of_lt ao],by rw[Nat.mul_add_div hb,Nat.div_eq_of_lt ao,Nat.add_zero]⟩
 rw[if_neg h,if_neg h];have ao:2*r+t<b:=by omega
 rw[e];exact⟨by rw[Nat.mul_add_mod,Nat.mod_eq_of_lt ao],by rw[Nat.mul_add_div hb,Nat.div_eq_of_lt ao,Nat.add_zero]⟩
theorem XC {A i n:Nat} (h:i+n=127):A*2^i%2^128/2^127=A/2^n%2:=by
 have e1:(2:Nat)^128=2^i*(2^n*2):=by rw[←yW,←Nat.pow_add,show i+(n+1)=128 by omega]
 have e2:(2:Nat)^127=2^i*2^n:=by rw[←Nat.pow_add,h]
 rw[Nat.mul_comm A,e1,e2,Nat.mul_mod_mul_left,Nat.mul_div_mul_left _ _ (Nat.two_pow_pos i),Nat.mod_mul_right_div_self]
theorem KD {A b:Nat} (hA:A<2^128):A/2^128%b=0∧A/2^128/b=0:=by
 rw[Nat.div_eq_of_lt hA];exact⟨Nat.zero_mod _,Nat.zero_div _⟩
theorem VA (A b:Nat):A/2^0%b=A%b∧A/2^0/b=A/b:=by
 rw[Nat.pow_zero,Nat.div_one];exact⟨rfl,rfl⟩
theorem Ue {x y:Nat}:x<y↔x/18446744073709551616<y/18446744073709551616∨(x/18446744073709551616=y/18446744073709551616∧x%18446744073709551616<y%18446744073709551616):=by omega
theorem T7 (x y:Nat):(x+y)%18446744073709551616=(x%18446744073709551616+y%18446744073709551616)%18446744073709551616 ∧
  (x+y)/18446744073709551616=x/18446744073709551616+y/18446744073709551616+if (x%18446744073709551616+y%18446744073709551616)%18446744073709551616<x%18446744073709551616 then 1 else 0:=by
 split <;> omega
theorem NL {x y:Nat} (h:y≤x):(x-y)%18446744073709551616=(x%18446744073709551616+18446744073709551616-y%18446744073709551616)%18446744073709551616 ∧
  y/18446744073709551616+(if x%18446744073709551616<y%18446744073709551616 then 1 else 0)≤x/18446744073709551616 ∧
  (x-y)/18446744073709551616=x/18446744073709551616-y/18446744073709551616-if x%18446744073709551616<y%18446744073709551616 then 1 else 0:=by
 split <;> omega
theorem UK (x:Nat):x/2/18446744073709551616=x/18446744073709551616/2∧x/2%18446744073709551616=x%18446744073709551616/2+x/18446744073709551616%2*9223372036854775808:=by omega
theorem Nh {x t:Nat} (ht:t<2):(2*x+t)%340282366920938463463374607431768211456/18446744073709551616=(x/18446744073709551616*2+x%18446744073709551616/9223372036854775808)%18446744073709551616 ∧
  (2*x+t)%340282366920938463463374607431768211456%18446744073709551616=x%18446744073709551616*2%18446744073709551616+t:=by omega
theorem Az {x:Nat} (h:x<340282366920938463463374607431768211456):x/18446744073709551616<18446744073709551616∧x%18446744073709551616<18446744073709551616∧x=x/18446744073709551616*18446744073709551616+x%18446744073709551616:=by omega
