/- L -/
import Derived.Test.YtknkhnahflmjiaaGreatDoorN1
import Derived.Test.YtknkhnahflmjiaaGreatDoorX1
import Derived.Test.YtknkhnahflmjiaaGreatDoorX2
namespace Go.Proofs.YtknkhnahflmjiaaGreatDoor
set_option maxRecDepth 100000
set_option maxHeartbeats 40000000
open Go.RowKit Go.Shelf
theorem rS (v:Value) (s:SetT) (w:World) (hv:SetAt w w.heap.size v s) (hn:SetNames s):Calls Tryz.prog 71 #[v] w (eF s w):=by
 have HV:=zh fun W (hb:Below w.heap.size w W)=>pC v s W (hv.grow hb) hn;have HL:=zh fun W (hb:Below w.heap.size w W) (h:cA s=true)=>Fc v s W (hv.grow hb) hn h;have fX:Y0 (cA s=false→Zs s=1):=fun h=>by unfold Zs;rw[if_neg (by rw[h];decide)]
 obtain⟨Al,cl,Ai,ci,Ab,cb,rfl,-,-,-⟩:=hv;have HB:=zh (sK w (.cells (zA s Al cl Ai ci Ab cb) 37));have HD:=zh (Blk.new w 37 (zA s Al cl Ai ci Ab cb));clear hn;unfold eF at*;unfold dO at*;go_enter Tryz.func71,Tryz.ntmps71;go_upto_region 1 with fail;generalize w.alloc (.cells (zA s Al cl Ai ci Ab cb) 37)=W1 at*;obtain⟨z0,z1,z2,z3,z4,z5,z6,z7,z8,z9,fD,dN,fa⟩:=HD.o.c13;go_wp2_with (go_at_call 43;fail);go_at_call 43
 refine (HV.o _ HB.o).mono ?_;rintro e w2 ⟨rfl,bg⟩;clear z0 z1 z2 z3 z4 z5 z6 z7 z8 z9 fD dN fa HV;have HB:=zh (HB.o.trans (bg.mono HB.o.size));have HD:=zh (HD.o.below bg HD.o.lt);clear bg;cases h0:cA s
 ·have HX:=zh (fX.o h0);clear HL fX h0;go_wp2_with fail;refine YF (results_tmp2 rfl _ _ _) (by rfl) ?_;exact⟨HB.o,.inr ⟨by rw[HX.o];decide,by rw[HX.o];rfl⟩⟩
 have HL:=zh fun W hb=>HL.o W hb h0;clear fX h0;go_upto_region 3 with fail;obtain⟨z0,z1,z2,z3,z4,z5,z6,z7,z8,z9,fD,dN,fa⟩:=HD.o.c13;go_wp2_with (go_at_call 108;refine (HL.o _ HB.o).mono ?_;rintro e w3 ⟨bZ,h⟩;rcases h with⟨hE,v4,rfl,h4⟩|⟨hE,rfl⟩)
 ·refine YF (results_tmp2 rfl _ _ _) (by rfl) ?_;exact⟨HB.o.trans (bZ.mono HB.o.size),.inl ⟨hE,v4,rfl,h4⟩⟩
 refine YF (results_tmp2 rfl _ _ _) (by rfl) ?_;exact⟨HB.o.trans (bZ.mono HB.o.size),.inr ⟨hE,rfl⟩⟩
def ev (s:SetT) (f:FrT):Int:=if cA s=true then ga f else 1
theorem J7 (s:SetT) (f:FrT):bS s f=if ev s f=0 then Zs s else ev s f:=by
 unfold bS ev;cases cA s
 ·rfl
 rfl
theorem xL (v:Value) (s:SetT) (f:FrT) (w:World) (hv:SetAt w w.heap.size v s) (hn:SetNames s):Calls Tryz.prog 70 #[v,f.val] w fun e w'=>e=.returned (.int .i64 (ev s f))∧Below w.heap.size w w':=by
 have HV:=zh fun W (hb:Below w.heap.size w W)=>pC v s W (hv.grow hb) hn;have HF:=zh fun W=>uK f W;have HI:=zh fun W (h:aj f=true)=>Fa f W h;have H1:Y0 (cA s=false→ev s f=1):=fun h=>by unfold ev;rw[if_neg (by rw[h];decide)]
 have H2:Y0 (cA s=true→aj f=false→ev s f=1):=fun h h2=>by unfold ev ga;rw[if_pos h,if_neg (by rw[h2];decide)]
 have H3:Y0 (cA s=true→aj f=true→ev s f=if decide (ga f=0)=true then 0 else 2):=fun h h2=>by
  unfold ev;rw[if_pos h];unfold ga;rw[if_pos h2];by_cases c:f.den≤f.num∧f.num≤100∧f.den≤100
  ·rw[if_pos c];rfl
  rw[if_neg c];rfl
 obtain⟨Al,cl,Ai,ci,Ab,cb,rfl,-,-,-⟩:=hv;generalize ev s f=ge at*;generalize decide (ga f=0)=fe at*;generalize hgf:aj f=gf at*;clear hgf;obtain⟨num,den⟩:=f
 try simp only at*
 have hD:=(Blk.new w 37 (zA s Al cl Ai ci Ab cb)).alloc (.cells #[.int .i64 num,.int .i64 den] 23);have hE:=Blk.new (w.alloc (.cells (zA s Al cl Ai ci Ab cb) 37)) 23 #[.int .i64 num,.int .i64 den];rw[yZ] at hE;have HD:=zh hD;have HE:=zh hE;have HB:=zh (jB w (.cells (zA s Al cl Ai ci Ab cb) 37) (.cells #[.int .i64 num,.int .i64 den] 23));clear hn hD hE;unfold dO at*;go_enter Tryz.func70,Tryz.ntmps70
 go_upto_region 1 with fail;generalize (w.alloc (.cells (zA s Al cl Ai ci Ab cb) 37)).alloc (.cells #[.int .i64 num,.int .i64 den] 23)=W1 at*;obtain⟨z0,z1,z2,z3,z4,z5,z6,z7,z8,z9,fD,dN,fa⟩:=HD.o.c13;obtain⟨e0,e1⟩:=HE.o.c2;go_wp2_with (go_at_call 43;fail);go_at_call 43;refine (HV.o _ HB.o).mono ?_;rintro e w2 ⟨rfl,bg⟩;clear z0 z1 z2 z3 z4 z5 z6 z7 z8 z9 fD dN fa HV e0 e1;have HB:=zh (HB.o.trans (bg.mono HB.o.size))
 have HE:=zh (HE.o.below bg HE.o.lt);clear bg HD;cases h0:cA s
 ·have HX:=zh (H1.o h0);clear H1 H2 H3 h0;go_wp2_with fail;go_ret;exact⟨ij HX.o.symm,HB.o⟩
 have H2:=zh (H2.o h0);have H3:=zh (H3.o h0);clear H1 h0;obtain⟨e0,e1⟩:=HE.o.c2;go_wp2_with (go_at_call 45;fail);go_at_call 45;refine (HF.o _).mono ?_;rintro e w3 ⟨rfl,bZ⟩;clear HF e0 e1;have HB:=zh (HB.o.trans (bZ.mono HB.o.size));have HE:=zh (HE.o.below bZ HE.o.lt);clear bZ;cases gf
 ·have HX:=zh (H2.o rfl);clear H2 H3;go_wp2_with fail;go_ret;exact⟨ij HX.o.symm,HB.o⟩
 have H3t:=zh (H3.o rfl);have oX:=zh fun W=>HI.o W rfl;clear H2 HI H3;obtain⟨e0,e1⟩:=HE.o.c2;go_wp2_with (go_at_call 46;fail);go_at_call 46;refine (oX.o _).mono ?_;rintro e w4 ⟨rfl,bP⟩;have HB:=zh (HB.o.trans (bP.mono HB.o.size));clear oX e0 e1 bP;cases fe
 ·have HX:Y0 (ge=2):=H3t.o;clear H3t;go_wp2_with fail;go_ret;exact⟨ij HX.o.symm,HB.o⟩
 have HX:Y0 (ge=0):=H3t.o;clear H3t;go_wp2_with fail;go_ret;exact⟨ij HX.o.symm,HB.o⟩
structure TwoR (W0 W:World) (ov sv:Value) (fo fs:List FindT):Prop where
 bel:Below W0.heap.size W0 W
 rowO:W.ownsRow W0.heap.size 49 2 ov fo.length (fo.flatMap FindT.cells)
 rowS:W.ownsRow W0.heap.size 49 2 sv fs.length (fs.flatMap FindT.cells)
 ap:∀k,ov.ownBlock=some k→sv.ownBlock≠some k
section
variable {W0 W W':World} {ov sv:Value} {fo fs:List FindT}
theorem TwoR.grow (h:TwoR W0 W ov sv fo fs) (hb:Below W.heap.size W W'):TwoR W0 W' ov sv fo fs :=
 ⟨h.bel.trans (hb.mono h.bel.size),bR h.rowO hb,bR h.rowS hb,h.ap⟩
theorem TwoR.pushO (h:TwoR W0 W ov sv fo fs) {v':Value} {y:FindT} (bO:W'.ownsRow W0.heap.size 49 2 v' (fo.length+1) (fo.flatMap FindT.cells++[.int .i64 y.kind,.string y.name])) (hg:W.grownBy W' ov.ownBlock) (Ex:v'.ownBlock=ov.ownBlock∨v'.ownBlock=some W.heap.size) :
  TwoR W0 W' v' sv (fo++[y]) fs:=by
 refine⟨h.bel.grown hg h.bel.size (fun k e=>(h.rowO.lt k e).1),?_,h.rowS.kept hg (zT fun k e e2=>h.ap k e2 e),fun k e e2=>?_⟩
 ·rw[yR,List.flatMap_append];exact bO
 rcases Ex with h1|h1
 ·exact h.ap k (h1.symm.trans e) e2
 rw[h1] at e
 have:=(h.rowS.lt k e2).2;injection e with e;omega
theorem TwoR.pushS (h:TwoR W0 W ov sv fo fs) {v':Value} {y:FindT} (bO:W'.ownsRow W0.heap.size 49 2 v' (fs.length+1) (fs.flatMap FindT.cells++[.int .i64 y.kind,.string y.name])) (hg:W.grownBy W' sv.ownBlock) (Ex:v'.ownBlock=sv.ownBlock∨v'.ownBlock=some W.heap.size) :
  TwoR W0 W' ov v' fo (fs++[y]):=by
 refine⟨h.bel.grown hg h.bel.size (fun k e=>(h.rowS.lt k e).1),h.rowO.kept hg (zT fun k e e2=>h.ap k e e2),?_,fun k e e2=>?_⟩
 ·rw[yR,List.flatMap_append];exact bO
 rcases Ex with h1|h1
 ·exact h.ap k e (h1.symm.trans e2)
 rw[h1] at e2
 have:=(h.rowO.lt k e).2;injection e2 with e2;omega
end
theorem Ls {f:FrT} {l:List FrT} {k:Nat} (hk:k<l.length) (h:eS f (l.take k)=true):(aC (aU l[k]*aU f)=true→eS f (l.take (k+1))=true)∧(aC (aU l[k]*aU f)=false→eS f l=false):=by
 unfold eS at*;refine⟨fun h2=>?_,fun h2=>?_⟩
 ·rw[List.take_add_one,yN hk,List.all_append,h];simp[h2]
 rw[List.all_eq_false];exact⟨l[k],yV hk,by rw[h2];decide⟩
theorem K6 (v:Value) (s:SetT) (f:FrT) (w:World) (hv:SetAt w w.heap.size v s) (hn:SetNames s):Calls Tryz.prog 24 #[v,f.val] w (Check23Post s f w):=by
 have Ei:=fun W (hb:Below w.heap.size w W)=>xL v s f W ((hv.below hb (yA _)).mono hb.size) hn;have tx:=fun W (hb:Below w.heap.size w W)=>rS v s W ((hv.below hb (yA _)).mono hb.size) hn;obtain⟨Al,cl,Ai,ci,Ab,cb,rfl,-,-,-⟩:=hv;unfold eF at tx;unfold Check23Post;have xo:f.val=.agg #[.int .i64 f.num,.int .i64 f.den]:=rfl;have wK:Y0 (cM s f=if bS s f=0 then (if eS f (ax s)=true then 0 else 5) else bS s f):=rfl
 have AX:=zh (J7 s f);have Ej:Y0 (bS s f=0→cA s=true∧ga f=0∧Zs s=0):=ug;have El:Y0 (ga f=0→aj f=true∧f.den≤f.num∧f.num≤100∧f.den≤100):=JC;have pu:Y0 (Zs s=0→cA s=true∧(∀f∈ax s,aj f=true)∧(ax s).length≤12∧0<(ax s).length):=mo;generalize ax s=l at*;obtain⟨fn,Ae⟩:=zo (f.num);obtain⟨fd,Ha⟩:=zo (f.den);rw[Ae,Ha] at xo;rw[xo] at Ei⊢;have HD:=zh ((Blk.new w 37 (zA s Al cl Ai ci Ab cb)).alloc (.cells #[.int .i64 fn,.int .i64 fd] 23))
 have hE:=Blk.new (w.alloc (.cells (zA s Al cl Ai ci Ab cb) 37)) 23 #[.int .i64 fn,.int .i64 fd];rw[yZ] at hE;have HE:=zh hE;have HB:=zh (jB w (.cells (zA s Al cl Ai ci Ab cb) 37) (.cells #[.int .i64 fn,.int .i64 fd] 23));have tx:=zh tx;have Li:=Ei _ HB.o;clear Ei hn hE;unfold dO at*;go_enter Tryz.func24,Tryz.ntmps24;go_upto_region 1 with fail;generalize (w.alloc (.cells (zA s Al cl Ai ci Ab cb) 37)).alloc (.cells #[.int .i64 fn,.int .i64 fd] 23)=W1 at*
 obtain⟨z0,z1,z2,z3,z4,z5,z6,z7,z8,z9,fD,dN,fa⟩:=HD.o.c13;obtain⟨e0,e1⟩:=HE.o.c2;go_upto_region 2 with (first|(go_at_call 70;refine Li.mono ?_;rintro e w2 ⟨rfl,bg⟩));have dV:=zh (HB.o.trans (bg.mono HB.o.size));have cP:=zh (HD.o.below bg HD.o.lt);have gn:=zh (HE.o.below bg HE.o.lt);clear z0 z1 z2 z3 z4 z5 z6 z7 z8 z9 fD dN fa e0 e1 Li bg HD HE HB;by_cases pc:ev s f=0;rotate_left
 ·have HC:Y0 (cM s f=ev s f∧ev s f≠0):=by
   have h:=AX.o;rw[if_neg pc] at h;exact⟨by rw[wK.o,if_neg (by rw[h];exact pc),h],pc⟩
  have CX:(ev s f != 0)=true:=bne_iff_ne.2 pc;generalize ev s f=k at*;clear pc wK Ej El AX;go_wp2_with fail;go_ret2;exact⟨dV.o,.inr ⟨by rw[HC.o.1];exact HC.o.2,by rw[HC.o.1];rfl⟩⟩
 have Br:Y0 (bS s f=Zs s):=by unfold Y0;rw[AX.o,if_pos pc]
 rw[pc] at*;clear pc AX;obtain⟨z0,z1,z2,z3,z4,z5,z6,z7,z8,z9,fD,dN,fa⟩:=cP.o.c13;go_upto_region 5 with (first|(go_at_call 71;refine (tx.o _ dV.o).mono ?_;rintro e w3 ⟨bZ,⟨hG,v4,rfl,h4⟩|⟨hG,rfl⟩⟩));rotate_left
 ·have cY:=zh (dV.o.trans (bZ.mono dV.o.size));have HC:Y0 (cM s f=Zs s∧Zs s≠0):=⟨by rw[wK.o,if_neg (by rw[Br.o];exact hG),Br.o],hG⟩;have CX:(Zs s != 0)=true:=bne_iff_ne.2 hG;generalize Zs s=k at*;clear hG wK Ej El Br z0 z1 z2 z3 z4 z5 z6 z7 z8 z9 fD dN fa tx;go_wp2_with fail;go_ret2;exact⟨cY.o,.inr ⟨by rw[HC.o.1];exact HC.o.2,by rw[HC.o.1];rfl⟩⟩
 have hG2:bS s f=0:=by rw[Br.o];exact hG
 obtain⟨fJ,vL,iD⟩:=Ej.o hG2;obtain⟨lD,lB⟩:=El.o vL;obtain⟨-,xk,GQ,-⟩:=pu.o iD;have iL:=(Zm fJ).most;have Bt:Y0 (cM s f=if eS f l=true then 0 else 5):=by unfold Y0;rw[wK.o,if_pos hG2]
 have cY:=zh (dV.o.trans (bZ.mono dV.o.size));have eJ:=zh (cP.o.below bZ cP.o.lt);have AZ:=zh (gn.o.below bZ gn.o.lt);clear z0 z1 z2 z3 z4 z5 z6 z7 z8 z9 fD dN fa bZ wK Ej El cP gn dV fJ vL iD Br hG2 tx;obtain⟨A,c,rfl,-,eH,dR⟩:=h4.open_;have Yi:=zh dR;unfold maxLen at eH;have VR:=zh xk;have HKp:=zh fun a W (h:aj a=true)=>YR a f s.most W h lD ⟨Int.le_trans (by decide) iL.1,iL.2⟩;rw[xo] at HKp;have HKv:Y0 (∀a,Jp s.most f a=if aC (aU a*aU f)=true then .tuple #[.bool (!cB s.most f a),.int .i64 0] else .tuple #[.bool false,.int .i64 5]):=fun _=>rfl
 have HFn:Y0 (mD s.most f (l)=dj 1 (cB s.most f) (l) l.length++dj 2 et (l) l.length):=rfl;have Ek:=zh fun k (hk:k<l.length) (h:eS f (l.take k)=true)=>Ls hk h;have HF0:Y0 (eS f (l.take 0)=true):=rfl;have HFl:Y0 (eS f (l.take l.length)=eS f l):=by unfold Y0;rw[List.take_length]
 clear pu lD lB xk h4 dR Ae Ha iL hG xo;have wU:Y0 (TwoR w3 w3 (.slice none 0 0) (.slice none 0 0) (dj 1 (cB s.most f) l 0) (dj 2 et l 0)):=
  ⟨yB _ _,yJ _ _ _ _,yJ _ _ _ _,fun k e=>by simp[Value.ownBlock] at e⟩
 obtain⟨iF,tY,kO,kN,kM⟩:=info_parts oB;go_wp2_with fail;go_loopw [11,9,10,12,13,14] (fun ix u v B7 Ep u14 wr=>∃(k:Nat) (ov sv:Value),k≤l.length∧ix=.int .i64 k∧ov=u∧sv=v∧Y0 (eS f (l.take k)=true)∧Y0 (TwoR w3 wr ov sv (dj 1 (cB s.most f) l k) (dj 2 et l k))) (fun ix _ _ _ _ _ _=>l.length-(intOf ix).toNat)
 case atStart=>exact⟨0,_,_,yI _,rfl,rfl,rfl,HF0,wU⟩
 clear wU HF0;obtain⟨k,ov,sv,hk,rfl,rfl,rfl,Mb,HT⟩:=hrel;have k0:(0:Int)≤(k:Int):=yE _;have xU:=lC (kind:=1) (p:=cB s.most f) (l:=l) k;have Ew:=lC (kind:=2) (p:=et) (l:=l) k;by_cases aK:k<l.length
 ·have k1:(k:Int)<(l.length:Int):=by omega
  obtain⟨b1,o1,rfl,ak,hx⟩:=Yi.o k aK;have VI:=zh (hx k aK).1;have tL:=zh (hx k aK).2;have oV:=zh fun h=>oC (kind:=1) (p:=cB s.most f) aK h;have wJ:=zh fun h=>qT (kind:=1) (p:=cB s.most f) aK h;have qp:=zh fun h=>oC (kind:=2) (p:=et) aK h;have cR:=zh fun h=>qT (kind:=2) (p:=et) aK h;have mO:=VR.o _ (yV aK);have hkp:=fun W=>HKp.o l[k] W mO;have hfs:=Ek.o k aK Mb.o;rw[HKv.o] at hkp;clear hx mO;obtain⟨o1b,ho1⟩:=zo (cB s.most f l[k])
  obtain⟨o2b,Ac⟩:=zo (et l[k]);have Tx:decide (l[k].num<0)=o2b:=Ac;rw[ho1] at hkp;have Rc:k+1<100:=by omega
  have hIt:=fun W=>Fe (k+1) W (yH (YG Rc) (by decide));obtain⟨ib,hib⟩:=zo (CK (k+1));have qkA:(⟨(Lib.decDigits (k+1)).toArray⟩:ByteArray)=ib:=hib;rw[qkA,Int.natCast_add,Int.natCast_one] at hIt;rw[hib] at oV qp;have v1:IntKind.i64.wrap ((k:Int)+1)=(k:Int)+1:=yF _ (by omega);have J3:l[k].val=.agg #[.int .i64 l[k].num,.int .i64 l[k].den]:=rfl;rw[J3] at hkp;clear J3 hib qkA;generalize l[k].num=num at*
  generalize l[k].den=den at*;generalize aC (aU l[k]*aU f)=ok at*;have HIt:=zh hIt;have HKk:=zh hkp;have HSl:=zh Tx;have Hfs:=zh hfs;clear hIt hkp Tx hfs;have y0:=(HT.o.bel.cell (p:=⟨b1,o1+k*2,none⟩) ak).trans VI.o;have y1:=(HT.o.bel.cell (p:=⟨b1,o1+k*2+1,none⟩) ak).trans tL.o;have z9:=(HT.o.bel.cell (p:=⟨w.heap.size,9,none⟩) eJ.o.lt).trans (eJ.o.cell 9);have e0:=(HT.o.bel.cell (p:=⟨w.heap.size+1,0,none⟩) AZ.o.lt).trans (AZ.o.cell 0)
  have e1:=(HT.o.bel.cell (p:=⟨w.heap.size+1,1,none⟩) AZ.o.lt).trans (AZ.o.cell 1);simp only[aB,aD,aA] at z9 e0 e1;go_upto_region 11 with fail;have t0:=YL y0;have t1:=YL y1;have t2:=YL z9;have t3:=YL e0;have t4:=YL e1;clear y0 y1 z9 e0 e1;obtain⟨kb,ke,hkv,hko,Mq⟩:∃(kb:Bool) (ke:Int),(if ok=true then Value.tuple #[.bool (!o1b),.int .i64 0] else .tuple #[.bool false,.int .i64 5])=.tuple #[.bool kb,.int .i64 ke]∧(ok=true→kb=(!o1b)∧ke=0)∧(ok=false→ke=5):=by
   cases ok
   ·exact⟨false,5,rfl,fun h=>absurd h (by decide),fun _=>rfl⟩
   exact⟨!o1b,0,rfl,fun _=>⟨rfl,rfl⟩,fun h=>absurd h (by decide)⟩
  rw[hkv] at HKk;have HKo:=zh hko;have HKn:=zh Mq;clear hkv hko Mq;have cC:=HeldB.call (W:=wr) fun w' _=>HKk.o w';refine bJ (by kernel_rfl) (by kernel_rfl) ?_
  repeat (go_big_quiet_step (first|(go_at_call 72;with_reducible exact cC _)))
  refine YE ?_;rintro w4 ⟨⟨w4',bP⟩,rfl⟩;have tu:=zh (HT.o.grow bP);clear t0 t1 t2 t3 t4 cC bP HKk HT;cases bM:ok
  ·obtain rfl:=HKn.o bM;have x7:Y0 (cM s f=5):=by unfold Y0;rw[Bt.o,if_neg (by rw[Hfs.o.2 bM];decide)]
   have dw:=zh (cY.o.trans (tu.o.bel.mono cY.o.size));clear bM HKo HKn Hfs tu;go_wp2_with fail;go_ret2;exact⟨dw.o,.inr ⟨by rw[x7.o];decide,by rw[x7.o];rfl⟩⟩
  obtain⟨rfl,rfl⟩:=HKo.o bM;have Mb:=zh (Hfs.o.1 bM);clear bM HKo HKn Hfs;go_upto_region 15 with (first|(go_at_call 73;refine (HIt.o _).mono ?_;rintro e w5 ⟨rfl,bf⟩));have HT:=zh (tu.o.grow bf);clear tu bf;have y0:=(HT.o.bel.cell (p:=⟨b1,o1+k*2,none⟩) ak).trans VI.o;have Tx:=HSl.o;cases o1b
  ·have qjt:=wJ.o ho1;rw[←qjt] at HT;cases o2b
   ·have tE:=cR.o Ac;go_wp2_with fail;go_roundw
    case rel=>exact⟨k+1,_,_,by omega,by go_num,rfl,rfl,Mb,by rw[tE];exact HT⟩
    simp[intOf];omega
   have hye:=qp.o Ac;have HT:=zh (HT.o.grow (sK w5 (.cells #[.int .i64 2,.string ib] 49)));have jD:=zh (yL (Blk.new w5 49 #[.int .i64 2,.string ib]));have fO:=HT.o.bel.size;go_wp2_with (at_builtin;refine wpList_append_own_at _ rfl _ _ 39 rfl w3.heap.size 49 iF (.agg #[.int .i64 0,.string ⟨#[]⟩]) 2 24 Tryz.underlying39 tY kO kN kM rfl (by decide) _ _ _ rfl HT.o.rowS ⟨w5.heap.size,0,none⟩ 1 1 [.int .i64 2,.string ib] rfl rfl jD.o (by simp[Value.oneCell']) (by unfold maxLen;omega) (by omega) fO ?_;intro v8 w8 fK dA _ nP;have HT:=zh (HT.o.pushS (y:=⟨2,ib⟩) fK dA nP);clear fK dA nP)
   go_roundw
   case rel=>exact⟨k+1,_,_,by omega,by go_num,rfl,rfl,Mb,by rw[hye];exact HT⟩
   simp[intOf];omega
  have qjl:=oV.o ho1;have HT:=zh (HT.o.grow (sK w5 (.cells #[.int .i64 1,.string ib] 49)));have jD:=zh (yL (Blk.new w5 49 #[.int .i64 1,.string ib]));have fO:=HT.o.bel.size;clear y0;go_upto_region 17 with (at_builtin;refine wpList_append_own_at _ rfl _ _ 39 rfl w3.heap.size 49 iF (.agg #[.int .i64 0,.string ⟨#[]⟩]) 2 24 Tryz.underlying39 tY kO kN kM rfl (by decide) _ _ _ rfl HT.o.rowO ⟨w5.heap.size,0,none⟩ 1 1 [.int .i64 1,.string ib] rfl rfl jD.o (by simp[Value.oneCell']) (by unfold maxLen;omega) (by omega) fO ?_;intro v8 w8 fK dA _ nP;have HT:=zh (HT.o.pushO (y:=⟨1,ib⟩) fK dA nP);have y0:=(HT.o.bel.cell (p:=⟨b1,o1+k*2,none⟩) ak).trans VI.o;clear fK dA nP)
  rw[←qjl] at HT;cases o2b
  ·have tE:=cR.o Ac;go_wp2_with fail;go_roundw
   case rel=>exact⟨k+1,_,_,by omega,by go_num,rfl,rfl,Mb,by rw[tE];exact HT⟩
   simp[intOf];omega
  have hye:=qp.o Ac;have HT:=zh (HT.o.grow (sK w8 (.cells #[.int .i64 2,.string ib] 49)));have jD:=zh (yL (Blk.new w8 49 #[.int .i64 2,.string ib]));have fO:=HT.o.bel.size;go_wp2_with (at_builtin;refine wpList_append_own_at _ rfl _ _ 39 rfl w3.heap.size 49 iF (.agg #[.int .i64 0,.string ⟨#[]⟩]) 2 24 Tryz.underlying39 tY kO kN kM rfl (by decide) _ _ _ rfl HT.o.rowS ⟨w8.heap.size,0,none⟩ 1 1 [.int .i64 2,.string ib] rfl rfl jD.o (by simp[Value.oneCell']) (by unfold maxLen;omega) (by omega) fO ?_;intro v8 w8 fK dA _ nP;have HT:=zh (HT.o.pushS (y:=⟨2,ib⟩) fK dA nP);clear fK dA nP)
  go_roundw
  case rel=>exact⟨k+1,_,_,by omega,by go_num,rfl,rfl,Mb,by rw[hye];exact HT⟩
  simp[intOf];omega
 obtain rfl:k=l.length:=by omega
 have xq:=Mb.o;rw[HFl.o] at xq;have M9:Y0 (cM s f=0):=by unfold Y0;rw[Bt.o,if_pos xq]
 have vqF:(dj 1 (cB s.most f) l l.length).length≤100:=by omega
 have vqE:(dj 2 et l l.length).length≤100:=by omega
 have VU:Y0 (dj 1 (cB s.most f) l l.length++dj 2 et l l.length=mD s.most f l):=HFn.o.symm;generalize dj 1 (cB s.most f) l l.length=F1 at*;generalize dj 2 et l l.length=F2 at*;have dw:=zh (cY.o.trans (HT.o.bel.mono cY.o.size));have gL:=HT.o.bel.size;obtain⟨UC,xU⟩:=qc F2;clear xq Mb Bt Ek HFl;rcases EV HT.o.rowS with⟨rfl,hl⟩|⟨gk,qkY,rfl,hnw⟩
 ·subst hl;go_wp2_with (at_builtin;refine wpList_append_own_none rfl _ _ 39 rfl w3.heap.size 49 iF 2 Tryz.underlying39 tY _ _ _ rfl HT.o.rowO rfl ?_);go_ret2;exact⟨dw.o,.inl ⟨M9.o,_,rfl,by rw[←VU.o,List.append_nil];exact Flat.of_own HT.o.rowO⟩⟩
 go_wp2_with (at_builtin;refine wpList_append_own _ rfl _ _ 39 rfl w3.heap.size 49 iF (.agg #[.int .i64 0,.string ⟨#[]⟩]) 2 24 Tryz.underlying39 tY kO kN kM rfl (by decide) _ _ _ rfl HT.o.rowO _ _ _ _ rfl UC hnw xU (by unfold maxLen;omega) (by omega) gL ?_;intro v9 w9 sZ nL _;have HO9:=zh sZ;have iW:=zh (HT.o.bel.grown nL gL (fun k e=>(HT.o.rowO.lt k e).1));clear sZ nL);go_ret2;exact⟨cY.o.trans (iW.o.mono cY.o.size),.inl ⟨M9.o,_,rfl,by
  have h:=HO9.o;rw[←yR,←List.flatMap_append,VU.o] at h;exact Flat.of_own h⟩⟩
