/- Lemmas. -/
import Derived.Test.YtknkhnahflmjiaaGreatDoorR1
import Derived.Test.YtknkhnahflmjiaaGreatDoorV5
namespace Go.Proofs.YtknkhnahflmjiaaGreatDoor
set_option maxRecDepth 100000
set_option maxHeartbeats 40000000
open Go.RowKit Go.Shelf
theorem lM (b:Bool) (A:Option Addr) (l c:Nat) (w:World):(Instr.field 237 (.agg #[.bool b,.slice A l c]) 1).run Tryz.prog w=.ok (.slice A l c) w:=by kernel_rfl
def UI (m i:Nat):Nat:=m/16777216^i%2
theorem qx7 (m i:Nat):(aH m i+UI m (i+1)*16777216)/2=aH (m/2) i:=Rv m i
theorem UH (m i:Nat):(aH m i+UI m (i+1)*16777216)%2=UI m i:=Ll m i
theorem qjy (m i:Nat):UI m i≤1:=Nat.le_of_lt_succ (YJ _ (by decide))
theorem qx6 (m:Nat):UI m (ag m)=0:=by unfold UI;rw[Nat.div_eq_of_lt (je m)]
theorem lw {w:World} {B e s n:Nat} {v:Value} {L:List Value} (h:w.ownsRow B e s v n L):∃A c,v=.slice A n c:=by
 rcases h.2 with⟨rfl,rfl⟩|⟨g,cap,cur,rfl,_⟩
 ·exact⟨none,0,rfl⟩
 exact⟨_,cap,rfl⟩
theorem KH {w:World} {B e s n c:Nat} {A:Option Addr} {L:List Value} (h:w.ownsRow B e s (.slice A n c) n L) (hn:0<n):∃g,A=some ⟨g,0,none⟩:=by
 rcases h.2 with⟨_,e0⟩|⟨g,cap,cur,e0,_⟩
 ·omega
 injection e0 with e1 _ _;exact⟨g,e1⟩
def nU (x la j:Nat):List Nat:=(List.range j).map fun t=>aH x (la-1-t)
def eD (x la i:Nat):List Nat:=(List.range la).map fun t=>if t<i∨la-1-t<i then aH x t else aH x (la-1-t)
theorem Dy (x la j:Nat):nU x la (j+1)=nU x la j++[aH x (la-1-j)]:=by unfold nU;rw[List.range_succ,List.map_append];rfl
theorem Ko (x la:Nat):eD x la 0=nU x la la:=by
 unfold eD nU;refine List.map_congr_left fun t _=>?_;rw[if_neg (by omega)]
theorem MV {x la i:Nat} (h:la≤2*i+1):eD x la i=cn x la:=by
 unfold eD cn;refine List.map_congr_left fun t ht=>?_;rw[List.mem_range] at ht;split
 ·rfl
 rw[show la-1-t=t by omega]
theorem qz {x la i t:Nat} (h:t<la):(eD x la i)[t]?=some (if t<i∨la-1-t<i then aH x t else aH x (la-1-t)):=by
 unfold eD;rw[YC,List.getElem?_range h];rfl
theorem Kp {x la i:Nat} (h:2*i+1<la):((eD x la i).set i (aH x i)).set (la-1-i) (aH x (la-1-i))=eD x la (i+1):=by
 refine List.ext_getElem? fun t=>?_;by_cases ht:t<la
 ·have hl:(eD x la i).length=la:=by unfold eD;rw[List.length_map,List.length_range]
  rw[List.getElem?_set,List.getElem?_set,qz ht,qz ht];by_cases h1:la-1-i=t
  ·rw[if_pos h1,if_pos (by rw[List.length_set,hl];omega),if_pos (by omega),h1]
  rw[if_neg h1];by_cases h2:i=t
  ·rw[if_pos h2,if_pos (by rw[hl];omega),if_pos (by omega),h2]
  rw[if_neg h2];by_cases h3:t<i∨la-1-t<i
  ·rw[if_pos h3,if_pos (by omega)]
  rw[if_neg h3,if_neg (by omega)]
 have hl:(eD x la i).length=la:=by unfold eD;rw[List.length_map,List.length_range]
 have CV:(eD x la (i+1)).length=la:=by unfold eD;rw[List.length_map,List.length_range]
 rw[List.getElem?_eq_none (by rw[List.length_set,List.length_set,hl];omega),List.getElem?_eq_none (by rw[CV];omega)]
theorem Hh {g cy q r:Nat} (h1:(g+cy*16777216)/2=q) (h2:(g+cy*16777216)%2=r) (hg:g<16777216) (hc:cy≤1) :
  ∃qd rd:Int,qd=(q:Int)∧rd=(r:Int)∧((g:Int)+(cy:Int)*16777216).tdiv 2=qd∧((g:Int)+(cy:Int)*16777216).tmod 2=rd∧((g:Int)+(cy:Int)*16777216)/2=qd∧((g:Int)+(cy:Int)*16777216)%2=rd∧IntKind.i64.wrap qd=qd:=by
 have h0:(0:Int)≤(g:Int)+(cy:Int)*16777216:=by omega
 have e1:((g:Int)+(cy:Int)*16777216)/2=(q:Int):=by omega
 have e2:((g:Int)+(cy:Int)*16777216)%2=(r:Int):=by omega
 exact⟨q,r,rfl,rfl,by rw[Int.tdiv_eq_ediv_of_nonneg h0,e1],by rw[Int.tmod_eq_emod_of_nonneg h0,e2],e1,e2,yF _ (by omega)⟩
theorem zx (v:Value) (m:Nat) (w:World) (hv:dF w w.heap.size v m) (hm:ag m≤1000000) :
  Calls Tryz.prog 280 #[v] w (sO w (m/2)):=by
 obtain⟨A1,c1,rfl,kG,qo,dS⟩:=hv.open_;have TL:=zh dS;obtain⟨la,T6⟩:∃la,la=ag m:=⟨_,rfl⟩;have HLA:=zh T6;rw[←T6] at kG hm TL⊢;have v0:IntKind.i64.wrap ((la:Int)-1)=(la:Int)-1:=yF _ (by omega);clear hv dS T6;go_enter Tryz.func280,Tryz.ntmps280;go_wp2_with fail;go_loopw [5,4,3] (fun ix cx ox wr=>∃j:Nat,j≤la∧ix=.int .i64 ((la:Int)-1-j)∧cx=.int .i64 ((UI m (la-j):Nat):Int)∧Y0 (wr.ownsRow w.heap.size 3 1 ox j ((nU (m/2) la j).map oT))∧Y0 (Below w.heap.size w wr)) (fun ix _ _ _=>(intOf ix+1).toNat)
 case atStart=>exact⟨0,yI _,by simp,by rw[Nat.sub_zero,HLA.o,qx6];rfl,yJ _ _ _ _,yB _ _⟩
 obtain⟨j,hj,rfl,rfl,HO,HB⟩:=hrel;by_cases aI:j<la
 ·obtain⟨i,hi⟩:∃i,la=i+1+j:=⟨la-1-j,by omega⟩;obtain⟨b1,o1,rfl,ak,cG⟩:=TL.o i (by omega);have y1:=(HB.o.cell (p:=⟨b1,o1+i,none⟩) ak).trans (cG i (by omega));have e0:(la:Int)-1-(j:Int)=(i:Int):=by omega
  rw[e0,show la-j=i+1 by omega];have HH:=zh (qx7 m i);have HR:=zh (UH m i);have hg:=dK m i;have eH:=qjy m (i+1);clear cG e0;generalize aH m i=g at*;generalize UI m (i+1)=cy at*;have i0:(0:Int)≤(i:Int):=yE _;have i1:(i:Int)<(la:Int):=by omega
  have v1:IntKind.i64.wrap ((cy:Int)*16777216)=(cy:Int)*16777216:=yF _ (by omega);have v2:IntKind.i64.wrap ((g:Int)+(cy:Int)*16777216)=(g:Int)+(cy:Int)*16777216:=yF _ (by omega);have v3:IntKind.i64.wrap ((i:Int)-1)=(i:Int)-1:=yF _ (by omega);have Bf:=HO.o;have fO:=HB.o.size;have HP:Y0 (∀(v':Value) (w1:World),w1.ownsRow w.heap.size 3 1 v' (j+1) ((nU (m/2) la j).map oT++[.int .i64 ((aH (m/2) i:Nat):Int)])→w1.ownsRow w.heap.size 3 1 v' (j+1) ((nU (m/2) la (j+1)).map oT)):=fun v' w1 h=>by
   rw[Dy,List.map_append,show la-1-j=i by omega];exact h
  obtain⟨qd,rd,hqd,hrd,hq,hr,U9,U8,v4⟩:=Hh HH.o HR.o hg eH;have HRD:=zh hrd;rw[←hqd] at HP;have Hi:=zh hi;have hii:i<la:=by omega
  have hjm:(la:Int)-1-((j+1:Nat):Int)=(i:Int)-1:=by omega
  have Hjm:=zh hjm;clear HH HR hqd hrd hi hjm;go_wp2_with (at_builtin;refine fE _ rfl (.tmp 23) (.tmp 26) 33 rfl w.heap.size 3 jV Tryz.underlying33 rfl _ j _ rfl Bf (.int .i64 qd) rfl rfl (by unfold maxLen;omega) (by omega) fO ?_;intro g4 cap w4 bK bA xY GY;have fj:=zh (HB.o.grown bA HB.o.size (fun k hk=>(HO.o.lt k hk).1));have rB:=zh (HP.o _ _ bK);clear bK bA GY);clear Bf;go_roundw
  case rel=>exact⟨j+1,by omega,by rw[Hjm.o],by rw[show la-(j+1)=i by have:=Hi.o;omega,←HRD.o],rB,fj⟩
  simp[intOf] <;> omega
 obtain rfl:j=la:=by omega
 have Xz:(j:Int)-1-(j:Int)=-1:=by omega
 rw[Xz];clear Xz;have Mg:=zh HB.o;obtain⟨A3,c3,rfl⟩:=lw HO.o;have hO0:=HO.o;rw[←Ko] at hO0;have HO':=zh hO0;clear hO0;generalize UI m (j-j)=cy;clear HO HB TL;go_wp2_with fail;go_loopw [7,8] (fun ix kx wq=>∃i:Nat,2*i≤j+1∧ix=.int .i64 i∧kx=.int .i64 ((j:Int)-1-i)∧Y0 (wq.ownsRow w.heap.size 3 1 (.slice A3 j c3) j ((eD (m/2) j i).map oT))∧Y0 (Below w.heap.size w wq)) (fun ix _ _=>j-(intOf ix).toNat)
 case atStart=>exact⟨0,by omega,rfl,by simp,HO',Mg⟩
 clear HO' Mg;obtain⟨i,hi,rfl,rfl,HO,HB⟩:=hrel;by_cases aI:2*i+1<j
 ·obtain⟨k,hk⟩:∃k:Nat,j=k+1+i:=⟨j-1-i,by omega⟩;have e1:(j:Int)-1-(i:Int)=(k:Int):=by omega
  rw[e1];have d1:decide (i<k)=true:=yD (by omega);obtain⟨g3,rfl⟩:=KH HO.o (by omega);have ta:i<j:=by omega
  have aK:k<j:=by omega
  have y0:=HO.o.cellAt i (by omega);have y1:=HO.o.cellAt k (by omega);rw[YC,qz ta,if_neg (by omega),show j-1-i=k by omega] at y0;rw[YC,qz aK,if_neg (by omega),show j-1-k=i by omega] at y1;have f0:=HO.o.frozenAt i;have S1:=(HO.o.stored i (oT (aH (m/2) i))).1;have S2:=S1.stored k (oT (aH (m/2) k));have y2:=S1.cellAt k (by omega);have f2:=S1.frozenAt k;rw[List.getElem?_set_ne (by omega),YC,qz aK,if_neg (by omega),show j-1-k=i by omega] at y2
  have HW:Y0 ((((eD (m/2) j i).map oT).set i (oT (aH (m/2) i))).set k (oT (aH (m/2) k))=(eD (m/2) j (i+1)).map oT):=by
   unfold Y0;rw[←Kp aI,show j-1-i=k by omega,List.map_set,List.map_set]
  have gQ:=zh (fR S2.1 1);have dV:=zh (((HB.o.setCell (p:=⟨g3,i,none⟩) (by show w.heap.size≤g3;exact (HO.o.lt g3 (by simp[Value.ownBlock])).1) (oT (aH (m/2) i))).setCell (p:=⟨g3,k,none⟩) (by show w.heap.size≤g3;exact (HO.o.lt g3 (by simp[Value.ownBlock])).1) (oT (aH (m/2) k))).drew);unfold oT at*;simp only[Option.map_some] at y0 y1 y2;generalize ((aH (m/2) i:Nat):Int)=di at*;generalize ((aH (m/2) k:Nat):Int)=dk at*
  have i0:(0:Int)≤(i:Int):=yE _;have i1:(i:Int)<(j:Int):=by omega
  have k0:(0:Int)≤(k:Int):=yE _;have k1:(k:Int)<(j:Int):=by omega
  have v3:IntKind.i64.wrap ((k:Int)-1)=(k:Int)-1:=yF _ (by omega);have Hk:=zh hk;have Hkm:Y0 ((j:Int)-1-((i+1:Nat):Int)=(k:Int)-1):=by unfold Y0;omega
  clear S1 S2 HO HB hk e1;go_wp2_with fail;obtain⟨Wd,w0,w1,w2⟩:∃Wd:Nat→World,Wd 0=wr.drew∧(Wd 0).setCell ⟨g3,i,none⟩ (.int .i64 di)=Wd 1∧(Wd 1).setCell ⟨g3,k,none⟩ (.int .i64 dk)=Wd 2 :=
   ⟨fun|0=>wr.drew|1=>wr.drew.setCell ⟨g3,i,none⟩ (.int .i64 di)|_=>(wr.drew.setCell ⟨g3,i,none⟩ (.int .i64 di)).setCell ⟨g3,k,none⟩ (.int .i64 dk),rfl,rfl,rfl⟩
  have y0':(Wd 0).cell? ⟨g3,i,none⟩=some (.int .i64 dk):=by rw[w0];exact y0
  have Bu:(Wd 0).cell? ⟨g3,k,none⟩=some (.int .i64 di):=by rw[w0];exact y1
  have f0':(Wd 0).frozen? ⟨g3,i,none⟩=false:=by rw[w0];exact f0
  have Kf:(Wd 1).cell? ⟨g3,k,none⟩=some (.int .i64 di):=by rw[←w1,w0];exact y2
  have f2':(Wd 1).frozen? ⟨g3,k,none⟩=false:=by rw[←w1,w0];exact f2
  have mR:Y0 ((Wd 2).ownsRow w.heap.size 3 1 (.slice (some ⟨g3,0,none⟩) j c3) j ((eD (m/2) j (i+1)).map oT)):=by
   have hh:=HW.o;show (Wd 2).ownsRow w.heap.size 3 1 (.slice (some ⟨g3,0,none⟩) j c3) j ((eD (m/2) j (i+1)).map (fun d:Nat=>Value.int .i64 (d:Int)));rw[←hh,←w2,←w1,w0];exact gQ.o
  have cY:Y0 (Below w.heap.size w (Wd 2)):=by
   unfold Y0;rw[←w2,←w1,w0];exact dV.o
  have W0:=zh w0;clear w0 y0 y1 f0 y2 f2 gQ dV HW;refine t7 [.slice (some ⟨g3,0,none⟩) j c3,.int .i64 i,.slice (some ⟨g3,0,none⟩) j c3,.int .i64 k,.slice (some ⟨g3,0,none⟩) j c3,.int .i64 k,.pointer (some ⟨g3,k,none⟩),.int .i64 di,.slice (some ⟨g3,0,none⟩) j c3,.int .i64 i,.pointer (some ⟨g3,i,none⟩),.int .i64 dk,.pointer (some ⟨g3,i,none⟩),undef,.pointer (some ⟨g3,k,none⟩),undef] Wd [13,15] (by kernel_rfl) (by kernel_rfl) (by kernel_rfl) (by decide) (by rfl) W0.o ?_ ?_
  ·simp only[aY,Act.put,aw,av,au];simp only[qZ];refine⟨?_,?_,?_,?_,?_,?_,?_,?_,?_,?_,?_,?_,?_,?_,?_,?_,trivial⟩
   ·exact .inl ⟨by decide,fun m hm bM=>by go_simp⟩
   ·exact .inl ⟨by decide,fun m hm bM=>by go_simp⟩
   ·exact .inl ⟨by decide,fun m hm bM=>by go_simp⟩
   ·exact .inl ⟨by decide,fun m hm bM=>by go_simp⟩
   ·exact .inl ⟨by decide,fun m hm bM=>by go_simp⟩
   ·exact .inl ⟨by decide,fun m hm bM=>by go_simp⟩
   ·exact .inl ⟨by decide,fun m hm bM=>by go_simp⟩
   ·exact .inl ⟨by decide,fun m hm bM=>by
    have Jt:m=0:=by
     rcases m with _|_|_|m
     ·rfl
     ·exact absurd (Eq.trans (a:=false) (by kernel_rfl) bM) Bool.false_ne_true
     ·exact absurd (Eq.trans (a:=false) (by kernel_rfl) bM) Bool.false_ne_true
     exact absurd hm (by show ¬m+3≤2;omega)
    subst Jt;go_simp⟩
   ·exact .inl ⟨by decide,fun m hm bM=>by go_simp⟩
   ·exact .inl ⟨by decide,fun m hm bM=>by go_simp⟩
   ·exact .inl ⟨by decide,fun m hm bM=>by go_simp⟩
   ·exact .inl ⟨by decide,fun m hm bM=>by
    have Jt:m=0:=by
     rcases m with _|_|_|m
     ·rfl
     ·exact absurd (Eq.trans (a:=false) (by kernel_rfl) bM) Bool.false_ne_true
     ·exact absurd (Eq.trans (a:=false) (by kernel_rfl) bM) Bool.false_ne_true
     exact absurd hm (by show ¬m+3≤2;omega)
    subst Jt;go_simp⟩
   ·exact .inl ⟨by decide,fun m hm bM=>by go_simp⟩
   ·exact .inr ⟨0,rfl,by go_simp⟩
   ·exact .inl ⟨by decide,fun m hm bM=>by go_simp⟩
   exact .inr ⟨1,rfl,by go_simp⟩
  simp only[aY,Act.put,aw,av,au];clear y0' Bu f0' Kf f2' w1 w2;go_wp2_with fail;go_roundw
  case rel=>exact⟨i+1,by omega,by go_num,by rw[Hkm.o],mR,cY⟩
  simp[intOf] <;> omega
 have d1:decide ((i:Int)<(j:Int)-1-(i:Int))=false:=yC (by omega);have hW:eD (m/2) j i=cn (m/2) j:=MV (by omega);have hO:=HO.o;rw[hW] at hO;have hT:=nt false (.slice A3 j c3) (m/2) j wr (j8 hO) (by rw[HLA.o];exact cv (YK _ _));have dV:=zh HB.o;clear hW hO HO HB;go_wp2_with fail;refine hT.mono ?_;rintro e w9 ⟨v9,rfl,fC,tZ⟩;obtain⟨A9,c9,rfl,-⟩:=DgTo.open_ tZ;have UK:=fun W=>lM (false&&decide (m/2≠0)) A9 (ag (m/2)) c9 W
 rw[Bool.false_and] at UK;have fP:=zh tZ;have iW:=zh (dV.o.trans (fC.mono dV.o.size));go_wp2_with fail;go_ret;exact⟨_,rfl,iW.o,fP.o⟩
theorem BI {s t:Bool} {m n:Int} (hs:s=decide (m<0)) (ht:t=decide (n<0)) (my:s≠t) (h:n.natAbs≤m.natAbs):(s&&decide (m.natAbs-n.natAbs≠0))=decide (m+n<0)∧(m+n).natAbs=m.natAbs-n.natAbs:=by
 by_cases h1:m<0
 ·rw[yD h1] at hs;subst hs;have h2:¬n<0:=fun h2=>my (by rw[ht,yD h2]);refine⟨?_,by omega⟩;rw[Bool.true_and,Bool.eq_iff_iff,yP,yP];omega
 rw[yC h1] at hs;subst hs;have h2:n<0:=by
  by_cases h2:n<0
  ·exact h2
  exact absurd (by rw[ht,yC h2]) my
 refine⟨?_,by omega⟩;rw[Bool.false_and,yC (show ¬m+n<0 by omega)]
theorem qzo (s t:Bool) (v u:Value) (m n:Int) (w:World) (hv:BigAt w w.heap.size s v m) (hu:BigAt w w.heap.size t u n) (hm:ag m.natAbs≤1000000) (hn:ag n.natAbs≤1000000) :
  Calls Tryz.prog 254 #[.agg #[.bool s,v],.agg #[.bool t,u]] w (rH w (m+n)):=by
 have HPl:Y0 (∀W,Below w.heap.size w W→Calls Tryz.prog 275 #[v,u] W (sO W (m.natAbs+n.natAbs))):=fun W hb=>zu v u m.natAbs n.natAbs W (DgTo.grow hv.2 hb) (DgTo.grow hu.2 hb) hm hn;have HLa:Y0 (∀W,Below w.heap.size w W→Calls Tryz.prog 251 #[u,v] W fun e w'=>e=.returned (.bool (decide (m.natAbs<n.natAbs)))∧Below W.heap.size W w'):=fun W hb=>lp u v n.natAbs m.natAbs W (DgTo.grow hu.2 hb) (DgTo.grow hv.2 hb)
 have HM1:Y0 (n.natAbs≤m.natAbs→∀W,Below w.heap.size w W→Calls Tryz.prog 277 #[v,u] W (rG W (m.natAbs-n.natAbs) (ag m.natAbs))):=fun h W hb=>qC v u m.natAbs n.natAbs W (DgTo.grow hv.2 hb) (DgTo.grow hu.2 hb) hm h;have Bp:Y0 (m.natAbs≤n.natAbs→∀W,Below w.heap.size w W→Calls Tryz.prog 277 #[u,v] W (rG W (n.natAbs-m.natAbs) (ag n.natAbs))):=fun h W hb=>qC u v n.natAbs m.natAbs W (DgTo.grow hu.2 hb) (DgTo.grow hv.2 hb) hn h
 have hs:=hv.1;have ht:=hu.1;obtain⟨A1,c1,rfl,-,-,-⟩:=hv.2.open_;obtain⟨A2,c2,rfl,-,-,-⟩:=hu.2.open_;clear hv hu;have D0:=((Blk.new w 237 #[.bool s,.slice A1 (ag m.natAbs) c1]).alloc (.cells #[.bool t,.slice A2 (ag n.natAbs) c2] 237)).alloc (.cells #[.bool false,.slice none 0 0] 237);have D1:=(Blk.new (w.alloc (.cells #[.bool s,.slice A1 (ag m.natAbs) c1] 237)) 237 #[.bool t,.slice A2 (ag n.natAbs) c2]).alloc (.cells #[.bool false,.slice none 0 0] 237)
 have D2:=Blk.new ((w.alloc (.cells #[.bool s,.slice A1 (ag m.natAbs) c1] 237)).alloc (.cells #[.bool t,.slice A2 (ag n.natAbs) c2] 237)) 237 #[.bool false,.slice none 0 0];have bE:=(((yB _ w).alloc (yA _) (.cells #[.bool s,.slice A1 (ag m.natAbs) c1] 237)).alloc (by simp) (.cells #[.bool t,.slice A2 (ag n.natAbs) c2] 237)).alloc (by simp;omega) (.cells #[.bool false,.slice none 0 0] 237);rw[yZ] at D1 D2
 rw[yZ] at D2;go_enter Tryz.func254,Tryz.ntmps254;by_cases my:s=t
 ·subst my;have gj:(s==s)=true:=beq_self_eq_true s;have qkL:(m+n).natAbs=m.natAbs+n.natAbs:=by
   by_cases h:m<0
   ·rw[yD h] at hs
    have:n<0:=yG (ht.symm.trans hs);omega
   rw[yC h] at hs
   have:¬n<0:=of_decide_eq_false (ht.symm.trans hs);omega
  have Js:s=decide (m+n<0):=by
   by_cases h:m<0
   ·rw[yD h] at hs
    have:n<0:=yG (ht.symm.trans hs);rw[hs,yD (show m+n<0 by omega)]
   rw[yC h] at hs
   have:¬n<0:=of_decide_eq_false (ht.symm.trans hs);rw[hs,yC (show ¬m+n<0 by omega)]
  have Yn:=zh qkL;have HSg:=zh Js;clear qkL Js hs ht;go_wp2_with (exact zX);generalize ((w.alloc (.cells #[.bool s,.slice A1 (ag m.natAbs) c1] 237)).alloc (.cells #[.bool s,.slice A2 (ag n.natAbs) c2] 237)).alloc (.cells #[.bool false,.slice none 0 0] 237)=W3 at*;have cP:=zh D2;have HB:=zh bE;have x0:=D0.cell 0;have x1:=D0.cell 1;have x2:=D1.cell 1;simp only[aB,aD,aA] at x0 x1 x2;have u0:=YL x0;have u1:=YL x1
  have u2:=YL x2;clear x0 x1 x2 D0 D1 D2 bE;refine af 8 (fun jx=>if jx=6 then some (gDg (m.natAbs+n.natAbs)) else none) (by kernel_rfl) (by kernel_rfl) ?_;simp only[aO,aR,aP,aQ];refine zw 6 ?_;simp only[aO,aR,aP,aQ]
  repeat (go_big_quiet_step (fail))
  refine YE ?_;refine ae rfl rfl (fun w1 ak _=>⟨275,#[.slice A1 (ag m.natAbs) c1,.slice A2 (ag n.natAbs) c2],by go_simp,sE (HPl.o w1 (HB.o.trans (ak.mono HB.o.size)))⟩) ?_;rintro _ ⟨A3,c3,rfl⟩;simp only[Act.put,aw,av,au];refine zw 1 ?_;simp only[aO,aR,aP,aQ]
  repeat (go_big_quiet_step (fail))
  refine YE ?_;refine Zc ?_;intro w8 aT hF;have RA:DgTo w8 w8.heap.size (.slice A3 (ag (m.natAbs+n.natAbs)) c3) (m.natAbs+n.natAbs) (ag (m.natAbs+n.natAbs)):=hF 16;have bp:=zh (cP.o.below aT cP.o.lt);have eG:=zh (HB.o.trans (aT.mono HB.o.size));have H16:=zh RA;have z0:=bp.o.cell 0;have z1:=bp.o.cell 1;have f0:=bp.o.frozen 0;have f1:=bp.o.frozen 1;simp only[aB,aD,aA] at z0 z1;clear hF aT RA u0 u1 u2
  have dT:=zh (uv (n:=m+n) (by omega) eG.o bp.o ⟨HSg.o,by unfold dF;rw[Yn.o];exact H16.o⟩);go_wp2_with fail;obtain⟨p0,p1,He,xY⟩:=dT.o;refine YF (v:=.agg #[.bool s,.slice A3 (ag (m.natAbs+n.natAbs)) c3]) (by simp[results,Tryz.results254,go_sem,p0,p1]) rfl ?_;exact⟨s,_,rfl,He,xY⟩
 have gj:(s==t)=false:=zb my;have HS:=zh hs;have HT:=zh ht;have HST:=zh my;clear hs ht my;go_wp2_with (exact zX);generalize ((w.alloc (.cells #[.bool s,.slice A1 (ag m.natAbs) c1] 237)).alloc (.cells #[.bool t,.slice A2 (ag n.natAbs) c2] 237)).alloc (.cells #[.bool false,.slice none 0 0] 237)=W3 at*;refine (HLa.o _ bE).mono ?_;rintro e w4 ⟨rfl,bP⟩;have fj:=zh (bE.trans (bP.mono bE.size));have s9:=D0.below bP D0.lt
 have lF:=D1.below bP D1.lt;have cP:=zh (D2.below bP D2.lt);clear D0 D1 D2 bE bP;by_cases aI:m.natAbs<n.natAbs
 ·rw[yD aI];have x0:=s9.cell 0;have x1:=s9.cell 1;have x2:=lF.cell 0;have x3:=lF.cell 1;have g0:=s9.frozen 0;have g1:=s9.frozen 1;have g2:=lF.frozen 0;have g3:=lF.frozen 1;simp only[aB,aD,aA] at x0 x1 x2 x3;have HDx:=zh s9;have HDy:=zh lF;clear s9 lF;go_wp2_with (exact zX);have Mf:Y0 ((t&&decide (n.natAbs-m.natAbs≠0))=decide (m+n<0)∧(m+n).natAbs=n.natAbs-m.natAbs):=by
   have h:=BI HT.o HS.o (fun e=>HST.o e.symm) (YG aI);rw[Int.add_comm] at h;exact h
  generalize hw5:(((w4.setCell ⟨w.heap.size,0,none⟩ (.bool t)).setCell ⟨w.heap.size,1,none⟩ (.slice A2 (ag n.natAbs) c2)).setCell ⟨w.heap.size+1,0,none⟩ (.bool s)).setCell ⟨w.heap.size+1,1,none⟩ (.slice A1 (ag m.natAbs) c1)=w5 at*;have hE0:Blk w5 w.heap.size 237 #[.bool t,.slice A2 (ag n.natAbs) c2]:=by
   rw[←hw5];exact (((HDx.o.set_ 0 _).set_ 1 _).far (by simp) _).far (by simp) _
  have kh:Blk w5 (w.heap.size+1) 237 #[.bool s,.slice A1 (ag m.natAbs) c1]:=by
   rw[←hw5];exact (((HDy.o.far (by simp) _).far (by simp) _).set_ 0 _).set_ 1 _
  have qq:Y0 (Blk w5 (w.heap.size+1+1) 237 #[.bool false,.slice none 0 0]):=by
   unfold Y0;rw[←hw5];exact (((cP.o.far (by simp;omega) _).far (by simp;omega) _).far (by simp) _).far (by simp) _
  have dJ:Y0 (Below w.heap.size w w5):=by
   unfold Y0;rw[←hw5];exact (((fj.o.setCell (p:=⟨w.heap.size,0,none⟩) (yA _) _).setCell (p:=⟨w.heap.size,1,none⟩) (yA _) _).setCell (p:=⟨w.heap.size+1,0,none⟩) (YH _) _).setCell (p:=⟨w.heap.size+1,1,none⟩) (YH _) _
  clear x0 x1 x2 x3 g0 g1 g2 g3 hw5 HDx HDy cP fj;have x0:=hE0.cell 0;have x1:=hE0.cell 1;have x2:=kh.cell 1;simp only[aB,aD,aA] at x0 x1 x2;have u0:=YL x0;have u1:=YL x1;have u2:=YL x2;clear x0 x1 x2 hE0 kh;refine af 9 (fun jx=>if jx=6 then some (gDk (n.natAbs-m.natAbs) (ag n.natAbs)) else if jx=8 then some (Ez (m+n)) else none) (by kernel_rfl) (by kernel_rfl) ?_;simp only[aO,aR,aP,aQ];refine zw 6 ?_
  simp only[aO,aR,aP,aQ]
  repeat (go_big_quiet_step (fail))
  refine YE ?_;refine ae rfl rfl (fun w1 ak _=>⟨277,#[.slice A2 (ag n.natAbs) c2,.slice A1 (ag m.natAbs) c1],by go_simp,wn (Bp.o (YG aI) w1 (dJ.o.trans (ak.mono dJ.o.size)))⟩) ?_;rintro _ ⟨A3,c3,rfl⟩;simp only[Act.put,aw,av,au];refine zw 1 ?_;simp only[aO,aR,aP,aQ]
  repeat (go_big_quiet_step (fail))
  refine YE ?_;refine ae rfl rfl (fun w1 ak hk=>⟨276,#[.agg #[.bool t,.slice A3 (ag n.natAbs) c3]],by go_simp,ec ((nt t _ (n.natAbs-m.natAbs) (ag n.natAbs) w1 (hk 32 zk 31 zk) (cv (Nat.sub_le _ _))).mono (fun e w' h=>by
   obtain⟨v',rfl,h1,h2⟩:=h;exact⟨_,v',rfl,h1,Mf.o.1,by unfold dF;rw[Mf.o.2];exact h2⟩))⟩) ?_
  rintro _ ⟨s3,A4,c4,rfl⟩;simp only[Act.put,aw,av,au];refine Zc ?_;intro w8 aT hF;obtain⟨s4,v4,e4,h33⟩:∃s v,Value.agg #[.bool s3,.slice A4 (ag (m+n).natAbs) c4]=.agg #[.bool s,v]∧BigAt w8 w8.heap.size s v (m+n):=hF 33;injection e4 with e4;simp only[Array.mk.injEq,List.cons.injEq,Value.bool.injEq,and_true] at e4;obtain⟨rfl,rfl⟩:=e4;have bp:=zh (qq.o.below aT qq.o.lt);have eG:=zh (dJ.o.trans (aT.mono dJ.o.size))
  have z0:=bp.o.cell 0;have z1:=bp.o.cell 1;have f0:=bp.o.frozen 0;have f1:=bp.o.frozen 1;simp only[aB,aD,aA] at z0 z1;have dT:=zh (uv (n:=m+n) (by omega) eG.o bp.o h33);clear hF aT u0 u1 u2 h33;go_wp2_with fail;obtain⟨p0,p1,He,xY⟩:=dT.o;refine YF (v:=.agg #[.bool s3,.slice A4 (ag (m+n).natAbs) c4]) (by simp[results,Tryz.results254,go_sem,p0,p1]) rfl ?_;exact⟨s3,_,rfl,He,xY⟩
 rw[yC aI];have Mf:=zh (BI HS.o HT.o HST.o (Nat.le_of_not_lt aI));go_wp2_with (exact zX);have x0:=s9.cell 0;have x1:=s9.cell 1;have x2:=lF.cell 1;simp only[aB,aD,aA] at x0 x1 x2;have u0:=YL x0;have u1:=YL x1;have u2:=YL x2;clear x0 x1 x2 s9 lF;refine af 9 (fun jx=>if jx=6 then some (gDk (m.natAbs-n.natAbs) (ag m.natAbs)) else if jx=8 then some (Ez (m+n)) else none) (by kernel_rfl) (by kernel_rfl) ?_
 simp only[aO,aR,aP,aQ];refine zw 6 ?_;simp only[aO,aR,aP,aQ]
 repeat (go_big_quiet_step (fail))
 refine YE ?_;refine ae rfl rfl (fun w1 ak _=>⟨277,#[.slice A1 (ag m.natAbs) c1,.slice A2 (ag n.natAbs) c2],by go_simp,wn (HM1.o (Nat.le_of_not_lt aI) w1 (fj.o.trans (ak.mono fj.o.size)))⟩) ?_;rintro _ ⟨A3,c3,rfl⟩;simp only[Act.put,aw,av,au];refine zw 1 ?_;simp only[aO,aR,aP,aQ]
 repeat (go_big_quiet_step (fail))
 refine YE ?_;refine ae rfl rfl (fun w1 ak hk=>⟨276,#[.agg #[.bool s,.slice A3 (ag m.natAbs) c3]],by go_simp,ec ((nt s _ (m.natAbs-n.natAbs) (ag m.natAbs) w1 (hk 32 zk 31 zk) (cv (Nat.sub_le _ _))).mono (fun e w' h=>by
  obtain⟨v',rfl,h1,h2⟩:=h;exact⟨_,v',rfl,h1,Mf.o.1,by unfold dF;rw[Mf.o.2];exact h2⟩))⟩) ?_
 rintro _ ⟨s3,A4,c4,rfl⟩;simp only[Act.put,aw,av,au];refine Zc ?_;intro w8 aT hF;obtain⟨s4,v4,e4,h33⟩:∃s v,Value.agg #[.bool s3,.slice A4 (ag (m+n).natAbs) c4]=.agg #[.bool s,v]∧BigAt w8 w8.heap.size s v (m+n):=hF 33;injection e4 with e4;simp only[Array.mk.injEq,List.cons.injEq,Value.bool.injEq,and_true] at e4;obtain⟨rfl,rfl⟩:=e4;have bp:=zh (cP.o.below aT cP.o.lt);have eG:=zh (fj.o.trans (aT.mono fj.o.size))
 have z0:=bp.o.cell 0;have z1:=bp.o.cell 1;have f0:=bp.o.frozen 0;have f1:=bp.o.frozen 1;simp only[aB,aD,aA] at z0 z1;have dT:=zh (uv (n:=m+n) (by omega) eG.o bp.o h33);clear hF aT u0 u1 u2 h33;go_wp2_with fail;obtain⟨p0,p1,He,xY⟩:=dT.o;refine YF (v:=.agg #[.bool s3,.slice A4 (ag (m+n).natAbs) c4]) (by simp[results,Tryz.results254,go_sem,p0,p1]) rfl ?_;exact⟨s3,_,rfl,He,xY⟩
theorem Ak (N k:Nat):cW (aH N) k≤N:=by rw[nS];exact Nat.mod_le _ _
theorem pe {N k:Nat} (h:ag N≤k):cW (aH N) k=N:=by rw[nS];exact Nat.mod_eq_of_lt (dx.2 h)
theorem G6 {M N i k cy G:Nat} (hG:G+16777216^(i+k)*cy=cW (aH M) i*N+16777216^i*(aH M i*cW (aH N) k)) (hk:ag N<k):cy=0:=by
 rcases Nat.eq_zero_or_pos cy with h|h
 ·exact h
 exfalso
 have h1:cW (aH M) i*N+16777216^i*(aH M i*cW (aH N) k)≤cW (aH M) (i+1)*N:=by
  rw[←yg];exact Nat.add_le_add_left (Nat.mul_le_mul_left _ (Nat.mul_le_mul_left _ (Ak N k))) _
 have h2:cW (aH M) (i+1)*N<16777216^(i+1)*16777216^ag N:=Nat.mul_lt_mul'' (uf (dK M) _) (je N);rw[←Nat.pow_add] at h2;have h3:16777216^(i+1+ag N)≤16777216^(i+k):=Nat.pow_le_pow_right (by decide) (by omega);have h4:16777216^(i+k)*1≤16777216^(i+k)*cy:=Nat.mul_le_mul_left _ h;omega
theorem Q9 (n:Nat):(madeCells (Value.cells (.int .i64 0)) (n*1)).toList=(List.replicate n 0).map oT:=by
 apply List.ext_getElem
 ·simp[size_madeCells]
 intro i h1 h2;simp[madeCells,Value.cells,Nat.mod_one,oT]
theorem Qx {s t:Bool} {m n:Int} (hs:s=decide (m<0)) (ht:t=decide (n<0)):((!(s==t))&&decide (m.natAbs*n.natAbs≠0))=decide (m*n<0):=by
 subst hs ht;rcases Int.lt_trichotomy m 0 with h|h|h
 ·rcases Int.lt_trichotomy n 0 with k|k|k
  ·rw[yD h,yD k,yC (show ¬m*n<0 from Int.not_lt.2 (Int.le_of_lt (Int.mul_pos_of_neg_of_neg h k)))];rfl
  ·subst k;simp
  rw[yD h,yC (show ¬n<0 by omega),yD (show m*n<0 from Int.mul_neg_of_neg_of_pos h k),yD (Nat.mul_ne_zero (by omega) (by omega):m.natAbs*n.natAbs≠0)];rfl
 ·subst h;simp
 rcases Int.lt_trichotomy n 0 with k|k|k
 ·rw[yC (show ¬m<0 by omega),yD k,yD (show m*n<0 from Int.mul_neg_of_pos_of_neg h k),yD (Nat.mul_ne_zero (by omega) (by omega):m.natAbs*n.natAbs≠0)];rfl
 ·subst k;simp
 rw[yC (show ¬m<0 by omega),yC (show ¬n<0 by omega),yC (show ¬m*n<0 from Int.not_lt.2 (Int.le_of_lt (Int.mul_pos h k)))];rfl
structure PrSt (w wr:World) (g n:Nat) (s t:Bool) (sx sy:Value) (O:List Nat):Prop where
 own:wr.ownsRow w.heap.size 3 1 (.slice (some ⟨g,0,none⟩) n n) n (O.map oT)
 ok:Gok O
 bel:Below w.heap.size w wr
 gw:w.heap.size+3≤g
 d1:Blk wr w.heap.size 237 #[.bool s,sx]
 d2:Blk wr (w.heap.size+1) 237 #[.bool t,sy]
 d3:Blk wr (w.heap.size+1+1) 237 #[.bool false,.slice none 0 0]
section
variable {w wr:World} {g n:Nat} {s t:Bool} {sx sy:Value} {O:List Nat}
theorem PrSt.len (h:PrSt w wr g n s t sx sy O):O.length=n:=by have:=h.own.1;rw[yQ] at this;omega
theorem PrSt.cell (h:PrSt w wr g n s t sx sy O) {i:Nat} (hi:i<n):wr.cell? ⟨g,i,none⟩=some (.int .i64 (dy O i:Nat)):=by
 rw[h.own.cellAt i (by omega),YC,yN (by rw[h.len];exact hi),nX (by rw[h.len];exact hi)];rfl
theorem PrSt.set (h:PrSt w wr g n s t sx sy O) (i x:Nat) (hx:x<16777216):PrSt w (wr.setCell ⟨g,i,none⟩ (.int .i64 (x:Nat))) g n s t sx sy (O.set i x):=by
 have hg:=h.gw;have wR:wr.grownBy (wr.setCell ⟨g,i,none⟩ (.int .i64 (x:Nat))) (some g):=⟨rfl,rfl,rfl,by simp[World.setCell],fun k _ hk=>Below.heap_setCell wr _ _ k (fun e=>hk (by rw[e]))⟩;refine⟨?_,h.ok.set i hx,h.bel.setCell (p:=⟨g,i,none⟩) (by show w.heap.size≤g;omega) _,hg,h.d1.kept wR (by simp;omega),h.d2.kept wR (by simp;omega),h.d3.kept wR (by simp;omega)⟩;rw[List.map_set];exact (h.own.stored i (oT x)).1
theorem PrSt.drewN (h:PrSt w wr g n s t sx sy O) (q:Nat):PrSt w (wr.drewN q) g n s t sx sy O:=⟨fR h.own q,h.ok,Zf h.bel q,h.gw,h.d1.drewN q,h.d2.drewN q,h.d3.drewN q⟩
end
theorem gH (s t:Bool) (v u:Value) (m n:Int) (w:World) (hv:BigAt w w.heap.size s v m) (hu:BigAt w w.heap.size t u n) (hm:ag m.natAbs≤400000) (hn:ag n.natAbs≤400000) :
  Calls Tryz.prog 255 #[.agg #[.bool s,v],.agg #[.bool t,u]] w (rH w (m*n)):=by
 have HSg:=zh (Qx hv.1 hu.1);have Yn:=zh (Int.natAbs_mul m n);obtain⟨-,hv⟩:=hv;obtain⟨-,hu⟩:=hu;generalize m.natAbs=M at*;generalize n.natAbs=N at*;have Kc:Y0 (∀W,Below w.heap.size w W→∀i,i≤maxLen→Calls Tryz.prog 278 #[u,.int .i64 (i:Nat)] W fun e w'=>e=.returned (.int .i64 (aH N i:Nat))∧W=w'):=fun W hb i hi=>o6 u N i W (DgTo.grow hu hb) hi;obtain⟨A1,c1,rfl,kG,qo,dS⟩:=DgTo.open_ hv;obtain⟨A2,c2,rfl,eH,mA,-⟩:=DgTo.open_ hu
 unfold maxLen at qo mA;have TL:=zh dS;obtain⟨la,T6⟩:∃la,la=ag M:=⟨_,rfl⟩;obtain⟨lb,hlb⟩:∃lb,lb=ag N:=⟨_,rfl⟩;have HLA:=zh T6;have HLB:=zh hlb;rw[←T6] at hm kG TL⊢;rw[←hlb] at hn eH Kc⊢;obtain⟨i0,m9,kg,lP,mX⟩:=info_parts jV;have cm:i0.bytes*(la+lb+1)≤281474976710656:=by rw[mX];omega
 obtain⟨B1,B2,B3,bE⟩:=cu w 237 237 237 #[.bool s,.slice A1 la c1] #[.bool t,.slice A2 lb c2] #[.bool false,.slice none 0 0];have cw:=zh B1;have dV:=zh B2;have cY:=zh B3;have HBW:=zh bE;clear hv hu dS T6 hlb B1 B2 B3 bE;go_enter Tryz.func255,Tryz.ntmps255;go_upto_region 1 with fail;generalize Hu:((w.alloc (.cells #[.bool s,.slice A1 la c1] 237)).alloc (.cells #[.bool t,.slice A2 lb c2] 237)).alloc (.cells #[.bool false,.slice none 0 0] 237)=W3 at*
 have xi:W3.heap.size=w.heap.size+1+1+1:=by rw[←Hu];simp
 have mR:=zh xi;clear xi Hu;have x1:=cw.o.cell 1;have x2:=dV.o.cell 1;simp only[aB,aD,aA] at x1 x2;go_upto_region 2 with (at_make;refine wpList_make_full _ rfl _ _ 33 rfl w.heap.size 3 i0 (.int .i64 0) 1 Tryz.underlying33 m9 kg lP .i64 .i64 _ _ (la+lb+1) rfl rfl rfl rfl cm (by unfold maxLen;omega) HBW.o.size ?_;intro w4 bK bA);rw[Q9] at bK;have tu:Y0 (PrSt w w4 (w.heap.size+1+1+1) (la+lb+1) s t (.slice A1 la c1) (.slice A2 lb c2) (List.replicate (la+lb+1) 0)):=by
  rw[mR.o] at bK;exact⟨bK,Gok.zeros _,HBW.o.grown bA HBW.o.size (fun k hk=>by cases hk),by omega,cw.o.kept bA (by simp),dV.o.kept bA (by simp),cY.o.kept bA (by simp)⟩
 have xi:=mR.o;rw[xi];obtain⟨g,hg⟩:=zo (w.heap.size+1+1+1);rw[hg] at tu⊢;have wU:Y0 (cW (dy (List.replicate (la+lb+1) 0)) (la+lb+1)=cW (aH M) 0*N):=by
  unfold Y0;rw[vS];show 0=0*N;rw[Nat.zero_mul]
 have q1:=tu.o.d1.cell 1;simp only[aB,aD,aA] at q1;clear bK bA m9 kg lP cm hg xi mR cw dV cY HBW x1 x2;go_wp2_with fail;go_loopw [6] (fun ix wr=>∃(i:Nat) (O:List Nat),i≤la∧ix=.int .i64 i∧Y0 (PrSt w wr g (la+lb+1) s t (.slice A1 la c1) (.slice A2 lb c2) O)∧Y0 (cW (dy O) (la+lb+1)=cW (aH M) i*N)) (fun ix _=>la-(intOf ix).toNat)
 case atStart=>exact⟨0,_,yI _,rfl,tu,wU⟩
 clear tu wU q1;obtain⟨i,O,hi,rfl,HT,HS⟩:=hrel;have j0:(0:Int)≤(i:Int):=yE _;have q1:=HT.o.d1.cell 1;have q2:=HT.o.d2.cell 1;simp only[aB,aD,aA] at q1 q2;by_cases hix:i<la
 ·have j1:(i:Int)<(la:Int):=by omega
  obtain⟨b1,o1,rfl,ak,La⟩:=TL.o i hix;have HX:Y0 (∀W,Below w.heap.size w W→W.cell? ⟨b1,o1+i,none⟩=some (.int .i64 (aH M i:Nat))):=fun W hb=>(hb.cell (p:=⟨b1,o1+i,none⟩) ak).trans (La i hix);have x0:=dK M i;have tv:Y0 (cW (dy O) (la+lb+1)+16777216^(i+0)*0=cW (aH M) i*N+16777216^i*(aH M i*cW (aH N) 0)):=by
   unfold Y0;rw[HS.o,Nat.mul_zero];show _=_+16777216^i*(aH M i*0);rw[Nat.mul_zero,Nat.mul_zero]
  clear La;go_wp2_with fail;go_loopw [7,8] (fun cx kx wr=>∃(k cy:Nat) (O:List Nat),k≤lb+1∧kx=.int .i64 k∧cx=.int .i64 (cy:Nat)∧cy<16777216∧Y0 (PrSt w wr g (la+lb+1) s t (.slice (some ⟨b1,o1,none⟩) la c1) (.slice A2 lb c2) O)∧Y0 (cW (dy O) (la+lb+1)+16777216^(i+k)*cy=cW (aH M) i*N+16777216^i*(aH M i*cW (aH N) k))) (fun _ kx _=>lb+1-(intOf kx).toNat)
  case atStart=>exact⟨0,0,O,yI _,rfl,rfl,by decide,HT,tv⟩
  clear HT HS tv q1 q2;obtain⟨k,cy,O,hk,rfl,rfl,hcy,HT,HS⟩:=hrel;have tH:lb<k→cy=0:=fun h=>G6 HS.o (by rw[←HLB.o];exact h);have k0:(0:Int)≤(k:Int):=yE _;have TG:(0:Int)≤(cy:Int):=yE _;have c3':(cy:Int)<16777216:=by omega
  have q1:=HT.o.d1.cell 1;have q2:=HT.o.d2.cell 1;simp only[aB,aD,aA] at q1 q2;have oR:(k<lb∨(¬k<lb∧0<cy))∨(¬k<lb∧cy=0):=by omega
  rcases oR with mO|⟨xU,Ew⟩
  ·have aK:k≤lb:=by
    rcases mO with h|⟨h,h2⟩
    ·omega
    rcases Nat.lt_or_ge lb k with h3|h3
    ·have:=tH h3;omega
    exact h3
   have hx:=HX.o wr HT.o.bel;have y0:=dK N k;have z1:=HT.o.cell (show i+k<la+lb+1 by omega);have z2:=HT.o.own.frozenAt (i+k);have o0:dy O (i+k)<16777216:=JG HT.o.ok _;have oW:Y0 (cW (dy (O.set (i+k) ((aH M i*aH N k+dy O (i+k)+cy)%16777216))) (la+lb+1)+16777216^(i+(k+1))*((aH M i*aH N k+dy O (i+k)+cy)/16777216)=cW (aH M) i*N+16777216^i*(aH M i*cW (aH N) (k+1))):=by
    have h:=RE (x:=aH M i) (y:=aH N k) (show i+k<O.length by rw[HT.o.len];omega) HT.o.len HS.o;exact h.trans (RF rfl)
   have H1:=fun q=>pH (Kc.o (wr.drewN q) (Zf HT.o.bel q) k (by unfold maxLen;omega));have aW:=zh fun q=>(HT.o.drewN q).set (i+k) ((aH M i*aH N k+dy O (i+k)+cy)%16777216) (YJ _ (by decide));have d:decide (k<lb)=true∨(decide (k<lb)=false∧decide (0<cy)=true):=mO.elim (fun h=>.inl (yD h)) fun h=>.inr ⟨yC h.1,yD h.2⟩;clear tH mO HX;generalize aH M i=x at*;generalize aH N k=y at*;generalize dy O (i+k)=o at*
   have eN:x*y+o+cy=o+x*y+cy:=by omega
   rw[eN] at oW aW;have x2:(0:Int)≤(x:Int):=yE _;have y2:(0:Int)≤(y:Int):=yE _;have o2:(0:Int)≤(o:Int):=yE _;have xy0:(0:Int)≤(x:Int)*(y:Int):=Int.mul_nonneg x2 y2;have xy1:(x:Int)*(y:Int)≤281474943156225:=by
    have:(x:Int)*(y:Int)≤16777215*16777215:=Int.mul_le_mul (by omega) (by omega) y2 (by decide);omega
   have HMc:Y0 ((o+x*y+cy)/16777216<16777216):=by
    have h1:x*y≤16777215*16777215:=Nat.mul_le_mul (by omega) (by omega);unfold Y0;rw[Nat.div_lt_iff_lt_mul (by decide)];omega
   have v0:IntKind.i64.wrap ((i:Int)+(k:Int))=(i:Int)+(k:Int):=yF _ (by omega);have v1:IntKind.i64.wrap ((x:Int)*(y:Int))=(x:Int)*(y:Int):=yF _ (by omega);have v2:IntKind.i64.wrap ((o:Int)+(x:Int)*(y:Int))=(o:Int)+(x:Int)*(y:Int):=yF _ (by omega);have v3:IntKind.i64.wrap ((o:Int)+(x:Int)*(y:Int)+(cy:Int))=(o:Int)+(x:Int)*(y:Int)+(cy:Int):=yF _ (by omega);have ik0:(0:Int)≤(i:Int)+(k:Int):=by omega
   have ik1:(i:Int)+(k:Int)<(la:Int)+(lb:Int)+1:=by omega
   have ik3:(i:Int)+(k:Int)<((la+lb+1:Nat):Int):=by omega
   have ik2:((i:Int)+(k:Int)).toNat=i+k:=by omega
   clear eN HT HS;rcases d with d1|⟨d1,d2⟩
   all_goals
    go_wp2_with fail;go_quiet ((go_at_call 278;exact H1 _));go_wp2_with fail;go_roundw
    case rel=>exact⟨k+1,(o+x*y+cy)/16777216,_,by omega,by go_num,by go_num,HMc.o,aW.o _,oW⟩
    simp[intOf] <;> omega
  subst Ew;have d1:decide (k<lb)=false:=yC xU;have gQ:Y0 (cW (dy O) (la+lb+1)=cW (aH M) (i+1)*N):=by
   have h:=HS.o;rw[Nat.mul_zero,Nat.add_zero,pe (N:=N) (k:=k) (by rw[←HLB.o];omega)] at h;exact h.trans yg
  have r6:=zh HT.o;clear HT HS tH HX;go_wp2_with fail;go_roundw
  case rel=>exact⟨i+1,_,by omega,by go_num,r6,gQ⟩
  simp[intOf] <;> omega
 obtain rfl:i=la:=by omega
 have hG:gv O=M*N:=by
  have h:=HS.o;rw[pe (by rw[←HLA.o];omega)] at h;unfold gv;rw[HT.o.len];exact h
 have hdg:O=cn (M*N) (i+lb+1):=by
  have h:=KR HT.o.ok;rw[hG,HT.o.len] at h;exact h
 have bO:=HT.o.own;rw[hdg] at bO;have hT:=nt (!(s==t)) (.slice (some ⟨g,0,none⟩) (i+lb+1) (i+lb+1)) (M*N) (i+lb+1) wr (j8 bO) (yH (iy (Nat.le_of_eq HLA.o.symm) (Nat.le_of_eq HLB.o.symm)) (by omega));rw[HSg.o] at hT;have q0:=HT.o.d1.cell 0;have q3:=HT.o.d2.cell 0;simp only[aB,aA] at q0 q3;have eJ:=zh HT.o.d3;have jm:=zh HT.o.bel;clear hG hdg bO HT HS;go_wp2_with fail;refine hT.mono ?_;rintro e w5 ⟨v5,rfl,bf,X5⟩
 obtain⟨A5,c5,rfl,-⟩:=DgTo.open_ X5;have qq:=zh (eJ.o.below bf eJ.o.lt);have dJ:=zh (jm.o.trans (bf.mono jm.o.size));have HV5:Y0 (BigAt w5 w5.heap.size (decide (m*n<0)) (.slice A5 (ag (M*N)) c5) (m*n)):=⟨rfl,by unfold dF;rw[Yn.o];exact X5⟩;have z0:=qq.o.cell 0;have z1:=qq.o.cell 1;have f0:=qq.o.frozen 0;have f1:=qq.o.frozen 1;simp only[aB,aD,aA] at z0 z1;have dT:=zh (uv (n:=m*n) (by omega) dJ.o qq.o HV5.o)
 generalize Js:decide (m*n<0)=sg at*;clear bf X5 HV5 hT eJ jm;go_wp2_with fail;obtain⟨p0,p1,He,xY⟩:=dT.o;refine YF (v:=.agg #[.bool sg,.slice A5 (ag (M*N)) c5]) (by simp[results,Tryz.results255,go_sem,p0,p1]) rfl ?_;exact⟨sg,_,rfl,He,xY⟩
theorem qj (j:Nat):16777216^j=2^(24*j):=by rw[Nat.pow_mul]
theorem EP {K a b t x y:Nat} (h:Twos (16777216^K) a b t x y):t<24*K:=by
 have h1:2^t*1≤2^t*x:=Nat.mul_le_mul_left _ h.x0;have h2:=h.xm;rw[qj] at h2;rw[Nat.mul_one] at h1;exact (Nat.pow_lt_pow_iff_right (a:=2) (by decide)).1 (Nat.lt_of_le_of_lt h1 h2)
theorem Xw {K x:Nat} (hK:K≤300000) (h:x<16777216^K):ag x≤1000000:=yH (jf h) (by omega)
theorem qzq (v u:Value) (a b K:Nat) (w:World) (hv:dF w w.heap.size v a) (hu:dF w w.heap.size u b) (hK:K≤300000) (ha:ag a≤K) (hb:ag b≤K) (Hj:0<a) (gj:0<b) :
  Calls Tryz.prog 257 #[v,u] w (sO w (Nat.gcd a b)):=by
 have HA:=zh hv;have HB:=zh hu;have HK:Y0 (K≤300000):=hK;have HS:Y0 (Twos (16777216^K) a b 0 a b):=⟨Hj,gj,by rw[Nat.pow_zero,Nat.one_mul];exact dx.2 ha,dx.2 hb,by rw[Nat.pow_zero,Nat.one_mul]⟩;clear hv hu hK ha hb Hj gj;go_enter Tryz.func257,Tryz.ntmps257;go_wp2_with fail;go_loopg [0,1,5] a (fun gk va vb tw wr=>∃y t:Nat,tw=.int .i64 t∧Y0 (dF wr wr.heap.size va gk)∧Y0 (dF wr wr.heap.size vb y)∧Y0 (Twos (16777216^K) a b t gk y)∧Below w.heap.size w wr)
 case atStart=>exact⟨b,0,rfl,HA,HB,HS,yB _ _⟩
 clear HA HB HS;obtain⟨y,t,rfl,HA,HB,HS,aG⟩:=hrel;obtain⟨x,rfl⟩:∃x,x=gk:=⟨_,rfl⟩;have ht:t<16000000:=by have:=EP HS.o;have:=HK.o;omega
 go_wp2_with fail;refine (zy _ x _ HA.o).mono ?_;rintro e w3 ⟨rfl,bZ⟩;have wL:=zh (DgTo.grow HA.o bZ);have cY:=zh (DgTo.grow HB.o bZ);have km:=zh (aG.trans (bZ.mono aG.size));clear HA HB aG bZ;by_cases hx:x%2=0
 case' pos=>
  rw[yD hx];go_wp2_with fail;refine (zy _ y _ cY.o).mono ?_;rintro e w4 ⟨rfl,bP⟩;have HA4:=zh (DgTo.grow wL.o bP);have fj:=zh (DgTo.grow cY.o bP);have Bd:=zh (km.o.trans (bP.mono km.o.size));clear wL cY km bP;by_cases hy:y%2=0
  case' pos=>
   rw[yD hy];have gQ:=zh (HS.o.half hx hy);clear hx hy;go_wp2_with fail;refine (zx _ x _ HA4.o (Xw HK.o HS.o.xlt)).mono ?_;rintro e w5 ⟨va,rfl,bf,R6⟩;have Mh:=zh R6;have dJ:=zh (DgTo.grow fj.o bf);clear R6;go_wp2_with fail;refine (zx _ y _ dJ.o (Xw HK.o HS.o.ym)).mono ?_;rintro e w6 ⟨vb,rfl,fk,XG⟩;have HA6:=zh (DgTo.grow Mh.o fk);have ni:=zh XG;have jm:=zh (Bd.o.trans ((bf.trans (fk.mono bf.size)).mono Bd.o.size))
   have aI:Y0 (x/2<x):=Nat.div_lt_self HS.o.x0 (by decide);clear XG bf fk Mh dJ HA4 fj Bd HS;go_wp2_with fail;go_roundg (x/2)
   case rel=>exact⟨y/2,t+1,by go_num,HA6,ni,gQ,jm.o⟩
   exact aI.o
  case' neg=>
   rw[yC hy];have HT:Y0 (Stn (16777216^K) (Nat.gcd x y) x y):=⟨HS.o.y0,HS.o.xlt,HS.o.ym,rfl,.inr (by omega)⟩;clear hx hy;go_wp2_with fail
 case' neg=>
  rw[yC hx];have HT:Y0 (Stn (16777216^K) (Nat.gcd x y) x y):=⟨HS.o.y0,HS.o.xlt,HS.o.ym,rfl,.inl (by omega)⟩;obtain⟨w4,rfl⟩:∃w4:World,w4=w3:=⟨_,rfl⟩;have HA4:=zh wL.o;have fj:=zh cY.o;have Bd:=zh km.o;clear hx wL cY km;go_wp2_with fail
 all_goals
  have HF:Y0 (2^t*Nat.gcd x y<16777216^K):=HS.o.glt;have HG:Y0 (Nat.gcd a b=2^t*Nat.gcd x y):=HS.o.g;obtain⟨G,Ma⟩:∃G,Y0 (Nat.gcd x y=G):=⟨_,rfl⟩;rw[Ma.o] at HF HG HT;clear HS;go_loopg [0,1] (x+y) (fun gk va vb wr=>∃x2 y2:Nat,x2+y2=gk∧Y0 (dF wr wr.heap.size va x2)∧Y0 (dF wr wr.heap.size vb y2)∧Y0 (Stn (16777216^K) G x2 y2)∧Below w.heap.size w wr)
  case atStart=>exact⟨x,y,rfl,HA4,fj,HT,Bd.o⟩
  clear HA4 fj HT Bd Ma;obtain⟨x2,y2,rfl,HA,HB,HS,aG⟩:=hrel;obtain⟨A,c,rfl,kG,eH,-⟩:=DgTo.open_ HA.o;obtain⟨A',c',rfl,-,-,-⟩:=DgTo.open_ HB.o;unfold maxLen at eH;rcases Nat.eq_zero_or_pos x2 with h0|h0
  ·subst h0;have hz:ag 0=0:=gM;have XV:Y0 (y2=G):=by
    unfold Y0;rw[←HS.o.g,Nat.gcd_zero_left]
   rw[hz];clear HS HA hz kG;rw[XV.o] at HB⊢;clear XV;go_wp2_with fail;go_loopw [1,6] (fun vb jx wr=>∃j:Nat,j≤t∧jx=.int .i64 j∧Y0 (dF wr wr.heap.size vb (2^j*G))∧Below w.heap.size w wr) (fun _ jx _=>t-(intOf jx).toNat)
   case atStart=>exact⟨0,yI _,rfl,by rw[Nat.pow_zero,Nat.one_mul];exact HB,aG⟩
   clear HB aG;obtain⟨j,hj,rfl,HB,aG⟩:=hrel;by_cases hjt:j<t
   ·have HL:Y0 (2^j*G<16777216^K):=Nat.lt_of_le_of_lt (Nat.mul_le_mul_right _ (Nat.pow_le_pow_right (by decide) hj)) HF.o;have HE:Y0 (2^j*G+2^j*G=2^(j+1)*G):=by unfold Y0;rw[Nat.pow_succ,Nat.mul_assoc,Nat.mul_left_comm];omega
    go_wp2_with fail;refine (zu _ _ (2^j*G) (2^j*G) _ HB.o HB.o (Xw HK.o HL.o) (Xw HK.o HL.o)).mono ?_;rintro e w5 ⟨vb5,rfl,bf,Lm⟩;rw[HE.o] at Lm;have dJ:=zh Lm;have jm:=zh (aG.trans (bf.mono aG.size));clear bf Lm HE HL HB aG;go_wp2_with fail;go_roundw
    case rel=>exact⟨j+1,by omega,by go_num,dJ,jm.o⟩
    simp[intOf] <;> omega
   obtain rfl:j=t:=by omega
   go_wp2_with fail;go_ret;exact⟨_,rfl,aG,by rw[HG.o];exact HB.o⟩
  have hp:0<ag x2:=Nat.pos_of_ne_zero fun e=>by have:=nV.1 e;omega
  have dp:decide (0<ag x2)=true:=yD hp;have H0:=zh h0;clear h0;go_wp2_with fail;clear hp dp kG eH;go_loopg [0] x2 (fun gk va wr=>Y0 (dF wr wr.heap.size va gk)∧Y0 (dF wr wr.heap.size (.slice A' (ag y2) c') y2)∧Y0 (Stn (16777216^K) G gk y2)∧Y0 (0<gk∧gk≤x2)∧Below w.heap.size w wr)
  case atStart=>exact⟨HA,HB,HS,⟨H0.o,yA _⟩,aG⟩
  clear HA HB HS H0 aG;obtain⟨HA,HB,HS,HR,aG⟩:=hrel;obtain⟨x4,rfl⟩:∃x4,x4=gk:=⟨_,rfl⟩;go_wp2_with fail;refine (zy _ x4 _ HA.o).mono ?_;rintro e w3 ⟨rfl,bZ⟩;have wL:=zh (DgTo.grow HA.o bZ);have cY:=zh (DgTo.grow HB.o bZ);have km:=zh (aG.trans (bZ.mono aG.size));clear HA HB aG bZ;by_cases nM:x4%2=0
  ·rw[yD nM];have eP:=zh (HS.o.left nM);have ou:Y0 (0<x4/2∧x4/2≤x2):=by have:=HR.o;unfold Y0;omega
   have JZ:Y0 (x4/2<x4):=Nat.div_lt_self HR.o.1 (by decide);clear nM;go_wp2_with fail;refine (zx _ x4 _ wL.o (Xw HK.o HS.o.xm)).mono ?_;rintro e w5 ⟨va5,rfl,bf,R6⟩;have Mh:=zh R6;have dJ:=zh (DgTo.grow cY.o bf);have jm:=zh (km.o.trans (bf.mono km.o.size));clear bf R6 cY km wL HS HR;go_wp2_with fail;go_roundg (x4/2)
   case rel=>exact⟨Mh,dJ,eP,ou,jm.o⟩
   exact JZ.o
  rw[yC nM];have Ta:Y0 (x4%2=1):=by unfold Y0;omega
  clear nM;obtain⟨A4,c4,e4,-,-,-⟩:=DgTo.open_ wL.o;rw[e4] at wL⊢;clear e4;go_wp2_with fail;go_loopg [1] y2 (fun gk vb wr=>Y0 (dF wr wr.heap.size (.slice A4 (ag x4) c4) x4)∧Y0 (dF wr wr.heap.size vb gk)∧Y0 (Stn (16777216^K) G x4 gk)∧Y0 (gk≤y2)∧Below w.heap.size w wr)
  case atStart=>exact⟨wL,cY,HS,yA _,km.o⟩
  clear wL cY HS km;obtain⟨HA,HB,HS,HY,aG⟩:=hrel;obtain⟨y4,rfl⟩:∃y4,y4=gk:=⟨_,rfl⟩;go_wp2_with fail;refine (zy _ y4 _ HB.o).mono ?_;rintro e w3 ⟨rfl,bZ⟩;have wL:=zh (DgTo.grow HA.o bZ);have cY:=zh (DgTo.grow HB.o bZ);have km:=zh (aG.trans (bZ.mono aG.size));clear HA HB aG bZ;by_cases nM:y4%2=0
  ·rw[yD nM];have eP:=zh (HS.o.right Ta.o nM);have HY5:Y0 (y4/2≤y2):=by have:=HY.o;unfold Y0;omega
   have JZ:Y0 (y4/2<y4):=Nat.div_lt_self HS.o.y0 (by decide);clear nM;go_wp2_with fail;refine (zx _ y4 _ cY.o (Xw HK.o HS.o.ym)).mono ?_;rintro e w5 ⟨vb5,rfl,bf,Lm⟩;have dJ:=zh Lm;have Mh:=zh (DgTo.grow wL.o bf);have jm:=zh (km.o.trans (bf.mono km.o.size));clear bf Lm cY km wL HS HY;go_wp2_with fail;go_roundg (y4/2)
   case rel=>exact⟨Mh,dJ,eP,HY5,jm.o⟩
   exact JZ.o
  rw[yC nM];have HOy:Y0 (y4%2=1):=by unfold Y0;omega
  clear nM;go_wp2_with fail;refine (lp _ _ y4 x4 _ cY.o wL.o).mono ?_;rintro e w7 ⟨rfl,gu⟩;have Tq:=zh (DgTo.grow wL.o gu);have rF:=zh (DgTo.grow cY.o gu);have jm:=zh (km.o.trans (gu.mono km.o.size));clear wL cY km gu;by_cases aI:x4<y4
  ·rw[yD aI];have qn:=zh (YG aI);have dU:=zh ((HS.o.swap Ta.o).diff Ta.o (YG aI));have HM:Y0 (y4-x4+x4<x2+y2):=by have:=HR.o;have:=HY.o;unfold Y0;omega
   clear aI;go_wp2_with fail;refine (qC _ _ y4 x4 _ rF.o Tq.o (Xw HK.o HS.o.ym) qn.o).mono ?_;rintro e w8 ⟨v8,rfl,aT,yc⟩;obtain⟨A8,c8,rfl,-,-,-⟩:=DgTo.open_ yc;have pj:=zh yc;have HA8:=zh (DgTo.grow Tq.o aT);have eG:=zh (jm.o.trans (aT.mono jm.o.size));clear aT yc Tq rF jm HS;go_wp2_with fail;refine (nt false _ (y4-x4) (ag y4) _ pj.o (cv (Nat.sub_le _ _))).mono ?_;rintro e w9 ⟨v9,rfl,fC,tZ⟩;obtain⟨A9,c9,rfl,-,-,-⟩:=DgTo.open_ tZ
   have UK:=fun W=>lM (false&&decide (y4-x4≠0)) A9 (ag (y4-x4)) c9 W;rw[Bool.false_and] at UK;have fP:=zh tZ;have Wc:=zh (DgTo.grow HA8.o fC);have iW:=zh (eG.o.trans (fC.mono eG.o.size));clear tZ fC pj HA8 eG;go_wp2_with fail;go_roundg (y4-x4+x4)
   case rel=>exact⟨y4-x4,x4,rfl,fP,Wc,dU,iW.o⟩
   exact HM.o
  rw[yC aI];have qn:=zh (Nat.not_lt.1 aI);have dU:=zh (HS.o.diff HOy.o (Nat.not_lt.1 aI));have HM:Y0 (x4-y4+y4<x2+y2):=by have:=HR.o;have:=HY.o;have:=HS.o.y0;unfold Y0;omega
  clear aI;go_wp2_with fail;refine (qC _ _ x4 y4 _ Tq.o rF.o (Xw HK.o HS.o.xm) qn.o).mono ?_;rintro e w8 ⟨v8,rfl,aT,yc⟩;obtain⟨A8,c8,rfl,-,-,-⟩:=DgTo.open_ yc;have pj:=zh yc;have eG:=zh (DgTo.grow rF.o aT);have Bc:=zh (jm.o.trans (aT.mono jm.o.size));clear aT yc Tq rF jm HS;go_wp2_with fail;refine (nt false _ (x4-y4) (ag x4) _ pj.o (cv (Nat.sub_le _ _))).mono ?_;rintro e w9 ⟨v9,rfl,fC,tZ⟩;obtain⟨A9,c9,rfl,-,-,-⟩:=DgTo.open_ tZ
  have UK:=fun W=>lM (false&&decide (x4-y4≠0)) A9 (ag (x4-y4)) c9 W;rw[Bool.false_and] at UK;have fP:=zh tZ;have iW:=zh (DgTo.grow eG.o fC);have vwH:=zh (Bc.o.trans (fC.mono Bc.o.size));clear tZ fC pj eG Bc;go_wp2_with fail;go_roundg (x4-y4+y4)
  case rel=>exact⟨x4-y4,y4,rfl,fP,iW,dU,vwH.o⟩
  exact HM.o
