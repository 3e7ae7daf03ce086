/- Lemmas. -/
import Derived.Deep.Cut
import Derived.RangeFuncBox
import Derived.Test.YtfhmbechennkbaaGreatDoorC2
import Derived.Test.YtfhmbechennkbaaGreatDoorR1
namespace Go.Proofs.YtfhmbechennkbaaGreatDoor
set_option maxRecDepth 100000
set_option maxHeartbeats 40000000
open Go.RowKit Go.Shelf
theorem mq (b:Bool) (A:Option Addr) (l c:Nat) (w:World):(Instr.field 173 (.agg #[.bool b,.slice A l c]) 1).run Tryz.prog w = .ok (.slice A l c) w:=by kernel_rfl
def hiN (m i:Nat):Nat:=m / 16777216 ^ i % 2
theorem qxQ (m i:Nat):(ay m i+hiN m (i+1)*16777216) / 2=ay (m / 2) i:=WH m i
theorem qqe (m i:Nat):(ay m i+hiN m (i+1)*16777216) % 2=hiN m i:=PG m i
theorem qvh (m i:Nat):hiN m i≤1:=Nat.le_of_lt_succ (Nat.mod_lt _ (by decide))
theorem qxP (m:Nat):hiN m (aj m)=0:=by unfold hiN;rw[Nat.div_eq_of_lt (jD m)]
theorem lY {w:World} {B e s n:Nat} {v:Value} {L:List Value} (h:w.ownsRow B e s v n L):∃ A c,v = .slice A n c:=by
 rcases h.2 with⟨rfl,rfl⟩ | ⟨g,cap,cur,rfl,_⟩
 ·exact⟨none,0,rfl⟩
 exact⟨_,cap,rfl⟩
theorem OX {w:World} {B e s n c:Nat} {A:Option Addr} {L:List Value} (h:w.ownsRow B e s (.slice A n c) n L) (hn:0<n):∃ g,A=some ⟨g,0,none⟩:=by
 rcases h.2 with⟨_,e0⟩ | ⟨g,cap,cur,e0,_⟩
 ·omega
 injection e0 with e1 _ _
 exact⟨g,e1⟩
def oR (x la j:Nat):List Nat:=(List.range j).map fun t=>ay x (la-1-t)
def eD (x la i:Nat):List Nat:=(List.range la).map fun t=>if t<i∨la-1-t<i then ay x t else ay x (la-1-t)
theorem Ju (x la j:Nat):oR x la (j+1)=oR x la j++[ay x (la-1-j)]:=by unfold oR;rw[List.range_succ,List.map_append];rfl
theorem Oz (x la:Nat):eD x la 0=oR x la la:=by
 unfold eD oR
 refine List.map_congr_left fun t _=>?_
 rw[if_neg (by omega)]
theorem Rr {x la i:Nat} (h:la≤2*i+1):eD x la i=cd x la:=by
 unfold eD cd
 refine List.map_congr_left fun t ht=>?_
 rw[List.mem_range] at ht
 split
 ·rfl
 rw[show la-1-t=t by omega]
theorem rD {x la i t:Nat} (h:t<la):(eD x la i)[t]? = some (if t<i∨la-1-t<i then ay x t else ay x (la-1-t)):=by
 unfold eD
 rw[YD,List.getElem?_range h]
 rfl
theorem O0 {x la i:Nat} (h:2*i+1<la):((eD x la i).set i (ay x i)).set (la-1-i) (ay x (la-1-i))=eD x la (i+1):=by
 refine List.ext_getElem? fun t=>?_
 by_cases ht:t<la
 ·have hl:(eD x la i).length=la:=by unfold eD;rw[List.length_map,List.length_range]
  rw[List.getElem?_set,List.getElem?_set,rD ht,rD ht]
  by_cases h1:la-1-i=t
  ·rw[if_pos h1,if_pos (by rw[List.length_set,hl];omega),if_pos (by omega),h1]
  rw[if_neg h1]
  by_cases h2:i=t
  ·rw[if_pos h2,if_pos (by rw[hl];omega),if_pos (by omega),h2]
  rw[if_neg h2]
  by_cases h3:t<i∨la-1-t<i
  ·rw[if_pos h3,if_pos (by omega)]
  rw[if_neg h3,if_neg (by omega)]
 have hl:(eD x la i).length=la:=by unfold eD;rw[List.length_map,List.length_range]
 have rW:(eD x la (i+1)).length=la:=by unfold eD;rw[List.length_map,List.length_range]
 rw[List.getElem?_eq_none (by rw[List.length_set,List.length_set,hl];omega),List.getElem?_eq_none (by rw[rW];omega)]
theorem LS {g cy q r:Nat} (h1:(g+cy*16777216) / 2=q) (h2:(g+cy*16777216) % 2=r) (hg:g<16777216) (hc:cy≤1) :
  ∃ qd rd:Int,qd=(q:Int)∧rd=(r:Int)∧((g:Int)+(cy:Int)*16777216).tdiv 2=qd∧((g:Int)+(cy:Int)*16777216).tmod 2=rd∧((g:Int)+(cy:Int)*16777216) / 2=qd∧((g:Int)+(cy:Int)*16777216) % 2=rd∧IntKind.i64.wrap qd=qd:=by
 have h0:(0:Int)≤(g:Int)+(cy:Int)*16777216:=by omega
 have e1:((g:Int)+(cy:Int)*16777216) / 2=(q:Int):=by omega
 have e2:((g:Int)+(cy:Int)*16777216) % 2=(r:Int):=by omega
 exact⟨q,r,rfl,rfl,by rw[Int.tdiv_eq_ediv_of_nonneg h0,e1],by rw[Int.tmod_eq_emod_of_nonneg h0,e2],e1,e2,yF _ (by omega)⟩
theorem Eo (v:Value) (m:Nat) (w:World) (hv:dI w w.heap.size v m) (hm:aj m≤1000000) :
  Calls Tryz.prog 210 #[v] w (tV w (m / 2)):=by
 obtain⟨A1,c1,rfl,gC,jo,bn⟩:=hv.open_
 have Z1:=zh bn
 obtain⟨la,YW⟩:∃ la,la=aj m:=⟨_,rfl⟩
 have HLA:=zh YW
 rw[← YW] at gC hm Z1 ⊢
 have v0:IntKind.i64.wrap ((la:Int)-1)=(la:Int)-1:=yF _ (by omega)
 clear hv bn YW
 go_enter Tryz.func210,Tryz.ntmps210
 go_wp2_with fail
 go_loopw [5,4,3] (fun ix cx ox wr=>∃ j:Nat,j≤la∧ix = .int .i64 ((la:Int)-1-j)∧cx = .int .i64 ((hiN m (la-j):Nat):Int)∧Y0 (wr.ownsRow w.heap.size 3 1 ox j ((oR (m / 2) la j).map qc))∧Y0 (Below w.heap.size w wr)) (fun ix _ _ _=>(intOf ix+1).toNat)
 case atStart=>exact⟨0,yI _,by simp,by rw[Nat.sub_zero,HLA.o,qxP];rfl,yJ _ _ _ _,yB _ _⟩
 obtain⟨j,hj,rfl,rfl,HO,HB⟩:=hrel
 by_cases aw:j<la
 ·obtain⟨i,hi⟩:∃ i,la=i+1+j:=⟨la-1-j,by omega⟩
  obtain⟨b1,o1,rfl,ao,cW⟩:=Z1.o i (by omega)
  have y1:=(HB.o.cell (p:=⟨b1,o1+i,none⟩) ao).trans (cW i (by omega))
  have e0:(la:Int)-1-(j:Int)=(i:Int):=by omega
  rw[e0,show la-j=i+1 by omega]
  have HH:=zh (qxQ m i)
  have HR:=zh (qqe m i)
  have hg:=dO m i
  have dr:=qvh m (i+1)
  clear cW e0
  generalize ay m i=g at *
  generalize hiN m (i+1)=cy at *
  have i0:(0:Int)≤(i:Int):=yE _
  have i1:(i:Int)<(la:Int):=by omega
  have v1:IntKind.i64.wrap ((cy:Int)*16777216)=(cy:Int)*16777216:=yF _ (by omega)
  have v2:IntKind.i64.wrap ((g:Int)+(cy:Int)*16777216)=(g:Int)+(cy:Int)*16777216:=yF _ (by omega)
  have v3:IntKind.i64.wrap ((i:Int)-1)=(i:Int)-1:=yF _ (by omega)
  have FB:=HO.o
  have dK:=HB.o.size
  have HP:Y0 (∀ (v':Value) (w1:World),w1.ownsRow w.heap.size 3 1 v' (j+1) ((oR (m / 2) la j).map qc++[.int .i64 ((ay (m / 2) i:Nat):Int)])→w1.ownsRow w.heap.size 3 1 v' (j+1) ((oR (m / 2) la (j+1)).map qc)):=fun v' w1 h=>by
   rw[Ju,yS,show la-1-j=i by omega]
   exact h
  obtain⟨qd,rd,hqd,F8,hq,hr,hq2,hr2,v4⟩:=LS HH.o HR.o hg dr
  have HRD:=zh F8
  rw[← hqd] at HP
  have Hi:=zh hi
  have hii:i<la:=by omega
  have hjm:(la:Int)-1-((j+1:Nat):Int)=(i:Int)-1:=by omega
  have Hjm:=zh hjm
  clear HH HR hqd F8 hi hjm
  go_wp2_with (at_builtin;refine cA _ rfl (.tmp 23) (.tmp 26) 22 rfl w.heap.size 3 kV Tryz.underlying22 rfl _ j _ rfl FB (.int .i64 qd) rfl rfl (by unfold maxLen;omega) (by omega) dK ?_;intro g4 cap w4 bh bq vB jA;have dU:=zh (HB.o.grown bq HB.o.size (fun k hk=>(HO.o.lt k hk).1));have qo:=zh (HP.o _ _ bh);clear bh bq jA)
  clear FB
  go_roundw
  case rel=>exact⟨j+1,by omega,by rw[Hjm.o],by rw[show la-(j+1)=i by have:=Hi.o;omega,← HRD.o],qo,dU⟩
  simp[intOf] <;> omega
 obtain rfl:j=la:=by omega
 have qxO:(j:Int)-1-(j:Int) = -1:=by omega
 rw[qxO]
 clear qxO
 have QA:=zh HB.o
 obtain⟨A3,c3,rfl⟩:=lY HO.o
 have hO0:=HO.o
 rw[← Oz] at hO0
 have HO':=zh hO0
 clear hO0
 generalize hiN m (j-j)=cy
 clear HO HB Z1
 go_wp2_with fail
 go_loopw [7,8] (fun ix kx wq=>∃ i:Nat,2*i≤j+1∧ix = .int .i64 i∧kx = .int .i64 ((j:Int)-1-i)∧Y0 (wq.ownsRow w.heap.size 3 1 (.slice A3 j c3) j ((eD (m / 2) j i).map qc))∧Y0 (Below w.heap.size w wq)) (fun ix _ _=>j-(intOf ix).toNat)
 case atStart=>exact⟨0,by omega,rfl,by simp,HO',QA⟩
 clear HO' QA
 obtain⟨i,hi,rfl,rfl,HO,HB⟩:=hrel
 by_cases aw:2*i+1<j
 ·obtain⟨k,hk⟩:∃ k:Nat,j=k+1+i:=⟨j-1-i,by omega⟩
  have e1:(j:Int)-1-(i:Int)=(k:Int):=by omega
  rw[e1]
  have d1:decide (i<k)=true:=yD (by omega)
  obtain⟨g3,rfl⟩:=OX HO.o (by omega)
  have rk:i<j:=by omega
  have aB:k<j:=by omega
  have y0:=HO.o.cellAt i (by omega)
  have y1:=HO.o.cellAt k (by omega)
  rw[YD,rD rk,if_neg (by omega),show j-1-i=k by omega] at y0
  rw[YD,rD aB,if_neg (by omega),show j-1-k=i by omega] at y1
  have f0:=HO.o.frozenAt i
  have S1:=(HO.o.stored i (qc (ay (m / 2) i))).1
  have S2:=S1.stored k (qc (ay (m / 2) k))
  have y2:=S1.cellAt k (by omega)
  have f2:=S1.frozenAt k
  rw[List.getElem?_set_ne (by omega),YD,rD aB,if_neg (by omega),show j-1-k=i by omega] at y2
  have HW:Y0 ((((eD (m / 2) j i).map qc).set i (qc (ay (m / 2) i))).set k (qc (ay (m / 2) k))=(eD (m / 2) j (i+1)).map qc):=by
   unfold Y0
   rw[← O0 aw,show j-1-i=k by omega,List.map_set,List.map_set]
  have gx:=zh (gj S2.1 1)
  have bK:=zh (((HB.o.setCell (p:=⟨g3,i,none⟩) (by show w.heap.size≤g3;exact (HO.o.lt g3 (by simp[Value.ownBlock])).1) (qc (ay (m / 2) i))).setCell (p:=⟨g3,k,none⟩) (by show w.heap.size≤g3;exact (HO.o.lt g3 (by simp[Value.ownBlock])).1) (qc (ay (m / 2) k))).drew)
  unfold qc at *
  simp only[Option.map_some] at y0 y1 y2
  generalize ((ay (m / 2) i:Nat):Int)=di at *
  generalize ((ay (m / 2) k:Nat):Int)=dk at *
  have i0:(0:Int)≤(i:Int):=yE _
  have i1:(i:Int)<(j:Int):=by omega
  have k0:(0:Int)≤(k:Int):=yE _
  have k1:(k:Int)<(j:Int):=by omega
  have v3:IntKind.i64.wrap ((k:Int)-1)=(k:Int)-1:=yF _ (by omega)
  have Hk:=zh hk
  have Hkm:Y0 ((j:Int)-1-((i+1:Nat):Int)=(k:Int)-1):=by unfold Y0;omega
  clear S1 S2 HO HB hk e1
  go_wp2_with fail
  obtain⟨Wd,w0,w1,w2⟩:∃ Wd:Nat→World,Wd 0=wr.drew∧(Wd 0).setCell ⟨g3,i,none⟩ (.int .i64 di)=Wd 1∧(Wd 1).setCell ⟨g3,k,none⟩ (.int .i64 dk)=Wd 2 :=
   ⟨fun | 0=>wr.drew | 1=>wr.drew.setCell ⟨g3,i,none⟩ (.int .i64 di) | _=>(wr.drew.setCell ⟨g3,i,none⟩ (.int .i64 di)).setCell ⟨g3,k,none⟩ (.int .i64 dk),rfl,rfl,rfl⟩
  have y0':(Wd 0).cell? ⟨g3,i,none⟩=some (.int .i64 dk):=by rw[w0];exact y0
  have y1':(Wd 0).cell? ⟨g3,k,none⟩=some (.int .i64 di):=by rw[w0];exact y1
  have f0':(Wd 0).frozen? ⟨g3,i,none⟩=false:=by rw[w0];exact f0
  have y2':(Wd 1).cell? ⟨g3,k,none⟩=some (.int .i64 di):=by rw[← w1,w0];exact y2
  have f2':(Wd 1).frozen? ⟨g3,k,none⟩=false:=by rw[← w1,w0];exact f2
  have jS:Y0 ((Wd 2).ownsRow w.heap.size 3 1 (.slice (some ⟨g3,0,none⟩) j c3) j ((eD (m / 2) j (i+1)).map qc)):=by
   have hh:=HW.o
   show (Wd 2).ownsRow w.heap.size 3 1 (.slice (some ⟨g3,0,none⟩) j c3) j ((eD (m / 2) j (i+1)).map (fun d:Nat=>Value.int .i64 (d:Int)))
   rw[← hh,← w2,← w1,w0]
   exact gx.o
  have bY:Y0 (Below w.heap.size w (Wd 2)):=by
   unfold Y0
   rw[← w2,← w1,w0]
   exact bK.o
  have W0:=zh w0
  clear w0 y0 y1 f0 y2 f2 gx bK HW
  refine uQ [.slice (some ⟨g3,0,none⟩) j c3,.int .i64 i,.slice (some ⟨g3,0,none⟩) j c3,.int .i64 k,.slice (some ⟨g3,0,none⟩) j c3,.int .i64 k,.pointer (some ⟨g3,k,none⟩),.int .i64 di,.slice (some ⟨g3,0,none⟩) j c3,.int .i64 i,.pointer (some ⟨g3,i,none⟩),.int .i64 dk,.pointer (some ⟨g3,i,none⟩),undef,.pointer (some ⟨g3,k,none⟩),undef] Wd [13,15] (by kernel_rfl) (by kernel_rfl) (by kernel_rfl) (by decide) (by rfl) W0.o ?_ ?_
  ·simp only[cj,Act.put,aJ,aI,aH]
   simp only[sh]
   refine⟨?_,?_,?_,?_,?_,?_,?_,?_,?_,?_,?_,?_,?_,?_,?_,?_,trivial⟩
   ·exact .inl ⟨by decide,fun m hm aK=>by go_simp⟩
   ·exact .inl ⟨by decide,fun m hm aK=>by go_simp⟩
   ·exact .inl ⟨by decide,fun m hm aK=>by go_simp⟩
   ·exact .inl ⟨by decide,fun m hm aK=>by go_simp⟩
   ·exact .inl ⟨by decide,fun m hm aK=>by go_simp⟩
   ·exact .inl ⟨by decide,fun m hm aK=>by go_simp⟩
   ·exact .inl ⟨by decide,fun m hm aK=>by go_simp⟩
   ·exact .inl ⟨by decide,fun m hm aK=>by
    have hm0:m=0:=by
     rcases m with _ | _ | _ | m
     ·rfl
     ·exact absurd (Eq.trans (a:=false) (by kernel_rfl) aK) Bool.false_ne_true
     ·exact absurd (Eq.trans (a:=false) (by kernel_rfl) aK) Bool.false_ne_true
     exact absurd hm (by show ¬ m+3≤2;omega)
    subst hm0
    go_simp⟩
   ·exact .inl ⟨by decide,fun m hm aK=>by go_simp⟩
   ·exact .inl ⟨by decide,fun m hm aK=>by go_simp⟩
   ·exact .inl ⟨by decide,fun m hm aK=>by go_simp⟩
   ·exact .inl ⟨by decide,fun m hm aK=>by
    have hm0:m=0:=by
     rcases m with _ | _ | _ | m
     ·rfl
     ·exact absurd (Eq.trans (a:=false) (by kernel_rfl) aK) Bool.false_ne_true
     ·exact absurd (Eq.trans (a:=false) (by kernel_rfl) aK) Bool.false_ne_true
     exact absurd hm (by show ¬ m+3≤2;omega)
    subst hm0
    go_simp⟩
   ·exact .inl ⟨by decide,fun m hm aK=>by go_simp⟩
   ·exact .inr ⟨0,rfl,by go_simp⟩
   ·exact .inl ⟨by decide,fun m hm aK=>by go_simp⟩
   exact .inr ⟨1,rfl,by go_simp⟩
  simp only[cj,Act.put,aJ,aI,aH]
  clear y0' y1' f0' y2' f2' w1 w2
  go_wp2_with fail
  go_roundw
  case rel=>exact⟨i+1,by omega,by go_num,by rw[Hkm.o],jS,bY⟩
  simp[intOf] <;> omega
 have d1:decide ((i:Int)<(j:Int)-1-(i:Int))=false:=yC (by omega)
 have hW:eD (m / 2) j i=cd (m / 2) j:=Rr (by omega)
 have hO:=HO.o
 rw[hW] at hO
 have hT:=nJ false (.slice A3 j c3) (m / 2) j wr (kq hO) (by rw[HLA.o];exact cC (Nat.div_le_self _ _))
 have bK:=zh HB.o
 clear hW hO HO HB
 go_wp2_with fail
 refine hT.mono ?_
 rintro e w9 ⟨v9,rfl,ja,F9⟩
 obtain⟨A9,c9,rfl,-⟩:=DgTo.open_ F9
 have Ww:=fun W=>mq (false&&decide (m / 2≠0)) A9 (aj (m / 2)) c9 W
 rw[Bool.false_and] at Ww
 have vN:=zh F9
 have lJ:=zh (bK.o.trans (ja.mono bK.o.size))
 go_wp2_with fail
 go_ret
 exact⟨_,rfl,lJ.o,vN.o⟩
theorem Gd {s t:Bool} {m n:Int} (hs:s=decide (m<0)) (ht:t=decide (n<0)) (F7:s≠t) (h:n.natAbs≤m.natAbs):(s&&decide (m.natAbs-n.natAbs≠0))=decide (m+n<0)∧(m+n).natAbs=m.natAbs-n.natAbs:=by
 by_cases h1:m<0
 ·rw[yD h1] at hs
  subst hs
  have h2:¬ n<0:=fun h2=>F7 (by rw[ht,yD h2])
  refine⟨?_,by omega⟩
  rw[Bool.true_and,Bool.eq_iff_iff,yO,yO]
  omega
 rw[yC h1] at hs
 subst hs
 have h2:n<0:=by
  by_cases h2:n<0
  ·exact h2
  exact absurd (by rw[ht,yC h2]) F7
 refine⟨?_,by omega⟩
 rw[Bool.false_and,yC (show ¬ m+n<0 by omega)]
theorem qzJ (s t:Bool) (v u:Value) (m n:Int) (w:World) (hv:BigAt w w.heap.size s v m) (hu:BigAt w w.heap.size t u n) (hm:aj m.natAbs≤1000000) (hn:aj n.natAbs≤1000000) :
  Calls Tryz.prog 174 #[.agg #[.bool s,v],.agg #[.bool t,u]] w (sM w (m+n)):=by
 have HPl:Y0 (∀ W,Below w.heap.size w W→Calls Tryz.prog 205 #[v,u] W (tV W (m.natAbs+n.natAbs))):=fun W hb=>Em v u m.natAbs n.natAbs W (DgTo.grow hv.2 hb) (DgTo.grow hu.2 hb) hm hn
 have HLa:Y0 (∀ W,Below w.heap.size w W→Calls Tryz.prog 171 #[u,v] W fun e w'=>e = .returned (.bool (decide (m.natAbs<n.natAbs)))∧Below W.heap.size W w'):=fun W hb=>lW u v n.natAbs m.natAbs W (DgTo.grow hu.2 hb) (DgTo.grow hv.2 hb)
 have Q0:Y0 (n.natAbs≤m.natAbs→∀ W,Below w.heap.size w W→Calls Tryz.prog 207 #[v,u] W (sL W (m.natAbs-n.natAbs) (aj m.natAbs))):=fun h W hb=>rF v u m.natAbs n.natAbs W (DgTo.grow hv.2 hb) (DgTo.grow hu.2 hb) hm h
 have JN:Y0 (m.natAbs≤n.natAbs→∀ W,Below w.heap.size w W→Calls Tryz.prog 207 #[u,v] W (sL W (n.natAbs-m.natAbs) (aj n.natAbs))):=fun h W hb=>rF u v n.natAbs m.natAbs W (DgTo.grow hu.2 hb) (DgTo.grow hv.2 hb) hn h
 have hs:=hv.1
 have ht:=hu.1
 obtain⟨A1,c1,rfl,-,-,-⟩:=hv.2.open_
 obtain⟨A2,c2,rfl,-,-,-⟩:=hu.2.open_
 clear hv hu
 have D0:=((Blk.new w 173 #[.bool s,.slice A1 (aj m.natAbs) c1]).alloc (.cells #[.bool t,.slice A2 (aj n.natAbs) c2] 173)).alloc (.cells #[.bool false,.slice none 0 0] 173)
 have D1:=(Blk.new (w.alloc (.cells #[.bool s,.slice A1 (aj m.natAbs) c1] 173)) 173 #[.bool t,.slice A2 (aj n.natAbs) c2]).alloc (.cells #[.bool false,.slice none 0 0] 173)
 have D2:=Blk.new ((w.alloc (.cells #[.bool s,.slice A1 (aj m.natAbs) c1] 173)).alloc (.cells #[.bool t,.slice A2 (aj n.natAbs) c2] 173)) 173 #[.bool false,.slice none 0 0]
 have bw:=(((yB _ w).alloc (yA _) (.cells #[.bool s,.slice A1 (aj m.natAbs) c1] 173)).alloc (by simp) (.cells #[.bool t,.slice A2 (aj n.natAbs) c2] 173)).alloc (by simp;omega) (.cells #[.bool false,.slice none 0 0] 173)
 rw[yZ] at D1 D2
 rw[yZ] at D2
 go_enter Tryz.func174,Tryz.ntmps174
 by_cases F7:s=t
 ·subst F7
  have jr:(s==s)=true:=YF s
  have qjK:(m+n).natAbs=m.natAbs+n.natAbs:=by
   by_cases h:m<0
   ·rw[yD h] at hs
    have:n<0:=yG (ht.symm.trans hs)
    omega
   rw[yC h] at hs
   have:¬ n<0:=of_decide_eq_false (ht.symm.trans hs)
   omega
  have hsg:s=decide (m+n<0):=by
   by_cases h:m<0
   ·rw[yD h] at hs
    have:n<0:=yG (ht.symm.trans hs)
    rw[hs,yD (show m+n<0 by omega)]
   rw[yC h] at hs
   have:¬ n<0:=of_decide_eq_false (ht.symm.trans hs)
   rw[hs,yC (show ¬ m+n<0 by omega)]
  have HAb:=zh qjK
  have HSg:=zh hsg
  clear qjK hsg hs ht
  go_wp2_with (exact Go.WalkKit.wp_stop)
  generalize ((w.alloc (.cells #[.bool s,.slice A1 (aj m.natAbs) c1] 173)).alloc (.cells #[.bool s,.slice A2 (aj n.natAbs) c2] 173)).alloc (.cells #[.bool false,.slice none 0 0] 173)=W3 at *
  have cF:=zh D2
  have HB:=zh bw
  have x0:=D0.cell 0
  have x1:=D0.cell 1
  have x2:=D1.cell 1
  simp only[aP,aQ,aO] at x0 x1 x2
  have u0:=YL x0
  have u1:=YL x1
  have u2:=YL x2
  clear x0 x1 x2 D0 D1 D2 bw
  refine ag 8 (fun jx=>if jx=6 then some (gDg (m.natAbs+n.natAbs)) else none) (by kernel_rfl) (by kernel_rfl) ?_
  simp only[aU,aT,aW,aX]
  refine ae 6 (by kernel_rfl) (by rfl) (by decide) ?_
  simp only[aU,aT,aW,aX]
  repeat (go_big_quiet_step (fail))
  refine YH ?_
  refine af rfl rfl (fun w1 ao _=>⟨205,#[.slice A1 (aj m.natAbs) c1,.slice A2 (aj n.natAbs) c2],by go_simp,tI (HPl.o w1 (HB.o.trans (ao.mono HB.o.size)))⟩) ?_
  rintro _ ⟨A3,c3,rfl⟩
  simp only[Act.put,aJ,aI,aH]
  refine ae 1 (by kernel_rfl) (by rfl) (by decide) ?_
  simp only[aU,aT,aW,aX]
  repeat (go_big_quiet_step (fail))
  refine YH ?_
  refine Zc ?_
  intro w8 aM hF
  have WV:DgTo w8 w8.heap.size (.slice A3 (aj (m.natAbs+n.natAbs)) c3) (m.natAbs+n.natAbs) (aj (m.natAbs+n.natAbs)):=hF 16
  have bj:=zh (cF.o.below aM cF.o.lt)
  have dP:=zh (HB.o.trans (aM.mono HB.o.size))
  have H16:=zh WV
  have z0:=bj.o.cell 0
  have z1:=bj.o.cell 1
  have f0:=bj.o.frozen 0
  have f1:=bj.o.frozen 1
  simp only[aP,aQ,aO] at z0 z1
  clear hF aM WV u0 u1 u2
  have dQ:=zh (vM (n:=m+n) (by omega) dP.o bj.o ⟨HSg.o,by unfold dI;rw[HAb.o];exact H16.o⟩)
  go_wp2_with fail
  obtain⟨p0,p1,PD,vB⟩:=dQ.o
  refine YI (v:=.agg #[.bool s,.slice A3 (aj (m.natAbs+n.natAbs)) c3]) (by simp[results,Tryz.results174,go_sem,p0,p1]) rfl ?_
  exact⟨s,_,rfl,PD,vB⟩
 have jr:(s==t)=false:=beq_eq_false_iff_ne.2 F7
 have HS:=zh hs
 have HT:=zh ht
 have HST:=zh F7
 clear hs ht F7
 go_wp2_with (exact Go.WalkKit.wp_stop)
 generalize ((w.alloc (.cells #[.bool s,.slice A1 (aj m.natAbs) c1] 173)).alloc (.cells #[.bool t,.slice A2 (aj n.natAbs) c2] 173)).alloc (.cells #[.bool false,.slice none 0 0] 173)=W3 at *
 refine (HLa.o _ bw).mono ?_
 rintro e w4 ⟨rfl,cD⟩
 have dU:=zh (bw.trans (cD.mono bw.size))
 have hD0:=D0.below cD D0.lt
 have nh:=D1.below cD D1.lt
 have cF:=zh (D2.below cD D2.lt)
 clear D0 D1 D2 bw cD
 by_cases aw:m.natAbs<n.natAbs
 ·rw[yD aw]
  have x0:=hD0.cell 0
  have x1:=hD0.cell 1
  have x2:=nh.cell 0
  have x3:=nh.cell 1
  have g0:=hD0.frozen 0
  have g1:=hD0.frozen 1
  have g2:=nh.frozen 0
  have g3:=nh.frozen 1
  simp only[aP,aQ,aO] at x0 x1 x2 x3
  have HDx:=zh hD0
  have HDy:=zh nh
  clear hD0 nh
  go_wp2_with (exact Go.WalkKit.wp_stop)
  have Q7:Y0 ((t&&decide (n.natAbs-m.natAbs≠0))=decide (m+n<0)∧(m+n).natAbs=n.natAbs-m.natAbs):=by
   have h:=Gd HT.o HS.o (fun e=>HST.o e.symm) (YJ aw)
   rw[Int.add_comm] at h
   exact h
  generalize hw5:(((w4.setCell ⟨w.heap.size,0,none⟩ (.bool t)).setCell ⟨w.heap.size,1,none⟩ (.slice A2 (aj n.natAbs) c2)).setCell ⟨w.heap.size+1,0,none⟩ (.bool s)).setCell ⟨w.heap.size+1,1,none⟩ (.slice A1 (aj m.natAbs) c1)=w5 at *
  have hE0:Blk w5 w.heap.size 173 #[.bool t,.slice A2 (aj n.natAbs) c2]:=by
   rw[← hw5]
   exact (((HDx.o.set_ 0 _).set_ 1 _).far (by simp) _).far (by simp) _
  have li:Blk w5 (w.heap.size+1) 173 #[.bool s,.slice A1 (aj m.natAbs) c1]:=by
   rw[← hw5]
   exact (((HDy.o.far (by simp) _).far (by simp) _).set_ 0 _).set_ 1 _
  have pS:Y0 (Blk w5 (w.heap.size+1+1) 173 #[.bool false,.slice none 0 0]):=by
   unfold Y0
   rw[← hw5]
   exact (((cF.o.far (by simp;omega) _).far (by simp;omega) _).far (by simp) _).far (by simp) _
  have cN:Y0 (Below w.heap.size w w5):=by
   unfold Y0
   rw[← hw5]
   exact (((dU.o.setCell (p:=⟨w.heap.size,0,none⟩) (yA _) _).setCell (p:=⟨w.heap.size,1,none⟩) (yA _) _).setCell (p:=⟨w.heap.size+1,0,none⟩) (YK _) _).setCell (p:=⟨w.heap.size+1,1,none⟩) (YK _) _
  clear x0 x1 x2 x3 g0 g1 g2 g3 hw5 HDx HDy cF dU
  have x0:=hE0.cell 0
  have x1:=hE0.cell 1
  have x2:=li.cell 1
  simp only[aP,aQ,aO] at x0 x1 x2
  have u0:=YL x0
  have u1:=YL x1
  have u2:=YL x2
  clear x0 x1 x2 hE0 li
  refine ag 9 (fun jx=>if jx=6 then some (gDk (n.natAbs-m.natAbs) (aj n.natAbs)) else if jx=8 then some (Kd (m+n)) else none) (by kernel_rfl) (by kernel_rfl) ?_
  simp only[aU,aT,aW,aX]
  refine ae 6 (by kernel_rfl) (by rfl) (by decide) ?_
  simp only[aU,aT,aW,aX]
  repeat (go_big_quiet_step (fail))
  refine YH ?_
  refine af rfl rfl (fun w1 ao _=>⟨207,#[.slice A2 (aj n.natAbs) c2,.slice A1 (aj m.natAbs) c1],by go_simp,BH (JN.o (YJ aw) w1 (cN.o.trans (ao.mono cN.o.size)))⟩) ?_
  rintro _ ⟨A3,c3,rfl⟩
  simp only[Act.put,aJ,aI,aH]
  refine ae 1 (by kernel_rfl) (by rfl) (by decide) ?_
  simp only[aU,aT,aW,aX]
  repeat (go_big_quiet_step (fail))
  refine YH ?_
  refine af rfl rfl (fun w1 ao hk=>⟨206,#[.agg #[.bool t,.slice A3 (aj n.natAbs) c3]],by go_simp,ea ((nJ t _ (n.natAbs-m.natAbs) (aj n.natAbs) w1 (hk 32 (yG (by kernel_rfl)) 31 (yG (by kernel_rfl))) (cC (Nat.sub_le _ _))).mono (fun e w' h=>by
   obtain⟨v',rfl,h1,h2⟩:=h
   exact⟨_,v',rfl,h1,Q7.o.1,by unfold dI;rw[Q7.o.2];exact h2⟩))⟩) ?_
  rintro _ ⟨s3,A4,c4,rfl⟩
  simp only[Act.put,aJ,aI,aH]
  refine Zc ?_
  intro w8 aM hF
  obtain⟨s4,v4,e4,h33⟩:∃ s v,Value.agg #[.bool s3,.slice A4 (aj (m+n).natAbs) c4] = .agg #[.bool s,v]∧BigAt w8 w8.heap.size s v (m+n):=hF 33
  injection e4 with e4
  simp only[Array.mk.injEq,List.cons.injEq,Value.bool.injEq,and_true] at e4
  obtain⟨rfl,rfl⟩:=e4
  have bj:=zh (pS.o.below aM pS.o.lt)
  have dP:=zh (cN.o.trans (aM.mono cN.o.size))
  have z0:=bj.o.cell 0
  have z1:=bj.o.cell 1
  have f0:=bj.o.frozen 0
  have f1:=bj.o.frozen 1
  simp only[aP,aQ,aO] at z0 z1
  have dQ:=zh (vM (n:=m+n) (by omega) dP.o bj.o h33)
  clear hF aM u0 u1 u2 h33
  go_wp2_with fail
  obtain⟨p0,p1,PD,vB⟩:=dQ.o
  refine YI (v:=.agg #[.bool s3,.slice A4 (aj (m+n).natAbs) c4]) (by simp[results,Tryz.results174,go_sem,p0,p1]) rfl ?_
  exact⟨s3,_,rfl,PD,vB⟩
 rw[yC aw]
 have Q7:=zh (Gd HS.o HT.o HST.o (Nat.le_of_not_lt aw))
 go_wp2_with (exact Go.WalkKit.wp_stop)
 have x0:=hD0.cell 0
 have x1:=hD0.cell 1
 have x2:=nh.cell 1
 simp only[aP,aQ,aO] at x0 x1 x2
 have u0:=YL x0
 have u1:=YL x1
 have u2:=YL x2
 clear x0 x1 x2 hD0 nh
 refine ag 9 (fun jx=>if jx=6 then some (gDk (m.natAbs-n.natAbs) (aj m.natAbs)) else if jx=8 then some (Kd (m+n)) else none) (by kernel_rfl) (by kernel_rfl) ?_
 simp only[aU,aT,aW,aX]
 refine ae 6 (by kernel_rfl) (by rfl) (by decide) ?_
 simp only[aU,aT,aW,aX]
 repeat (go_big_quiet_step (fail))
 refine YH ?_
 refine af rfl rfl (fun w1 ao _=>⟨207,#[.slice A1 (aj m.natAbs) c1,.slice A2 (aj n.natAbs) c2],by go_simp,BH (Q0.o (Nat.le_of_not_lt aw) w1 (dU.o.trans (ao.mono dU.o.size)))⟩) ?_
 rintro _ ⟨A3,c3,rfl⟩
 simp only[Act.put,aJ,aI,aH]
 refine ae 1 (by kernel_rfl) (by rfl) (by decide) ?_
 simp only[aU,aT,aW,aX]
 repeat (go_big_quiet_step (fail))
 refine YH ?_
 refine af rfl rfl (fun w1 ao hk=>⟨206,#[.agg #[.bool s,.slice A3 (aj m.natAbs) c3]],by go_simp,ea ((nJ s _ (m.natAbs-n.natAbs) (aj m.natAbs) w1 (hk 32 (yG (by kernel_rfl)) 31 (yG (by kernel_rfl))) (cC (Nat.sub_le _ _))).mono (fun e w' h=>by
  obtain⟨v',rfl,h1,h2⟩:=h
  exact⟨_,v',rfl,h1,Q7.o.1,by unfold dI;rw[Q7.o.2];exact h2⟩))⟩) ?_
 rintro _ ⟨s3,A4,c4,rfl⟩
 simp only[Act.put,aJ,aI,aH]
 refine Zc ?_
 intro w8 aM hF
 obtain⟨s4,v4,e4,h33⟩:∃ s v,Value.agg #[.bool s3,.slice A4 (aj (m+n).natAbs) c4] = .agg #[.bool s,v]∧BigAt w8 w8.heap.size s v (m+n):=hF 33
 injection e4 with e4
 simp only[Array.mk.injEq,List.cons.injEq,Value.bool.injEq,and_true] at e4
 obtain⟨rfl,rfl⟩:=e4
 have bj:=zh (cF.o.below aM cF.o.lt)
 have dP:=zh (dU.o.trans (aM.mono dU.o.size))
 have z0:=bj.o.cell 0
 have z1:=bj.o.cell 1
 have f0:=bj.o.frozen 0
 have f1:=bj.o.frozen 1
 simp only[aP,aQ,aO] at z0 z1
 have dQ:=zh (vM (n:=m+n) (by omega) dP.o bj.o h33)
 clear hF aM u0 u1 u2 h33
 go_wp2_with fail
 obtain⟨p0,p1,PD,vB⟩:=dQ.o
 refine YI (v:=.agg #[.bool s3,.slice A4 (aj (m+n).natAbs) c4]) (by simp[results,Tryz.results174,go_sem,p0,p1]) rfl ?_
 exact⟨s3,_,rfl,PD,vB⟩
theorem EW (N k:Nat):cY (ay N) k≤N:=by rw[oO];exact Nat.mod_le _ _
theorem qj {N k:Nat} (h:aj N≤k):cY (ay N) k=N:=by rw[oO];exact Nat.mod_eq_of_lt (dv.2 h)
theorem L0 {M N i k cy G:Nat} (hG:G+16777216 ^ (i+k)*cy=cY (ay M) i*N+16777216 ^ i*(ay M i*cY (ay N) k)) (hk:aj N<k):cy=0:=by
 rcases Nat.eq_zero_or_pos cy with h | h
 ·exact h
 exfalso
 have h1:cY (ay M) i*N+16777216 ^ i*(ay M i*cY (ay N) k)≤cY (ay M) (i+1)*N:=by
  rw[← D9]
  exact Nat.add_le_add_left (Nat.mul_le_mul_left _ (Nat.mul_le_mul_left _ (EW N k))) _
 have h2:cY (ay M) (i+1)*N<16777216 ^ (i+1)*16777216 ^ aj N:=Nat.mul_lt_mul'' (vD (dO M) _) (jD N)
 rw[← Nat.pow_add] at h2
 have h3:16777216 ^ (i+1+aj N)≤16777216 ^ (i+k):=Nat.pow_le_pow_right (by decide) (by omega)
 have h4:16777216 ^ (i+k)*1≤16777216 ^ (i+k)*cy:=Nat.mul_le_mul_left _ h
 omega
theorem VG (n:Nat):(madeCells (Value.cells (.int .i64 0)) (n*1)).toList=(List.replicate n 0).map qc:=by
 apply List.ext_getElem
 ·simp[size_madeCells]
 intro i h1 h2
 simp[madeCells,Value.cells,Nat.mod_one,qc]
theorem V9 {s t:Bool} {m n:Int} (hs:s=decide (m<0)) (ht:t=decide (n<0)):((!(s==t))&&decide (m.natAbs*n.natAbs≠0))=decide (m*n<0):=by
 subst hs ht
 rcases Int.lt_trichotomy m 0 with h | h | h
 ·rcases Int.lt_trichotomy n 0 with k | k | k
  ·rw[yD h,yD k,yC (show ¬ m*n<0 from Int.not_lt.2 (Int.le_of_lt (Int.mul_pos_of_neg_of_neg h k)))]
   rfl
  ·subst k;simp
  rw[yD h,yC (show ¬ n<0 by omega),yD (show m*n<0 from Int.mul_neg_of_neg_of_pos h k),yD (Nat.mul_ne_zero (by omega) (by omega):m.natAbs*n.natAbs≠0)]
  rfl
 ·subst h;simp
 rcases Int.lt_trichotomy n 0 with k | k | k
 ·rw[yC (show ¬ m<0 by omega),yD k,yD (show m*n<0 from Int.mul_neg_of_pos_of_neg h k),yD (Nat.mul_ne_zero (by omega) (by omega):m.natAbs*n.natAbs≠0)]
  rfl
 ·subst k;simp
 rw[yC (show ¬ m<0 by omega),yC (show ¬ n<0 by omega),yC (show ¬ m*n<0 from Int.not_lt.2 (Int.le_of_lt (Int.mul_pos h k)))]
 rfl
structure PrSt (w wr:World) (g n:Nat) (s t:Bool) (sx sy:Value) (O:List Nat):Prop where
 own:wr.ownsRow w.heap.size 3 1 (.slice (some ⟨g,0,none⟩) n n) n (O.map qc)
 ok:Gok O
 bel:Below w.heap.size w wr
 gw:w.heap.size+3≤g
 d1:Blk wr w.heap.size 173 #[.bool s,sx]
 d2:Blk wr (w.heap.size+1) 173 #[.bool t,sy]
 d3:Blk wr (w.heap.size+1+1) 173 #[.bool false,.slice none 0 0]
section
variable {w wr:World} {g n:Nat} {s t:Bool} {sx sy:Value} {O:List Nat}
theorem PrSt.len (h:PrSt w wr g n s t sx sy O):O.length=n:=by have:=h.own.1;rw[yP] at this;omega
theorem PrSt.cell (h:PrSt w wr g n s t sx sy O) {i:Nat} (hi:i<n):wr.cell? ⟨g,i,none⟩=some (.int .i64 (dw O i:Nat)):=by
 rw[h.own.cellAt i (by omega),YD,yM (by rw[h.len];exact hi),oU (by rw[h.len];exact hi)]
 rfl
theorem PrSt.set (h:PrSt w wr g n s t sx sy O) (i x:Nat) (hx:x<16777216):PrSt w (wr.setCell ⟨g,i,none⟩ (.int .i64 (x:Nat))) g n s t sx sy (O.set i x):=by
 have hg:=h.gw
 have Dx:wr.grownBy (wr.setCell ⟨g,i,none⟩ (.int .i64 (x:Nat))) (some g):=⟨rfl,rfl,rfl,by simp[World.setCell],fun k _ hk=>YC wr _ _ k (fun e=>hk (by rw[e]))⟩
 refine⟨?_,h.ok.set i hx,h.bel.setCell (p:=⟨g,i,none⟩) (by show w.heap.size≤g;omega) _,hg,h.d1.kept Dx (by simp;omega),h.d2.kept Dx (by simp;omega),h.d3.kept Dx (by simp;omega)⟩
 rw[List.map_set]
 exact (h.own.stored i (qc x)).1
theorem PrSt.drewN (h:PrSt w wr g n s t sx sy O) (q:Nat):PrSt w (wr.drewN q) g n s t sx sy O:=⟨gj h.own q,h.ok,Zf h.bel q,h.gw,h.d1.drewN q,h.d2.drewN q,h.d3.drewN q⟩
end
theorem ic (s t:Bool) (v u:Value) (m n:Int) (w:World) (hv:BigAt w w.heap.size s v m) (hu:BigAt w w.heap.size t u n) (hm:aj m.natAbs≤400000) (hn:aj n.natAbs≤400000) :
  Calls Tryz.prog 175 #[.agg #[.bool s,v],.agg #[.bool t,u]] w (sM w (m*n)):=by
 have HSg:=zh (V9 hv.1 hu.1)
 have HAb:=zh (Int.natAbs_mul m n)
 obtain⟨-,hv⟩:=hv
 obtain⟨-,hu⟩:=hu
 generalize m.natAbs=M at *
 generalize n.natAbs=N at *
 have Oq:Y0 (∀ W,Below w.heap.size w W→∀ i,i≤maxLen→Calls Tryz.prog 208 #[u,.int .i64 (i:Nat)] W fun e w'=>e = .returned (.int .i64 (ay N i:Nat))∧W=w'):=fun W hb i hi=>pA u N i W (DgTo.grow hu hb) hi
 obtain⟨A1,c1,rfl,gC,jo,bn⟩:=DgTo.open_ hv
 obtain⟨A2,c2,rfl,dr,im,-⟩:=DgTo.open_ hu
 unfold maxLen at jo im
 have Z1:=zh bn
 obtain⟨la,YW⟩:∃ la,la=aj M:=⟨_,rfl⟩
 obtain⟨lb,hlb⟩:∃ lb,lb=aj N:=⟨_,rfl⟩
 have HLA:=zh YW
 have HLB:=zh hlb
 rw[← YW] at hm gC Z1 ⊢
 rw[← hlb] at hn dr Oq ⊢
 obtain⟨i0,il,gu,iC,iN⟩:=info_parts kV
 have bV:i0.bytes*(la+lb+1)≤281474976710656:=by rw[iN];omega
 obtain⟨B1,B2,B3,bw⟩:=cf w 173 173 173 #[.bool s,.slice A1 la c1] #[.bool t,.slice A2 lb c2] #[.bool false,.slice none 0 0]
 have bZ:=zh B1
 have bK:=zh B2
 have bY:=zh B3
 have CF:=zh bw
 clear hv hu bn YW hlb B1 B2 B3 bw
 go_enter Tryz.func175,Tryz.ntmps175
 go_upto_region 1 with fail
 generalize ng:((w.alloc (.cells #[.bool s,.slice A1 la c1] 173)).alloc (.cells #[.bool t,.slice A2 lb c2] 173)).alloc (.cells #[.bool false,.slice none 0 0] 173)=W3 at *
 have sO:W3.heap.size=w.heap.size+1+1+1:=by rw[← ng];simp
 have jS:=zh sO
 clear sO ng
 have x1:=bZ.o.cell 1
 have x2:=bK.o.cell 1
 simp only[aP,aQ,aO] at x1 x2
 go_upto_region 2 with (at_make;refine wpList_make_full _ rfl _ _ 22 rfl w.heap.size 3 i0 (.int .i64 0) 1 Tryz.underlying22 il gu iC .i64 .i64 _ _ (la+lb+1) rfl rfl rfl rfl bV (by unfold maxLen;omega) CF.o.size ?_;intro w4 bh bq)
 rw[VG] at bh
 have tR:Y0 (PrSt w w4 (w.heap.size+1+1+1) (la+lb+1) s t (.slice A1 la c1) (.slice A2 lb c2) (List.replicate (la+lb+1) 0)):=by
  rw[jS.o] at bh
  exact⟨bh,Gok.zeros _,CF.o.grown bq CF.o.size (fun k hk=>by cases hk),by omega,bZ.o.kept bq (by simp),bK.o.kept bq (by simp),bY.o.kept bq (by simp)⟩
 have sO:=jS.o
 rw[sO]
 obtain⟨g,hg⟩:∃ g,w.heap.size+1+1+1=g:=⟨_,rfl⟩
 rw[hg] at tR ⊢
 have qm:Y0 (cY (dw (List.replicate (la+lb+1) 0)) (la+lb+1)=cY (ay M) 0*N):=by
  unfold Y0
  rw[B0]
  show 0=0*N
  rw[Nat.zero_mul]
 have q1:=tR.o.d1.cell 1
 simp only[aP,aQ,aO] at q1
 clear bh bq il gu iC bV hg sO jS bZ bK bY CF x1 x2
 go_wp2_with fail
 go_loopw [6] (fun ix wr=>∃ (i:Nat) (O:List Nat),i≤la∧ix = .int .i64 i∧Y0 (PrSt w wr g (la+lb+1) s t (.slice A1 la c1) (.slice A2 lb c2) O)∧Y0 (cY (dw O) (la+lb+1)=cY (ay M) i*N)) (fun ix _=>la-(intOf ix).toNat)
 case atStart=>exact⟨0,_,yI _,rfl,tR,qm⟩
 clear tR qm q1
 obtain⟨i,O,hi,rfl,HT,HS⟩:=hrel
 have j0:(0:Int)≤(i:Int):=yE _
 have q1:=HT.o.d1.cell 1
 have q2:=HT.o.d2.cell 1
 simp only[aP,aQ,aO] at q1 q2
 by_cases hix:i<la
 ·have j1:(i:Int)<(la:Int):=by omega
  obtain⟨b1,o1,rfl,ao,Pz⟩:=Z1.o i hix
  have HX:Y0 (∀ W,Below w.heap.size w W→W.cell? ⟨b1,o1+i,none⟩=some (.int .i64 (ay M i:Nat))):=fun W hb=>(hb.cell (p:=⟨b1,o1+i,none⟩) ao).trans (Pz i hix)
  have x0:=dO M i
  have rm:Y0 (cY (dw O) (la+lb+1)+16777216 ^ (i+0)*0=cY (ay M) i*N+16777216 ^ i*(ay M i*cY (ay N) 0)):=by
   unfold Y0
   rw[HS.o,Nat.mul_zero]
   show _=_+16777216 ^ i*(ay M i*0)
   rw[Nat.mul_zero,Nat.mul_zero]
  clear Pz
  go_wp2_with fail
  go_loopw [7,8] (fun cx kx wr=>∃ (k cy:Nat) (O:List Nat),k≤lb+1∧kx = .int .i64 k∧cx = .int .i64 (cy:Nat)∧cy<16777216∧Y0 (PrSt w wr g (la+lb+1) s t (.slice (some ⟨b1,o1,none⟩) la c1) (.slice A2 lb c2) O)∧Y0 (cY (dw O) (la+lb+1)+16777216 ^ (i+k)*cy=cY (ay M) i*N+16777216 ^ i*(ay M i*cY (ay N) k))) (fun _ kx _=>lb+1-(intOf kx).toNat)
  case atStart=>exact⟨0,0,O,yI _,rfl,rfl,by decide,HT,rm⟩
  clear HT HS rm q1 q2
  obtain⟨k,cy,O,hk,rfl,rfl,hcy,HT,HS⟩:=hrel
  have uV:lb<k→cy=0:=fun h=>L0 HS.o (by rw[← HLB.o];exact h)
  have k0:(0:Int)≤(k:Int):=yE _
  have Zr:(0:Int)≤(cy:Int):=yE _
  have c3':(cy:Int)<16777216:=by omega
  have q1:=HT.o.d1.cell 1
  have q2:=HT.o.d2.cell 1
  simp only[aP,aQ,aO] at q1 q2
  have mR:(k<lb∨(¬ k<lb∧0<cy))∨(¬ k<lb∧cy=0):=by omega
  rcases mR with Cg | ⟨hn1,hn2⟩
  ·have aB:k≤lb:=by
    rcases Cg with h | ⟨h,h2⟩
    ·omega
    rcases Nat.lt_or_ge lb k with h3 | h3
    ·have:=uV h3
     omega
    exact h3
   have hx:=HX.o wr HT.o.bel
   have y0:=dO N k
   have z1:=HT.o.cell (show i+k<la+lb+1 by omega)
   have z2:=HT.o.own.frozenAt (i+k)
   have o0:dw O (i+k)<16777216:=NT HT.o.ok _
   have qe:Y0 (cY (dw (O.set (i+k) ((ay M i*ay N k+dw O (i+k)+cy) % 16777216))) (la+lb+1)+16777216 ^ (i+(k+1))*((ay M i*ay N k+dw O (i+k)+cy) / 16777216)=cY (ay M) i*N+16777216 ^ i*(ay M i*cY (ay N) (k+1))):=by
    have h:=WZ (x:=ay M i) (y:=ay N k) (show i+k<O.length by rw[HT.o.len];omega) HT.o.len HS.o
    exact h.trans (Xa rfl)
   have H1:=fun q=>Ax (Oq.o (wr.drewN q) (Zf HT.o.bel q) k (by unfold maxLen;omega))
   have aS:=zh fun q=>(HT.o.drewN q).set (i+k) ((ay M i*ay N k+dw O (i+k)+cy) % 16777216) (Nat.mod_lt _ (by decide))
   have d:decide (k<lb)=true∨(decide (k<lb)=false∧decide (0<cy)=true):=Cg.elim (fun h=>.inl (yD h)) fun h=>.inr ⟨yC h.1,yD h.2⟩
   clear uV Cg HX
   generalize ay M i=x at *
   generalize ay N k=y at *
   generalize dw O (i+k)=o at *
   have eN:x*y+o+cy=o+x*y+cy:=by omega
   rw[eN] at qe aS
   have x2:(0:Int)≤(x:Int):=yE _
   have y2:(0:Int)≤(y:Int):=yE _
   have o2:(0:Int)≤(o:Int):=yE _
   have xy0:(0:Int)≤(x:Int)*(y:Int):=Int.mul_nonneg x2 y2
   have xy1:(x:Int)*(y:Int)≤281474943156225:=by
    have:(x:Int)*(y:Int)≤16777215*16777215:=Int.mul_le_mul (by omega) (by omega) y2 (by decide)
    omega
   have HMc:Y0 ((o+x*y+cy) / 16777216<16777216):=by
    have h1:x*y≤16777215*16777215:=Nat.mul_le_mul (by omega) (by omega)
    unfold Y0
    rw[Nat.div_lt_iff_lt_mul (by decide)]
    omega
   have v0:IntKind.i64.wrap ((i:Int)+(k:Int))=(i:Int)+(k:Int):=yF _ (by omega)
   have v1:IntKind.i64.wrap ((x:Int)*(y:Int))=(x:Int)*(y:Int):=yF _ (by omega)
   have v2:IntKind.i64.wrap ((o:Int)+(x:Int)*(y:Int))=(o:Int)+(x:Int)*(y:Int):=yF _ (by omega)
   have v3:IntKind.i64.wrap ((o:Int)+(x:Int)*(y:Int)+(cy:Int))=(o:Int)+(x:Int)*(y:Int)+(cy:Int):=yF _ (by omega)
   have ik0:(0:Int)≤(i:Int)+(k:Int):=by omega
   have ik1:(i:Int)+(k:Int)<(la:Int)+(lb:Int)+1:=by omega
   have ik3:(i:Int)+(k:Int)<((la+lb+1:Nat):Int):=by omega
   have ik2:((i:Int)+(k:Int)).toNat=i+k:=by omega
   clear eN HT HS
   rcases d with d1 | ⟨d1,d2⟩
   all_goals
    go_wp2_with fail
    go_quiet ((go_at_call 208;exact H1 _))
    go_wp2_with fail
    go_roundw
    case rel=>exact⟨k+1,(o+x*y+cy) / 16777216,_,by omega,by go_num,by go_num,HMc.o,aS.o _,qe⟩
    simp[intOf] <;> omega
  subst hn2
  have d1:decide (k<lb)=false:=yC hn1
  have gx:Y0 (cY (dw O) (la+lb+1)=cY (ay M) (i+1)*N):=by
   have h:=HS.o
   rw[Nat.mul_zero,Nat.add_zero,qj (N:=N) (k:=k) (by rw[← HLB.o];omega)] at h
   exact h.trans D9
  have ia:=zh HT.o
  clear HT HS uV HX
  go_wp2_with fail
  go_roundw
  case rel=>exact⟨i+1,_,by omega,by go_num,ia,gx⟩
  simp[intOf] <;> omega
 obtain rfl:i=la:=by omega
 have hG:gv O=M*N:=by
  have h:=HS.o
  rw[qj (by rw[← HLA.o];omega)] at h
  unfold gv
  rw[HT.o.len]
  exact h
 have hdg:O=cd (M*N) (i+lb+1):=by
  have h:=Pm HT.o.ok
  rw[hG,HT.o.len] at h
  exact h
 have az:=HT.o.own
 rw[hdg] at az
 have hT:=nJ (!(s==t)) (.slice (some ⟨g,0,none⟩) (i+lb+1) (i+lb+1)) (M*N) (i+lb+1) wr (kq az) (yH (iS (Nat.le_of_eq HLA.o.symm) (Nat.le_of_eq HLB.o.symm)) (by omega))
 rw[HSg.o] at hT
 have q0:=HT.o.d1.cell 0
 have q3:=HT.o.d2.cell 0
 simp only[aP,aO] at q0 q3
 have iD:=zh HT.o.d3
 have lh:=zh HT.o.bel
 clear hG hdg az HT HS
 go_wp2_with fail
 refine hT.mono ?_
 rintro e w5 ⟨v5,rfl,bg,P6⟩
 obtain⟨A5,c5,rfl,-⟩:=DgTo.open_ P6
 have pS:=zh (iD.o.below bg iD.o.lt)
 have cN:=zh (lh.o.trans (bg.mono lh.o.size))
 have HV5:Y0 (BigAt w5 w5.heap.size (decide (m*n<0)) (.slice A5 (aj (M*N)) c5) (m*n)):=⟨rfl,by unfold dI;rw[HAb.o];exact P6⟩
 have z0:=pS.o.cell 0
 have z1:=pS.o.cell 1
 have f0:=pS.o.frozen 0
 have f1:=pS.o.frozen 1
 simp only[aP,aQ,aO] at z0 z1
 have dQ:=zh (vM (n:=m*n) (by omega) cN.o pS.o HV5.o)
 generalize hsg:decide (m*n<0)=sg at *
 clear bg P6 HV5 hT iD lh
 go_wp2_with fail
 obtain⟨p0,p1,PD,vB⟩:=dQ.o
 refine YI (v:=.agg #[.bool sg,.slice A5 (aj (M*N)) c5]) (by simp[results,Tryz.results175,go_sem,p0,p1]) rfl ?_
 exact⟨sg,_,rfl,PD,vB⟩
theorem qV (j:Nat):16777216 ^ j=2 ^ (24*j):=by rw[Nat.pow_mul]
theorem Kv {K a b t x y:Nat} (h:Twos (16777216 ^ K) a b t x y):t<24*K:=by
 have h1:2 ^ t*1≤2 ^ t*x:=Nat.mul_le_mul_left _ h.x0
 have h2:=h.xm
 rw[qV] at h2
 rw[Nat.mul_one] at h1
 exact (Nat.pow_lt_pow_iff_right (a:=2) (by decide)).1 (Nat.lt_of_le_of_lt h1 h2)
theorem kdl {K x:Nat} (hK:K≤300000) (h:x<16777216 ^ K):aj x≤1000000:=yH (jE h) (by omega)
theorem qzL (v u:Value) (a b K:Nat) (w:World) (hv:dI w w.heap.size v a) (hu:dI w w.heap.size u b) (hK:K≤300000) (ha:aj a≤K) (hb:aj b≤K) (LU:0<a) (jr:0<b) :
  Calls Tryz.prog 177 #[v,u] w (tV w (Nat.gcd a b)):=by
 have HA:=zh hv
 have HB:=zh hu
 have HK:Y0 (K≤300000):=hK
 have HS:Y0 (Twos (16777216 ^ K) a b 0 a b):=⟨LU,jr,by rw[Nat.pow_zero,Nat.one_mul];exact dv.2 ha,dv.2 hb,by rw[Nat.pow_zero,Nat.one_mul]⟩
 clear hv hu hK ha hb LU jr
 go_enter Tryz.func177,Tryz.ntmps177
 go_wp2_with fail
 go_loopg [0,1,5] a (fun gk va vb tw wr=>∃ y t:Nat,tw = .int .i64 t∧Y0 (dI wr wr.heap.size va gk)∧Y0 (dI wr wr.heap.size vb y)∧Y0 (Twos (16777216 ^ K) a b t gk y)∧Below w.heap.size w wr)
 case atStart=>exact⟨b,0,rfl,HA,HB,HS,yB _ _⟩
 clear HA HB HS
 obtain⟨y,t,rfl,HA,HB,HS,av⟩:=hrel
 obtain⟨x,rfl⟩:∃ x,x=gk:=⟨_,rfl⟩
 have ht:t<16000000:=by have:=Kv HS.o;have:=HK.o;omega
 go_wp2_with fail
 refine (Ep _ x _ HA.o).mono ?_
 rintro e w3 ⟨rfl,cO⟩
 have rq:=zh (DgTo.grow HA.o cO)
 have bY:=zh (DgTo.grow HB.o cO)
 have lr:=zh (av.trans (cO.mono av.size))
 clear HA HB av cO
 by_cases hx:x % 2=0
 case' pos=>
  rw[yD hx]
  go_wp2_with fail
  refine (Ep _ y _ bY.o).mono ?_
  rintro e w4 ⟨rfl,cD⟩
  have HA4:=zh (DgTo.grow rq.o cD)
  have dU:=zh (DgTo.grow bY.o cD)
  have F4:=zh (lr.o.trans (cD.mono lr.o.size))
  clear rq bY lr cD
  by_cases hy:y % 2=0
  case' pos=>
   rw[yD hy]
   have gx:=zh (HS.o.half hx hy)
   clear hx hy
   go_wp2_with fail
   refine (Eo _ x _ HA4.o (kdl HK.o HS.o.xlt)).mono ?_
   rintro e w5 ⟨va,rfl,bg,WR⟩
   have QB:=zh WR
   have cN:=zh (DgTo.grow dU.o bg)
   clear WR
   go_wp2_with fail
   refine (Eo _ y _ cN.o (kdl HK.o HS.o.ym)).mono ?_
   rintro e w6 ⟨vb,rfl,iq,hB6⟩
   have HA6:=zh (DgTo.grow QB.o iq)
   have lK:=zh hB6
   have lh:=zh (F4.o.trans ((bg.trans (iq.mono bg.size)).mono F4.o.size))
   have aw:Y0 (x / 2<x):=Nat.div_lt_self HS.o.x0 (by decide)
   clear hB6 bg iq QB cN HA4 dU F4 HS
   go_wp2_with fail
   go_roundg (x / 2)
   case rel=>exact⟨y / 2,t+1,by go_num,HA6,lK,gx,lh.o⟩
   exact aw.o
  case' neg=>
   rw[yC hy]
   have HT:Y0 (Stn (16777216 ^ K) (Nat.gcd x y) x y):=⟨HS.o.y0,HS.o.xlt,HS.o.ym,rfl,.inr (by omega)⟩
   clear hx hy
   go_wp2_with fail
 case' neg=>
  rw[yC hx]
  have HT:Y0 (Stn (16777216 ^ K) (Nat.gcd x y) x y):=⟨HS.o.y0,HS.o.xlt,HS.o.ym,rfl,.inl (by omega)⟩
  obtain⟨w4,rfl⟩:∃ w4:World,w4=w3:=⟨_,rfl⟩
  have HA4:=zh rq.o
  have dU:=zh bY.o
  have F4:=zh lr.o
  clear hx rq bY lr
  go_wp2_with fail
 all_goals
  have HF:Y0 (2 ^ t*Nat.gcd x y<16777216 ^ K):=HS.o.glt
  have HG:Y0 (Nat.gcd a b=2 ^ t*Nat.gcd x y):=HS.o.g
  obtain⟨G,HGe⟩:∃ G,Y0 (Nat.gcd x y=G):=⟨_,rfl⟩
  rw[HGe.o] at HF HG HT
  clear HS
  go_loopg [0,1] (x+y) (fun gk va vb wr=>∃ x2 y2:Nat,x2+y2=gk∧Y0 (dI wr wr.heap.size va x2)∧Y0 (dI wr wr.heap.size vb y2)∧Y0 (Stn (16777216 ^ K) G x2 y2)∧Below w.heap.size w wr)
  case atStart=>exact⟨x,y,rfl,HA4,dU,HT,F4.o⟩
  clear HA4 dU HT F4 HGe
  obtain⟨x2,y2,rfl,HA,HB,HS,av⟩:=hrel
  obtain⟨A,c,rfl,gC,dr,-⟩:=DgTo.open_ HA.o
  obtain⟨A',c',rfl,-,-,-⟩:=DgTo.open_ HB.o
  unfold maxLen at dr
  rcases Nat.eq_zero_or_pos x2 with h0 | h0
  ·subst h0
   have hz:aj 0=0:=iu
   have HGy:Y0 (y2=G):=by
    unfold Y0
    rw[← HS.o.g,Nat.gcd_zero_left]
   rw[hz]
   clear HS HA hz gC
   rw[HGy.o] at HB ⊢
   clear HGy
   go_wp2_with fail
   go_loopw [1,6] (fun vb jx wr=>∃ j:Nat,j≤t∧jx = .int .i64 j∧Y0 (dI wr wr.heap.size vb (2 ^ j*G))∧Below w.heap.size w wr) (fun _ jx _=>t-(intOf jx).toNat)
   case atStart=>exact⟨0,yI _,rfl,by rw[Nat.pow_zero,Nat.one_mul];exact HB,av⟩
   clear HB av
   obtain⟨j,hj,rfl,HB,av⟩:=hrel
   by_cases hjt:j<t
   ·have HL:Y0 (2 ^ j*G<16777216 ^ K):=Nat.lt_of_le_of_lt (Nat.mul_le_mul_right _ (Nat.pow_le_pow_right (by decide) hj)) HF.o
    have HE:Y0 (2 ^ j*G+2 ^ j*G=2 ^ (j+1)*G):=by unfold Y0;rw[Nat.pow_succ,Nat.mul_assoc,Nat.mul_left_comm];omega
    go_wp2_with fail
    refine (Em _ _ (2 ^ j*G) (2 ^ j*G) _ HB.o HB.o (kdl HK.o HL.o) (kdl HK.o HL.o)).mono ?_
    rintro e w5 ⟨vb5,rfl,bg,PL⟩
    rw[HE.o] at PL
    have cN:=zh PL
    have lh:=zh (av.trans (bg.mono av.size))
    clear bg PL HE HL HB av
    go_wp2_with fail
    go_roundw
    case rel=>exact⟨j+1,by omega,by go_num,cN,lh.o⟩
    simp[intOf] <;> omega
   obtain rfl:j=t:=by omega
   go_wp2_with fail
   go_ret
   exact⟨_,rfl,av,by rw[HG.o];exact HB.o⟩
  have hp:0<aj x2:=Nat.pos_of_ne_zero fun e=>by have:=oS.1 e;omega
  have dp:decide (0<aj x2)=true:=yD hp
  have H0:=zh h0
  clear h0
  go_wp2_with fail
  clear hp dp gC dr
  go_loopg [0] x2 (fun gk va wr=>Y0 (dI wr wr.heap.size va gk)∧Y0 (dI wr wr.heap.size (.slice A' (aj y2) c') y2)∧Y0 (Stn (16777216 ^ K) G gk y2)∧Y0 (0<gk∧gk≤x2)∧Below w.heap.size w wr)
  case atStart=>exact⟨HA,HB,HS,⟨H0.o,yA _⟩,av⟩
  clear HA HB HS H0 av
  obtain⟨HA,HB,HS,HR,av⟩:=hrel
  obtain⟨x4,rfl⟩:∃ x4,x4=gk:=⟨_,rfl⟩
  go_wp2_with fail
  refine (Ep _ x4 _ HA.o).mono ?_
  rintro e w3 ⟨rfl,cO⟩
  have rq:=zh (DgTo.grow HA.o cO)
  have bY:=zh (DgTo.grow HB.o cO)
  have lr:=zh (av.trans (cO.mono av.size))
  clear HA HB av cO
  by_cases Bn:x4 % 2=0
  ·rw[yD Bn]
   have gD:=zh (HS.o.left Bn)
   have m8:Y0 (0<x4 / 2∧x4 / 2≤x2):=by have:=HR.o;unfold Y0;omega
   have Oj:Y0 (x4 / 2<x4):=Nat.div_lt_self HR.o.1 (by decide)
   clear Bn
   go_wp2_with fail
   refine (Eo _ x4 _ rq.o (kdl HK.o HS.o.xm)).mono ?_
   rintro e w5 ⟨va5,rfl,bg,WR⟩
   have QB:=zh WR
   have cN:=zh (DgTo.grow bY.o bg)
   have lh:=zh (lr.o.trans (bg.mono lr.o.size))
   clear bg WR bY lr rq HS HR
   go_wp2_with fail
   go_roundg (x4 / 2)
   case rel=>exact⟨QB,cN,gD,m8,lh.o⟩
   exact Oj.o
  rw[yC Bn]
  have HOd:Y0 (x4 % 2=1):=by unfold Y0;omega
  clear Bn
  obtain⟨A4,c4,e4,-,-,-⟩:=DgTo.open_ rq.o
  rw[e4] at rq ⊢
  clear e4
  go_wp2_with fail
  go_loopg [1] y2 (fun gk vb wr=>Y0 (dI wr wr.heap.size (.slice A4 (aj x4) c4) x4)∧Y0 (dI wr wr.heap.size vb gk)∧Y0 (Stn (16777216 ^ K) G x4 gk)∧Y0 (gk≤y2)∧Below w.heap.size w wr)
  case atStart=>exact⟨rq,bY,HS,yA _,lr.o⟩
  clear rq bY HS lr
  obtain⟨HA,HB,HS,HY,av⟩:=hrel
  obtain⟨y4,rfl⟩:∃ y4,y4=gk:=⟨_,rfl⟩
  go_wp2_with fail
  refine (Ep _ y4 _ HB.o).mono ?_
  rintro e w3 ⟨rfl,cO⟩
  have rq:=zh (DgTo.grow HA.o cO)
  have bY:=zh (DgTo.grow HB.o cO)
  have lr:=zh (av.trans (cO.mono av.size))
  clear HA HB av cO
  by_cases Bn:y4 % 2=0
  ·rw[yD Bn]
   have gD:=zh (HS.o.right HOd.o Bn)
   have HY5:Y0 (y4 / 2≤y2):=by have:=HY.o;unfold Y0;omega
   have Oj:Y0 (y4 / 2<y4):=Nat.div_lt_self HS.o.y0 (by decide)
   clear Bn
   go_wp2_with fail
   refine (Eo _ y4 _ bY.o (kdl HK.o HS.o.ym)).mono ?_
   rintro e w5 ⟨vb5,rfl,bg,PL⟩
   have cN:=zh PL
   have QB:=zh (DgTo.grow rq.o bg)
   have lh:=zh (lr.o.trans (bg.mono lr.o.size))
   clear bg PL bY lr rq HS HY
   go_wp2_with fail
   go_roundg (y4 / 2)
   case rel=>exact⟨QB,cN,gD,HY5,lh.o⟩
   exact Oj.o
  rw[yC Bn]
  have HOy:Y0 (y4 % 2=1):=by unfold Y0;omega
  clear Bn
  go_wp2_with fail
  refine (lW _ _ y4 x4 _ bY.o rq.o).mono ?_
  rintro e w7 ⟨rfl,na⟩
  have Y4:=zh (DgTo.grow rq.o na)
  have CG:=zh (DgTo.grow bY.o na)
  have lh:=zh (lr.o.trans (na.mono lr.o.size))
  clear rq bY lr na
  by_cases aw:x4<y4
  ·rw[yD aw]
   have BU:=zh (YJ aw)
   have C6:=zh ((HS.o.swap HOd.o).diff HOd.o (YJ aw))
   have HM:Y0 (y4-x4+x4<x2+y2):=by have:=HR.o;have:=HY.o;unfold Y0;omega
   clear aw
   go_wp2_with fail
   refine (rF _ _ y4 x4 _ CG.o Y4.o (kdl HK.o HS.o.ym) BU.o).mono ?_
   rintro e w8 ⟨v8,rfl,aM,D7⟩
   obtain⟨A8,c8,rfl,-,-,-⟩:=DgTo.open_ D7
   have qn:=zh D7
   have HA8:=zh (DgTo.grow Y4.o aM)
   have dP:=zh (lh.o.trans (aM.mono lh.o.size))
   clear aM D7 Y4 CG lh HS
   go_wp2_with fail
   refine (nJ false _ (y4-x4) (aj y4) _ qn.o (cC (Nat.sub_le _ _))).mono ?_
   rintro e w9 ⟨v9,rfl,ja,F9⟩
   obtain⟨A9,c9,rfl,-,-,-⟩:=DgTo.open_ F9
   have Ww:=fun W=>mq (false&&decide (y4-x4≠0)) A9 (aj (y4-x4)) c9 W
   rw[Bool.false_and] at Ww
   have vN:=zh F9
   have HA9:=zh (DgTo.grow HA8.o ja)
   have lJ:=zh (dP.o.trans (ja.mono dP.o.size))
   clear F9 ja qn HA8 dP
   go_wp2_with fail
   go_roundg (y4-x4+x4)
   case rel=>exact⟨y4-x4,x4,rfl,vN,HA9,C6,lJ.o⟩
   exact HM.o
  rw[yC aw]
  have BU:=zh (Nat.not_lt.1 aw)
  have C6:=zh (HS.o.diff HOy.o (Nat.not_lt.1 aw))
  have HM:Y0 (x4-y4+y4<x2+y2):=by have:=HR.o;have:=HY.o;have:=HS.o.y0;unfold Y0;omega
  clear aw
  go_wp2_with fail
  refine (rF _ _ x4 y4 _ Y4.o CG.o (kdl HK.o HS.o.xm) BU.o).mono ?_
  rintro e w8 ⟨v8,rfl,aM,D7⟩
  obtain⟨A8,c8,rfl,-,-,-⟩:=DgTo.open_ D7
  have qn:=zh D7
  have dP:=zh (DgTo.grow CG.o aM)
  have F3:=zh (lh.o.trans (aM.mono lh.o.size))
  clear aM D7 Y4 CG lh HS
  go_wp2_with fail
  refine (nJ false _ (x4-y4) (aj x4) _ qn.o (cC (Nat.sub_le _ _))).mono ?_
  rintro e w9 ⟨v9,rfl,ja,F9⟩
  obtain⟨A9,c9,rfl,-,-,-⟩:=DgTo.open_ F9
  have Ww:=fun W=>mq (false&&decide (x4-y4≠0)) A9 (aj (x4-y4)) c9 W
  rw[Bool.false_and] at Ww
  have vN:=zh F9
  have lJ:=zh (DgTo.grow dP.o ja)
  have vqC:=zh (F3.o.trans (ja.mono F3.o.size))
  clear F9 ja qn dP F3
  go_wp2_with fail
  go_roundg (x4-y4+y4)
  case rel=>exact⟨x4-y4,y4,rfl,vN,lJ,C6,vqC.o⟩
  exact HM.o
end Go.Proofs.YtfhmbechennkbaaGreatDoor
