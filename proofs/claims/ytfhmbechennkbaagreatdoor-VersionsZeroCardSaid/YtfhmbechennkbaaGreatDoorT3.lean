/- Lemmas. -/
import Derived.Test.YtfhmbechennkbaaGreatDoorS1
import Derived.Test.YtfhmbechennkbaaGreatDoorT2
namespace Go.Proofs.YtfhmbechennkbaaGreatDoor
set_option maxRecDepth 100000
set_option maxHeartbeats 40000000
open Go.RowKit Go.Shelf
theorem OwnC.below_ {w w':World} {B:Nat} {c:SetC} (h:OwnC w B c) (hb:Below w.heap.size w w'):OwnC w' B c:=⟨bQ h.1 hb,bQ h.2.1 hb,bQ h.2.2 hb⟩
theorem NJ {st:St} {nm:ByteArray} (aK:StOk st) {w:World} {e:Ending} {w':World} (hp:vO st nm w e w') :
  Below w.heap.size w w'∧∃ c:SetC,OwnC w' w.heap.size c∧((∃ k,fG st.sets nm=some k∧st.sets[k]? = some c.s∧bS c.s=true∧e = .returned (.tuple #[c.val,.int .i64 0]))∨(fG st.sets nm=none∧e = .returned (.tuple #[c.val,.int .i64 9]))):=by
 obtain⟨hb,c,he,hc,ho⟩:=hp
 refine⟨hb,c,ho,?_⟩
 unfold qa at he hc
 cases hi:fG st.sets nm with
 | none=>
  rw[hi] at he
  exact .inr ⟨rfl,he⟩
 | some k=>
  obtain⟨hk,-,-⟩:=mf hi
  rw[hi] at he hc
  have e1:st.sets[k]? = some c.s:=by rw[hc];simp[hk]
  exact .inl ⟨k,rfl,e1,aK.sets _ (List.mem_of_getElem? e1),he⟩
theorem K8 (B D:Nat) (M:Nat→Prop) (st:St) (r:RefR) (nm:ByteArray) (w:World) (h:RefAt w B D M st r) (aK:StOk st) :
  Calls Tryz.prog 64 #[.pointer (some ⟨D,0,none⟩),.string nm] w (fun e w'=>e = .returned (.tuple #[.bool (iQ st nm).1,.int .i64 (iQ st nm).2])∧Below w.heap.size w w'):=by
 have hG:=(wy B D M st r nm w h aK).mono fun _ _ hp=>NJ aK hp
 have HS:=zh h
 clear h aK
 go_enter Tryz.func64,Tryz.ntmps64
 go_wp2_with fail
 refine hG.mono ?_
 rintro e w2 ⟨bE,⟨s,al,cl,ai,ci,ab,cb⟩,hO,hc⟩
 have bK:=zh bE
 have gx:=zh (HS.o.below bE)
 have HO:=zh hO
 clear bE hG hO HS
 simp only at hc
 have ha:=(yB w2.heap.size w2).alloc (yA _) (.cells (zA s al cl ai ci ab cb) 26)
 have HA:=zh ha
 have Fu:=zh (Blk.new w2 26 (zA s al cl ai ci ab cb))
 clear ha
 rcases hc with⟨k,hi,hk,hv,rfl⟩ | ⟨hi,rfl⟩
 ·have HE:Y0 (iQ st nm=(decide (s∈st.known),0)):=by unfold Y0 iQ;rw[hi];simp[hk]
  have hKn:=wu B D M st r _ s _ (gx.o.below HA.o) ((HO.o.below_ HA.o).set)
  generalize decide (s∈st.known)=q at *
  clear hi hk hv HO gx
  obtain⟨z0,z1,z2,z3,z4,z5,z6,z7,z8,z9,jg,fc,gU⟩:=Fu.o.c13
  unfold SetC.val aL at *
  dsimp only at *
  go_wp2_with fail
  refine hKn.mono ?_
  rintro e w4 ⟨rfl,cD⟩
  have dU:=zh (bK.o.trans ((HA.o.trans (cD.mono HA.o.size)).mono bK.o.size))
  clear hKn cD bK HA Fu z0 z1 z2 z3 z4 z5 z6 z7 z8 z9 jg fc gU
  go_wp2_with fail
  go_ret2
  exact⟨by rw[HE.o];rfl,dU.o⟩
 have HE:Y0 (iQ st nm=(false,9)):=by unfold Y0 iQ;rw[hi]
 have dU:=zh (bK.o.trans (HA.o.mono bK.o.size))
 clear hi HO gx Fu HA bK
 unfold SetC.val aL at *
 dsimp only at *
 go_wp2_with fail
 go_ret2
 exact⟨by rw[HE.o];rfl,dU.o⟩
def qX (B D:Nat) (M:Nat→Prop) (st:St) (nm:ByteArray) (w:World) (e:Ending) (w':World):Prop :=
 ChgR B D w w'∧∃ M' r' v,RefAt w' B D M' (bG st nm) r'∧(∀ g,M' g→M g∨w.heap.size≤g)∧e = .returned (.tuple #[v,.int .i64 (ma st nm).2])∧FrsAt w' w'.heap.size v (ma st nm).1
theorem Dj {s:SetT} {w:World} {e:Ending} {w':World} (h:DX s w e w'):Below w.heap.size w w'∧∃ A c,e = .returned (.tuple #[.slice A (ax s).length c,.int .i64 (Zs s)])∧FrsAt w' w'.heap.size (.slice A (ax s).length c) (ax s):=by
 obtain⟨hb,⟨h0,v,rfl,hf⟩ | ⟨h0,rfl⟩⟩:=h
 ·have e0:ax s=oA s:=by unfold ax;rw[if_pos h0]
  obtain⟨A,c,rfl,-⟩:=hf.open_
  rw[e0,h0]
  exact⟨hb,A,c,rfl,hf⟩
 have e0:ax s=[]:=by unfold ax;rw[if_neg h0]
 rw[e0]
 exact⟨hb,none,0,rfl,Flat.of_own (yJ _ 0 0 0)⟩
theorem K7 (B D:Nat) (M:Nat→Prop) (st:St) (r:RefR) (nm:ByteArray) (w:World) (h:RefAt w B D M st r) (aK:StOk st) (hw:st.work≤1000000) (Wp:st.known.length≤1000000) :
  Calls Tryz.prog 60 #[.pointer (some ⟨D,0,none⟩),.string nm] w (qX B D M st nm w):=by
 have hG:=(wy B D M st r nm w h aK).mono fun _ _ hp=>NJ aK hp
 have HS:=zh h
 have hBw:B≤w.heap.size:=yH h.base (YJ h.blk.lt)
 clear h aK
 go_enter Tryz.func60,Tryz.ntmps60
 go_wp2_with fail
 refine hG.mono ?_
 rintro e w2 ⟨bE,⟨s,al,cl,ai,ci,ab,cb⟩,hO,hc⟩
 have bK:=zh bE
 have HO:=zh hO
 clear bE hG hO
 simp only at hc
 have ha:=(yB w2.heap.size w2).alloc (yA _) (.cells (zA s al cl ai ci ab cb) 26)
 have bY:=zh (bK.o.trans (ha.mono bK.o.size))
 have Fu:=zh (Blk.new w2 26 (zA s al cl ai ci ab cb))
 have Ec:=zh (HO.o.below_ ha)
 clear ha HO
 rcases hc with⟨k,hi,hk,hv,rfl⟩ | ⟨hi,rfl⟩
 rotate_left
 ·have nD:Y0 (ma st nm=([],9)):=by unfold Y0 ma;rw[hi]
  have lP:Y0 (bG st nm=st):=by unfold Y0 bG;rw[hi]
  clear hi Ec Fu bK
  unfold SetC.val aL at *
  dsimp only at *
  go_wp2_with fail
  go_ret2
  exact⟨ChgR.of_below bY.o hBw,M,r,.slice none 0 0,by rw[lP.o];exact HS.o.below bY.o,fun _ hg=>.inl hg,by rw[nD.o];rfl,by rw[nD.o];exact Flat.of_own (yJ _ 0 0 0)⟩
 have nD:Y0 (ma st nm=(ax s,Zs s)):=by unfold Y0 ma;rw[hi];simp[hk]
 have lP:Y0 (bG st nm=if s∈st.known then st else { st with known:=st.known++[s],work:=st.work+1 }):=by unfold Y0 bG;rw[hi];simp[hk]
 have HV:=zh hv
 clear hi hk hv
 have hwl:=bK.o.size
 have jS:=zh (HS.o.since bY.o)
 have HC3:Y0 (SetCM (w2.alloc (.cells (zA s al cl ai ci ab cb) 26)) (dh M w.heap.size (w2.alloc (.cells (zA s al cl ai ci ab cb) 26)).heap.size) ⟨s,al,cl,ai,ci,ab,cb⟩):=kT Ec.o
 have hKn:=wu B D _ st r _ s _ jS.o HC3.o.set
 have HKT:Y0 (∀ g,r.kv.ownBlock=some g→g≠w2.heap.size):=fun g e=>by have:=(HS.o.kown.lt g e).2;omega
 clear HS Ec
 obtain⟨z0,z1,z2,z3,z4,z5,z6,z7,z8,z9,jg,fc,gU⟩:=Fu.o.c13
 unfold SetC.val aL at hKn ⊢
 dsimp only at hKn ⊢
 go_wp2_with fail
 generalize ng:w2.alloc (.cells (zA s al cl ai ci ab cb) 26)=W3 at *
 have hM3:∀ g,dh M w.heap.size W3.heap.size g→M g∨w.heap.size≤g:=fun g hg=>hg.elim .inl fun h=>.inr h.1
 have Z0:=zh hM3
 generalize dh M w.heap.size W3.heap.size=M3 at *
 refine hKn.mono ?_
 rintro e w4 ⟨rfl,cD⟩
 have iW:=zh (jS.o.below cD)
 have Yz:=zh (HC3.o.kept (KeepM.of_below (M:=M3) cD))
 have qjM:=Fu.o.lt
 have tR:=zh (Fu.o.below cD qjM)
 have dU:=zh (bY.o.trans (cD.mono bY.o.size))
 have hDw:=iW.o.blk.lt
 have hDt:D≠w2.heap.size:=fun e=>by
  have h1:=iW.o.blk
  have h2:=tR.o
  unfold Blk at h1 h2
  rw[e,h2] at h1
  injection h1 with h1
  injection h1 with _ h1 _
  exact absurd h1 (by decide)
 clear cD hKn jS HC3 Fu bY ng qjM hM3 bK z0 z1 z2 z3 z4 z5 z6 z7 z8 z9 jg fc gU
 by_cases hq:s∈st.known
 ·have e0:decide (s∈st.known)=true:=yD hq
  rw[e0]
  rw[if_pos hq] at lP
  have ny:=zh iW.o
  have HC9:=zh Yz.o
  have Od:=zh tR.o
  have JU:Y0 (ChgR B D w w4):=ChgR.of_below dU.o hBw
  clear iW Yz tR dU hq e0
  have PH:=wn _ s w4 HC9.o.set (kP HV.o) HV.o
  have Fu:=zh Od.o
  obtain⟨z0,z1,z2,z3,z4,z5,z6,z7,z8,z9,jg,fc,gU⟩:=Fu.o.c13
  unfold SetC.val aL at PH
  dsimp only at PH
  go_wp2_with fail
  refine PH.mono ?_
  rintro e wz hp
  obtain⟨Jb,Az,cz,rfl,hfz⟩:=Dj hp
  have Eb:=zh (ny.o.below Jb)
  have HCz:=zh (JU.o.trans (ChgR.of_below Jb (yH hBw JU.o.bel.size)) )
  have HFz:=zh hfz
  clear PH hp Jb hfz z0 z1 z2 z3 z4 z5 z6 z7 z8 z9 jg fc gU Fu Od HC9
  go_wp2_with fail
  go_ret2
  exact⟨HCz.o,M3,_,_,by rw[lP.o];exact Eb.o,Z0.o,by rw[nD.o];rfl,by rw[nD.o];exact HFz.o⟩
 have e0:decide (s∈st.known)=false:=yC hq
 rw[e0]
 rw[if_neg hq] at lP
 clear hq e0
 obtain⟨Ak,ck,ek⟩:=AG iW.o.kown
 have hKl:r.K.length≤1000000:=by
  have:=congrArg List.length iW.o.kE
  rw[yP] at this
  omega
 have hd:=(yB w4.heap.size w4).drew
 have S0:=iW.o.below hd
 have T0:=tR.o.below hd tR.o.lt
 have tF:=(yB w4.drew.heap.size w4.drew).alloc (yA _) (.cells (zA s al cl ai ci ab cb) 26)
 have S1:=S0.below tF
 have T1:=T0.below tF T0.lt
 have C1:=(Yz.o.kept (KeepM.of_below (M:=M3) hd)).kept (KeepM.of_below (M:=M3) tF)
 have hN:Blk (w4.drew.alloc (.cells (zA s al cl ai ci ab cb) 26)) w4.heap.size 26 (zA s al cl ai ci ab cb):=Blk.new w4.drew 26 (zA s al cl ai ci ab cb)
 obtain⟨i0,il,gu,iC,iN⟩:=info_parts ik
 have LN:=S1.kown
 rw[ek] at LN
 have hkt:∀ g,r.kv.ownBlock=some g→g≠w2.heap.size:=HKT.o
 obtain⟨g3,bF,wz,fh,sP,m5,jA,-⟩ := run_append_lies (P := Tryz.prog) (w := w4.drew.alloc (.cells (zA s al cl ai ci ab cb) 26)) 46 46 B 26 i0 _ 13 160 Tryz.underlying46 il gu iC iN rfl (by decide)
  (.slice Ak r.K.length ck) r.K.length (r.K.flatMap SetC.cells) LN ⟨w4.heap.size,0,none⟩ 1 1 (zB s al cl ai ci ab cb) rfl
  (fun j u hu=>by rw[Addr.add_lit,yR];exact (hN.cell j).trans (by simpa using hu)) (fun u hu=>Gh ⟨s,al,cl,ai,ci,ab,cb⟩ u hu) (by omega) (by unfold maxLen;omega) (by omega) (Nat.le_trans hBw (Nat.le_trans dU.o.size (by simp))) _ rfl
 have qi:(w4.drew.alloc (.cells (zA s al cl ai ci ab cb) 26)).grownBy wz r.kv.ownBlock:=by rw[ek];exact m5
 have iB:=OE (x:=⟨s,al,cl,ai,ci,ab,cb⟩) (kv':=.slice (some ⟨g3,0,none⟩) (r.K.length+1) bF) S1 C1 sP qi (fun g e=>by
  obtain rfl:g3=g:=by simpa[Value.ownBlock] using e
  rw[ek]
  rcases jA with h1 | h1
  ·exact .inl h1
  exact .inr (Nat.le_of_eq h1.symm))
 have EU:=S1.blk.kept qi (fun e=>S1.kvD D e.symm rfl)
 have hTz:=T1.kept qi (fun e=>hkt _ e.symm rfl)
 have b0:=S0.blk
 have b1:=S1.blk
 have bz:=EU
 rw[ek] at b0 b1 bz
 have hT9:Blk (wz.setCell ⟨D,2,none⟩ (.slice (some ⟨g3,0,none⟩) (r.K.length+1) bF)) w2.heap.size 26 (zA s al cl ai ci ab cb):=(YC _ _ _ _ (by exact fun e=>hDt e.symm)).trans hTz
 have qvd:w4.heap.size≤(wz.setCell ⟨D,2,none⟩ (.slice (some ⟨g3,0,none⟩) (r.K.length+1) bF)).heap.size:=yH (yH (by simp) m5.size) dR
 have ny:=zh iB.1
 have JU:Y0 (ChgR B D w (wz.setCell ⟨D,2,none⟩ (.slice (some ⟨g3,0,none⟩) (r.K.length+1) bF))):=((ChgR.of_below dU.o hBw).trans ((ChgR.of_below hd (yH hBw dU.o.size)).trans (ChgR.of_below tF (yH hBw dU.o.size)))).trans iB.2
 have Od:=zh hT9
 obtain⟨Wd,qP,gT,kt,ng⟩:∃ Wd:Nat→World,Wd 0=w4.drew∧Wd 1=w4.drew.alloc (.cells (zA s al cl ai ci ab cb) 26)∧Wd 2=wz∧Wd 3=wz.setCell ⟨D,2,none⟩ (.slice (some ⟨g3,0,none⟩) (r.K.length+1) bF) :=
  ⟨fun m=>if m=0 then w4.drew else if m=1 then w4.drew.alloc (.cells (zA s al cl ai ci ab cb) 26) else if m=2 then wz else wz.setCell ⟨D,2,none⟩ (.slice (some ⟨g3,0,none⟩) (r.K.length+1) bF),rfl,rfl,rfl,rfl⟩
 have c2:∀ m,m≤1→(Wd m).cell? ⟨D,2,none⟩=some (.slice Ak r.K.length ck):=fun m hm=>by
  rcases m with _ | _ | m
  ·rw[qP];exact (b0.cell 2).trans rfl
  ·rw[gT];exact (b1.cell 2).trans rfl
  omega
 have NF:∀ m,m≤3→Blk (Wd m) w2.heap.size 26 (zA s al cl ai ci ab cb):=fun m hm=>by
  rcases m with _ | _ | _ | _ | m
  ·rw[qP];exact T0
  ·rw[gT];exact T1
  ·rw[kt];exact hTz
  ·rw[ng];exact hT9
  omega
 have t0:∀ m,m≤3→(Wd m).cell? ⟨w2.heap.size,0,none⟩=some _:=fun m hm=>((NF m hm).cell 0).trans rfl
 have t1:∀ m,m≤3→(Wd m).cell? ⟨w2.heap.size,1,none⟩=some _:=fun m hm=>((NF m hm).cell 1).trans rfl
 have t2:∀ m,m≤3→(Wd m).cell? ⟨w2.heap.size,2,none⟩=some _:=fun m hm=>((NF m hm).cell 2).trans rfl
 have t3:∀ m,m≤3→(Wd m).cell? ⟨w2.heap.size,3,none⟩=some _:=fun m hm=>((NF m hm).cell 3).trans rfl
 have t4:∀ m,m≤3→(Wd m).cell? ⟨w2.heap.size,4,none⟩=some _:=fun m hm=>((NF m hm).cell 4).trans rfl
 have t5:∀ m,m≤3→(Wd m).cell? ⟨w2.heap.size,5,none⟩=some _:=fun m hm=>((NF m hm).cell 5).trans rfl
 have t6:∀ m,m≤3→(Wd m).cell? ⟨w2.heap.size,6,none⟩=some _:=fun m hm=>((NF m hm).cell 6).trans rfl
 have t7:∀ m,m≤3→(Wd m).cell? ⟨w2.heap.size,7,none⟩=some _:=fun m hm=>((NF m hm).cell 7).trans rfl
 have t8:∀ m,m≤3→(Wd m).cell? ⟨w2.heap.size,8,none⟩=some _:=fun m hm=>((NF m hm).cell 8).trans rfl
 have t9:∀ m,m≤3→(Wd m).cell? ⟨w2.heap.size,9,none⟩=some _:=fun m hm=>((NF m hm).cell 9).trans rfl
 have t10:∀ m,m≤3→(Wd m).cell? ⟨w2.heap.size,10,none⟩=some _:=fun m hm=>((NF m hm).cell 10).trans rfl
 have t11:∀ m,m≤3→(Wd m).cell? ⟨w2.heap.size,11,none⟩=some _:=fun m hm=>((NF m hm).cell 11).trans rfl
 have t12:∀ m,m≤3→(Wd m).cell? ⟨w2.heap.size,12,none⟩=some _:=fun m hm=>((NF m hm).cell 12).trans rfl
 have Px:wz.cell? ⟨D,2,none⟩=some (.slice Ak r.K.length ck):=(bz.cell 2).trans rfl
 have JZ:=bz.frozen 2
 have W0:=zh qP
 have W3:=zh ng
 clear hd S0 T0 tF S1 T1 C1 hN il gu iC iN LN hkt sP m5 qi iB EU hTz b0 b1 bz hT9 NF tR dU jA
 go_upto_region 5 with fail
 refine cX [.pointer (some ⟨D,0,none⟩),.pointer (some ⟨D,0,none⟩),.pointer (some ⟨D,0,none⟩),.pointer (some ⟨D,2,none⟩),.slice Ak r.K.length ck,.agg (zA s al cl ai ci ab cb),.slice (some ⟨w4.heap.size,0,none⟩) 1 1,.slice (some ⟨g3,0,none⟩) (r.K.length+1) bF,.pointer (some ⟨D,0,none⟩),.pointer (some ⟨D,2,none⟩),undef] Wd [6,7,10] (by kernel_rfl) (by kernel_rfl) (by kernel_rfl) (by decide) (by rfl) W0.o ?_ ?_
 ·simp only[cj,Act.put,aJ,aI,aH]
  simp only[fY]
  refine⟨?_,?_,?_,?_,?_,?_,?_,?_,?_,?_,?_,trivial⟩
  ·exact .inl ⟨by decide,fun m hm aK=>by go_simp⟩
  ·exact .inl ⟨by decide,fun m hm aK=>by go_simp⟩
  ·exact .inl ⟨by decide,fun m hm aK=>by go_simp⟩
  ·exact .inl ⟨by decide,fun m hm aK=>by go_simp⟩
  ·exact .inl ⟨by decide,fun m hm aK=>by
    have Bj:m≤1:=by
     rcases m with _ | _ | _ | _ | m
     ·omega
     ·omega
     ·exact absurd (Eq.trans (a:=false) (by kernel_rfl) aK) Bool.false_ne_true
     ·exact absurd (Eq.trans (a:=false) (by kernel_rfl) aK) Bool.false_ne_true
     exact absurd hm (by show ¬ m+4≤3;omega)
    have h:=c2 m Bj
    go_simp⟩
  ·exact .inl ⟨by decide,fun m hm aK=>by have q0:=t0 m hm;have q1:=t1 m hm;have q2:=t2 m hm;have q3:=t3 m hm;have q4:=t4 m hm;have q5:=t5 m hm;have q6:=t6 m hm;have q7:=t7 m hm;have q8:=t8 m hm;have q9:=t9 m hm;have iZ:=t10 m hm;have j9:=t11 m hm;have mY:=t12 m hm;go_simp⟩
  ·exact .inr ⟨0,rfl,.inr (.inl (by rw[W0.o,gT];go_simp))⟩
  ·exact .inr ⟨1,rfl,.inr (.inl (by rw[gT,kt];exact dA rfl (by go_simp) (by go_simp) fh))⟩
  ·exact .inl ⟨by decide,fun m hm aK=>by go_simp⟩
  ·exact .inl ⟨by decide,fun m hm aK=>by go_simp⟩
  exact .inr ⟨2,rfl,.inl ⟨rfl,by rw[kt,W3.o];go_simp⟩⟩
 simp only[cj,Act.put,aJ,aI,aH]
 have eW:Wd (List.length [6,7,10])=wz.setCell ⟨D,2,none⟩ (.slice (some ⟨g3,0,none⟩) (r.K.length+1) bF):=W3.o
 rw[eW]
 clear eW W3 W0 gT kt qP ng c2 t0 t1 t2 t3 t4 t5 t6 t7 t8 t9 t10 t11 t12 Px JZ fh
 generalize wz.setCell ⟨D,2,none⟩ (.slice (some ⟨g3,0,none⟩) (r.K.length+1) bF)=W9 at *
 have HC5:=zh (Yz.o.sub (fun _ hg=>hg))
 have IK:=R5 (st.work+1) ny.o
 have hTw:Blk (W9.setCell ⟨D,3,none⟩ (.int .i64 ((st.work+1:Nat):Int))) w2.heap.size 26 (zA s al cl ai ci ab cb):=(YC _ _ _ _ (by exact fun e=>hDt e.symm)).trans Od.o
 have hCw:=JU.o.trans IK.2
 have hHK:SetCM W9 M3 ⟨s,al,cl,ai,ci,ab,cb⟩:=ny.o.ksets _ (by simp)
 have qvp:SetCM (W9.setCell ⟨D,3,none⟩ (.int .i64 ((st.work+1:Nat):Int))) M3 ⟨s,al,cl,ai,ci,ab,cb⟩:=IK.1.ksets _ (by simp)
 have x3:=ny.o.blk.cell 3
 have f3:=ny.o.blk.frozen 3
 simp only[aP,aQ,aO] at x3
 have w0:(0:Int)≤(st.work:Int):=yE _
 have v1:IntKind.i64.wrap ((st.work:Int)+1)=(st.work:Int)+1:=yF _ (by omega)
 rw[show ((st.work+1:Nat):Int)=(st.work:Int)+1 from by omega] at IK hTw hCw qvp
 have HSw:=zh IK.1
 have HTw:=zh hTw
 have HCw:=zh hCw
 have HKw:=zh qvp
 clear IK hTw hCw hHK qvp HC5 Yz iW ny Od JU
 go_upto_region 7 with fail
 generalize W9.setCell ⟨D,3,none⟩ (.int .i64 ((st.work:Int)+1))=w9 at *
 have ny:=zh HSw.o
 have HC9:=zh HKw.o
 have Od:=zh HTw.o
 have JU:=zh HCw.o
 clear HSw HKw HTw HCw x3 f3
 have PH:=wn _ s w9 HC9.o.set (kP HV.o) HV.o
 have Fu:=zh Od.o
 obtain⟨z0,z1,z2,z3,z4,z5,z6,z7,z8,z9,jg,fc,gU⟩:=Fu.o.c13
 unfold SetC.val aL at PH
 dsimp only at PH
 go_wp2_with fail
 refine PH.mono ?_
 rintro e wz hp
 obtain⟨Jb,Az,cz,rfl,hfz⟩:=Dj hp
 have Eb:=zh (ny.o.below Jb)
 have HCz:=zh (JU.o.trans (ChgR.of_below Jb (yH hBw JU.o.bel.size)) )
 have HFz:=zh hfz
 clear PH hp Jb hfz z0 z1 z2 z3 z4 z5 z6 z7 z8 z9 jg fc gU Fu Od HC9
 go_wp2_with fail
 go_ret2
 exact⟨HCz.o,M3,_,_,by rw[lP.o];exact Eb.o,Z0.o,by rw[nD.o];rfl,by rw[nD.o];exact HFz.o⟩
def fZ (B D:Nat) (M:Nat→Prop) (o:Int×St) (w:World) (e:Ending) (w':World):Prop :=
 e = .returned (.int .i64 o.1)∧ChgR B D w w'∧∃ M' r',RefAt w' B D M' o.2 r'∧∀ g,M' g→M g∨w.heap.size≤g
theorem lV {B D:Nat} {M:Nat→Prop} {st:St} {r:RefR} {w W:World} {n:Int} (h:RefAt w B D M st r) (hb:Below w.heap.size w W):fZ B D M (n,st) w (.returned (.int .i64 n)) W :=
 ⟨rfl,ChgR.of_below hb (yH h.base (YJ h.blk.lt)),M,r,h.below hb,fun _ hg=>.inl hg⟩
theorem OG (B D:Nat) (M:Nat→Prop) (st:St) (r:RefR) (w:World) (h:RefAt w B D M st r) (hp:st.past.length≤1000) :
  Calls Tryz.prog 59 #[.pointer (some ⟨D,0,none⟩)] w (fZ B D M (cu st) w):=by
 have jo:=h.blk.cell 1
 simp only[aP,aQ,aO] at jo
 have Kc:=h.blk.lt
 have LX:r.P.length=st.past.length:=by rw[← h.pastE,yP]
 rcases List.eq_nil_or_concat r.P with h0 | ⟨P',q,hP⟩
 ·have e0:cu st=(14,st):=by
   unfold cu
   rw[if_pos]
   have:st.past.length=0:=by rw[← LX,h0];rfl
   exact List.length_eq_zero_iff.1 this
  obtain⟨A4,c4,ep⟩:=bD h.own
  rw[ep,h0] at jo
  have nz:Y0 (fZ B D M (cu st) w (.returned (.int .i64 14)) w):=by rw[e0];exact lV h (yB _ _)
  clear h h0 hp LX ep e0
  go_enter Tryz.func59,Tryz.ntmps59
  go_wp2_with fail
  go_ret
  exact nz.o
 rw[List.concat_eq_append] at hP
 have az:=h.own
 rw[hP,yS,yQ] at az
 obtain⟨g,c,ev,gC,dr,ah,QH⟩:=Np az (by rw[yP])
 have hq:SetsM w M q.1 q.2:=h.past q (by rw[hP];simp)
 obtain⟨A5,c5,e5⟩:∃ A c,q.1 = .slice A q.2.length c:=let ⟨A,c,e,_⟩:=hq.1;⟨A,c,e⟩
 rw[ev] at jo
 have e0:cu st=(0,{ st with sets:=q.2.map SetC.s,past:=P'.map fun q=>q.2.map SetC.s }):=by
  have ep:=h.pastE
  rw[hP,yS,List.map_cons,List.map_nil] at ep
  unfold cu
  rw[if_neg (by rw[← ep];simp),← ep]
  simp
 have hS:=rG h hq
 have WK:=ZO hS.1 hP ev
 have nz:Y0 (fZ B D M (cu st) w (.returned (.int .i64 0)) ((w.setCell ⟨D,0,none⟩ q.1).setCell ⟨D,1,none⟩ (.slice (some ⟨g,0,none⟩) P'.length c))):=by
  rw[e0]
  exact⟨rfl,hS.2.trans WK.2,M,_,WK.1,fun _ hg=>.inl hg⟩
 clear hS WK
 rw[e5] at nz ah
 have Zb:=h.blk.frozen 0
 have jr:=h.blk.cell 0
 simp only[aP,aO] at jr
 have hn:P'.length≤1000:=by
  rw[hP,yQ] at LX
  simp at LX
  omega
 unfold maxLen at dr
 have QL:=h.blk.set_ 0 (.slice A5 q.2.length c5)
 simp only[aJ,aI] at QL
 rw[ev] at QL
 have bZ:=zh QL
 clear h hP hp LX az hq e5 e0 ev QL
 generalize P'.length=n at *
 have v1:((n+1:Nat):Int)-1=(n:Int):=by omega
 go_enter Tryz.func59,Tryz.ntmps59
 have n0:(0:Int)≤(n:Int):=yE _
 have n1:(n:Int)<(n:Int)+1:=by omega
 have n2:n≤c:=by omega
 go_upto_region 5 with fail
 generalize w.setCell ⟨D,0,none⟩ (.slice A5 q.2.length c5)=W1 at *
 have c1:=bZ.o.cell 1
 have f1:=bZ.o.frozen 1
 simp only[aP,aQ,aO] at c1
 clear jo jr Zb ah
 go_wp2_with fail
 go_ret
 exact nz.o
section
variable {w W:World} {M:Nat→Prop} {L:List SetC} {c:SetC} {sv:Value}
theorem K1 {v:Value} (h:∀ x∈L,SetCM w M x) (hb:Below w.heap.size w W) (az:W.ownsRow w.heap.size 26 13 v (L.length+1) (L.flatMap SetC.cells++c.cells)) (hc:OwnC W w.heap.size c) :
  SetsM W (dh M w.heap.size W.heap.size) v (L++[c]):=by
 refine⟨?_,fun x hx=>?_⟩
 ·have h1:=FlatM.of_own (M:=dh M w.heap.size W.heap.size) az fun g e=>.inr (az.lt g e)
  rw[yQ,List.flatMap_append,List.flatMap_cons,List.flatMap_nil,List.append_nil]
  exact h1
 rcases List.mem_append.1 hx with hx | hx
 ·exact ((h x hx).kept (KeepM.of_below hb)).sub fun g hg=>.inl hg
 rw[List.mem_singleton] at hx
 subst hx
 exact kT hc
theorem O8 {v:Value} {a g cap k:Nat} {W':World} (hL:∀ c∈L,SetCM w M c) (hb:Below w.heap.size w W) (ha:a=w.heap.size) (hv:v = .slice (some ⟨g,0,none⟩) L.length cap) (az:W.ownsRow a 26 13 v L.length (L.flatMap SetC.cells)) (hc:OwnC W a c) (hk:k < L.length)
  (hW':W'=W.setCells g (k*13) c.cells) :
  SetsM W' (dh M w.heap.size W'.heap.size) v (L.set k c)∧Below w.heap.size w W':=by
 subst ha hv hW'
 have QH:=az.lt g (by simp[Value.ownBlock])
 have hG:=bI g c.cells (k*13) W
 have gZ:Below w.heap.size w (W.setCells g (k*13) c.cells):=hb.grown hG hb.size (fun j e=>by have e1:g=j:=(by simpa using e);omega)
 obtain⟨cs,hgt⟩:=cm az (g:=g) (by simp[Value.ownBlock])
 have fB:∀ {t s n:Nat} {u:Value} {xs:List Value},W.ownsRow w.heap.size t s u n xs→t≠26→(W.setCells g (k*13) c.cells).ownsRow w.heap.size t s u n xs:=fun ho ht=>ho.kept hG (cQ ho (cs:=cs) hgt (Ne.symm ht))
 have pZ:OwnC (W.setCells g (k*13) c.cells) w.heap.size c:=⟨fB hc.1 (by decide),fB hc.2.1 (by decide),fB hc.2.2 (by decide)⟩
 have qO:=fun j u hu=>az.cells (g:=g) (by simp[Value.ownBlock]) j u hu
 have IW:c.cells.length=13:=rfl
 have oH:∀ i,i<c.cells.length→(W.cell? ⟨g,k*13+i,none⟩).isSome=true:=fun i hi=>by
  have:=fC SetC.cells 13 (fun _=>rfl) L k i hk (by omega)
  have aw:i<L[k].cells.length:=by show i<13;omega
  rw[yM aw] at this
  have h2:=qO _ _ this
  rw[Addr.add_lit,yR] at h2
  rw[h2]
  rfl
 have dK:(W.setCells g (k*13) c.cells).heap.size=W.heap.size:=kN g c.cells (k*13) W
 refine⟨⟨⟨_,_,by rw[List.length_set],?_,?_,fun _=>⟨g,0,rfl,.inr ⟨QH.1,by rw[dK];exact QH.2⟩,by rw[dK];exact QH.2,fun j u hu=>?_⟩⟩,fun x hx=>?_⟩,gZ⟩
 ·rw[List.length_set]
  rcases az.2 with⟨e,_⟩ | ⟨g',oV,cur,e,_,_,h1,_⟩
  ·cases e
  injection e with _ _ e3
  subst e3
  exact h1
 ·rcases az.2 with⟨e,_⟩ | ⟨g',oV,cur,e,_,_,_,h2,_⟩
  ·cases e
  injection e with _ _ e3
  subst e3
  exact h2
 ·rw[yR]
  have nB:=(List.getElem?_eq_some_iff.1 hu).1
  rw[d9 SetC.cells 13 (fun _=>rfl),List.length_set] at nB
  have hi:j / 13<L.length:=by omega
  have hr:j % 13<13:=Nat.mod_lt _ (by decide)
  have hj:j=j / 13*13+j % 13:=by omega
  have N3:=fC SetC.cells 13 (fun _=>rfl) (L.set k c) (j / 13) (j % 13) (by rw[List.length_set];exact hi) hr
  rw[← hj,hu] at N3
  by_cases EK:j / 13=k
  ·have e1:(L.set k c)[j / 13]'(by rw[List.length_set];exact hi)=c:=by simp[← EK]
   rw[e1] at N3
   have:=World.cell?_setCells_in g c.cells (k*13) W (fun i hi=>oH i hi) (j % 13) (by rw[IW];exact hr)
   rw[show k*13+j % 13=j by omega] at this
   rw[this]
   rw[← yM]
   exact N3.symm
  have e1:(L.set k c)[j / 13]'(by rw[List.length_set];exact hi)=L[j / 13]:=List.getElem_set_ne (Ne.symm EK) _
  rw[e1] at N3
  have h3:=fC SetC.cells 13 (fun _=>rfl) L (j / 13) (j % 13) hi hr
  rw[← hj,← N3] at h3
  have h4:=qO _ _ h3
  rw[Addr.add_lit,yR] at h4
  rw[World.cell?_setCells_out g c.cells (k*13) W ⟨g,j,none⟩ (fun _ _=>by show j<k*13∨k*13+c.cells.length≤j;rw[IW];omega)]
  exact h4
 rcases List.mem_or_eq_of_mem_set hx with hx | rfl
 ·exact ((hL x hx).kept (KeepM.of_below gZ)).sub fun g hg=>.inl hg
 exact kT pZ
theorem tn {w w':World} {b1 b2 s1 s2 n1 n2:Nat} {t1 t2:TypeId} {v1 v2:Value} {x1 x2:List Value} (h1:w.ownsRow b1 t1 s1 v1 n1 x1) (h2:w.ownsRow b2 t2 s2 v2 n2 x2) (ht:t1≠t2) (hg:w.grownBy w' v2.ownBlock):w'.ownsRow b1 t1 s1 v1 n1 x1 :=
 bX h1 fun g e=>hg.block g (h1.lt g e).2 (fun e'=>AF h1 h2 ht g e e'.symm)
end
theorem N0 {L:List SetC} {st:St} {k:Nat} {nm:ByteArray} (hE:L.map SetC.s=st.sets) (hi:fG st.sets nm=some k):∃ hk:k<L.length,st.sets[k]? = some L[k].s:=by
 obtain⟨hk,-,-⟩:=mf hi
 have LO:k<L.length:=by rw[← hE,yP] at hk;exact hk
 exact⟨LO,by rw[← hE,YD,yM LO];rfl⟩
theorem RA (B D:Nat) (M:Nat→Prop) (st:St) (r:RefR) (v:Value) (x:SetT) (w:World) (h:RefAt w B D M st r) (aK:StOk st) (hv:SetAt w B v x) (hn:SetNames x) (hp:st.past.length≤1000) :
  Calls Tryz.prog 57 #[.pointer (some ⟨D,0,none⟩),v] w (fZ B D M (putV st x) w):=by
 have JK:=zh fun u W (h:SetAt W W.heap.size u x)=>K5 u x W h hn
 have Q9:Y0 (B≤w.heap.size):=yH h.base (YJ h.blk.lt)
 have HX:=zh fun W (hb:Below B w W)=>(hv.below hb (yA _)).mono (yH Q9.o hb.size)
 have LX:r.P.length≤1000:=by
  have:=congrArg List.length h.pastE
  rw[yP] at this
  omega
 have PN:r.L.length≤60:=by
  have:=aK.len
  rw[← h.setsE,yP] at this
  exact this
 have qj8:Y0 (st.sets.length=r.L.length):=by unfold Y0;rw[← h.setsE,List.length_map]
 obtain⟨A4,c4,ep⟩:=bD h.own
 obtain⟨As,cs,es⟩:∃ A c,r.sv = .slice A r.L.length c:=let ⟨A,c,e,_⟩:=h.sets.1;⟨A,c,e⟩
 have FD:=zh ep
 have pc:=zh es
 have HPT:Y0 (∀ g,r.pv.ownBlock=some g→g≠w.heap.size):=fun g e=>by have:=(h.own.lt g e).2;omega
 have HDT:Y0 (w.heap.size≠D):=by have:=h.blk.lt;unfold Y0;omega
 have qm:=zh h
 clear h aK hn hp ep es
 obtain⟨Al,cl,Ai,ci,Ab,cb,rfl,-,-,-⟩:=hv
 unfold aL at *
 have HT:=zh (Blk.new w 26 (zA x Al cl Ai ci Ab cb))
 have HB:=zh ((yB _ w).alloc (yA _) (.cells (zA x Al cl Ai ci Ab cb) 26))
 go_enter Tryz.func57,Tryz.ntmps57
 go_upto_region 1 with fail
 generalize w.alloc (.cells (zA x Al cl Ai ci Ab cb) 26)=W1 at *
 obtain⟨z0,z1,z2,z3,z4,z5,z6,z7,z8,z9,jg,fc,gU⟩:=HT.o.c13
 go_wp2_with fail
 refine (JK.o _ W1 (HX.o _ (HB.o.mono Q9.o))).mono ?_
 rintro e w2 ⟨rfl,bE⟩
 replace HB:=zh (HB.o.trans (bE.mono HB.o.size))
 replace HT:=zh (HT.o.below bE HT.o.lt)
 clear bE z0 z1 z2 z3 z4 z5 z6 z7 z8 z9 jg fc gU JK
 cases hs:bS x
 ·have HE:Y0 (putV st x=(1,st)):=by unfold Y0 putV;rw[hs];rfl
  clear hs
  go_wp2_with fail
  go_ret
  rw[HE.o]
  exact lV qm.o HB.o
 have MB:Y0 (putV st x=fO st x):=by unfold Y0 putV;rw[hs];rfl
 have Hs:=zh hs
 clear hs
 have HS:=zh (qm.o.below HB.o)
 have hd:=HS.o.blk.cell 0
 simp only[aP,aO] at hd
 rw[pc.o] at hd
 have z0:=HT.o.cell 0
 simp only[aP,aO] at z0
 have ud:=YL hd
 have uz:=YL z0
 clear hd z0
 go_upto_region 3 with fail
 refine ag 6 (fun _=>none) (by kernel_rfl) (by kernel_rfl) ?_
 simp only[aU,aT,aW,aX]
 refine ae 1 (by kernel_rfl) (by rfl) (by decide) ?_
 simp only[aU,aT,aW,aX]
 repeat (go_big_quiet_step (fail))
 refine YH ?_
 refine qs (.pointer (some ⟨D,0,none⟩)) rfl rfl (fun w=>by go_simp) ?_
 simp only[Act.put,aJ,aI,aH]
 refine ae 4 (by kernel_rfl) (by rfl) (by decide) ?_
 simp only[aU,aT,aW,aX]
 repeat (go_big_quiet_step (fail))
 refine YH ?_
 refine Zc ?_
 intro w3 cO _
 replace HB:=zh (HB.o.trans (cO.mono HB.o.size))
 replace HT:=zh (HT.o.below cO HT.o.lt)
 replace HS:=zh (HS.o.below cO)
 clear cO ud uz
 have hF:=sY r.sv r.L x.name w3 HS.o.sat
 rw[me,HS.o.setsE,pc.o] at hF
 go_wp2_with fail
 refine hF.mono ?_
 rintro e w4 ⟨rfl,cD⟩
 replace HB:=zh (HB.o.trans (cD.mono HB.o.size))
 replace HT:=zh (HT.o.below cD HT.o.lt)
 replace HS:=zh (HS.o.below cD)
 clear cD hF
 have CF:Y0 (B≤w4.heap.size):=yH Q9.o HB.o.size
 cases hi:fG st.sets x.name with
 | none=>
  simp only[ff]
  go_upto_region 4 with fail
  go_quiet (fail)
  have NB:Below w4.heap.size w4 (w4.drewN nq):=Zf (yB _ _) nq
  replace HB:=zh (HB.o.trans (NB.mono HB.o.size))
  replace HT:=zh (HT.o.below NB HT.o.lt)
  replace HS:=zh (HS.o.below NB)
  have CF:Y0 (B≤(w4.drewN nq).heap.size):=yH CF.o NB.size
  clear NB
  generalize w4.drewN nq=w5 at *
  obtain⟨z0,z1,z2,z3,z4,z5,z6,z7,z8,z9,jg,fc,gU⟩:=HT.o.c13
  have d4:=HS.o.blk.cell 0
  simp only[aP,aO] at d4
  rw[pc.o] at d4
  by_cases rX:60≤st.sets.length
  ·have HE:Y0 (putV st x=(4,st)):=by unfold Y0;rw[MB.o];unfold fO;rw[hi];simp[rX]
   have e60:((r.L.length:Int)==60)=true:=by rw[beq_iff_eq];have:=qj8.o;omega
   clear hi rX z0 z1 z2 z3 z4 z5 z6 z7 z8 z9 jg fc gU
   go_wp2_with fail
   go_ret
   rw[HE.o]
   exact lV qm.o HB.o
  have HE:Y0 (putV st x=(0,{ st with sets:=st.sets++[x],past:=st.past++[st.sets] })):=by unfold Y0;rw[MB.o];unfold fO;rw[hi];simp[rX]
  have e60:((r.L.length:Int)==60)=false:=by rw[beq_eq_false_iff_ne];have:=qj8.o;omega
  clear hi rX z0 z1 z2 z3 z4 z5 z6 z7 z8 z9 jg fc gU
  go_upto_region 8 with fail
  clear d4
  have hd:=(yB w5.heap.size w5).drew
  have S0:=HS.o.below hd
  have tF:=(yB w5.drew.heap.size w5.drew).alloc (yA _) (.cells #[.slice As r.L.length cs] 46)
  have S1:=S0.below tF
  have hN:Blk (w5.drew.alloc (.cells #[.slice As r.L.length cs] 46)) w5.heap.size 46 #[.slice As r.L.length cs]:=Blk.new w5.drew 46 #[.slice As r.L.length cs]
  obtain⟨i0,il,gu,iC,iN⟩:=info_parts pJ
  have LN:=S1.own
  rw[FD.o] at LN
  obtain⟨g3,bF,wz,fh,sP,m5,jA,-⟩ := run_append_lies (P := Tryz.prog) (w := w5.drew.alloc (.cells #[.slice As r.L.length cs] 46)) 47 47 B 46 i0 _ 1 24 Tryz.underlying47 il gu iC iN rfl (by decide)
   (.slice A4 r.P.length c4) r.P.length (r.P.map Prod.fst) LN ⟨w5.heap.size,0,none⟩ 1 1 [.slice As r.L.length cs] rfl
   (fun j u hu=>by rw[Addr.add_lit,yR];exact (hN.cell j).trans (by simpa using hu)) (fun u hu=>by rw[List.mem_singleton.1 hu];rfl) (by omega) (by unfold maxLen;omega) (by omega) (Nat.le_trans CF.o (by simp)) _ rfl
  have qi:(w5.drew.alloc (.cells #[.slice As r.L.length cs] 46)).grownBy wz r.pv.ownBlock:=by rw[FD.o];exact m5
  have iB:=wm (pv':=.slice (some ⟨g3,0,none⟩) (r.P.length+1) bF) S1 (by rw[pc.o];exact sP) qi (fun g e=>by
   obtain rfl:g3=g:=by simpa[Value.ownBlock] using e
   rw[FD.o]
   rcases jA with h1 | h1
   ·exact .inl h1
   exact .inr (Nat.le_of_eq h1.symm))
  have EU:=S1.blk.kept qi (fun e=>S1.pvD D e.symm rfl)
  have b0:=S0.blk
  have b1:=S1.blk
  have bz:=EU
  have b3:=EU.set_ 1 (.slice (some ⟨g3,0,none⟩) (r.P.length+1) bF)
  simp only[aJ,aI,aH] at b3
  rw[FD.o,pc.o] at b0 b1 bz
  rw[pc.o] at b3
  have iV:=zh iB.1
  have MF:Y0 (ChgR B D w5 (wz.setCell ⟨D,1,none⟩ (.slice (some ⟨g3,0,none⟩) (r.P.length+1) bF))):=((ChgR.of_below hd CF.o).trans (ChgR.of_below tF CF.o)).trans iB.2
  have T0:=HT.o.below hd HT.o.lt
  have T1:=T0.below tF T0.lt
  have hTz:=T1.kept qi (fun e=>HPT.o _ e.symm rfl)
  have hT9:Blk (wz.setCell ⟨D,1,none⟩ (.slice (some ⟨g3,0,none⟩) (r.P.length+1) bF)) w.heap.size 26 (zA x Al cl Ai ci Ab cb):=(YC _ _ _ _ (by exact HDT.o)).trans hTz
  have HT8:=zh hT9
  clear T0 T1 hTz hT9
  obtain⟨Wd,qP,gT,kt,ng⟩:∃ Wd:Nat→World,Wd 0=w5.drew∧Wd 1=w5.drew.alloc (.cells #[.slice As r.L.length cs] 46)∧Wd 2=wz∧Wd 3=wz.setCell ⟨D,1,none⟩ (.slice (some ⟨g3,0,none⟩) (r.P.length+1) bF) :=
   ⟨fun m=>if m=0 then w5.drew else if m=1 then w5.drew.alloc (.cells #[.slice As r.L.length cs] 46) else if m=2 then wz else wz.setCell ⟨D,1,none⟩ (.slice (some ⟨g3,0,none⟩) (r.P.length+1) bF),rfl,rfl,rfl,rfl⟩
  have c1:∀ m,m≤1→(Wd m).cell? ⟨D,1,none⟩=some (.slice A4 r.P.length c4):=fun m hm=>by
   rcases m with _ | _ | m
   ·rw[qP];exact (b0.cell 1).trans rfl
   ·rw[gT];exact (b1.cell 1).trans rfl
   omega
  have c0:∀ m,m≤3→(Wd m).cell? ⟨D,0,none⟩=some (.slice As r.L.length cs):=fun m hm=>by
   rcases m with _ | _ | _ | _ | m
   ·rw[qP];exact (b0.cell 0).trans rfl
   ·rw[gT];exact (b1.cell 0).trans rfl
   ·rw[kt];exact (bz.cell 0).trans rfl
   ·rw[ng];exact (b3.cell 0).trans rfl
   omega
  have Px:wz.cell? ⟨D,1,none⟩=some (.slice A4 r.P.length c4):=(bz.cell 1).trans rfl
  have JZ:=bz.frozen 1
  have W0:=zh qP
  have W3:=zh ng
  clear hd S0 tF S1 hN il gu iC iN LN sP m5 qi iB EU b0 b1 bz b3 jA
  go_upto_region 8 with fail
  refine cX [.pointer (some ⟨D,0,none⟩),.pointer (some ⟨D,0,none⟩),.pointer (some ⟨D,0,none⟩),.pointer (some ⟨D,1,none⟩),.slice A4 r.P.length c4,.pointer (some ⟨D,0,none⟩),.pointer (some ⟨D,0,none⟩),.pointer (some ⟨D,0,none⟩),.slice As r.L.length cs,.slice (some ⟨w5.heap.size,0,none⟩) 1 1,.slice (some ⟨g3,0,none⟩) (r.P.length+1) bF,.pointer (some ⟨D,0,none⟩),.pointer (some ⟨D,1,none⟩),undef] Wd [9,10,13] (by kernel_rfl) (by kernel_rfl) (by kernel_rfl) (by decide) (by rfl) W0.o ?_ ?_
  ·simp only[cj,Act.put,aJ,aI,aH]
   simp only[fY]
   refine⟨?_,?_,?_,?_,?_,?_,?_,?_,?_,?_,?_,?_,?_,?_,trivial⟩
   ·exact .inl ⟨by decide,fun m hm aK=>by go_simp⟩
   ·exact .inl ⟨by decide,fun m hm aK=>by go_simp⟩
   ·exact .inl ⟨by decide,fun m hm aK=>by go_simp⟩
   ·exact .inl ⟨by decide,fun m hm aK=>by go_simp⟩
   ·exact .inl ⟨by decide,fun m hm aK=>by
     have Bj:m≤1:=by
      rcases m with _ | _ | _ | _ | m
      ·omega
      ·omega
      ·exact absurd (Eq.trans (a:=false) (by kernel_rfl) aK) Bool.false_ne_true
      ·exact absurd (Eq.trans (a:=false) (by kernel_rfl) aK) Bool.false_ne_true
      exact absurd hm (by show ¬ m+4≤3;omega)
     have h:=c1 m Bj
     go_simp⟩
   ·exact .inl ⟨by decide,fun m hm aK=>by go_simp⟩
   ·exact .inl ⟨by decide,fun m hm aK=>by go_simp⟩
   ·exact .inl ⟨by decide,fun m hm aK=>by go_simp⟩
   ·exact .inl ⟨by decide,fun m hm aK=>by have h:=c0 m hm;go_simp⟩
   ·exact .inr ⟨0,rfl,.inr (.inl (by rw[W0.o,gT];go_simp))⟩
   ·exact .inr ⟨1,rfl,.inr (.inl (by rw[gT,kt];exact dA rfl (by go_simp) (by go_simp) fh))⟩
   ·exact .inl ⟨by decide,fun m hm aK=>by go_simp⟩
   ·exact .inl ⟨by decide,fun m hm aK=>by go_simp⟩
   exact .inr ⟨2,rfl,.inl ⟨rfl,by rw[kt,W3.o];go_simp⟩⟩
  simp only[cj,Act.put,aJ,aI,aH]
  have eW:Wd (List.length [9,10,13])=wz.setCell ⟨D,1,none⟩ (.slice (some ⟨g3,0,none⟩) (r.P.length+1) bF):=W3.o
  rw[eW]
  clear eW W3 W0 gT kt qP ng c0 c1 Px JZ fh
  generalize wz.setCell ⟨D,1,none⟩ (.slice (some ⟨g3,0,none⟩) (r.P.length+1) bF)=W8 at *
  replace HS:=zh iV.o
  clear iV
  replace HT:=zh HT8.o
  clear HT8
  have hd:=HS.o.blk.cell 0
  simp only[aP,aO] at hd
  rw[pc.o] at hd
  have Zd:=HS.o.blk.lt
  have M5:=zh HS.o.sat
  rw[pc.o] at M5
  have HX8:Y0 (Below B w W8):=(HB.o.mono Q9.o).trans MF.o.bel
  have hB8:B≤W8.heap.size:=yH Q9.o HX8.o.size
  go_upto_region 10 with (at_builtin;refine bJ _ rfl (.tmp 53) (.tmp 57) 46 rfl W8.heap.size 26 ik Tryz.underlying46 rfl (by decide) (.slice (some ⟨W8.heap.size,0,none⟩) 0 0) 0 [] rfl (World.ownsRow_made W8 #[] 0 (yA _) (yI _) rfl) W8.heap.size r.L.length (.slice As r.L.length cs) (r.L.flatMap SetC.cells) rfl (SetsAt.below M5.o ((yB _ _).alloc (yA _) _) (yA _)) (d9 SetC.cells 13 (fun _=>rfl) r.L) (jv r.L) (by unfold maxLen;omega) (by omega) (by simp) ?_;intro v9 w9 Bg hg9 qvk)
  have ja:Below W8.heap.size W8 w9:=((yB W8.heap.size W8).alloc (yA _) _).grown hg9 (by simp) (fun k hk=>by simp[Value.ownBlock] at hk;omega)
  rw[yR,List.nil_append] at Bg
  have Kg:=zh Bg
  have lJ:=zh ja
  have LM:=kU Hs.o
  have hCo:=sZ _ x w9 (HX.o w9 (HX8.o.trans (ja.mono hB8))) LM.1 LM.2.1 LM.2.2
  have Od:=zh (HT.o.below ja HT.o.lt)
  clear Bg hg9 qvk ja hd M5 LM
  obtain⟨z0,z1,z2,z3,z4,z5,z6,z7,z8,z9,jg,fc,gU⟩:=Od.o.c13
  obtain⟨A9,c9,e9⟩:=bD Kg.o
  subst e9
  go_wp2_with fail
  refine hCo.mono ?_
  rintro e Kq ⟨sd,A1,k1,A2,k2,A3,k3,rfl,o1,o2,o3⟩
  unfold aL
  have Cx:=lJ.o.size
  have MC:Y0 (OwnC (Kq.alloc (.cells (zA x A1 k1 A2 k2 A3 k3) 26)) W8.heap.size ⟨x,A1,k1,A2,k2,A3,k3⟩):=⟨(bo o1 Cx).alloc _,(bo o2 Cx).alloc _,(bo o3 Cx).alloc _⟩
  have tT:=zh ((bQ Kg.o sd).alloc (.cells (zA x A1 k1 A2 k2 A3 k3) 26))
  have qp:=zh ((lJ.o.trans (sd.mono Cx)).alloc (yH Cx sd.size) (.cells (zA x A1 k1 A2 k2 A3 k3) 26))
  have sK:=zh (World.news_of_block (Blk.new Kq 26 (zA x A1 k1 A2 k2 A3 k3)))
  have dK:=qp.o.size
  obtain⟨iF,hiF,LF,LD,LC⟩:=info_parts ik
  clear sd o1 o2 o3 Kg hCo z0 z1 z2 z3 z4 z5 z6 z7 z8 z9 jg fc gU Od
  go_upto_region 13 with (at_builtin;refine wpList_append_own _ rfl _ _ 46 rfl W8.heap.size 26 iF (.agg zE) 13 160 Tryz.underlying46 hiF LF LD LC rfl (by decide) _ _ _ rfl tT.o ⟨Kq.heap.size,0,none⟩ 1 1 (zB x A1 k1 A2 k2 A3 k3) rfl rfl sK.o (by simp[Value.oneCell']) (by unfold maxLen;omega) (by omega) dK ?_;intro v11 w11 LK Wv _;obtain⟨g11,tN,rfl⟩:=ownsRow_succ LK)
  have Bt:Below W8.heap.size W8 w11:=qp.o.grown Wv dK (fun j e=>(tT.o.lt j e).1)
  have qxM:OwnC w11 W8.heap.size ⟨x,A1,k1,A2,k2,A3,k3⟩:=⟨tn MC.o.1 tT.o (by decide) Wv,tn MC.o.2.1 tT.o (by decide) Wv,tn MC.o.2.2 tT.o (by decide) Wv⟩
  have jM:=K1 (c:=(⟨x,A1,k1,A2,k2,A3,k3⟩:SetC)) HS.o.sets.2 Bt LK qxM
  have vl:=zh (HS.o.since Bt)
  have iB:=rG vl.o jM
  have oJ:=iB.1
  rw[yS,List.map_cons,List.map_nil,qm.o.setsE] at oJ
  have nz:Y0 (fZ B D M (putV st x) w (.returned (.int .i64 0)) (w11.setCell ⟨D,0,none⟩ (.slice (some ⟨g11,0,none⟩) (r.L.length+1) tN))):=by
   unfold Y0
   rw[HE.o]
   refine⟨rfl,(((ChgR.of_below HB.o Q9.o).trans MF.o).trans (ChgR.of_below Bt hB8)).trans iB.2,dh M W8.heap.size w11.heap.size,_,oJ,fun g hg=>Or.elim (show M g∨(W8.heap.size≤g∧g<w11.heap.size) from hg) .inl fun h1=>.inr (yH (yH HB.o.size MF.o.bel.size) h1.1)⟩
  have x0:=vl.o.blk.cell 0
  have f0:=vl.o.blk.frozen 0
  simp only[aP,aO] at x0
  clear LK Wv Bt qxM jM iB oJ vl tT MC qp sK lJ HS HE MB HX8
  go_wp2_with fail
  go_ret
  exact nz.o
 | some k=>
  simp only[ff]
  obtain⟨hk,qi⟩:=N0 qm.o.setsE hi
  have QV:=zh hk
  have qjy:=HS.o.sat
  obtain⟨A,cc,eA,gC,dr,ah⟩:=qjy.open_
  rw[pc.o] at eA
  injection eA with eA1 _ eA2
  subst eA1 eA2
  unfold maxLen at dr
  obtain⟨b1,o1,e1,ao,hx⟩:=ah k hk
  have hy:=hx k hk
  have P9:=HS.o.blk.cell 0
  simp only[aP,aO] at P9
  rw[pc.o,e1] at P9
  have y0:=hy 0 _ rfl
  have y1:=hy 1 _ rfl
  have y2:=hy 2 _ rfl
  have y3:=hy 3 _ rfl
  have y4:=hy 4 _ rfl
  have y5:=hy 5 _ rfl
  have y6:=hy 6 _ rfl
  have y7:=hy 7 _ rfl
  have y8:=hy 8 _ rfl
  have y9:=hy 9 _ rfl
  have lM:=hy 10 _ rfl
  have iY:=hy 11 _ rfl
  have iG:=hy 12 _ rfl
  obtain⟨z0,z1,z2,z3,z4,z5,z6,z7,z8,z9,jg,fc,gU⟩:=HT.o.c13
  rw[Nat.add_zero] at y0
  have Ja:=HS.o.sets.2 r.L[k] (yV hk)
  have JX:=fun W (hb:Below w4.heap.size w4 W)=>pB _ _ r.L[k].s x W (Ja.kept (KeepM.of_below hb)).set (HX.o W ((HB.o.mono Q9.o).trans (hb.mono CF.o)))
  have kc0:(0:Int)≤(k:Int):=yE _
  have kc1:(k:Int)<(r.L.length:Int):=by omega
  have kn:decide ((k:Int)<0)=false:=yC (by omega)
  have nD:Y0 (r.L[k].s=x→putV st x=(0,st)):=fun e=>by rw[MB.o];unfold fO;rw[hi];dsimp only;rw[if_pos (qi.trans (congrArg some e))]
  have lP:Y0 (r.L[k].s≠x→putV st x=(0,{ st with sets:=st.sets.set k x,past:=st.past++[st.sets] })):=fun e=>by
   rw[MB.o]
   unfold fO
   rw[hi]
   dsimp only
   rw[if_neg (fun h=>e (by rw[qi] at h;exact Option.some.inj h))]
  clear hi qi Ja hx hy ah qjy gC dr e1
  generalize r.L[k]=c at *
  clear hk
  unfold SetC.val aL at JX
  have Bu:=HeldB.call JX
  have qkr:=YL P9
  have rj:=YL y0
  have ri:=YL y1
  have rh:=YL y2
  have rf:=YL y3
  have YP:=YL y4
  have uy5:=YL y5
  have uy6:=YL y6
  have uy7:=YL y7
  have uy8:=YL y8
  have uy9:=YL y9
  have qzF:=YL lM
  have qzE:=YL iY
  have qzD:=YL iG
  have MN:=YL z0
  have uz1:=YL z1
  have uz2:=YL z2
  have uz3:=YL z3
  have uz4:=YL z4
  have uz5:=YL z5
  have uz6:=YL z6
  have uz7:=YL z7
  have uz8:=YL z8
  have uz9:=YL z9
  have qzC:=YL jg
  have qzB:=YL fc
  have qzA:=YL gU
  clear P9 y0 y1 y2 y3 y4 y5 y6 y7 y8 y9 lM iY iG z0 z1 z2 z3 z4 z5 z6 z7 z8 z9 jg fc gU
  clear JX
  by_cases hq:c.s=x
  ·rw[yD hq] at Bu
   have HE:=zh (nD.o hq)
   clear hq nD lP
   go_upto_region 4 with fail
   refine cn (by kernel_rfl) (by kernel_rfl) ?_
   repeat (go_big_quiet_step ((go_at_call 30;exact Bu _)))
   refine YH ?_
   rintro w5 ⟨⟨w5',bg⟩,rfl⟩
   have Jb:=HB.o.trans (bg.mono HB.o.size)
   go_wp2_with fail
   go_ret
   rw[HE.o]
   exact lV qm.o Jb
  rw[yC hq] at Bu
  have HE:=zh (lP.o hq)
  clear hq nD lP
  go_upto_region 4 with fail
  refine cn (by kernel_rfl) (by kernel_rfl) ?_
  repeat (go_big_quiet_step ((go_at_call 30;exact Bu _)))
  refine YH ?_
  rintro w5 ⟨⟨w5',bg⟩,rfl⟩
  replace HB:=zh (HB.o.trans (bg.mono HB.o.size))
  replace HT:=zh (HT.o.below bg HT.o.lt)
  replace HS:=zh (HS.o.below bg)
  replace CF:=zh (yH CF.o bg.size)
  clear bg Bu qkr rj ri rh rf YP uy5 uy6 uy7 uy8 uy9 qzF qzE qzD MN uz1 uz2 uz3 uz4 uz5 uz6 uz7 uz8 uz9 qzC qzB qzA
  go_upto_region 8 with fail
  have hd:=(yB w5.heap.size w5).drew
  have S0:=HS.o.below hd
  have tF:=(yB w5.drew.heap.size w5.drew).alloc (yA _) (.cells #[.slice As r.L.length cs] 46)
  have S1:=S0.below tF
  have hN:Blk (w5.drew.alloc (.cells #[.slice As r.L.length cs] 46)) w5.heap.size 46 #[.slice As r.L.length cs]:=Blk.new w5.drew 46 #[.slice As r.L.length cs]
  obtain⟨i0,il,gu,iC,iN⟩:=info_parts pJ
  have LN:=S1.own
  rw[FD.o] at LN
  obtain⟨g3,bF,wz,fh,sP,m5,jA,-⟩ := run_append_lies (P := Tryz.prog) (w := w5.drew.alloc (.cells #[.slice As r.L.length cs] 46)) 47 47 B 46 i0 _ 1 24 Tryz.underlying47 il gu iC iN rfl (by decide)
   (.slice A4 r.P.length c4) r.P.length (r.P.map Prod.fst) LN ⟨w5.heap.size,0,none⟩ 1 1 [.slice As r.L.length cs] rfl
   (fun j u hu=>by rw[Addr.add_lit,yR];exact (hN.cell j).trans (by simpa using hu)) (fun u hu=>by rw[List.mem_singleton.1 hu];rfl) (by omega) (by unfold maxLen;omega) (by omega) (Nat.le_trans CF.o (by simp)) _ rfl
  have qi:(w5.drew.alloc (.cells #[.slice As r.L.length cs] 46)).grownBy wz r.pv.ownBlock:=by rw[FD.o];exact m5
  have iB:=wm (pv':=.slice (some ⟨g3,0,none⟩) (r.P.length+1) bF) S1 (by rw[pc.o];exact sP) qi (fun g e=>by
   obtain rfl:g3=g:=by simpa[Value.ownBlock] using e
   rw[FD.o]
   rcases jA with h1 | h1
   ·exact .inl h1
   exact .inr (Nat.le_of_eq h1.symm))
  have EU:=S1.blk.kept qi (fun e=>S1.pvD D e.symm rfl)
  have b0:=S0.blk
  have b1:=S1.blk
  have bz:=EU
  have b3:=EU.set_ 1 (.slice (some ⟨g3,0,none⟩) (r.P.length+1) bF)
  simp only[aJ,aI,aH] at b3
  rw[FD.o,pc.o] at b0 b1 bz
  rw[pc.o] at b3
  have iV:=zh iB.1
  have MF:Y0 (ChgR B D w5 (wz.setCell ⟨D,1,none⟩ (.slice (some ⟨g3,0,none⟩) (r.P.length+1) bF))):=((ChgR.of_below hd CF.o).trans (ChgR.of_below tF CF.o)).trans iB.2
  have T0:=HT.o.below hd HT.o.lt
  have T1:=T0.below tF T0.lt
  have hTz:=T1.kept qi (fun e=>HPT.o _ e.symm rfl)
  have hT9:Blk (wz.setCell ⟨D,1,none⟩ (.slice (some ⟨g3,0,none⟩) (r.P.length+1) bF)) w.heap.size 26 (zA x Al cl Ai ci Ab cb):=(YC _ _ _ _ (by exact HDT.o)).trans hTz
  have HT8:=zh hT9
  clear T0 T1 hTz hT9
  obtain⟨Wd,qP,gT,kt,ng⟩:∃ Wd:Nat→World,Wd 0=w5.drew∧Wd 1=w5.drew.alloc (.cells #[.slice As r.L.length cs] 46)∧Wd 2=wz∧Wd 3=wz.setCell ⟨D,1,none⟩ (.slice (some ⟨g3,0,none⟩) (r.P.length+1) bF) :=
   ⟨fun m=>if m=0 then w5.drew else if m=1 then w5.drew.alloc (.cells #[.slice As r.L.length cs] 46) else if m=2 then wz else wz.setCell ⟨D,1,none⟩ (.slice (some ⟨g3,0,none⟩) (r.P.length+1) bF),rfl,rfl,rfl,rfl⟩
  have c1:∀ m,m≤1→(Wd m).cell? ⟨D,1,none⟩=some (.slice A4 r.P.length c4):=fun m hm=>by
   rcases m with _ | _ | m
   ·rw[qP];exact (b0.cell 1).trans rfl
   ·rw[gT];exact (b1.cell 1).trans rfl
   omega
  have c0:∀ m,m≤3→(Wd m).cell? ⟨D,0,none⟩=some (.slice As r.L.length cs):=fun m hm=>by
   rcases m with _ | _ | _ | _ | m
   ·rw[qP];exact (b0.cell 0).trans rfl
   ·rw[gT];exact (b1.cell 0).trans rfl
   ·rw[kt];exact (bz.cell 0).trans rfl
   ·rw[ng];exact (b3.cell 0).trans rfl
   omega
  have Px:wz.cell? ⟨D,1,none⟩=some (.slice A4 r.P.length c4):=(bz.cell 1).trans rfl
  have JZ:=bz.frozen 1
  have W0:=zh qP
  have W3:=zh ng
  clear hd S0 tF S1 hN il gu iC iN LN sP m5 qi iB EU b0 b1 bz b3 jA
  go_upto_region 8 with fail
  refine cX [.pointer (some ⟨D,0,none⟩),.pointer (some ⟨D,0,none⟩),.pointer (some ⟨D,0,none⟩),.pointer (some ⟨D,1,none⟩),.slice A4 r.P.length c4,.pointer (some ⟨D,0,none⟩),.pointer (some ⟨D,0,none⟩),.pointer (some ⟨D,0,none⟩),.slice As r.L.length cs,.slice (some ⟨w5.heap.size,0,none⟩) 1 1,.slice (some ⟨g3,0,none⟩) (r.P.length+1) bF,.pointer (some ⟨D,0,none⟩),.pointer (some ⟨D,1,none⟩),undef] Wd [9,10,13] (by kernel_rfl) (by kernel_rfl) (by kernel_rfl) (by decide) (by rfl) W0.o ?_ ?_
  ·simp only[cj,Act.put,aJ,aI,aH]
   simp only[fY]
   refine⟨?_,?_,?_,?_,?_,?_,?_,?_,?_,?_,?_,?_,?_,?_,trivial⟩
   ·exact .inl ⟨by decide,fun m hm aK=>by go_simp⟩
   ·exact .inl ⟨by decide,fun m hm aK=>by go_simp⟩
   ·exact .inl ⟨by decide,fun m hm aK=>by go_simp⟩
   ·exact .inl ⟨by decide,fun m hm aK=>by go_simp⟩
   ·exact .inl ⟨by decide,fun m hm aK=>by
     have Bj:m≤1:=by
      rcases m with _ | _ | _ | _ | m
      ·omega
      ·omega
      ·exact absurd (Eq.trans (a:=false) (by kernel_rfl) aK) Bool.false_ne_true
      ·exact absurd (Eq.trans (a:=false) (by kernel_rfl) aK) Bool.false_ne_true
      exact absurd hm (by show ¬ m+4≤3;omega)
     have h:=c1 m Bj
     go_simp⟩
   ·exact .inl ⟨by decide,fun m hm aK=>by go_simp⟩
   ·exact .inl ⟨by decide,fun m hm aK=>by go_simp⟩
   ·exact .inl ⟨by decide,fun m hm aK=>by go_simp⟩
   ·exact .inl ⟨by decide,fun m hm aK=>by have h:=c0 m hm;go_simp⟩
   ·exact .inr ⟨0,rfl,.inr (.inl (by rw[W0.o,gT];go_simp))⟩
   ·exact .inr ⟨1,rfl,.inr (.inl (by rw[gT,kt];exact dA rfl (by go_simp) (by go_simp) fh))⟩
   ·exact .inl ⟨by decide,fun m hm aK=>by go_simp⟩
   ·exact .inl ⟨by decide,fun m hm aK=>by go_simp⟩
   exact .inr ⟨2,rfl,.inl ⟨rfl,by rw[kt,W3.o];go_simp⟩⟩
  simp only[cj,Act.put,aJ,aI,aH]
  have eW:Wd (List.length [9,10,13])=wz.setCell ⟨D,1,none⟩ (.slice (some ⟨g3,0,none⟩) (r.P.length+1) bF):=W3.o
  rw[eW]
  clear eW W3 W0 gT kt qP ng c0 c1 Px JZ fh
  generalize wz.setCell ⟨D,1,none⟩ (.slice (some ⟨g3,0,none⟩) (r.P.length+1) bF)=W8 at *
  replace HS:=zh iV.o
  clear iV
  replace HT:=zh HT8.o
  clear HT8
  have hd:=HS.o.blk.cell 0
  simp only[aP,aO] at hd
  rw[pc.o] at hd
  have Zd:=HS.o.blk.lt
  have M5:=zh HS.o.sat
  rw[pc.o] at M5
  have HX8:Y0 (Below B w W8):=(HB.o.mono Q9.o).trans MF.o.bel
  have hB8:B≤W8.heap.size:=yH Q9.o HX8.o.size
  go_upto_region 10 with (at_builtin;refine bJ _ rfl (.tmp 53) (.tmp 57) 46 rfl W8.heap.size 26 ik Tryz.underlying46 rfl (by decide) (.slice (some ⟨W8.heap.size,0,none⟩) 0 0) 0 [] rfl (World.ownsRow_made W8 #[] 0 (yA _) (yI _) rfl) W8.heap.size r.L.length (.slice As r.L.length cs) (r.L.flatMap SetC.cells) rfl (SetsAt.below M5.o ((yB _ _).alloc (yA _) _) (yA _)) (d9 SetC.cells 13 (fun _=>rfl) r.L) (jv r.L) (by unfold maxLen;omega) (by omega) (by simp) ?_;intro v9 w9 Bg hg9 qvk)
  have ja:Below W8.heap.size W8 w9:=((yB W8.heap.size W8).alloc (yA _) _).grown hg9 (by simp) (fun k hk=>by simp[Value.ownBlock] at hk;omega)
  rw[yR,List.nil_append] at Bg
  have Kg:=zh Bg
  have lJ:=zh ja
  have LM:=kU Hs.o
  have hCo:=sZ _ x w9 (HX.o w9 (HX8.o.trans (ja.mono hB8))) LM.1 LM.2.1 LM.2.2
  have Od:=zh (HT.o.below ja HT.o.lt)
  clear Bg hg9 qvk ja hd M5 LM
  obtain⟨z0,z1,z2,z3,z4,z5,z6,z7,z8,z9,jg,fc,gU⟩:=Od.o.c13
  obtain⟨g9,c9,e9⟩:∃ g c,v9 = .slice (some ⟨g,0,none⟩) r.L.length c:=by
   rcases Kg.o.2 with⟨_,h0⟩ | ⟨g,cap,cur,e,_⟩
   ·have:=QV.o
    omega
   exact⟨g,cap,e⟩
  subst e9
  have vqJ:=QV.o
  go_wp2_with fail
  refine hCo.mono ?_
  rintro e Kq ⟨sd,A1,k1,A2,k2,A3,k3,rfl,o1,o2,o3⟩
  unfold aL
  dsimp only
  have Cx:=lJ.o.size
  have F5:=zh (lJ.o.trans (sd.mono Cx))
  have MC:Y0 (OwnC Kq W8.heap.size ⟨x,A1,k1,A2,k2,A3,k3⟩):=⟨bo o1 Cx,bo o2 Cx,bo o3 Cx⟩
  have tT:=zh (bQ Kg.o sd)
  clear sd o1 o2 o3 Kg hCo z0 z1 z2 z3 z4 z5 z6 z7 z8 z9 jg fc gU Od
  iterate 4 (first | go_values | go_skip | go_guarded | go_step | go_upon)
  have ql:=zh (Dg tT.o QV.o)
  refine wpList_store_mid rfl 26 (.tmp 70) (.tmp 69) rfl g9 (k*13) (zA x A1 k1 A2 k2 A3 k3) rfl rfl ql.o (by kernel_rfl) (by simp[Value.oneCell']) ?_
  simp only[Act.put]
  obtain⟨jM,Bt⟩:=O8 (c:=(⟨x,A1,k1,A2,k2,A3,k3⟩:SetC)) (k:=k) HS.o.sets.2 F5.o rfl rfl tT.o MC.o QV.o rfl
  have vl:=zh (HS.o.since Bt)
  have iB:=rG vl.o jM
  have oJ:=iB.1
  rw[List.map_set,qm.o.setsE] at oJ
  have nz:Y0 (fZ B D M (putV st x) w (.returned (.int .i64 0)) ((Kq.setCells g9 (k*13) (⟨x,A1,k1,A2,k2,A3,k3⟩:SetC).cells).setCell ⟨D,0,none⟩ (.slice (some ⟨g9,0,none⟩) r.L.length c9))):=by
   unfold Y0
   rw[HE.o]
   refine⟨rfl,(((ChgR.of_below HB.o Q9.o).trans MF.o).trans (ChgR.of_below Bt hB8)).trans iB.2,dh M W8.heap.size _,_,oJ,fun g hg=>Or.elim (show M g∨(W8.heap.size≤g∧g<_) from hg) .inl fun h1=>.inr (yH (yH HB.o.size MF.o.bel.size) h1.1)⟩
  have x0:=vl.o.blk.cell 0
  have f0:=vl.o.blk.frozen 0
  simp only[aP,aO] at x0
  clear Bt jM iB oJ vl tT MC F5 lJ HS HE MB HX8 ql
  change wpList _ _ _ _ _ (Kq.setCells g9 (k*13) (⟨x,A1,k1,A2,k2,A3,k3⟩:SetC).cells)
  generalize Kq.setCells g9 (k*13) (⟨x,A1,k1,A2,k2,A3,k3⟩:SetC).cells=w11 at *
  go_wp2_with fail
  go_ret
  exact nz.o
theorem Oy (l:List SetC) (i t:Nat) (ht:t<i*13) (hi:i≤l.length):((l.take i).flatMap SetC.cells)[t]? = (l.flatMap SetC.cells)[t]?:=by
 have e:l.flatMap SetC.cells=(l.take i).flatMap SetC.cells++(l.drop i).flatMap SetC.cells:=by rw[← List.flatMap_append,List.take_append_drop]
 rw[e,List.getElem?_append_left (by rw[d9 SetC.cells 13 (fun _=>rfl),YA];omega)]
theorem OH (B D:Nat) (M:Nat→Prop) (st:St) (r:RefR) (nm:ByteArray) (w:World) (h:RefAt w B D M st r) (aK:StOk st) (hp:st.past.length≤1000) :
  Calls Tryz.prog 58 #[.pointer (some ⟨D,0,none⟩),.string nm] w (fZ B D M (cw st nm) w):=by
 have Q9:Y0 (B≤w.heap.size):=yH h.base (YJ h.blk.lt)
 have LX:r.P.length≤1000:=by
  have:=congrArg List.length h.pastE
  rw[yP] at this
  omega
 have PN:r.L.length≤60:=by
  have:=aK.len
  rw[← h.setsE,yP] at this
  exact this
 obtain⟨A4,c4,ep⟩:=bD h.own
 obtain⟨As,cs,es⟩:∃ A c,r.sv = .slice A r.L.length c:=let ⟨A,c,e,_⟩:=h.sets.1;⟨A,c,e⟩
 have FD:=zh ep
 have pc:=zh es
 have qm:=zh h
 have hF:=sY r.sv r.L nm w h.sat
 rw[me,h.setsE,es] at hF
 have hd:=h.blk.cell 0
 simp only[aP,aO] at hd
 rw[es] at hd
 have Zd:=h.blk.lt
 clear h aK hp ep es
 go_enter Tryz.func58,Tryz.ntmps58
 go_wp2_with fail
 refine hF.mono ?_
 rintro e w5 ⟨rfl,bg⟩
 have HB:=zh bg
 have HS:=zh (qm.o.below bg)
 have CF:Y0 (B≤w5.heap.size):=yH Q9.o bg.size
 clear bg hF hd Zd
 cases hi:fG st.sets nm with
 | none=>
  have HE:Y0 (cw st nm=(9,st)):=by unfold Y0 cw;rw[hi]
  simp only[ff]
  clear hi
  go_wp2_with fail
  go_ret
  rw[HE.o]
  exact lV qm.o HB.o
 | some k=>
  simp only[ff]
  obtain⟨hk,-⟩:=N0 qm.o.setsE hi
  have HE:Y0 (cw st nm=(0,{ st with sets:=st.sets.eraseIdx k,past:=st.past++[st.sets] })):=by unfold Y0 cw;rw[hi]
  have kc0:(0:Int)≤(k:Int):=yE _
  have kc1:(k:Int)≤60:=by omega
  have kn:decide ((k:Int)<0)=false:=yC (by omega)
  clear hi
  go_upto_region 4 with fail
  have hd:=(yB w5.heap.size w5).drew
  have S0:=HS.o.below hd
  have tF:=(yB w5.drew.heap.size w5.drew).alloc (yA _) (.cells #[.slice As r.L.length cs] 46)
  have S1:=S0.below tF
  have hN:Blk (w5.drew.alloc (.cells #[.slice As r.L.length cs] 46)) w5.heap.size 46 #[.slice As r.L.length cs]:=Blk.new w5.drew 46 #[.slice As r.L.length cs]
  obtain⟨i0,il,gu,iC,iN⟩:=info_parts pJ
  have LN:=S1.own
  rw[FD.o] at LN
  obtain⟨g3,bF,wz,fh,sP,m5,jA,-⟩ := run_append_lies (P := Tryz.prog) (w := w5.drew.alloc (.cells #[.slice As r.L.length cs] 46)) 47 47 B 46 i0 _ 1 24 Tryz.underlying47 il gu iC iN rfl (by decide)
   (.slice A4 r.P.length c4) r.P.length (r.P.map Prod.fst) LN ⟨w5.heap.size,0,none⟩ 1 1 [.slice As r.L.length cs] rfl
   (fun j u hu=>by rw[Addr.add_lit,yR];exact (hN.cell j).trans (by simpa using hu)) (fun u hu=>by rw[List.mem_singleton.1 hu];rfl) (by omega) (by unfold maxLen;omega) (by omega) (Nat.le_trans CF.o (by simp)) _ rfl
  have qi:(w5.drew.alloc (.cells #[.slice As r.L.length cs] 46)).grownBy wz r.pv.ownBlock:=by rw[FD.o];exact m5
  have iB:=wm (pv':=.slice (some ⟨g3,0,none⟩) (r.P.length+1) bF) S1 (by rw[pc.o];exact sP) qi (fun g e=>by
   obtain rfl:g3=g:=by simpa[Value.ownBlock] using e
   rw[FD.o]
   rcases jA with h1 | h1
   ·exact .inl h1
   exact .inr (Nat.le_of_eq h1.symm))
  have EU:=S1.blk.kept qi (fun e=>S1.pvD D e.symm rfl)
  have b0:=S0.blk
  have b1:=S1.blk
  have bz:=EU
  have b3:=EU.set_ 1 (.slice (some ⟨g3,0,none⟩) (r.P.length+1) bF)
  simp only[aJ,aI,aH] at b3
  rw[FD.o,pc.o] at b0 b1 bz
  rw[pc.o] at b3
  have iV:=zh iB.1
  have MF:Y0 (ChgR B D w5 (wz.setCell ⟨D,1,none⟩ (.slice (some ⟨g3,0,none⟩) (r.P.length+1) bF))):=((ChgR.of_below hd CF.o).trans (ChgR.of_below tF CF.o)).trans iB.2
  obtain⟨Wd,qP,gT,kt,ng⟩:∃ Wd:Nat→World,Wd 0=w5.drew∧Wd 1=w5.drew.alloc (.cells #[.slice As r.L.length cs] 46)∧Wd 2=wz∧Wd 3=wz.setCell ⟨D,1,none⟩ (.slice (some ⟨g3,0,none⟩) (r.P.length+1) bF) :=
   ⟨fun m=>if m=0 then w5.drew else if m=1 then w5.drew.alloc (.cells #[.slice As r.L.length cs] 46) else if m=2 then wz else wz.setCell ⟨D,1,none⟩ (.slice (some ⟨g3,0,none⟩) (r.P.length+1) bF),rfl,rfl,rfl,rfl⟩
  have c1:∀ m,m≤1→(Wd m).cell? ⟨D,1,none⟩=some (.slice A4 r.P.length c4):=fun m hm=>by
   rcases m with _ | _ | m
   ·rw[qP];exact (b0.cell 1).trans rfl
   ·rw[gT];exact (b1.cell 1).trans rfl
   omega
  have c0:∀ m,m≤3→(Wd m).cell? ⟨D,0,none⟩=some (.slice As r.L.length cs):=fun m hm=>by
   rcases m with _ | _ | _ | _ | m
   ·rw[qP];exact (b0.cell 0).trans rfl
   ·rw[gT];exact (b1.cell 0).trans rfl
   ·rw[kt];exact (bz.cell 0).trans rfl
   ·rw[ng];exact (b3.cell 0).trans rfl
   omega
  have Px:wz.cell? ⟨D,1,none⟩=some (.slice A4 r.P.length c4):=(bz.cell 1).trans rfl
  have JZ:=bz.frozen 1
  have W0:=zh qP
  have W3:=zh ng
  clear hd S0 tF S1 hN il gu iC iN LN sP m5 qi iB EU b0 b1 bz b3 jA
  go_upto_region 4 with fail
  refine cX [.pointer (some ⟨D,0,none⟩),.pointer (some ⟨D,0,none⟩),.pointer (some ⟨D,0,none⟩),.pointer (some ⟨D,1,none⟩),.slice A4 r.P.length c4,.pointer (some ⟨D,0,none⟩),.pointer (some ⟨D,0,none⟩),.pointer (some ⟨D,0,none⟩),.slice As r.L.length cs,.slice (some ⟨w5.heap.size,0,none⟩) 1 1,.slice (some ⟨g3,0,none⟩) (r.P.length+1) bF,.pointer (some ⟨D,0,none⟩),.pointer (some ⟨D,1,none⟩),undef] Wd [9,10,13] (by kernel_rfl) (by kernel_rfl) (by kernel_rfl) (by decide) (by rfl) W0.o ?_ ?_
  ·simp only[cj,Act.put,aJ,aI,aH]
   simp only[fY]
   refine⟨?_,?_,?_,?_,?_,?_,?_,?_,?_,?_,?_,?_,?_,?_,trivial⟩
   ·exact .inl ⟨by decide,fun m hm aK=>by go_simp⟩
   ·exact .inl ⟨by decide,fun m hm aK=>by go_simp⟩
   ·exact .inl ⟨by decide,fun m hm aK=>by go_simp⟩
   ·exact .inl ⟨by decide,fun m hm aK=>by go_simp⟩
   ·exact .inl ⟨by decide,fun m hm aK=>by
     have Bj:m≤1:=by
      rcases m with _ | _ | _ | _ | m
      ·omega
      ·omega
      ·exact absurd (Eq.trans (a:=false) (by kernel_rfl) aK) Bool.false_ne_true
      ·exact absurd (Eq.trans (a:=false) (by kernel_rfl) aK) Bool.false_ne_true
      exact absurd hm (by show ¬ m+4≤3;omega)
     have h:=c1 m Bj
     go_simp⟩
   ·exact .inl ⟨by decide,fun m hm aK=>by go_simp⟩
   ·exact .inl ⟨by decide,fun m hm aK=>by go_simp⟩
   ·exact .inl ⟨by decide,fun m hm aK=>by go_simp⟩
   ·exact .inl ⟨by decide,fun m hm aK=>by have h:=c0 m hm;go_simp⟩
   ·exact .inr ⟨0,rfl,.inr (.inl (by rw[W0.o,gT];go_simp))⟩
   ·exact .inr ⟨1,rfl,.inr (.inl (by rw[gT,kt];exact dA rfl (by go_simp) (by go_simp) fh))⟩
   ·exact .inl ⟨by decide,fun m hm aK=>by go_simp⟩
   ·exact .inl ⟨by decide,fun m hm aK=>by go_simp⟩
   exact .inr ⟨2,rfl,.inl ⟨rfl,by rw[kt,W3.o];go_simp⟩⟩
  simp only[cj,Act.put,aJ,aI,aH]
  have eW:Wd (List.length [9,10,13])=wz.setCell ⟨D,1,none⟩ (.slice (some ⟨g3,0,none⟩) (r.P.length+1) bF):=W3.o
  rw[eW]
  clear eW W3 W0 gT kt qP ng c0 c1 Px JZ fh
  generalize wz.setCell ⟨D,1,none⟩ (.slice (some ⟨g3,0,none⟩) (r.P.length+1) bF)=W8 at *
  replace HS:=zh iV.o
  clear iV
  have hB8:B≤W8.heap.size:=yH CF.o MF.o.bel.size
  obtain⟨Aq,cq,eA,YT,hq2,Wh⟩:=HS.o.sat.open_
  obtain⟨b,off,eb,QI,-⟩:=Wh k hk
  rw[show ({ r with pv:=Value.slice (some ⟨g3,0,none⟩) (r.P.length+1) bF,P:=r.P++[(r.sv,r.L)] }:RefR).sv=r.sv from rfl,pc.o] at eA
  injection eA with eA1 _ eA2
  subst eA1 eA2
  obtain⟨_,_,e5,-,-,qxR⟩:=HS.o.sat
  rw[show ({ r with pv:=Value.slice (some ⟨g3,0,none⟩) (r.P.length+1) bF,P:=r.P++[(r.sv,r.L)] }:RefR).sv=r.sv from rfl,pc.o] at e5
  injection e5 with e51 _ e52
  subst e51 e52
  obtain⟨b',qjv,eb',qkS,hc⟩:=qxR (by show 0<r.L.length;omega)
  rw[eb] at eb'
  injection eb' with eb'
  injection eb' with eb1 eb2 _
  subst eb1 eb2
  subst eb
  clear Wh qxR
  unfold maxLen at hq2
  have YT:r.L.length≤cs:=YT
  have hd:=(yB W8.heap.size W8).drew
  have tF:=(yB W8.drew.heap.size W8.drew).alloc (yA _) (.cells #[] 26)
  have ao:Below W8.heap.size W8 (W8.drew.alloc (.cells #[] 26)):=hd.trans tF
  obtain⟨i0,il,gu,iC,iN⟩:=info_parts ik
  have ho1:World.ownsRow (W8.drew.alloc (.cells #[] 26)) W8.heap.size 26 13 (.slice (some ⟨W8.heap.size,0,none⟩) 0 0) 0 []:=World.ownsRow_made W8.drew #[] 0 (yA _) (yI _) rfl
  have hcA:∀ W,Below W8.heap.size W8 W→∀ t u,(r.L.flatMap SetC.cells)[t]? = some u→W.cell? ⟨b,off+t,none⟩=some u:=fun W hb t u hu=>(hb.cell (p:=⟨b,off+t,none⟩) QI).trans (hc t u hu)
  have qxN:((r.L.take k).flatMap SetC.cells).length=k*13:=by rw[d9 SetC.cells 13 (fun _=>rfl),YA];omega
  obtain⟨v2,w2,qxK,EJ,hg2,-,qkN⟩ := run_append_own_at (P := Tryz.prog) (W8.drew.alloc (.cells #[] 26)) W8.heap.size 46 46 26 i0 _ 13 160 Tryz.underlying46 il gu iC iN rfl (by decide) (.slice (some ⟨W8.heap.size,0,none⟩) 0 0) 0 [] ho1 ⟨b,off,none⟩ k cs ((r.L.take k).flatMap SetC.cells) qxN
   (fun j u hu=>by
    have hj:j<k*13:=by have:=(List.getElem?_eq_some_iff.1 hu).1;omega
    rw[Oy r.L k j hj (by omega)] at hu
    rw[Addr.add_lit]
    exact hcA _ ao j u hu) (fun u hu=>jv _ u hu) (by unfold maxLen;omega) (by omega) ao.size
  rw[yR,List.nil_append] at EJ
  have bE:Below W8.heap.size W8 w2:=ao.grown hg2 ao.size (fun j e=>(ho1.lt j e).1)
  obtain⟨A2,cp2,e2⟩:=bD EJ
  subst e2
  obtain⟨A,hA,qze⟩:∃ A:Addr,(if cs=k+1 then some (⟨b,off,none⟩:Addr) else some ⟨b,off+(k+1)*13,none⟩)=some A∧Y0 (∀ t u,(eF r.L k)[t]? = some u→w2.cell? (A.add t)=some u):=by
   by_cases Zi:cs=k+1
   ·refine⟨⟨b,off,none⟩,by simp[Zi],fun t u hu=>?_⟩
    have h0:(eF r.L k).length=0:=by rw[fQ];omega
    rw[List.length_eq_zero_iff.1 h0] at hu
    simp at hu
   refine⟨⟨b,off+(k+1)*13,none⟩,by simp[Zi],fun t u hu=>?_⟩
   have ht:t<(r.L.length-(k+1))*13:=by
    have:=(List.getElem?_eq_some_iff.1 hu).1
    rwa [fQ] at this
   rw[AP r.L k t ht] at hu
   rw[Addr.add_lit,Nat.add_assoc]
   exact hcA _ bE _ u hu
  obtain⟨v3,w3,qxJ,Du,hg3,-,qkM⟩ := run_append_own_at (P := Tryz.prog) w2 W8.heap.size 46 46 26 i0 _ 13 160 Tryz.underlying46 il gu iC iN rfl (by decide) (.slice A2 k cp2) k ((r.L.take k).flatMap SetC.cells) EJ A (r.L.length - (k + 1)) (cs - (k + 1)) (eF r.L k) (fQ r.L k)
   qze.o (jv _) (by unfold maxLen;omega) (by omega) bE.size
  have cO:Below W8.heap.size W8 w3:=bE.grown hg3 bE.size (fun j e=>(EJ.lt j e).1)
  rw[show k+(r.L.length-(k+1))=(r.L.eraseIdx k).length from by rw[List.length_eraseIdx,if_pos hk];omega,show (r.L.take k).flatMap SetC.cells++eF r.L k=(r.L.eraseIdx k).flatMap SetC.cells from (NP r.L k hk).symm] at Du
  obtain⟨A3,cp3,e3⟩:=bD Du
  subst e3
  have jM:SetsM w3 (dh M W8.heap.size w3.heap.size) (.slice A3 (r.L.eraseIdx k).length cp3) (r.L.eraseIdx k):=⟨FlatM.of_own Du fun g e=>.inr (Du.lt g e),fun x hx=>((HS.o.sets.2 x (List.mem_of_mem_eraseIdx hx)).kept (KeepM.of_below cO)).sub fun g hg=>.inl hg⟩
  have vl:=zh (HS.o.since cO)
  have iB:=rG vl.o jM
  have oJ:=iB.1
  rw[qh,qm.o.setsE] at oJ
  have nz:Y0 (fZ B D M (cw st nm) w (.returned (.int .i64 0)) (w3.setCell ⟨D,0,none⟩ (.slice A3 (r.L.eraseIdx k).length cp3))):=by
   unfold Y0
   rw[HE.o]
   exact⟨rfl,(((ChgR.of_below HB.o Q9.o).trans MF.o).trans (ChgR.of_below cO hB8)).trans iB.2,dh M W8.heap.size w3.heap.size,_,oJ,fun g hg=>Or.elim (show M g∨(W8.heap.size≤g∧g<w3.heap.size) from hg) .inl fun h1=>.inr (yH (yH HB.o.size MF.o.bel.size) h1.1)⟩
  have S0:=HS.o.below hd
  have S1:=HS.o.below ao
  have S2:=HS.o.below bE
  have S3:=HS.o.below cO
  have b0:=S0.blk
  have b1:=S1.blk
  have b2:=S2.blk
  have b3:=S3.blk
  obtain⟨Wd,qP,gT,kt,ng,hW4⟩:∃ Wd:Nat→World,Wd 0=W8.drew∧Wd 1=(W8.drew.alloc (.cells #[] 26))∧Wd 2=w2∧Wd 3=w3∧Wd 4=w3.setCell ⟨D,0,none⟩ (.slice A3 (r.L.eraseIdx k).length cp3) :=
   ⟨fun m=>if m=0 then W8.drew else if m=1 then (W8.drew.alloc (.cells #[] 26)) else if m=2 then w2 else if m=3 then w3 else w3.setCell ⟨D,0,none⟩ (.slice A3 (r.L.eraseIdx k).length cp3),rfl,rfl,rfl,rfl,rfl⟩
  have c0:∀ m,m≤3→(Wd m).cell? ⟨D,0,none⟩=some (.slice (some ⟨b,off,none⟩) r.L.length cs):=fun m hm=>by
   rw[← pc.o]
   rcases m with _ | _ | _ | _ | m
   ·rw[qP];exact (b0.cell 0).trans rfl
   ·rw[gT];exact (b1.cell 0).trans rfl
   ·rw[kt];exact (b2.cell 0).trans rfl
   ·rw[ng];exact (b3.cell 0).trans rfl
   omega
  have Px:w3.cell? ⟨D,0,none⟩=some r.sv:=(b3.cell 0).trans rfl
  have JZ:=b3.frozen 0
  have W0:=zh qP
  have W4:=zh hW4
  have k2:(k:Int)≤(r.L.length:Int):=by omega
  have k3:(k:Int)+1≤(r.L.length:Int):=by omega
  have k4:IntKind.i64.wrap ((k:Int)+1)=(k:Int)+1:=yF _ (by omega)
  have k5:((k:Int)+1).toNat=k+1:=by omega
  have k6:k≤cs:=by omega
  have k7:k+1≤cs:=by omega
  have k8:(0:Int)≤(k:Int)+1:=by omega
  have k9:(k:Int)≤(cs:Int):=by omega
  have k10:(r.L.length:Int)≤(cs:Int):=by omega
  have HkL:=zh hk
  clear hd tF ao bE cO ho1 EJ Du hg2 hg3 qkN qkM hcA qxN qze il gu iC iN jM iB oJ vl S0 S1 S2 S3 b0 b1 b2 b3 hc QI qkS HS MF HB
  go_upto_region 5 with fail
  refine cX [.pointer (some ⟨D,0,none⟩),.slice (some ⟨W8.heap.size,0,none⟩) 0 0,.pointer (some ⟨D,0,none⟩),.pointer (some ⟨D,0,none⟩),.pointer (some ⟨D,0,none⟩),.slice (some ⟨b,off,none⟩) r.L.length cs,.int .i64 k,.slice (some ⟨b,off,none⟩) k cs,.slice A2 k cp2,.pointer (some ⟨D,0,none⟩),.pointer (some ⟨D,0,none⟩),.pointer (some ⟨D,0,none⟩),.slice (some ⟨b,off,none⟩) r.L.length cs,.int .i64 k,.int .i64 ((k:Int)+1),.slice (some A) (r.L.length-(k+1)) (cs-(k+1)),.slice A3 (r.L.eraseIdx k).length cp3,.pointer (some ⟨D,0,none⟩),.pointer (some ⟨D,0,none⟩),undef] Wd [1,8,16,19] (by kernel_rfl) (by kernel_rfl) (by kernel_rfl) (by decide) (by rfl) W0.o ?_ ?_
  ·simp only[cj,Act.put,aJ,aI,aH]
   simp only[fY]
   refine⟨?_,?_,?_,?_,?_,?_,?_,?_,?_,?_,?_,?_,?_,?_,?_,?_,?_,?_,?_,?_,trivial⟩
   ·exact .inl ⟨by decide,fun m hm aK=>by go_simp⟩
   ·exact .inr ⟨0,rfl,.inr (.inl (by rw[W0.o,gT];go_simp))⟩
   ·exact .inl ⟨by decide,fun m hm aK=>by go_simp⟩
   ·exact .inl ⟨by decide,fun m hm aK=>by go_simp⟩
   ·exact .inl ⟨by decide,fun m hm aK=>by go_simp⟩
   ·exact .inl ⟨by decide,fun m hm aK=>by
     have Bj:m≤3:=by
      rcases m with _ | _ | _ | _ | _ | m
      ·omega
      ·omega
      ·omega
      ·omega
      ·exact absurd (Eq.trans (a:=false) (by kernel_rfl) aK) Bool.false_ne_true
      exact absurd hm (by show ¬ m+5≤4;omega)
     have h:=c0 m Bj
     go_simp⟩
   ·exact .inl ⟨by decide,fun m hm aK=>by go_simp⟩
   ·exact .inl ⟨by decide,fun m hm aK=>by go_simp⟩
   ·exact .inr ⟨1,rfl,.inr (.inl (by rw[gT,kt];exact dA rfl (by go_simp) (by go_simp) qxK))⟩
   ·exact .inl ⟨by decide,fun m hm aK=>by go_simp⟩
   ·exact .inl ⟨by decide,fun m hm aK=>by go_simp⟩
   ·exact .inl ⟨by decide,fun m hm aK=>by go_simp⟩
   ·exact .inl ⟨by decide,fun m hm aK=>by
     have Bj:m≤3:=by
      rcases m with _ | _ | _ | _ | _ | m
      ·omega
      ·omega
      ·omega
      ·omega
      ·exact absurd (Eq.trans (a:=false) (by kernel_rfl) aK) Bool.false_ne_true
      exact absurd hm (by show ¬ m+5≤4;omega)
     have h:=c0 m Bj
     go_simp⟩
   ·exact .inl ⟨by decide,fun m hm aK=>by go_simp⟩
   ·exact .inl ⟨by decide,fun m hm aK=>by go_simp⟩
   ·exact .inl ⟨by decide,fun m hm aK=>by rw[← hA];go_simp⟩
   ·exact .inr ⟨2,rfl,.inr (.inl (by rw[kt,ng];exact dA rfl (by go_simp) (by go_simp) qxJ))⟩
   ·exact .inl ⟨by decide,fun m hm aK=>by go_simp⟩
   ·exact .inl ⟨by decide,fun m hm aK=>by go_simp⟩
   exact .inr ⟨3,rfl,.inl ⟨rfl,by rw[ng,W4.o];go_simp⟩⟩
  simp only[cj,Act.put,aJ,aI,aH]
  have eW:Wd (List.length [1,8,16,19])=w3.setCell ⟨D,0,none⟩ (.slice A3 (r.L.eraseIdx k).length cp3):=W4.o
  rw[eW]
  clear eW W4 W0 gT kt qP ng hW4 c0 Px JZ qxK qxJ
  generalize w3.setCell ⟨D,0,none⟩ (.slice A3 (r.L.eraseIdx k).length cp3)=W9 at *
  go_wp2_with fail
  go_ret
  exact nz.o
end Go.Proofs.YtfhmbechennkbaaGreatDoor
