/- Lemmas. -/
import Derived.Test.YtfhmbechennkbaaGreatDoorI3
namespace Go.Proofs.YtfhmbechennkbaaGreatDoor
set_option maxRecDepth 100000
set_option maxHeartbeats 40000000
open Go.RowKit Go.Shelf
def qa (st:St) (nm:ByteArray):SetT×Int :=
 match fG st.sets nm with
 | some k=>(st.sets.getD k dV,0)
 | none=>(dV,9)
def OwnC (w:World) (B:Nat) (c:SetC):Prop :=
 w.ownsRow B 3 1 (.slice c.al c.s.lines.length c.cl) c.s.lines.length (c.s.lines.map (Value.int .i64))∧w.ownsRow B 118 7 (.slice c.ai c.s.items.length c.ci) c.s.items.length (c.s.items.flatMap ItemT.cells) ∧
  w.ownsRow B 87 3 (.slice c.ab c.s.bricks.length c.cb) c.s.bricks.length (c.s.bricks.flatMap BrickT.cells)
theorem OwnC.set {w:World} {B:Nat} {c:SetC} (h:OwnC w B c):SetAt w w.heap.size c.val c.s:=⟨_,_,_,_,_,_,rfl,Flat.of_own h.1,Flat.of_own h.2.1,Flat.of_own h.2.2⟩
def tz (s:SetT):Prop:=s.lines.length≤1000∧s.items.length≤1000∧s.bricks.length≤1000
theorem Dk:tz dV:=by unfold tz;decide
theorem kU {s:SetT} (h:bS s=true):tz s:=by
 have h1:=(jL h).1
 have h2:=(Zm h).wts.1
 have h3:=(dY h).1
 exact⟨by omega,by omega,by omega⟩
theorem vQ (w:World) (B:Nat):SetAt w B nE.val dV:=⟨none,0,none,0,none,0,rfl,⟨none,0,rfl,yA _,yI _,fun h=>absurd h (by decide)⟩,⟨none,0,rfl,yA _,yI _,fun h=>absurd h (by decide)⟩,⟨none,0,rfl,yA _,yI _,fun h=>absurd h (by decide)⟩⟩
theorem Pd {w:World} {B D:Nat} {M:Nat→Prop} {st:St} {r:StR} {nm:ByteArray} (h:StoreAt w B D M st r) (aK:StOk st) {e:Ending} {w':World} (hp:tQ st r nm w e w') :
  Below w.heap.size w w'∧∃ c:SetC,e = .returned (.tuple #[c.val,.int .i64 (qa st nm).2])∧c.s=(qa st nm).1∧SetAt w' w'.heap.size c.val c.s∧tz c.s:=by
 obtain⟨hb,⟨k,c,hi,hk,he⟩ | ⟨hi,he⟩⟩:=hp
 ·obtain⟨YX,LO⟩:=List.getElem?_eq_some_iff.1 hk
  have e1:st.sets[k]? = some c.s:=by rw[← h.setsE,YD,hk];rfl
  have e2:qa st nm=(c.s,0):=by unfold qa;rw[hi];simp[e1]
  rw[e2]
  have hc:c∈r.L:=List.mem_of_getElem? hk
  have hv:=aK.sets c.s (List.mem_of_getElem? e1)
  exact⟨hb,c,he,rfl,(h.below hb).sets.2 c hc |>.set,kU hv⟩
 have e2:qa st nm=(dV,9):=by unfold qa;rw[hi]
 rw[e2]
 exact⟨hb,nE,he,rfl,vQ _ _,Dk⟩
def vO (st:St) (nm:ByteArray) (w:World) (e:Ending) (w':World):Prop :=
 Below w.heap.size w w'∧∃ c:SetC,e = .returned (.tuple #[c.val,.int .i64 (qa st nm).2])∧c.s=(qa st nm).1∧OwnC w' w.heap.size c
theorem qzH (B D:Nat) (M:Nat→Prop) (st:St) (r:StR) (nm:ByteArray) (w:World) (h:StoreAt w B D M st r) (aK:StOk st) :
  Calls Tryz.prog 21 #[.pointer (some ⟨D,0,none⟩),.string nm] w (vO st nm w):=by
 have bZ:=zh ((yB _ w).alloc (yA _) (.cells zE 26))
 have h1:=h.below bZ.o
 have hN:=(Ek B D M st r nm _ h1).mono fun _ _ hp=>Pd h1 aK hp
 have nw:=zh (Blk.new w 26 zE)
 clear h h1 aK
 go_enter Tryz.func21,Tryz.ntmps21
 go_wp2_with fail
 refine hN.mono ?_
 rintro e w2 ⟨bE,⟨s,al,cl,ai,ci,ab,cb⟩,rfl,hs,hv,hl⟩
 simp only at hs hl
 change SetAt w2 w2.heap.size (aL s al cl ai ci ab cb) s at hv
 have ia:=zh (nw.o.below bE nw.o.lt)
 have bK:=zh (bZ.o.trans (bE.mono bZ.o.size))
 have HS:=zh hs
 have ha:=(yB w2.heap.size w2).alloc (yA _) (.cells (zA s al cl ai ci ab cb) 26)
 have hO:=Ef _ s _ ((hv.below ha (yA _)).mono ha.size) hl.1 hl.2.1 hl.2.2
 have HA:=zh ha
 generalize hEr:(qa st nm).2=er at *
 have HEr:=zh hEr
 clear bE nw bZ hs hv hl hN ha hEr
 unfold SetC.val aL at *
 go_wp2_with fail
 refine hO.mono ?_
 rintro e w4 ⟨cD,A1,k1,A2,k2,A3,k3,rfl,o1,o2,o3⟩
 have tR:=zh ((ia.o.below HA.o ia.o.lt).below cD (yK ia.o.lt HA.o.size))
 have dU:=zh (bK.o.trans ((HA.o.trans (cD.mono HA.o.size)).mono bK.o.size))
 have dK:=bK.o.size
 clear ia bK cD HA hO
 unfold aL
 dsimp only
 iterate 4 (first | go_values | go_skip | go_guarded | go_step | go_upon)
 have oH:World.there w4 (w.heap.size) 0 13:=fk tR.o rfl
 have ql:=zh oH
 have HR:=zh (World.rangeAt_setCells_same w4 (w.heap.size) 0 (zB s A1 k1 A2 k2 A3 k3) oH)
 have jf:=bI (w.heap.size) (zB s A1 k1 A2 k2 A3 k3) 0 w4
 have uZ:=zh (dU.o.grown jf dU.o.size (fun k e=>by have e1:w.heap.size=k:=(by simpa using e);omega))
 have r1:=o1.kept jf (cQ o1 tR.o (by decide))
 have r2:=o2.kept jf (cQ o2 tR.o (by decide))
 have r3:=o3.kept jf (cQ o3 tR.o (by decide))
 have R1:=zh r1
 have R2:=zh r2
 have R3:=zh r3
 clear oH jf r1 r2 r3 o1 o2 o3
 refine wpList_store_mid rfl 26 (.tmp 4) (.tmp 15) rfl (w.heap.size) 0 (zA s A1 k1 A2 k2 A3 k3) rfl rfl ql.o (by kernel_rfl) (by simp[Value.oneCell']) ?_
 simp only[Act.put]
 clear ql
 have p0:=HR.o 0 _ rfl
 have p1:=HR.o 1 _ rfl
 have p2:=HR.o 2 _ rfl
 have p3:=HR.o 3 _ rfl
 have p4:=HR.o 4 _ rfl
 have p5:=HR.o 5 _ rfl
 have p6:=HR.o 6 _ rfl
 have p7:=HR.o 7 _ rfl
 have p8:=HR.o 8 _ rfl
 have p9:=HR.o 9 _ rfl
 have rO:=HR.o 10 _ rfl
 have rN:=HR.o 11 _ rfl
 have uv:=HR.o 12 _ rfl
 simp only[Nat.zero_add] at p0 p1 p2 p3 p4 p5 p6 p7 p8 p9 rO rN uv
 generalize World.setCells w4 (w.heap.size) 0 (zB s A1 k1 A2 k2 A3 k3)=W9 at *
 clear HR
 go_wp2_with fail
 refine YI (v:=.tuple #[.agg (zA s A1 k1 A2 k2 A3 k3),.int .i64 er]) (by simp[results,Tryz.results21,go_sem,p0,p1,p2,p3,p4,p5,p6,p7,p8,p9,rO,rN,uv]) rfl ?_
 exact⟨uZ.o,⟨s,A1,k1,A2,k2,A3,k3⟩,by rw[HEr.o];rfl,HS.o,bo R1.o (by simp;omega),bo R2.o (by simp;omega),bo R3.o (by simp;omega)⟩
def O4:St:=⟨[],[],[],0⟩
def r0:StR:=⟨.slice none 0 0,[],.slice none 0 0,[],.map none⟩
theorem CM (w:World) {B:Nat} (hB:B≤w.heap.size):StoreAt (w.alloc (.cells #[.slice none 0 0,.slice none 0 0,.map none,.int .i64 0] 56)) B w.heap.size (fun _=>False) O4 r0 :=
 ⟨Blk.new _ _ _,hB,fun h=>h,fun _ h=>h.elim,SetsM.nil,rfl,yJ _ _ _ _,fun _ _ h=>h,fun _ h=>absurd h YG,rfl,.inl ⟨rfl,rfl⟩⟩
def qqB (B:Nat) (w:World) (e:Ending) (w':World):Prop :=
 ∃ D,e = .returned (.pointer (some ⟨D,0,none⟩))∧Below w.heap.size w w'∧StoreAt w' B D (fun _=>False) O4 r0
theorem qqG (B:Nat) (w:World) (hB:B≤w.heap.size):Calls Tryz.prog 18 #[] w (qqB B w):=by
 have HS:=zh (CM w hB)
 have HB:=zh ((yB _ w).alloc (yA _) (.cells #[.slice none 0 0,.slice none 0 0,.map none,.int .i64 0] 56))
 clear hB
 go_enter Tryz.func18,Tryz.ntmps18
 go_wp2_with fail
 go_ret
 exact⟨w.heap.size,rfl,HB.o,HS.o⟩
theorem Ej (B D:Nat) (M:Nat→Prop) (st:St) (r:StR) (w:World) (h:StoreAt w B D M st r) :
  Calls Tryz.prog 29 #[.pointer (some ⟨D,0,none⟩)] w fun e w'=>e = .returned (.int .i64 (st.work:Int))∧w=w':=by
 have hd:=h.blk.cell 3
 simp only[aP,aQ,aO] at hd
 have hl:=h.blk.lt
 clear h
 go_enter Tryz.func29,Tryz.ntmps29
 go_wp2_with fail
 go_ret
 exact⟨rfl,rfl⟩
def DW (st:St) (w:World) (e:Ending) (w':World):Prop :=
 Below w.heap.size w w'∧∃ v,e = .returned v∧w'.ownsRow w.heap.size 9 1 v st.sets.length ((st.sets.map SetT.name).map Value.string)
theorem ZE (B D:Nat) (M:Nat→Prop) (st:St) (r:StR) (w:World) (h:StoreAt w B D M st r) (aK:StOk st) :
  Calls Tryz.prog 28 #[.pointer (some ⟨D,0,none⟩)] w (DW st w):=by
 obtain⟨A,cc,eA,gC,dr,ah⟩:=h.at.open_
 unfold maxLen at dr
 have hd:=h.blk.cell 0
 simp only[aP,aO] at hd
 rw[eA] at hd
 have hl:=h.blk.lt
 have HC:=zh ah
 have HE:=zh h.setsE
 have bL:st.sets.length=r.L.length:=by rw[← h.setsE,yP]
 have PN:=aK.len
 have tU:=zh bL
 have HNL:Y0 (st.sets.map SetT.name=r.L.map fun c=>c.s.name):=by unfold Y0;rw[← h.setsE,List.map_map];rfl
 clear ah h aK eA
 have qkT:r.L.length≤60:=by omega
 clear bL PN
 generalize r.L=L at *
 go_enter Tryz.func28,Tryz.ntmps28
 go_wp2_with fail
 clear hd hl
 go_loopw [3,13] (fun o ix wr=>∃ k:Nat,k≤L.length∧ix = .int .i64 k∧Below w.heap.size w wr∧wr.ownsRow w.heap.size 9 1 o k (((L.take k).map fun c=>c.s.name).map Value.string)) (fun _ ix _=>L.length-(intOf ix).toNat)
 case atStart=>exact⟨0,yI _,rfl,yB _ _,yJ _ _ _ _⟩
 obtain⟨k,hk,rfl,av,az⟩:=hrel
 have k0:(0:Int)≤(k:Int):=yE _
 by_cases aB:k<L.length
 ·have k1:(k:Int)<(L.length:Int):=by omega
  obtain⟨b1,o1,rfl,ao,hx⟩:=HC.o k aB
  have hy:=hx k aB
  have y0:=(av.cell (p:=⟨b1,o1+k*13,none⟩) ao).trans (hy 0 _ rfl)
  have y1:=(av.cell (p:=⟨b1,o1+k*13+1,none⟩) ao).trans (hy 1 _ rfl)
  have y2:=(av.cell (p:=⟨b1,o1+k*13+2,none⟩) ao).trans (hy 2 _ rfl)
  have y3:=(av.cell (p:=⟨b1,o1+k*13+3,none⟩) ao).trans (hy 3 _ rfl)
  have y4:=(av.cell (p:=⟨b1,o1+k*13+4,none⟩) ao).trans (hy 4 _ rfl)
  have y5:=(av.cell (p:=⟨b1,o1+k*13+5,none⟩) ao).trans (hy 5 _ rfl)
  have y6:=(av.cell (p:=⟨b1,o1+k*13+6,none⟩) ao).trans (hy 6 _ rfl)
  have y7:=(av.cell (p:=⟨b1,o1+k*13+7,none⟩) ao).trans (hy 7 _ rfl)
  have y8:=(av.cell (p:=⟨b1,o1+k*13+8,none⟩) ao).trans (hy 8 _ rfl)
  have y9:=(av.cell (p:=⟨b1,o1+k*13+9,none⟩) ao).trans (hy 9 _ rfl)
  have lM:=(av.cell (p:=⟨b1,o1+k*13+10,none⟩) ao).trans (hy 10 _ rfl)
  have iY:=(av.cell (p:=⟨b1,o1+k*13+11,none⟩) ao).trans (hy 11 _ rfl)
  have iG:=(av.cell (p:=⟨b1,o1+k*13+12,none⟩) ao).trans (hy 12 _ rfl)
  have HN:Y0 ((L.take (k+1)).map (fun c=>c.s.name)=(L.take k).map (fun c=>c.s.name)++[L[k].s.name]):=by unfold Y0;rw[aC _ k aB,List.map_append];rfl
  have dK:=av.size
  clear hx hy
  generalize L[k]=c at *
  have iP:=av.alloc av.size (.cells (zA c.s c.al c.cl c.ai c.ci c.ab c.cb) 26)
  have dG:=bQ az ((yB _ wr).alloc (yA _) (.cells (zA c.s c.al c.cl c.ai c.ci c.ab c.cb) 26))
  clear az
  go_wp2_with (at_builtin;refine cA _ rfl (.tmp 17) (.tmp 20) 68 rfl w.heap.size 9 mc Tryz.underlying68 rfl _ k _ rfl dG (.string c.s.name) rfl (congrArg (fun n=>Value.slice (some ⟨n,0,none⟩) 1 1) (yZ wr _).symm) (by unfold maxLen;omega) (by omega) (by rw[World.size_alloc];omega) ?_;intro g3 bF w3 jN fW vB jA)
  have bh:w3.ownsRow w.heap.size 9 1 (.slice (some ⟨g3,0,none⟩) (k+1) bF) (k+1) (((L.take (k+1)).map fun c=>c.s.name).map Value.string):=by rw[HN.o,yS];exact jN
  have cO:=iP.grown fW iP.size (fun k hk=>(dG.lt k hk).1)
  clear jN fW jA dG HN y0 y1 y2 y3 y4 y5 y6 y7 y8 y9 lM iY iG av iP
  go_roundw
  case rel=>exact⟨k+1,by omega,by go_num,cO,bh⟩
  simp[intOf];omega
 obtain rfl:k=L.length:=by omega
 rw[yT] at az
 go_wp2_with fail
 go_ret
 exact⟨av,_,rfl,by rw[HNL.o,tU.o];exact az⟩
theorem pJ:(Tryz.prog.info? 46).map (fun i=>(i.zero,i.size,i.bytes))=some (some (.slice none 0 0),1,24):=by kernel_rfl
section
variable {w w':World} {B D:Nat} {M M':Nat→Prop} {st:St} {r:StR}
theorem cm {t:TypeId} {s n:Nat} {v:Value} {xs:List Value} {b:Nat} (h:w.ownsRow b t s v n xs) {g:Nat} (hg:v.ownBlock=some g):∃ cs,w.heap[g]? = some (.cells cs t (0,0)):=by
 rcases h.2 with⟨rfl,_⟩ | ⟨g',cap,cur,rfl,_,hh,_⟩
 ·simp[Value.ownBlock] at hg
 obtain rfl:g'=g:=by simpa[Value.ownBlock] using hg
 exact⟨_,hh⟩
theorem StoreAt.ext (h:StoreAt w B D M st r) (hs:∀ g,M g→M' g) (aw:∀ g,M' g→g<w.heap.size) (hD:¬ M' D) (hp:∀ g,r.pv.ownBlock=some g→¬ M' g) (hm:∀ g,r.mv = .map (some g)→¬ M' g):StoreAt w B D M' st r:=by
 refine⟨h.blk,h.base,hD,aw,h.sets.sub hs,h.setsE,h.own,hp,fun q hq=>(h.past q hq).sub hs,h.pastE,?_⟩
 rcases h.known with k | ⟨b,F,h1,h2,h3,h4,h5,h6⟩
 ·exact .inl k
 exact .inr ⟨b,F,h1,h2,hm b h1,h4,h5,fun x hx=>let ⟨v,e1,e2⟩:=h6 x hx;⟨v,e1,e2.sub hs⟩⟩
theorem StoreAt.more (h:StoreAt w B D M st r) (hb:Below w.heap.size w w') (hs:∀ g,M g→M' g) (hn:∀ g,M' g→M g∨w.heap.size≤g) (aw:∀ g,M' g→g<w'.heap.size):StoreAt w' B D M' st r:=by
 have no:∀ g,g<w.heap.size→¬ M g→¬ M' g:=fun g hg hm YV=>by
  rcases hn g YV with h1 | h1
  ·exact hm h1
  omega
 refine (h.below hb).ext hs aw (no D h.blk.lt h.notM) (fun g hg=>no g (h.own.lt g hg).2 (h.ownM g hg)) fun g hg=>?_
 rcases h.known with⟨k,_⟩ | ⟨b,F,h1,h2,h3,h4,_⟩
 ·rw[k] at hg;cases hg
 rw[h1] at hg
 obtain rfl:b=g:=by simpa using hg
 exact no b h4.lt h3
theorem Ei {w3:World} {lv pv':Value} {L2:List SetC} (h:StoreAt w B D M st r) (hl:SetsM w M lv L2)
  (az:w3.ownsRow B 46 1 pv' (r.P.length+1) (r.P.map Prod.fst++[r.sv])) (hg:w.grownBy w3 r.pv.ownBlock) (jA:∀ g,pv'.ownBlock=some g→r.pv.ownBlock=some g∨w.heap.size≤g) :
  StoreAt ((w3.setCell ⟨D,1,none⟩ pv').setCell ⟨D,0,none⟩ lv) B D M { st with sets:=L2.map SetC.s,past:=st.past++[st.sets] } ⟨lv,L2,pv',r.P++[(r.sv,r.L)],r.mv⟩ ∧
   ChgF B D w ((w3.setCell ⟨D,1,none⟩ pv').setCell ⟨D,0,none⟩ lv):=by
 have hpt:=fun g (e:r.pv.ownBlock=some g)=>cm h.own e
 have WN:some D≠r.pv.ownBlock:=fun e=>by
  obtain⟨cs,hc⟩:=hpt D e.symm
  have:=h.blk
  unfold Blk at this
  rw[this] at hc
  injection hc with hc
  injection hc with _ hc _
  exact absurd hc (by decide)
 have b3:Blk w3 D 56 #[r.sv,r.pv,r.mv,.int .i64 (st.work:Int)]:=h.blk.kept hg WN
 have b4:=(b3.set_ 1 pv').set_ 0 lv
 have P5:∀ g,pv'.ownBlock=some g→g≠D:=fun g e P5=>by
  obtain⟨cs,hc⟩:=cm az e
  have:=b3
  unfold Blk at this
  rw[P5,this] at hc
  injection hc with hc
  injection hc with _ hc _
  exact absurd hc (by decide)
 have hG:w3.grownBy ((w3.setCell ⟨D,1,none⟩ pv').setCell ⟨D,0,none⟩ lv) (some D):=cg (aY w3 D 1 pv') (aY _ D 0 lv)
 have same:∀ g,g<w.heap.size→r.pv.ownBlock≠some g→g≠D→((w3.setCell ⟨D,1,none⟩ pv').setCell ⟨D,0,none⟩ lv).heap[g]? = w.heap[g]?:=fun g aw h1 h2=>
  (hG.block g (yK aw hg.size) (fun e=>h2 (by simpa using e))).trans (hg.block g aw (fun e=>h1 e.symm))
 have dK:w.heap.size≤((w3.setCell ⟨D,1,none⟩ pv').setCell ⟨D,0,none⟩ lv).heap.size:=yH hg.size hG.size
 have hk:KeepM M w ((w3.setCell ⟨D,1,none⟩ pv').setCell ⟨D,0,none⟩ lv):=⟨dK,fun g hm aw=>same g aw (fun e=>h.ownM g e hm) (fun e=>h.notM (e▸hm))⟩
 constructor
 ·refine⟨b4,h.base,h.notM,fun g hm=>yK (h.lt g hm) dK,hl.kept hk,rfl,?_,?_,?_,?_,?_⟩
  ·show World.ownsRow _ B _ 1 pv' (r.P++[(r.sv,r.L)]).length ((r.P++[(r.sv,r.L)]).map Prod.fst)
   rw[yQ,yS]
   exact bX az fun g e=>hG.block g (by obtain⟨cs,hc⟩:=cm az e;exact (Array.getElem?_eq_some_iff.1 hc).1) (fun e'=>P5 g e (by simpa using e'))
  ·intro g e hm
   rcases jA g e with h1 | h1
   ·exact h.ownM g h1 hm
   have:=h.lt g hm
   omega
  ·intro q hq
   rcases List.mem_append.1 hq with hq | hq
   ·exact (h.past q hq).kept hk
   rw[List.mem_singleton] at hq
   subst hq
   exact h.sets.kept hk
  ·show (r.P++[(r.sv,r.L)]).map (fun q=>q.2.map SetC.s)=st.past++[st.sets]
   rw[yS,h.pastE,List.map_cons,List.map_nil,h.setsE]
  refine h.known.kept hk fun g hg'=>?_
  rcases h.known with⟨k,_⟩ | ⟨b,F,h1,h2,h3,h4,_⟩
  ·rw[k] at hg';cases hg'
  rw[h1] at hg'
  obtain rfl:b=g:=by simpa using hg'
  have QI:=h4.lt
  obtain⟨D',⟨es,clock,jr,_⟩,_⟩:=h4
  refine same b QI (fun e=>?_) (fun e=>?_)
  ·obtain⟨cs,hc⟩:=hpt b e
   rw[jr] at hc
   cases hc
  have:=h.blk
  unfold Blk at this
  rw[← e,jr] at this
  cases this
 refine⟨?_,KeepF.of h.blk dK (fun g aw h1 h2 _=>same g aw h2 h1) b4 jA (fun _ e=>.inl e)⟩
 refine⟨?_,fun g cs t f hc h1 h2=>same g (Array.getElem?_eq_some_iff.1 hc).1 (fun e=>?_) (fun e=>?_)⟩
 ·exact ((yB B w).grown hg (yH h.base (YJ h.blk.lt)) (fun k e=>(h.own.lt k e).1)).grown hG (yH (yH h.base (YJ h.blk.lt)) hg.size) (fun k e=>by have e1:D=k:=(by simpa using e);have:=h.base;omega)
 ·obtain⟨cs',pZ⟩:=hpt g e
  rw[hc] at pZ
  injection pZ with pZ
  injection pZ with _ pZ _
  exact h2 pZ
 have:=h.blk
 unfold Blk at this
 rw[← e,hc] at this
 injection this with this
 injection this with _ this _
 exact h1 this
end
theorem O2 {ops:Array Oper} {o:Oper} {a:Act} {w:World} {K:Act→World→Prop} {Q:Exit→Act→World→Prop} {E:Prop} (EO:o.guard=none) (s x:Operand)
  (ho:o.op = .call { callee:=.builtin .append,args:=#[s,x],argTypes:=#[47,47] }) {B m:Nat} {v:Value} {xs:List Value} (T:w.ownsRow B 46 1 v m xs) (hB:B≤w.heap.size) {t:Value} {a1:Nat} (N:Blk w a1 46 #[t]) (ht:t.oneCell'=true)
  (hs:a.eval s=v) (hx:a.eval x = .slice (some ⟨a1,0,none⟩) 1 1) (bL:m≤1000)
  (h:∀ g cap w',w'.ownsRow B 46 1 (.slice (some ⟨g,0,none⟩) (m+1) cap) (m+1) (xs++[t])→w.grownBy w' v.ownBlock→(v.ownBlock=some g∨g=w.heap.size)→K (a.put o.dst (.slice (some ⟨g,0,none⟩) (m+1) cap)) w') :
  if Region.wanted o (yielded ops a.tmps)=true then Oper.wp Tryz.prog o a w K Q else E:=by
 obtain⟨i0,il,gu,iC,iN⟩:=info_parts pJ
 refine step_append_lies w EO s x 47 ho B 46 i0 _ 1 24 Tryz.underlying47 il gu iC iN rfl (by decide) v m xs hs T ⟨a1,0,none⟩ 1 1 [t] hx rfl
  (fun j u hu=>by rw[Addr.add_lit,yR];exact (N.cell j).trans (by simpa using hu)) (fun u hu=>by rw[List.mem_singleton.1 hu];exact ht) (by omega) (by unfold maxLen;omega) (by omega) hB _ rfl ?_
 intro g cap w' az dL hg _
 exact h g cap w' az dL hg
def jy (B D:Nat) (M:Nat→Prop) (st:St) (l:List SetT) (w:World) (e:Ending) (w':World):Prop :=
 e = .returned (.tuple #[])∧ChgF B D w w'∧∃ r',StoreAt w' B D M { st with sets:=l,past:=st.past++[st.sets] } r'
theorem Gg (B D:Nat) (M:Nat→Prop) (st:St) (r:StR) (lv:Value) (L2:List SetC) (w:World) (h:StoreAt w B D M st r) (hl:SetsM w M lv L2) (hp:st.past.length≤1000) :
  Calls Tryz.prog 73 #[.pointer (some ⟨D,0,none⟩),lv] w (jy B D M st (L2.map SetC.s) w):=by
 have IZ:=h.blk.cell 0
 have jo:=h.blk.cell 1
 simp only[aP,aQ,aO] at IZ jo
 have Kc:=h.blk.lt
 have LX:r.P.length≤1000:=by
  have:=congrArg List.length h.pastE
  rw[yP] at this
  omega
 obtain⟨A2,c2,el⟩:∃ A c,lv = .slice A L2.length c:=let ⟨A,c,e,_⟩:=hl.1;⟨A,c,e⟩
 obtain⟨A3,c3,es⟩:∃ A c,r.sv = .slice A r.L.length c:=let ⟨A,c,e,_⟩:=h.sets.1;⟨A,c,e⟩
 obtain⟨A4,c4,ep⟩:=bD h.own
 have HS:=zh h
 have HLv:=zh hl
 have Hel:=zh el
 have pc:=zh es
 have FD:=zh ep
 rw[es] at IZ
 rw[ep] at jo
 clear h hl hp es ep
 subst el
 go_enter Tryz.func73,Tryz.ntmps73
 have iP:=((yB w.heap.size w).alloc (yA _) (.cells #[.slice A3 r.L.length c3] 46)).drew
 have rm:=zh (HS.o.below iP)
 have qj6:=zh (HLv.o.kept (KeepM.of_below iP))
 have HCh:Y0 (∀ w',ChgF B D (w.alloc (.cells #[.slice A3 r.L.length c3] 46)).drew w'→ChgF B D w w'):=fun w' hc=>(ChgF.of_below iP (yH HS.o.base (YJ HS.o.blk.lt))).trans hc
 have Kf:Y0 ((w.alloc (.cells #[.slice A3 r.L.length c3] 46)).drew.ownsRow B 46 1 (.slice A4 r.P.length c4) r.P.length (r.P.map Prod.fst)):=by
  have:=rm.o.own
  rw[FD.o] at this
  exact this
 have HNw:Y0 (Blk (w.alloc (.cells #[.slice A3 r.L.length c3] 46)).drew w.heap.size 46 #[.slice A3 r.L.length c3]):=Blk.new w _ _
 have WO:=yH HS.o.base (YJ (yK HS.o.blk.lt iP.size))
 have q0:=fun o=>(HS.o.blk.alloc o).cell 0
 have q1:=fun o=>(HS.o.blk.alloc o).cell 1
 simp only[aP,aQ,aO] at q0 q1
 rw[pc.o] at q0
 rw[FD.o] at q1
 have Yk:Y0 (∀ wz,(w.alloc (.cells #[.slice A3 r.L.length c3] 46)).drew.grownBy wz (Value.slice A4 r.P.length c4).ownBlock→Blk wz D 56 #[r.sv,r.pv,r.mv,.int .i64 (st.work:Int)]):=fun wz hg=>rm.o.blk.kept hg (rm.o.blk.ne_own Kf.o (by decide))
 have nz:Y0 (∀ wz g3 bF,wz.ownsRow B 46 1 (.slice (some ⟨g3,0,none⟩) (r.P.length+1) bF) (r.P.length+1) (r.P.map Prod.fst++[.slice A3 r.L.length c3])→(w.alloc (.cells #[.slice A3 r.L.length c3] 46)).drew.grownBy wz (Value.slice A4 r.P.length c4).ownBlock →
   ((Value.slice A4 r.P.length c4).ownBlock=some g3∨g3=(w.alloc (.cells #[.slice A3 r.L.length c3] 46)).drew.heap.size) →
   jy B D M st (L2.map SetC.s) w (.returned (.tuple #[])) ((wz.setCell ⟨D,1,none⟩ (.slice (some ⟨g3,0,none⟩) (r.P.length+1) bF)).setCell ⟨D,0,none⟩ (.slice A2 L2.length c2))):=fun wz g3 bF ho hg jA=>by
  rw[← pc.o] at ho
  rw[← FD.o] at hg jA
  have iB:=Ei rm.o qj6.o ho hg (fun g e=>by
   obtain rfl:g3=g:=by simpa[Value.ownBlock] using e
   rcases jA with h1 | h1
   ·exact .inl h1
   exact .inr (Nat.le_of_eq h1.symm))
  exact⟨rfl,HCh.o _ iB.2,_,iB.1⟩
 clear HS rm HLv qj6 HCh Hel pc FD iP
 go_wp2_with fail
 go_region_law (refine O2 rfl (.tmp 8) (.tmp 13) rfl Kf.o WO HNw.o rfl (by go_simp) (by go_simp) LX ?_;intro g3 bF wz sP m5 jA;have HPz:=zh (nz.o wz g3 bF sP m5 jA);have HBz:=zh (Yk.o wz m5);have cz:=HBz.o.cell 1;have fz:=HBz.o.frozen 1;simp only[aP,aQ,aO] at cz;clear sP m5 jA)
 all_goals
  have b1:=HBz.o.set_ 1 (.slice (some ⟨g3,0,none⟩) (r.P.length+1) bF)
  have c0:=b1.cell 0
  have f0:=b1.frozen 0
  simp only[aJ,aI,aH] at c0
  simp only[aP,aO] at c0
  clear q0 q1 cz fz b1 HBz Yk nz Kf HNw IZ jo
  go_simp
  go_wp2_with fail
  refine bodyPost_end (results_none rfl _ _ _) rfl ?_
  exact HPz.o
section
variable {w w':World} {B D:Nat} {M:Nat→Prop} {st:St} {r:StR}
theorem Np {w:World} {b t n:Nat} {v:Value} {xs:List Value} {u:Value} (h:w.ownsRow b t 1 v (n+1) (xs++[u])) (hn:xs.length=n):∃ g c,v = .slice (some ⟨g,0,none⟩) (n+1) c∧n+1≤c∧c≤maxLen∧w.cell? ⟨g,n,none⟩=some u∧g<w.heap.size:=by
 rcases h.2 with⟨_,h0⟩ | ⟨g,cap,cur,rfl,hb,hh,h1,h2,h3,h4⟩
 ·exact absurd h0 (by omega)
 refine⟨g,cap,rfl,h1,h2,?_,(Array.getElem?_eq_some_iff.1 hh).1⟩
 have:=h.cells (g:=g) (by simp[Value.ownBlock]) n u (by rw[List.getElem?_append_right (by omega)];simp[hn])
 rw[Addr.add_lit,yR] at this
 exact this
theorem Kw {P':List (Value×List SetC)} {q:Value×List SetC} {g c:Nat} (h:StoreAt w B D M st r) (hP:r.P=P'++[q]) (hv:r.pv = .slice (some ⟨g,0,none⟩) (P'.length+1) c) :
  StoreAt ((w.setCell ⟨D,0,none⟩ q.1).setCell ⟨D,1,none⟩ (.slice (some ⟨g,0,none⟩) P'.length c)) B D M { st with sets:=q.2.map SetC.s,past:=P'.map fun q=>q.2.map SetC.s } ⟨q.1,q.2,.slice (some ⟨g,0,none⟩) P'.length c,P',r.mv⟩ ∧
   ChgF B D w ((w.setCell ⟨D,0,none⟩ q.1).setCell ⟨D,1,none⟩ (.slice (some ⟨g,0,none⟩) P'.length c)):=by
 have b4:=(h.blk.set_ 0 q.1).set_ 1 (.slice (some ⟨g,0,none⟩) P'.length c)
 have hG:w.grownBy ((w.setCell ⟨D,0,none⟩ q.1).setCell ⟨D,1,none⟩ (.slice (some ⟨g,0,none⟩) P'.length c)) (some D):=cg (aY w D 0 _) (aY _ D 1 _)
 have same:∀ g',g'<w.heap.size→g'≠D→((w.setCell ⟨D,0,none⟩ q.1).setCell ⟨D,1,none⟩ (.slice (some ⟨g,0,none⟩) P'.length c)).heap[g']? = w.heap[g']?:=fun g' aw h2=>hG.block g' aw (fun e=>h2 (by simpa using e))
 have hk:KeepM M w ((w.setCell ⟨D,0,none⟩ q.1).setCell ⟨D,1,none⟩ (.slice (some ⟨g,0,none⟩) P'.length c)):=⟨hG.size,fun g' hm aw=>same g' aw (fun e=>h.notM (e▸hm))⟩
 have az:=h.own
 rw[hP,hv,yS,yQ] at az
 have P5:g≠D:=fun e=>by
  obtain⟨cs,hc⟩:=cm az (g:=g) (by simp[Value.ownBlock])
  have:=h.blk
  unfold Blk at this
  rw[e,this] at hc
  injection hc with hc
  injection hc with _ hc _
  exact absurd hc (by decide)
 have hq:q∈r.P:=by rw[hP];simp
 constructor
 ·refine⟨b4,h.base,h.notM,fun g' hm=>yK (h.lt g' hm) hG.size,(h.past q hq).kept hk,rfl,?_,?_,?_,rfl,?_⟩
  ·exact bX (Nn (by rw[yP]) az) fun g' e=>by
    obtain rfl:g=g':=by simpa[Value.ownBlock] using e
    exact same g (az.lt g (by simp[Value.ownBlock])).2 P5
  ·intro g' e
   exact h.ownM g' (by rw[hv];simpa[Value.ownBlock] using e)
  ·intro q' hq'
   exact (h.past q' (by rw[hP];simp[hq'])).kept hk
  refine h.known.kept hk fun g' hg'=>?_
  rcases h.known with⟨k,_⟩ | ⟨b,F,h1,h2,h3,h4,_⟩
  ·rw[k] at hg';cases hg'
  rw[h1] at hg'
  obtain rfl:b=g':=by simpa using hg'
  have QI:=h4.lt
  obtain⟨D',⟨es,clock,jr,_⟩,_⟩:=h4
  refine same b QI (fun e=>?_)
  have:=h.blk
  unfold Blk at this
  rw[← e,jr] at this
  cases this
 refine⟨?_,KeepF.of h.blk hG.size (fun g' aw h1 _ _=>same g' aw h1) b4 (fun g' e=>.inl (by rw[hv];simpa[Value.ownBlock] using e)) (fun _ e=>.inl e)⟩
 refine⟨(yB B w).grown hG (yH h.base (YJ h.blk.lt)) (fun k e=>by have e1:D=k:=(by simpa using e);have:=h.base;omega),fun g' cs t f hc h1 h2=>same g' (Array.getElem?_eq_some_iff.1 hc).1 (fun e=>?_)⟩
 have:=h.blk
 unfold Blk at this
 rw[← e,hc] at this
 injection this with this
 injection this with _ this _
 exact h1 this
end
def lf (B D:Nat) (M:Nat→Prop) (st:St) (w:World) (e:Ending) (w':World):Prop :=
 e = .returned (.int .i64 (cu st).1)∧ChgF B D w w'∧∃ r',StoreAt w' B D M (cu st).2 r'
theorem Ru (B D:Nat) (M:Nat→Prop) (st:St) (r:StR) (w:World) (h:StoreAt w B D M st r) (hp:st.past.length≤1000) :
  Calls Tryz.prog 27 #[.pointer (some ⟨D,0,none⟩)] w (lf B D M st w):=by
 have jo:=h.blk.cell 1
 simp only[aP,aQ,aO] at jo
 have Kc:=h.blk.lt
 have LX:r.P.length=st.past.length:=by rw[← h.pastE,yP]
 rcases List.eq_nil_or_concat r.P with h0 | ⟨P',q,hP⟩
 ·have e0:cu st=(14,st):=by
   unfold cu
   rw[if_pos]
   have:st.past.length=0:=by rw[← LX,h0];rfl
   exact List.length_eq_zero_iff.1 this
  obtain⟨A4,c4,ep⟩:=bD h.own
  rw[ep,h0] at jo
  have nz:Y0 (lf B D M st w (.returned (.int .i64 14)) w):=⟨by rw[e0],ChgF.refl B D w,r,by rw[e0];exact h⟩
  clear h h0 hp LX ep e0
  go_enter Tryz.func27,Tryz.ntmps27
  go_wp2_with fail
  go_ret
  exact nz.o
 rw[List.concat_eq_append] at hP
 have az:=h.own
 rw[hP,yS,yQ] at az
 obtain⟨g,c,ev,gC,dr,ah,QH⟩:=Np az (by rw[yP])
 have hq:SetsM w M q.1 q.2:=h.past q (by rw[hP];simp)
 obtain⟨A5,c5,e5⟩:∃ A c,q.1 = .slice A q.2.length c:=let ⟨A,c,e,_⟩:=hq.1;⟨A,c,e⟩
 rw[ev] at jo
 have e0:cu st=(0,{ st with sets:=q.2.map SetC.s,past:=P'.map fun q=>q.2.map SetC.s }):=by
  have ep:=h.pastE
  rw[hP,yS,List.map_cons,List.map_nil] at ep
  unfold cu
  rw[if_neg (by rw[← ep];simp),← ep]
  simp
 have hd:=(yB w.heap.size w).drew
 have hS:=Kw (h.below hd) hP ev
 have nz:Y0 (lf B D M st w (.returned (.int .i64 0)) ((w.drew.setCell ⟨D,0,none⟩ q.1).setCell ⟨D,1,none⟩ (.slice (some ⟨g,0,none⟩) P'.length c))):=⟨by rw[e0],(ChgF.of_below hd (yH h.base (YJ h.blk.lt))).trans hS.2,_,by rw[e0];exact hS.1⟩
 clear hS hd
 rw[e5] at nz ah
 have jr:=h.blk.cell 0
 have Zb:=h.blk.frozen 0
 have hf1:=h.blk.frozen 1
 simp only[aP,aO] at jr
 have hn:P'.length≤1000:=by
  rw[hP,yQ] at LX
  simp at LX
  omega
 unfold maxLen at dr
 have P5:g≠D:=fun e=>by
  obtain⟨cs,hc⟩:=cm az (g:=g) (by rw[ev];simp[Value.ownBlock])
  have:=h.blk
  unfold Blk at this
  rw[e,this] at hc
  injection hc with hc
  injection hc with _ hc _
  exact absurd hc (by decide)
 have qkj:=zh h.blk
 clear h hP hp LX az hq e5 e0 ev
 generalize P'.length=n at *
 have v1:((n+1:Nat):Int)-1=(n:Int):=by omega
 go_enter Tryz.func27,Tryz.ntmps27
 have n0:(0:Int)≤(n:Int):=yE _
 have n1:(n:Int)<(n:Int)+1:=by omega
 have n2:n≤c:=by omega
 go_wp2_with fail
 have b1:=qkj.o.set_ 0 (.slice A5 q.2.length c5)
 have c1:=b1.cell 1
 have f1:=b1.frozen 1
 simp only[aJ,aI] at c1
 simp only[aP,aQ,aO] at c1
 go_region_law (fail)
 all_goals
  clear b1 c1 f1 qkj jo jr Zb hf1 ah
  go_simp
  go_wp2_with fail
  go_ret
  exact nz.o
theorem ik:(Tryz.prog.info? 26).map (fun i=>(i.zero,i.size,i.bytes))=some (some (.agg zE),13,160):=by kernel_rfl
theorem L9:(Tryz.prog.info? 82).map (fun i=>(i.zero,i.size,i.bytes))=some (some (.agg #[.int .i64 0,.int .i64 0]),2,16):=by kernel_rfl
theorem Gh (x:SetC):∀ u∈x.cells,u.oneCell'=true:=fun u hx=>by
 simp only[SetC.cells,List.mem_cons,List.not_mem_nil,or_false] at hx
 rcases hx with rfl | rfl | rfl | rfl | rfl | rfl | rfl | rfl | rfl | rfl | rfl | rfl | rfl <;> rfl
theorem jv (l:List SetC):∀ u∈l.flatMap SetC.cells,u.oneCell'=true:=fun u hu=>by
 obtain⟨x,_,hx⟩:=List.mem_flatMap.1 hu
 exact Gh x u hx
theorem Jp (l:List FrT):∀ u∈l.flatMap FrT.cells,u.oneCell'=true:=fun u hu=>by
 obtain⟨x,_,hx⟩:=List.mem_flatMap.1 hu
 simp only[FrT.cells,List.mem_cons,List.not_mem_nil,or_false] at hx
 rcases hx with rfl | rfl <;> rfl
theorem J1 (v:Value) (l:List SetC) (w:World) (hl:SetsAt w w.heap.size v l) (bL:l.length≤1000000) :
  Calls Tryz.prog 72 #[v] w fun e w'=>∃ v',e = .returned v'∧w'.ownsRow w.heap.size 26 13 v' l.length (l.flatMap SetC.cells)∧Below w.heap.size w w':=by
 have HL:=zh hl
 obtain⟨A,c,rfl,gC,dr,ah⟩:=hl.open_
 clear hl
 cases A with
 | none=>
  have Dw:l=[]:=by
   cases l with
   | nil=>rfl
   | cons x r=>obtain⟨b,off,e,_⟩:=ah 0 (by simp);cases e
  subst Dw
  have heq:=fun W=>Lib.run_eql_slice_nil (P:=Tryz.prog) W 46 26 none 0 c 0 0 Tryz.underlying46
  clear ah
  go_enter Tryz.func72,Tryz.ntmps72
  go_wp2
  go_ret
  exact⟨_,rfl,yJ _ _ _ _,yB _ _⟩
 | some ad=>
  have heq:=fun W=>Lib.run_eql_slice_nil (P:=Tryz.prog) W 46 26 (some ad) l.length c 0 0 Tryz.underlying46
  clear ah
  go_enter Tryz.func72,Tryz.ntmps72
  go_wp2_with (at_builtin;refine bJ _ rfl (.tmp 5) (.tmp 6) 46 rfl w.heap.size 26 ik Tryz.underlying46 rfl (by decide) (.slice (some ⟨w.heap.size,0,none⟩) 0 0) 0 [] rfl (World.ownsRow_made w #[] 0 (yA _) (yI _) rfl) w.heap.size l.length (.slice (some ad) l.length c) (l.flatMap SetC.cells) rfl (SetsAt.below HL.o ((yB _ _).alloc (yA _) _) (yA _)) (d9 SetC.cells 13 (fun _=>rfl) l) (jv l) (by unfold maxLen;omega) (by omega) (by simp) ?_;intro v1 w1 dG Bm Cy)
  go_ret
  refine⟨_,rfl,by simpa using dG,?_⟩
  exact ((yB w.heap.size w).alloc (yA _) _).grown Bm (by simp) (fun k hk=>by simp[Value.ownBlock] at hk;omega)
theorem DI (v:Value) (l:List FrT) (w:World) (hl:FrsAt w w.heap.size v l) (bL:l.length≤1000000) :
  Calls Tryz.prog 68 #[v] w fun e w'=>∃ v',e = .returned v'∧w'.ownsRow w.heap.size 82 2 v' l.length (l.flatMap FrT.cells)∧Below w.heap.size w w':=by
 have HL:=zh hl
 obtain⟨A,c,rfl,gC,dr,ah⟩:=hl.open_
 clear hl
 cases A with
 | none=>
  have Dw:l=[]:=by
   cases l with
   | nil=>rfl
   | cons x r=>obtain⟨b,off,e,_⟩:=ah 0 (by simp);cases e
  subst Dw
  have heq:=fun W=>Lib.run_eql_slice_nil (P:=Tryz.prog) W 59 82 none 0 c 0 0 Tryz.underlying59
  clear ah
  go_enter Tryz.func68,Tryz.ntmps68
  go_wp2
  go_ret
  exact⟨_,rfl,yJ _ _ _ _,yB _ _⟩
 | some ad=>
  have heq:=fun W=>Lib.run_eql_slice_nil (P:=Tryz.prog) W 59 82 (some ad) l.length c 0 0 Tryz.underlying59
  clear ah
  go_enter Tryz.func68,Tryz.ntmps68
  go_wp2_with (at_builtin;refine bJ _ rfl (.tmp 5) (.tmp 6) 59 rfl w.heap.size 82 L9 Tryz.underlying59 rfl (by decide) (.slice (some ⟨w.heap.size,0,none⟩) 0 0) 0 [] rfl (World.ownsRow_made w #[] 0 (yA _) (yI _) rfl) w.heap.size l.length (.slice (some ad) l.length c) (l.flatMap FrT.cells) rfl (FrsAt.below HL.o ((yB _ _).alloc (yA _) _) (yA _)) (d9 FrT.cells 2 (fun _=>rfl) l) (Jp l) (by unfold maxLen;omega) (by omega) (by simp) ?_;intro v1 w1 dG Bm Cy)
  go_ret
  refine⟨_,rfl,by simpa using dG,?_⟩
  exact ((yB w.heap.size w).alloc (yA _) _).grown Bm (by simp) (fun k hk=>by simp[Value.ownBlock] at hk;omega)
end Go.Proofs.YtfhmbechennkbaaGreatDoor
