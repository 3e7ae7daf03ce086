/- Lemmas. -/
import Derived.Test.YtfhmbechennkbaaGreatDoorT4
namespace Go.Proofs.YtfhmbechennkbaaGreatDoor
set_option maxRecDepth 100000
set_option maxHeartbeats 40000000
open Go.RowKit Go.Shelf
theorem ZX (nm:ByteArray) (w:World):Calls Tryz.prog 26 #[.pointer none,.string nm] w fun e w'=>e = .returned (.int .i64 1)∧Below w.heap.size w w':=by
 go_enter Tryz.func26,Tryz.ntmps26
 go_wp2_with fail
 go_ret
 exact⟨rfl,yB _ _⟩
theorem ZW (w:World):Calls Tryz.prog 27 #[.pointer none] w fun e w'=>e = .returned (.int .i64 1)∧Below w.heap.size w w':=by
 go_enter Tryz.func27,Tryz.ntmps27
 go_wp2_with fail
 go_ret
 exact⟨rfl,yB _ _⟩
theorem V5 (w:World):Calls Tryz.prog 28 #[.pointer none] w fun e w'=>e = .returned (.slice none 0 0)∧Below w.heap.size w w':=by
 go_enter Tryz.func28,Tryz.ntmps28
 go_wp2_with fail
 go_ret
 exact⟨rfl,yB _ _⟩
theorem ZV (w:World):Calls Tryz.prog 29 #[.pointer none] w fun e w'=>e = .returned (.int .i64 0)∧Below w.heap.size w w':=by
 go_enter Tryz.func29,Tryz.ntmps29
 go_wp2_with fail
 go_ret
 exact⟨rfl,yB _ _⟩
theorem qxB (v:Value) (x:SetT) (w:World) (hv:SetAt w w.heap.size v x):Calls Tryz.prog 24 #[.pointer none,v] w fun e w'=>e = .returned (.int .i64 1)∧Below w.heap.size w w':=by
 obtain⟨Al,cl,Ai,ci,Ab,cb,rfl,-,-,-⟩:=hv
 unfold aL
 have HB:=zh ((yB _ w).alloc (yA _) (.cells (zA x Al cl Ai ci Ab cb) 26))
 go_enter Tryz.func24,Tryz.ntmps24
 go_wp2_with fail
 go_ret
 exact⟨rfl,HB.o⟩
theorem AO (nm:ByteArray) (w:World):Calls Tryz.prog 65 #[.pointer none,.string nm] w fun e w'=>e = .returned (.tuple #[.agg zE,.int .i64 1])∧Below w.heap.size w w':=by
 have HB:=zh ((yB _ w).alloc (yA _) (.cells zE 26))
 have HT:=zh (Blk.new w 26 zE)
 go_enter Tryz.func65,Tryz.ntmps65
 go_upto_region 2 with fail
 generalize w.alloc (.cells zE 26)=w2 at *
 iterate 4 (first | go_values | go_skip | go_guarded | go_step | go_upon)
 have oH:World.there w2 (w.heap.size) 0 13:=fk HT.o rfl
 have ql:=zh oH
 have HR:=zh (World.rangeAt_setCells_same w2 (w.heap.size) 0 zF oH)
 have jf:=bI (w.heap.size) zF 0 w2
 have uZ:=zh (HB.o.grown jf HB.o.size (fun k e=>by have e1:w.heap.size=k:=(by simpa using e);omega))
 clear oH jf
 refine wpList_store_mid rfl 26 (.tmp 4) (.tmp 9) rfl (w.heap.size) 0 zE rfl rfl ql.o (by kernel_rfl) (by simp[Value.oneCell']) ?_
 simp only[Act.put]
 clear ql
 have p0:=HR.o 0 _ rfl
 have p1:=HR.o 1 _ rfl
 have p2:=HR.o 2 _ rfl
 have p3:=HR.o 3 _ rfl
 have p4:=HR.o 4 _ rfl
 have p5:=HR.o 5 _ rfl
 have p6:=HR.o 6 _ rfl
 have p7:=HR.o 7 _ rfl
 have p8:=HR.o 8 _ rfl
 have p9:=HR.o 9 _ rfl
 have rO:=HR.o 10 _ rfl
 have rN:=HR.o 11 _ rfl
 have uv:=HR.o 12 _ rfl
 simp only[Nat.zero_add] at p0 p1 p2 p3 p4 p5 p6 p7 p8 p9 rO rN uv
 generalize World.setCells w2 (w.heap.size) 0 zF=W9 at *
 clear HR
 go_wp2_with fail
 refine YI (v:=.tuple #[.agg zE,.int .i64 1]) (by simp[results,Tryz.results65,go_sem,p0,p1,p2,p3,p4,p5,p6,p7,p8,p9,rO,rN,uv]) rfl ?_
 exact⟨rfl,uZ.o⟩
theorem V6 (nm:ByteArray) (w:World):Calls Tryz.prog 22 #[.pointer none,.string nm] w fun e w'=>e = .returned (.tuple #[.slice none 0 0,.int .i64 1])∧Below w.heap.size w w':=by
 have hN:=AO nm w
 go_enter Tryz.func22,Tryz.ntmps22
 go_wp2_with fail
 refine hN.mono ?_
 rintro e w2 ⟨rfl,bE⟩
 have HB:=zh (bE.alloc bE.size (.cells zE 26))
 clear hN bE
 go_wp2_with fail
 go_ret2
 exact⟨rfl,HB.o⟩
theorem V7 (nm:ByteArray) (w:World):Calls Tryz.prog 23 #[.pointer none,.string nm] w fun e w'=>e = .returned (.tuple #[.bool false,.int .i64 1])∧Below w.heap.size w w':=by
 have hN:=AO nm w
 go_enter Tryz.func23,Tryz.ntmps23
 go_wp2_with fail
 refine hN.mono ?_
 rintro e w2 ⟨rfl,bE⟩
 have HB:=zh (bE.alloc bE.size (.cells zE 26))
 clear hN bE
 go_wp2_with fail
 go_ret2
 exact⟨rfl,HB.o⟩
theorem qxC (nm:ByteArray) (w:World):Calls Tryz.prog 21 #[.pointer none,.string nm] w fun e w'=>Below w.heap.size w w'∧∃ c:SetC,e = .returned (.tuple #[c.val,.int .i64 1])∧c.s=dV∧OwnC w' w.heap.size c:=by
 have bZ:=zh ((yB _ w).alloc (yA _) (.cells zE 26))
 have hN:=(AO nm (w.alloc (.cells zE 26))).mono fun e w' (hp:e = .returned (.tuple #[.agg zE,.int .i64 1])∧Below _ _ w')=>(⟨hp.2,nE,hp.1,rfl,vQ _ _,Dk⟩:Below (w.alloc (.cells zE 26)).heap.size (w.alloc (.cells zE 26)) w'∧∃ c:SetC,e = .returned (.tuple #[c.val,.int .i64 1])∧c.s=dV∧SetAt w' w'.heap.size c.val c.s∧tz c.s)
 have nw:=zh (Blk.new w 26 zE)
 go_enter Tryz.func21,Tryz.ntmps21
 go_wp2_with fail
 refine hN.mono ?_
 rintro e w2 ⟨bE,⟨s,al,cl,ai,ci,ab,cb⟩,rfl,hs,hv,hl⟩
 simp only at hs hl
 change SetAt w2 w2.heap.size (aL s al cl ai ci ab cb) s at hv
 have ia:=zh (nw.o.below bE nw.o.lt)
 have bK:=zh (bZ.o.trans (bE.mono bZ.o.size))
 have HS:=zh hs
 have ha:=(yB w2.heap.size w2).alloc (yA _) (.cells (zA s al cl ai ci ab cb) 26)
 have hO:=Ef _ s _ ((hv.below ha (yA _)).mono ha.size) hl.1 hl.2.1 hl.2.2
 have HA:=zh ha
 clear bE nw bZ hs hv hl hN ha
 unfold SetC.val aL at *
 go_wp2_with fail
 refine hO.mono ?_
 rintro e w4 ⟨cD,A1,k1,A2,k2,A3,k3,rfl,o1,o2,o3⟩
 have tR:=zh ((ia.o.below HA.o ia.o.lt).below cD (yK ia.o.lt HA.o.size))
 have dU:=zh (bK.o.trans ((HA.o.trans (cD.mono HA.o.size)).mono bK.o.size))
 have dK:=bK.o.size
 clear ia bK cD HA hO
 unfold aL
 dsimp only
 iterate 4 (first | go_values | go_skip | go_guarded | go_step | go_upon)
 have oH:World.there w4 (w.heap.size) 0 13:=fk tR.o rfl
 have ql:=zh oH
 have HR:=zh (World.rangeAt_setCells_same w4 (w.heap.size) 0 (zB s A1 k1 A2 k2 A3 k3) oH)
 have jf:=bI (w.heap.size) (zB s A1 k1 A2 k2 A3 k3) 0 w4
 have uZ:=zh (dU.o.grown jf dU.o.size (fun k e=>by have e1:w.heap.size=k:=(by simpa using e);omega))
 have r1:=o1.kept jf (cQ o1 tR.o (by decide))
 have r2:=o2.kept jf (cQ o2 tR.o (by decide))
 have r3:=o3.kept jf (cQ o3 tR.o (by decide))
 have R1:=zh r1
 have R2:=zh r2
 have R3:=zh r3
 clear oH jf r1 r2 r3 o1 o2 o3
 refine wpList_store_mid rfl 26 (.tmp 4) (.tmp 15) rfl (w.heap.size) 0 (zA s A1 k1 A2 k2 A3 k3) rfl rfl ql.o (by kernel_rfl) (by simp[Value.oneCell']) ?_
 simp only[Act.put]
 clear ql
 have p0:=HR.o 0 _ rfl
 have p1:=HR.o 1 _ rfl
 have p2:=HR.o 2 _ rfl
 have p3:=HR.o 3 _ rfl
 have p4:=HR.o 4 _ rfl
 have p5:=HR.o 5 _ rfl
 have p6:=HR.o 6 _ rfl
 have p7:=HR.o 7 _ rfl
 have p8:=HR.o 8 _ rfl
 have p9:=HR.o 9 _ rfl
 have rO:=HR.o 10 _ rfl
 have rN:=HR.o 11 _ rfl
 have uv:=HR.o 12 _ rfl
 simp only[Nat.zero_add] at p0 p1 p2 p3 p4 p5 p6 p7 p8 p9 rO rN uv
 generalize World.setCells w4 (w.heap.size) 0 (zB s A1 k1 A2 k2 A3 k3)=W9 at *
 clear HR
 go_wp2_with fail
 refine YI (v:=.tuple #[.agg (zA s A1 k1 A2 k2 A3 k3),.int .i64 1]) (by simp[results,Tryz.results21,go_sem,p0,p1,p2,p3,p4,p5,p6,p7,p8,p9,rO,rN,uv]) rfl ?_
 exact⟨uZ.o,⟨s,A1,k1,A2,k2,A3,k3⟩,rfl,HS.o,bo R1.o (by simp;omega),bo R2.o (by simp;omega),bo R3.o (by simp;omega)⟩
theorem Po (v:Value) (L:List ActC) (w:World) (hl:ActsAt w w.heap.size v L) (ht:Tab w) :
  Calls Tryz.prog 5 #[v] w fun e w'=>e = .returned (.bool true)∧Below w.heap.size w w':=by
 have Ea:=zh fun W (hb:Below w.heap.size w W)=>ht.below hb
 have F0:=zh fun W (hb:Below w.heap.size w W)=>Nv v L W ((hl.below hb (yA _)).mono hb.size)
 have HAc:=zh fun t (hm:t∈L) W (hb:Below w.heap.size w W)=>(hl.2 t hm).1.below hb (yA _)
 have HNm:=zh fun t (hm:t∈L)=>(hl.2 t hm).2
 have hAw:=AZ w ht
 obtain⟨A,c,rfl,gC,dr,ah⟩:=hl.open_
 unfold maxLen at dr
 have HC:=zh ah
 clear ah hl ht
 go_enter Tryz.func5,Tryz.ntmps5
 go_wp2_with fail
 refine hAw.mono ?_
 rintro e w1 ⟨rfl,ao⟩
 have hLg:=F0.o w1 ao
 clear F0 hAw
 go_wp2_with fail
 refine hLg.mono ?_
 rintro e w2 ⟨q,rfl,bE,m6⟩
 have bK:=zh (ao.trans (bE.mono ao.size))
 have H12:=zh m6
 clear ao bE m6 hLg
 cases q
 case true=>
  go_wp2_with fail
  go_ret
  exact⟨rfl,bK.o⟩
 have qji:=zh (H12.o rfl)
 clear H12
 have jU:=bK.o.size
 have NI:=bK.o.alloc jU (.cells #[.slice none 0 0,.slice none 0 0,.map none,.int .i64 0] 56)
 have Zo:=CM w2 jU
 have hP3:Pair ((w2.alloc (.cells #[.slice none 0 0,.slice none 0 0,.map none,.int .i64 0] 56)).alloc (.cells #[.slice none 0 0,.slice none 0 0,.slice none 0 0,.int .i64 0] 49)) w.heap.size w2.heap.size (w2.alloc (.cells #[.slice none 0 0,.slice none 0 0,.map none,.int .i64 0] 56)).heap.size (dq L 0) (dq L 0):=by rw[DT];exact I6 Zo NI.size
 rw[yZ] at hP3
 have HP3:=zh hP3
 have bY:=zh (NI.alloc NI.size (.cells #[.slice none 0 0,.slice none 0 0,.slice none 0 0,.int .i64 0] 49))
 clear jU Zo hP3 bK NI
 go_wp2_with fail
 generalize (w2.alloc (.cells #[.slice none 0 0,.slice none 0 0,.map none,.int .i64 0] 56)).alloc (.cells #[.slice none 0 0,.slice none 0 0,.slice none 0 0,.int .i64 0] 49)=W3 at *
 obtain⟨Dr,hDr⟩:∃ Dr,w2.heap.size+1=Dr:=⟨_,rfl⟩
 rw[hDr] at HP3 ⊢
 clear hDr
 generalize w2.heap.size=Dp at *
 go_loopw [24] (fun x wr=>∃ j:Nat,j≤L.length∧x = .int .i64 j∧Y0 (Below w.heap.size w wr)∧Y0 (Pair wr w.heap.size Dp Dr (dq L j) (dq L j))) (fun x _=>L.length-(intOf x).toNat)
 case atStart=>exact⟨0,yI _,rfl,bY,HP3⟩
 clear bY HP3
 obtain⟨j,hj,rfl,HB,HP⟩:=hrel
 by_cases aw:j<L.length
 ·obtain⟨b,off,rfl,hb,ah⟩:=HC.o j aw
  have h0:=(HB.o.cell (p:=⟨b,off+j*14,none⟩) hb).trans (ah j aw 0 _ rfl)
  have h1:=(HB.o.cell (p:=⟨b,off+j*14+1,none⟩) hb).trans (ah j aw 1 _ rfl)
  have h2:=(HB.o.cell (p:=⟨b,off+j*14+2,none⟩) hb).trans (ah j aw 2 _ rfl)
  have h3:=(HB.o.cell (p:=⟨b,off+j*14+3,none⟩) hb).trans (ah j aw 3 _ rfl)
  have h4:=(HB.o.cell (p:=⟨b,off+j*14+4,none⟩) hb).trans (ah j aw 4 _ rfl)
  have h5:=(HB.o.cell (p:=⟨b,off+j*14+5,none⟩) hb).trans (ah j aw 5 _ rfl)
  have h6:=(HB.o.cell (p:=⟨b,off+j*14+6,none⟩) hb).trans (ah j aw 6 _ rfl)
  have h7:=(HB.o.cell (p:=⟨b,off+j*14+7,none⟩) hb).trans (ah j aw 7 _ rfl)
  have h8:=(HB.o.cell (p:=⟨b,off+j*14+8,none⟩) hb).trans (ah j aw 8 _ rfl)
  have h9:=(HB.o.cell (p:=⟨b,off+j*14+9,none⟩) hb).trans (ah j aw 9 _ rfl)
  have vC:=(HB.o.cell (p:=⟨b,off+j*14+10,none⟩) hb).trans (ah j aw 10 _ rfl)
  have Cz:=(HB.o.cell (p:=⟨b,off+j*14+11,none⟩) hb).trans (ah j aw 11 _ rfl)
  have m6:=(HB.o.cell (p:=⟨b,off+j*14+12,none⟩) hb).trans (ah j aw 12 _ rfl)
  have Ch:=(HB.o.cell (p:=⟨b,off+j*14+13,none⟩) hb).trans (ah j aw 13 _ rfl)
  clear ah
  have hm:=yV aw
  obtain⟨g1,g2,-⟩:=mr L j hj
  obtain⟨g3,-,-⟩:=mr L (j+1) aw
  have hsm:=g2.mono (yH hj (yH qji.o (by decide:12≤1000)))
  have HE:=zh (pb aw)
  have Y3:=zh fun o=>IA w.heap.size Dp Dr (dq L j) L[j] (wr.alloc o) (HP.o.below ((yB _ wr).alloc (yA _) o)) g1 (fun W bE=>Ea.o W ((HB.o.alloc HB.o.size o).trans bE)) (HAc.o _ hm _ (HB.o.alloc HB.o.size o)) (HNm.o _ hm) hsm
  have JL:=zh fun W (h:Pair W w.heap.size Dp Dr (dq L (j+1)) (dq L (j+1))) (bE:Below w.heap.size w W)=>Dl w.heap.size Dp Dr (dq L (j+1)) W h g3 (fun W' cO=>Ea.o W' (bE.trans cO))
  clear hm g1 g2 g3 hsm
  generalize L[j]=t at *
  have qp:=zh (HB.o.alloc HB.o.size (.cells #[.int .i64 t.kind,.string t.c.s.name,.int .i64 t.c.s.depth,.int .i64 t.c.s.low,.int .i64 t.c.s.high,.int .i64 t.c.s.len,.slice t.c.al t.c.s.lines.length t.c.cl,.int .i64 t.c.s.pipe,.int .i64 t.c.s.arbor,.int .i64 t.c.s.purch,.int .i64 t.c.s.most,.int .i64 t.c.s.brake,.slice t.c.ai t.c.s.items.length t.c.ci,.slice t.c.ab t.c.s.bricks.length t.c.cb] 51))
  have WQ:=Y3.o (.cells #[.int .i64 t.kind,.string t.c.s.name,.int .i64 t.c.s.depth,.int .i64 t.c.s.low,.int .i64 t.c.s.high,.int .i64 t.c.s.len,.slice t.c.al t.c.s.lines.length t.c.cl,.int .i64 t.c.s.pipe,.int .i64 t.c.s.arbor,.int .i64 t.c.s.purch,.int .i64 t.c.s.most,.int .i64 t.c.s.brake,.slice t.c.ai t.c.s.items.length t.c.ci,.slice t.c.ab t.c.s.bricks.length t.c.cb] 51)
  clear Y3 HB HP
  go_wp2_with fail
  refine WQ.mono ?_
  rintro e w5 ⟨rfl,hs5⟩
  rw[← HE.o] at hs5
  have Zy:=zh hs5.pair
  have cN:=zh (qp.o.trans hs5.bel)
  have Bv:=JL.o w5 Zy.o cN.o
  clear hs5 WQ qp HE JL h0 h1 h2 h3 h4 h5 h6 h7 h8 h9 vC Cz m6 Ch
  go_wp2_with fail
  refine Bv.mono ?_
  rintro e w6 ⟨rfl,iq⟩
  have HP6:=zh (Zy.o.below iq)
  have lK:=zh (cN.o.trans (iq.mono cN.o.size))
  clear iq Bv Zy cN
  go_wp2_with fail
  go_roundw
  case rel=>exact⟨j+1,by omega,by go_num,lK,HP6⟩
  simp[intOf];omega
 have mQ:j=L.length:=by omega
 subst mQ
 clear HC HAc HNm Ea HP
 go_wp2_with fail
 refine (qxC _ wr).mono ?_
 rintro e w4 ⟨cD,⟨s,al,cl,ai,ci,ab,cb⟩,rfl,NC,YU⟩
 simp only at NC
 subst NC
 have ha:=(yB w4.heap.size w4).alloc (yA _) (.cells (zA dV al cl ai ci ab cb) 26)
 have dU:=zh (HB.o.trans ((cD.trans (ha.mono cD.size)).mono HB.o.size))
 have Yd:=zh (Blk.new w4 26 (zA dV al cl ai ci ab cb))
 have Yz:=zh (YU.below_ ha)
 clear cD YU ha HB
 unfold SetC.val aL
 dsimp only
 go_wp2_with fail
 generalize w4.alloc (.cells (zA dV al cl ai ci ab cb) 26)=W4 at *
 refine (V6 _ W4).mono ?_
 rintro e w5 ⟨rfl,bg⟩
 go_wp2_with fail
 refine (V7 _ w5).mono ?_
 rintro e w6 ⟨rfl,iq⟩
 go_wp2_with fail
 refine (mN 1 w6).mono ?_
 rintro e w7 ⟨v7,rfl,hv7,na⟩
 have hPu:=qxB v7 (ku 1) w7 hv7
 clear hv7
 go_wp2_with fail
 refine hPu.mono ?_
 rintro e w8 ⟨rfl,aM⟩
 clear hPu
 go_wp2_with fail
 refine (ZX _ w8).mono ?_
 rintro e w9 ⟨rfl,ja⟩
 go_wp2_with fail
 refine (ZW w9).mono ?_
 rintro e Kq ⟨rfl,sd⟩
 go_wp2_with fail
 refine (V5 Kq).mono ?_
 rintro e w11 ⟨rfl,Bt⟩
 go_wp2_with fail
 refine (ZV w11).mono ?_
 rintro e Ri ⟨rfl,uW⟩
 have c6:=bg.trans (iq.mono bg.size)
 have c7:=c6.trans (na.mono c6.size)
 have c8:=c7.trans (aM.mono c7.size)
 have c9:=c8.trans (ja.mono c8.size)
 have FC:=c9.trans (sd.mono c9.size)
 have tN:=FC.trans (Bt.mono FC.size)
 have Ci:=tN.trans (uW.mono tN.size)
 have qjq:=zh (dU.o.trans (Ci.mono dU.o.size))
 have qjY:=zh (Yd.o.below Ci Yd.o.lt)
 have Bu:=pB _ nE.val dV dV Ri (Yz.o.below_ Ci).set (vQ Ri _)
 rw[yD rfl] at Bu
 clear bg iq na aM ja sd Bt uW c6 c7 c8 c9 FC tN Ci dU Yd Yz
 obtain⟨z0,z1,z2,z3,z4,z5,z6,z7,z8,z9,jg,fc,gU⟩:=qjY.o.c13
 unfold SetC.val aL nE dV at Bu
 dsimp only at Bu
 go_wp2_with fail
 refine Bu.mono ?_
 rintro e w13 ⟨rfl,Jf⟩
 have Jb:=qjq.o.trans (Jf.mono qjq.o.size)
 clear Jf Bu qjq qjY z0 z1 z2 z3 z4 z5 z6 z7 z8 z9 jg fc gU
 go_wp2_with fail
 go_ret
 exact⟨rfl,Jb⟩
end Go.Proofs.YtfhmbechennkbaaGreatDoor
