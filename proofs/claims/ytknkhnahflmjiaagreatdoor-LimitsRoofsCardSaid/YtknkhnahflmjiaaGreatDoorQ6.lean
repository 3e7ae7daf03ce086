/- Lemmas. -/
import Derived.Test.YtknkhnahflmjiaaGreatDoorQ5
namespace Go.Proofs.YtknkhnahflmjiaaGreatDoor
set_option maxRecDepth 100000
set_option maxHeartbeats 40000000
open Go.RowKit Go.Shelf
structure RkS (w0 w W:World) (v:Value) (FL:List FindT):Prop where
 b:Below w.heap.size w W
 row:W.ownsRow w.heap.size 49 2 v FL.length (FL.flatMap FindT.cells)
theorem rfRoofs (v v1:Value) (l:List RoofT) (at_:List LoadT) (f:FrT) (w:World) (hv:RoofsAt w w.heap.size v l) (hn:∀ x∈l,x.name.size≤maxLen) (hl:LoadsAt w w.heap.size v1 at_) :
  Calls Tryz.prog 35 #[v,v1,f.val] w (RoofsPost l at_ f w):=by
 have HVa:=zh fun W (hb:Below w.heap.size w W)=>rf19Valid v l W (hv.grow hb) hn
 have HRi:=zh fun W (hb:Below w.heap.size w W)=>rf19Right v1 at_ W ((hl.below hb (yA _)).mono hb.size)
 have HLd:=zh fun W (hb:Below w.heap.size w W) (h:giveB nameB l at_=true)=>(by
  unfold giveB at h
  rw[Bool.and_eq_true] at h
  have h1:=(roofs_ok h.1).1
  have h2:=loads_ok h.2
  refine (rf19Loads v v1 l at_ W h1 h2.1 (fun x hx=>⟨(h2.2 x hx).2.2.1,(h2.2 x hx).2.2.2⟩) (hv.grow hb) ((hl.below hb (yA _)).mono hb.size)).mono ?_
  rintro e w' ⟨hb',⟨h0,u,rfl,hF⟩ | ⟨h0,rfl⟩⟩
  ·obtain⟨A,c,rfl,-⟩:=hF.open_
   exact⟨A,_,c,by rw[h0],hb',fun _=>hF⟩
  exact⟨none,0,0,rfl,hb',fun h=>absurd h h0⟩:Calls Tryz.prog 82 #[v,v1] W fun e w'=>∃ A n c,e = .returned (.tuple #[.slice A n c,.int .i64 (borneE l at_)])∧Below W.heap.size W w'∧(borneE l at_=0→FrsAt w' w'.heap.size (.slice A n c) (borneL l at_)))
 have HVf:=zh fun W=>rfValidW f W
 have HFi:=zh fun W (h:frGood f=true)=>rfIsFactor f W h
 obtain⟨A,c,rfl,-,hc2,hcell⟩:=hv.open_
 obtain⟨A1,c1,rfl,-⟩:=hl.open_
 unfold maxLen at hc2
 have HC:=zh hcell
 have HGi:Hid (giveB nameB l at_=(roofsB nameB l&&loadsB at_)):=rfl
 have HGE:Hid (gridE nameB l at_=if giveB nameB l at_=true then borneE l at_ else 1):=rfl
 have HFE:Hid (facE f=0→frGood f=true):=fun h=>(fac23 h).1
 have HFE2:Hid (frGood f=false→facE f=1):=fun h=>by unfold facE;rw[if_neg (by rw[h];decide)]
 have HFE3:Hid (frGood f=true→facE f≠0→facE f=2):=fun h h2=>by
  unfold facE at h2 ⊢
  rw[if_pos h] at h2 ⊢
  split at h2
  ·exact absurd rfl h2
  rename_i h3
  rw[if_neg h3]
 have HR1:Hid (gridE nameB l at_=1→roofsE l at_ f=1):=fun h=>if_pos h
 have HR2:Hid (gridE nameB l at_≠1→facE f≠0→roofsE l at_ f=facE f):=fun h h2=>(if_neg h).trans (if_pos h2)
 have HR3:Hid (gridE nameB l at_≠1→facE f=0→gridE nameB l at_≠0→roofsE l at_ f=gridE nameB l at_):=fun h h2 h3=>(if_neg h).trans ((if_neg (not_not_intro h2)).trans (if_pos h3))
 have HR4:Hid (facE f=0→gridE nameB l at_=0→roofsE l at_ f=if fits23 f (borneL l at_)=true then 0 else 5):=fun h2 h3=>(if_neg (by rw[h3];decide)).trans ((if_neg (not_not_intro h2)).trans (if_neg (not_not_intro h3)))
 have HB1:Hid (borneE l at_≠1):=by
  rcases borneE_3 l at_ with h | h | h <;> (unfold Hid;rw[h];decide)
 have HGk:=zh (grid_ok (l:=l) (at_:=at_))
 have HFd:Hid (findsR f l at_=hitsR f l (borneL l at_) l.length):=rfl
 have hbl:=borneL_len l at_
 unfold RoofsPost
 obtain⟨fn,fd⟩:=f
 have D5:=zh (Blk.new w 23 #[.int .i64 fn,.int .i64 fd])
 have HB:=zh ((yB w.heap.size w).alloc (yA _) (.cells #[.int .i64 fn,.int .i64 fd] 23))
 generalize roofsE l at_ ⟨fn,fd⟩=re at *
 generalize gridE nameB l at_=ge at *
 generalize giveB nameB l at_=gb at *
 generalize borneE l at_=be at *
 generalize borneL l at_=L at *
 generalize findsR ⟨fn,fd⟩ l at_=FL at *
 generalize roofsB nameB l=rb at *
 generalize loadsB at_=lb at *
 clear hv hl hcell hn
 go_enter Tryz.func35,Tryz.ntmps35
 go_upto_region 1 with fail
 generalize w.alloc (.cells #[.int .i64 fn,.int .i64 fd] 23)=W1 at *
 go_wp2_with (first | (go_at_call 80;exact Go.WalkKit.wp_stop))
 refine (HVa.out _ HB.out).mono ?_
 rintro e w2 ⟨rfl,hb2⟩
 have HB2:=zh (HB.out.trans (hb2.mono HB.out.size))
 have D5:=zh (D5.out.below hb2 D5.out.lt)
 clear hb2 HB HVa
 cases rb
 ·obtain rfl:gb=false:=HGi.out
  obtain rfl:ge=1:=HGE.out
  have HE:=zh (HR1.out (by first | rfl | trivial))
  clear HR1 HR2 HR3 HR4 HLd HRi HGi HGE HFE HFE2 HFE3 HGk HFd
  go_wp2_with fail
  go_ret2
  exact⟨HB2.out,.inr ⟨by rw[HE.out];decide,by rw[HE.out];rfl⟩⟩
 obtain rfl:gb=lb:=HGi.out
 go_wp2_with (first | (go_at_call 81;exact Go.WalkKit.wp_stop))
 refine (HRi.out _ HB2.out).mono ?_
 rintro e w3 ⟨rfl,rfl⟩
 clear HRi
 cases gb
 ·obtain rfl:ge=1:=HGE.out
  have HE:=zh (HR1.out (by first | rfl | trivial))
  clear HR1 HR2 HR3 HR4 HLd HGi HGE HFE HFE2 HFE3 HGk HFd
  go_wp2_with fail
  go_ret2
  exact⟨HB2.out,.inr ⟨by rw[HE.out];decide,by rw[HE.out];rfl⟩⟩
 obtain rfl:ge=be:=HGE.out
 have e5:=D5.out.cell 0
 have e6:=D5.out.cell 1
 simp only[zq1,zq2,zq3] at e5 e6
 replace HR2:=zh (HR2.out HB1.out)
 replace HR3:=zh (HR3.out HB1.out)
 replace HLd:=zh fun W hb=>HLd.out W hb (by first | rfl | trivial)
 clear HGi HGE HR1
 go_wp2_with (first | (go_at_call 45;exact Go.WalkKit.wp_stop))
 refine (HVf.out _).mono ?_
 rintro e w3 ⟨rfl,hb3⟩
 have HB3:=zh (HB2.out.trans (hb3.mono HB2.out.size))
 have D5:=zh (D5.out.below hb3 D5.out.lt)
 clear hb3 HVf e5 e6 HB2
 cases hg:frGood ⟨fn,fd⟩
 ·have hf1:=HFE2.out hg
  have HE:Hid (re=1):=by
   have:=HR2.out (by rw[hf1];decide)
   unfold Hid
   rw[this,hf1]
  clear hg hf1 HFE HFE2 HFE3 HR2 HR3 HR4 HGk HFd HLd HFi
  go_wp2_with fail
  go_ret2
  exact⟨HB3.out,.inr ⟨by rw[HE.out];decide,by rw[HE.out];rfl⟩⟩
 have Hg:=zh hg
 have hfi:=fun W=>HFi.out W hg
 have e5:=D5.out.cell 0
 have e6:=D5.out.cell 1
 simp only[zq1,zq2,zq3] at e5 e6
 replace HFE3:=zh (HFE3.out hg)
 clear hg HFi HFE2 HFE
 go_wp2_with (first | (go_at_call 46;exact Go.WalkKit.wp_stop))
 refine (hfi _).mono ?_
 rintro e w4 ⟨rfl,hb4⟩
 have HB4:=zh (HB3.out.trans (hb4.mono HB3.out.size))
 have D5:=zh (D5.out.below hb4 D5.out.lt)
 clear hb4 hfi e5 e6 HB3
 by_cases hf:facE ⟨fn,fd⟩=0
 rotate_left
 ·have df:decide (facE ⟨fn,fd⟩=0)=false:=yC hf
  have HE:Hid (re=2):=by
   unfold Hid
   rw[HR2.out hf,HFE3.out hf]
  rw[df]
  clear hf df HFE3 HR2 HR3 HR4 HGk HFd HLd
  go_wp2_with fail
  go_ret2
  exact⟨HB4.out,.inr ⟨by rw[HE.out];decide,by rw[HE.out];rfl⟩⟩
 have df:decide (facE ⟨fn,fd⟩=0)=true:=yD hf
 rw[df]
 replace HR3:=zh (HR3.out hf)
 replace HR4:=zh (HR4.out hf)
 clear hf df HFE3 HR2
 go_upto_region 6 with (first | (go_at_call 82;refine (HLd.out _ HB4.out).mono ?_;rintro e w5 ⟨A5,n5,c5,rfl,hb5,hF5⟩))
 have HF5:=zh hF5
 have HB5:=zh (HB4.out.trans (hb5.mono HB4.out.size))
 have D5:=zh (D5.out.below hb5 D5.out.lt)
 clear hb5 HB4 HLd hF5
 by_cases hz:ge=0
 rotate_left
 ·have g0:(ge != 0)=true:=bne_iff_ne.2 hz
  obtain rfl:re=ge:=HR3.out hz
  have Hne:=zh hz
  clear HR3 HR4 hz
  go_wp2_with fail
  go_ret2
  exact⟨HB5.out,.inr ⟨Hne.out,rfl⟩⟩
 subst hz
 have HCF:Hid (re=if fits23 ⟨fn,fd⟩ L=true then 0 else 5):=HR4.out (by first | rfl | trivial)
 obtain⟨hmost,hl20,hlg⟩:=HGk.out rfl
 have hF:=HF5.out rfl
 obtain⟨A6,c6,e3,-,hc3,hcl⟩:=hF.open_
 injection e3 with e3 e4 e5
 subst e3 e4 e5
 have HCL:=zh hcl
 unfold maxLen at hc3
 have HKp:=zh fun a m W (h:frGood a=true) (hm:0≤m∧m≤67108864)=>rfKept a ⟨fn,fd⟩ m W h Hg.out hm
 have HLG:=zh hlg
 have HMo:=zh hmost
 have Hbl:=zh hbl
 have Hl20:=zh hl20
 have HS0:Hid (RkS w w5 w5 (.slice none 0 0) (hitsR ⟨fn,fd⟩ l L 0)):=⟨yB _ _,yJ _ _ _ _⟩
 have HA0:Hid (∀ j (hj:j<L.length),j<0→fracOk (qOf L[j]*qOf ⟨fn,fd⟩)=true):=fun _ _ h=>absurd h (Nat.not_lt_zero _)
 obtain⟨iF,hiF,hzF0,hzF1,hzF2⟩:=info_parts info_find
 clear HR3 HR4 HGk HF5 hF hcl hlg hmost hbl hl20
 go_wp2_with fail
 go_loopw [11,10] (fun ix u wr=>∃ (k:Nat) (ov:Value),k≤l.length∧ix = .int .i64 (k:Int)∧ov=u∧Hid (Below w5.heap.size w5 wr∧wr.ownsRow w5.heap.size 49 2 ov (hitsR ⟨fn,fd⟩ l L k).length ((hitsR ⟨fn,fd⟩ l L k).flatMap FindT.cells))∧Hid (∀ j (hj:j<L.length),j<k→fracOk (qOf L[j]*qOf ⟨fn,fd⟩)=true)) (fun ix _ _=>l.length-(intOf ix).toNat)
 case atStart=>exact⟨0,_,yI _,rfl,rfl,⟨yB _ _,yJ _ _ _ _⟩,HA0⟩
 clear HS0 HA0
 obtain⟨k,ov,hk,rfl,rfl,HT,HA⟩:=hrel
 have k0:(0:Int)≤(k:Int):=yE _
 have hk100:k<100:=by have:=Hl20.out;omega
 have hn1:=hitsR_len (f:=⟨fn,fd⟩) (l:=l) (L:=L) k
 by_cases hkr:k<l.length
 rotate_left
 ·obtain rfl:k=l.length:=by omega
  have hfit:fits23 ⟨fn,fd⟩ L=true:=by
   unfold fits23
   rw[List.all_eq_true]
   intro a ha
   obtain⟨j,hj,rfl⟩:=List.mem_iff_getElem.1 ha
   exact HA.out j hj (by have:=Hbl.out;omega)
  have HRe:Hid (re=0):=by unfold Hid;rw[HCF.out,if_pos hfit]
  obtain⟨Ao,co,hov,-⟩:=Flat.of_own HT.out.2
  subst hov
  have HBz:=zh (HB5.out.trans (HT.out.1.mono HB5.out.size))
  have HRow:=zh (Flat.of_own HT.out.2)
  generalize hitsR ⟨fn,fd⟩ l L l.length=F1 at *
  obtain⟨N1,hN1⟩:∃ N1,F1.length=N1:=⟨_,rfl⟩
  have HN1:=zh hN1
  rw[hN1]
  clear hfit hN1
  go_wp2_with fail
  go_ret2
  exact⟨HBz.out,.inl ⟨HRe.out,_,rfl,by rw[HFd.out];have:=HRow.out;rw[HN1.out] at this;unfold FindsAt;rw[HN1.out];exact this⟩⟩
 have k2:(k:Int)<(l.length:Int):=by omega
 have hkl:k<L.length:=by have:=Hbl.out;omega
 have k1:(k:Int)<(L.length:Int):=by omega
 obtain⟨b1,o1,rfl,hb1,hx⟩:=HCL.out k hkl
 have y0:=(HT.out.1.cell (p:=⟨b1,o1+k*2,none⟩) hb1).trans (hx k hkl).1
 have y1:=(HT.out.1.cell (p:=⟨b1,o1+k*2+1,none⟩) hb1).trans (hx k hkl).2
 obtain⟨b2,o2,rfl,hb2,hx2⟩:=HC.out k hkr
 obtain⟨x0,-,-,x3⟩:=hx2 k hkr
 have x0:=((HB5.out.trans (HT.out.1.mono HB5.out.size)).cell (p:=⟨b2,o2+k*4,none⟩) hb2).trans x0
 have x3:=((HB5.out.trans (HT.out.1.mono HB5.out.size)).cell (p:=⟨b2,o2+k*4+3,none⟩) hb2).trans x3
 have e5:=(HT.out.1.cell (p:=⟨w.heap.size,0,none⟩) D5.out.lt).trans (D5.out.cell 0)
 have e6:=(HT.out.1.cell (p:=⟨w.heap.size,1,none⟩) D5.out.lt).trans (D5.out.cell 1)
 simp only[zq1,zq2,zq3] at e5 e6
 have HY1:=zh fun h=>hitsR_yes (f:=⟨fn,fd⟩) hkr hkl h
 have HN1:=zh fun h=>hitsR_no (f:=⟨fn,fd⟩) hkr hkl h
 have hkp:=fun W=>HKp.out L[k] l[k].most W (HLG.out _ (yU hkl)) (HMo.out _ (yU hkr))
 have HNoFit:Hid (fracOk (qOf L[k]*qOf ⟨fn,fd⟩)=false→re=5):=fun h=>by
  rw[HCF.out,if_neg]
  intro h2
  unfold fits23 at h2
  rw[List.all_eq_true] at h2
  have:=h2 _ (yU hkl)
  rw[h] at this
  cases this
 have HAx:Hid (fracOk (qOf L[k]*qOf ⟨fn,fd⟩)=true→∀ j (hj:j<L.length),j<k+1→fracOk (qOf L[j]*qOf ⟨fn,fd⟩)=true):=fun h j hj hjk=>by
  rcases Nat.lt_or_ge j k with h1 | h1
  ·exact HA.out j hj h1
  obtain rfl:j=k:=by omega
  exact h
 obtain⟨num,hnum⟩:∃ num,(L[k]'hkl).num=num:=⟨_,rfl⟩
 obtain⟨den,hden⟩:∃ den,(L[k]'hkl).den=den:=⟨_,rfl⟩
 have hav:(L[k]'hkl).val = .agg #[.int .i64 num,.int .i64 den]:=by rw[← hnum,← hden]
 obtain⟨nm,hnm⟩:∃ nm,(l[k]'hkr).name=nm:=⟨_,rfl⟩
 obtain⟨mo,hmo2⟩:∃ mo,(l[k]'hkr).most=mo:=⟨_,rfl⟩
 obtain⟨ob,ho1⟩:∃ b,over23 l[k].most ⟨fn,fd⟩ L[k]=b:=⟨_,rfl⟩
 obtain⟨ok,hok⟩:∃ b,fracOk (qOf L[k]*qOf ⟨fn,fd⟩)=b:=⟨_,rfl⟩
 have hkv:keptV l[k].most ⟨fn,fd⟩ L[k]=if ok=true then .tuple #[.bool (!ob),.int .i64 0] else .tuple #[.bool false,.int .i64 5]:=by unfold keptV;rw[hok,ho1]
 rw[hkv,hav,hmo2] at hkp
 rw[hnum] at y0
 rw[hden] at y1
 rw[hnm] at x0 HY1
 rw[hmo2] at x3
 rw[ho1] at HY1 HN1
 rw[hok] at HNoFit HAx
 have u0:=YE y0
 have u1:=YE y1
 have u2:=YE x3
 have u3:=YE e5
 have u4:=YE e6
 have X0:=zh x0
 have hxn:=cell_ltR x0
 clear hx hx2 hnum hden hav hnm hmo2 ho1 hok hkv y0 y1 x0 x3 e5 e6
 cases ok
 ·have HRe:=zh (HNoFit.out (by first | rfl | trivial))
  have cC:=HeldB.call (W:=wr) fun w' _=>hkp w'
  simp only[if_neg (show ¬ false=true by decide)] at cC
  clear HNoFit HAx hkp HCF HY1 HN1
  go_upto_region 12 with fail
  refine wp_region_heldb (by kernel_rfl) (by kernel_rfl) ?_
  repeat (go_big_quiet_step (first | (go_at_call 72;with_reducible exact cC _)))
  refine YB ?_
  rintro w6 ⟨⟨w6',hb6⟩,rfl⟩
  have HBz:=zh ((HB5.out.trans (HT.out.1.mono HB5.out.size)).trans (hb6.mono (HB5.out.trans (HT.out.1.mono HB5.out.size)).size))
  clear u0 u1 u2 u3 u4 cC hb6 HT
  go_wp2_with fail
  go_ret2
  exact⟨HBz.out,.inr ⟨by rw[HRe.out];decide,by rw[HRe.out];rfl⟩⟩
 have HAn:=zh (HAx.out (by first | rfl | trivial))
 have cC:=HeldB.call (W:=wr) fun w' _=>hkp w'
 simp only[if_true] at cC
 clear HNoFit HAx hkp HCF HA
 go_upto_region 12 with fail
 refine wp_region_heldb (by kernel_rfl) (by kernel_rfl) ?_
 repeat (go_big_quiet_step (first | (go_at_call 72;with_reducible exact cC _)))
 refine YB ?_
 rintro w6 ⟨⟨w6',hb6⟩,rfl⟩
 have HT6:Hid (Below w5.heap.size w5 w6∧w6.ownsRow w5.heap.size 49 2 ov (hitsR ⟨fn,fd⟩ l L k).length ((hitsR ⟨fn,fd⟩ l L k).flatMap FindT.cells)):=⟨HT.out.1.trans (hb6.mono HT.out.1.size),ownsRow_of HT.out.2 hb6⟩
 have x06:=(hb6.cell (p:=⟨b2,o2+k*4,none⟩) hxn).trans X0.out
 clear u0 u1 u2 u3 u4 cC hb6 HT X0 hxn
 cases ob
 ·have hno:=HN1.out (by first | rfl | trivial)
  have HT7:Hid (Below w5.heap.size w5 w6∧w6.ownsRow w5.heap.size 49 2 ov (hitsR ⟨fn,fd⟩ l L (k+1)).length ((hitsR ⟨fn,fd⟩ l L (k+1)).flatMap FindT.cells)):=by rw[hno];exact HT6
  clear hno HT6 HY1 HN1
  go_wp2_with fail
  go_roundw
  case rel=>exact⟨k+1,_,by omega,by go_num,rfl,HT7,HAn⟩
  simp[intOf];omega
 have hye:=HY1.out (by first | rfl | trivial)
 have HT7:Hid (Below w5.heap.size w5 (w6.alloc (.cells #[.int .i64 3,.string nm] 49))∧(w6.alloc (.cells #[.int .i64 3,.string nm] 49)).ownsRow w5.heap.size 49 2 ov (hitsR ⟨fn,fd⟩ l L k).length ((hitsR ⟨fn,fd⟩ l L k).flatMap FindT.cells)):=⟨HT6.out.1.alloc HT6.out.1.size _,HT6.out.2.alloc _⟩
 have Hnew:=zh (World.news_of_block (Blk.new w6 49 #[.int .i64 3,.string nm]))
 have hsz:=HT7.out.1.size
 clear HT6 HY1 HN1
 go_wp2_with (at_builtin;refine wpList_append_own _ rfl _ _ 39 rfl w5.heap.size 49 iF (.agg #[.int .i64 0,.string ⟨#[]⟩]) 2 24 Tryz.underlying39 hiF hzF0 hzF1 hzF2 rfl (by decide) _ _ _ rfl HT7.out.2 ⟨w6.heap.size,0,none⟩ 1 1 [.int .i64 3,.string nm] rfl rfl Hnew.out (by simp[Value.oneCell']) (by unfold maxLen;omega) (by omega) hsz ?_;intro v8 w8 hown8 hgrow8 _;have HO8:=zh hown8;have HB8:=zh (HT7.out.1.grown hgrow8 hsz (fun k e=>(HT7.out.2.lt k e).1));clear hown8 hgrow8)
 have HT9:Hid (Below w5.heap.size w5 w8∧w8.ownsRow w5.heap.size 49 2 v8 (hitsR ⟨fn,fd⟩ l L (k+1)).length ((hitsR ⟨fn,fd⟩ l L (k+1)).flatMap FindT.cells)):=by
  rw[hye,yQ,List.flatMap_append]
  exact⟨HB8.out,HO8.out⟩
 clear hye HO8 HB8
 go_roundw
 case rel=>first | exact⟨k+1,_,by omega,by go_num,rfl,HT9,HAn⟩ | exact⟨v8,_,_,_,⟨k+1,by omega,rfl,HT9,HAn⟩,rfl,rfl,rfl,by go_num⟩ | exact⟨v8,_,_,_,⟨k+1,by omega,rfl,HT9,HAn⟩,rfl,by go_num,rfl,rfl⟩
 simp[intOf];omega
def rkL (l:List RoofT) (at_:List LoadT) (f:FrT):List FindT:=if roofsE l at_ f=0 then findsR f l at_ else []
theorem RoofsPost.one {l:List RoofT} {at_:List LoadT} {f:FrT} {w w':World} {e:Ending} (h:RoofsPost l at_ f w e w'):∃ A n c,e = .returned (.tuple #[.slice A n c,.int .i64 (roofsE l at_ f)])∧Below w.heap.size w w'∧FindsAt w' w'.heap.size (.slice A n c) (rkL l at_ f):=by
 obtain⟨hb,⟨h0,v,rfl,hF⟩ | ⟨h0,rfl⟩⟩:=h
 ·obtain⟨A,c,rfl,-⟩:=hF.open_
  exact⟨A,_,c,by rw[h0],hb,by unfold rkL;rw[if_pos h0];exact hF⟩
 exact⟨none,0,0,rfl,hb,by unfold rkL;rw[if_neg h0];exact Flat.of_own (yJ _ 0 49 2)⟩
theorem entersLR1:∀ args w,(callFunc 33 args).run Tryz.prog w = .ok (.enter 33 args) w:=enters_of Tryz.func33 (by kernel_rfl) rfl
theorem lawRoofs1 (x:RoofT) (hx:x.name.size≤maxLen) (w:World):Calls Tryz.prog 33 #[x.val] w fun e w'=>e = .returned (.bool (decide (60<x.name.size)))∧Below w.heap.size w w':=by
 obtain⟨nm,lo,hi,most⟩:=x
 simp only at *
 unfold maxLen at hx
 have HB:=(yB w.heap.size w).alloc (yA _) (.cells #[.string nm,.int .i64 lo,.int .i64 hi,.int .i64 most] 69)
 have y0:=(Blk.new w 69 #[.string nm,.int .i64 lo,.int .i64 hi,.int .i64 most]).cell 0
 simp only[zq1,zq3] at y0
 obtain⟨q,hq⟩:∃ q,decide ((60:Int)<(nm.size:Int))=q:=⟨_,rfl⟩
 have hq2:decide (60<nm.size)=q:=by rw[← hq,decide_eq_decide];omega
 rw[hq2]
 clear hq2
 go_enter Tryz.func33,Tryz.ntmps33
 go_wp2_with fail
 go_ret
 exact⟨Ze (by first | rfl | assumption),HB⟩
theorem lawRoofs23 (v v1:Value) (l:List RoofT) (at_:List LoadT) (f:FrT) (w:World) (hv:RoofsAt w w.heap.size v l) (hn:∀ x∈l,x.name.size≤maxLen) (hl:LoadsAt w w.heap.size v1 at_) :
  Calls Tryz.prog 8 #[v,v1,f.val] w fun e w'=>e = .returned (.bool true)∧Below w.heap.size w w':=by
 have HAw:=zh fun W=>lawAwake23 W
 have HCf:=zh fun W (hb:Below w.heap.size w W)=>containsFuncRoof v l 33 #[] (fun x=>decide (60<x.name.size)) entersLR1 W (hv.grow hb) (fun t ht w' _=>lawRoofs1 t (hn t ht) w')
 have HLm:=zh fun W (hb:Below w.heap.size w W)=>(lmRoofs v v1 l at_ f W (hv.grow hb) hn ((hl.below hb (yA _)).mono hb.size)).mono fun _ _ h=>h.one
 have HRf:=zh fun W (hb:Below w.heap.size w W)=>(rfRoofs v v1 l at_ f W (hv.grow hb) hn ((hl.below hb (yA _)).mono hb.size)).mono fun _ _ h=>h.one
 have HEq:=zh fun v1 v2 W (h1:FindsAt W W.heap.size v1 (rkL l at_ f)) (h2:FindsAt W W.heap.size v2 (rkL l at_ f))=>(equalFind v1 v2 _ _ W.heap.size W h1 h2).mono fun e w' h=>(⟨h.1.trans (by rw[yD rfl]),h.2⟩:e = .returned (.bool true)∧∃ n,W.drewN n=w')
 obtain⟨A,c,rfl,-,hc2,-⟩:=hv.open_
 obtain⟨A1,c1,rfl,-,hc3,-⟩:=hl.open_
 unfold maxLen at hc2 hc3
 obtain⟨fn,fd⟩:=f
 have D5:=zh (Blk.new w 23 #[.int .i64 fn,.int .i64 fd])
 have HB:=zh ((yB w.heap.size w).alloc (yA _) (.cells #[.int .i64 fn,.int .i64 fd] 23))
 generalize roofsE l at_ ⟨fn,fd⟩=re at *
 generalize rkL l at_ ⟨fn,fd⟩=FL at *
 generalize (l.any fun x=>decide (60<x.name.size))=lg at *
 clear hv hl hn
 go_enter Tryz.func8,Tryz.ntmps8
 go_upto_region 1 with fail
 generalize w.alloc (.cells #[.int .i64 fn,.int .i64 fd] 23)=W1 at *
 go_upto_region 3 with (first | (go_at_call 11;refine (HAw.out _).mono ?_;rintro e w1 ⟨rfl,hb1⟩))
 have HB1:=zh (HB.out.trans (hb1.mono HB.out.size))
 have D5:=zh (D5.out.below hb1 D5.out.lt)
 clear hb1 HAw HB
 by_cases c25:(25:Int)<(l.length:Int)
 ·have d25:decide ((25:Int)<(l.length:Int))=true:=yD c25
  clear c25
  go_wp2_with fail
  go_ret
  exact⟨rfl,HB1.out⟩
 have d25:decide ((25:Int)<(l.length:Int))=false:=yC c25
 clear c25
 by_cases c30:(30:Int)<(at_.length:Int)
 ·have d30:decide ((30:Int)<(at_.length:Int))=true:=yD c30
  clear c30
  go_wp2_with fail
  go_ret
  exact⟨rfl,HB1.out⟩
 have d30:decide ((30:Int)<(at_.length:Int))=false:=yC c30
 clear c30
 have hcf:=HCf.out _ HB1.out
 go_wp2_with (first | (go_at_call 32;exact Go.WalkKit.wp_stop))
 refine hcf.mono ?_
 rintro e w2 ⟨rfl,hb2⟩
 have HB2:=zh (HB1.out.trans (hb2.mono HB1.out.size))
 have D5:=zh (D5.out.below hb2 D5.out.lt)
 clear hb2 hcf HCf HB1
 cases lg
 case true=>
  go_wp2_with fail
  go_ret
  exact⟨rfl,HB2.out⟩
 have e5:=D5.out.cell 0
 have e6:=D5.out.cell 1
 simp only[zq1,zq2,zq3] at e5 e6
 go_upto_region 6 with (first | (go_at_call 34;refine (HLm.out _ HB2.out).mono ?_;rintro e w3 ⟨A3,n3,c3,rfl,hb3,hF3⟩))
 have F3:=zh hF3
 have HB3:=zh (HB2.out.trans (hb3.mono HB2.out.size))
 have D5:=zh (D5.out.below hb3 D5.out.lt)
 clear hb3 hF3 HLm HB2 e5 e6 d25 d30
 have e5:=D5.out.cell 0
 have e6:=D5.out.cell 1
 simp only[zq1,zq2,zq3] at e5 e6
 go_upto_region 7 with (first | (go_at_call 35;refine (HRf.out _ HB3.out).mono ?_;rintro e w4 ⟨A4,n4,c4,rfl,hb4,hF4⟩))
 have F4:=zh hF4
 have F3:=zh ((F3.out.below hb4 (yA _)).mono hb4.size)
 have HB4:=zh (HB3.out.trans (hb4.mono HB3.out.size))
 clear hb4 hF4 HRf HB3 e5 e6
 have heq:=HEq.out _ _ _ F3.out F4.out
 have hre:(re==re)=true:=beq_self_eq_true _
 go_wp2_with (first | (go_at_call 27;refine heq.mono ?_;rintro e w5 ⟨rfl,n5,rfl⟩))
 go_ret
 exact⟨rfl,Zf HB4.out _⟩
end Go.Proofs.YtknkhnahflmjiaaGreatDoor
