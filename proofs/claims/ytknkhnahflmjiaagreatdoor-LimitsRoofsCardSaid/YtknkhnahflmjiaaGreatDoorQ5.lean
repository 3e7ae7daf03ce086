/- Lemmas. -/
import Derived.Test.YtknkhnahflmjiaaGreatDoorQ4
namespace Go.Proofs.YtknkhnahflmjiaaGreatDoor
set_option maxRecDepth 100000
set_option maxHeartbeats 40000000
open Go.RowKit Go.Shelf
theorem rf19Between (n lo hi:Int) (w:World):Calls Tryz.prog 116 #[.int .i64 n,.int .i64 lo,.int .i64 hi] w fun e w'=>e = .returned (.bool (decide (lo≤n)&&decide (n≤hi)))∧w=w':=by
 by_cases c0:lo≤n
 ·have d0:decide (lo≤n)=true:=yD c0
  obtain⟨q,hq⟩:∃ q,decide (n≤hi)=q:=⟨_,rfl⟩
  rw[d0,hq]
  clear c0
  cases q
  all_goals
   go_enter Tryz.func116,Tryz.ntmps116
   go_wp2_with fail
   go_ret
   exact⟨rfl,rfl⟩
 have d0:decide (lo≤n)=false:=yC c0
 rw[d0]
 clear c0
 go_enter Tryz.func116,Tryz.ntmps116
 go_wp2_with fail
 go_ret
 exact⟨rfl,rfl⟩
theorem rf19Depth (n:Int) (w:World):Calls Tryz.prog 117 #[.int .i64 n] w fun e w'=>e = .returned (.bool (decide (0≤n)&&decide (n≤1048576)))∧w=w':=by
 have h:=rf19Between n 0 1048576 w
 generalize (decide (0≤n)&&decide (n≤1048576))=q at *
 go_enter Tryz.func117,Tryz.ntmps117
 go_wp2_with (go_at_call 116;refine h.mono ?_;rintro e w' ⟨rfl,rfl⟩)
 go_ret
 exact⟨rfl,rfl⟩
theorem rf19Is (x:RoofT) (d:Int) (w:World):Calls Tryz.prog 119 #[x.val,.int .i64 d] w fun e w'=>e = .returned (.bool (hangB d x))∧Below w.heap.size w w':=by
 have h:=fun W=>rf19Between d x.lo x.hi W
 have HH:Hid (hangB d x=(decide (x.lo≤d)&&decide (d≤x.hi))):=rfl
 rw[← HH.out] at h
 generalize hangB d x=q at *
 obtain⟨nm,lo,hi,most⟩:=x
 simp only at *
 have HB:=(yB w.heap.size w).alloc (yA _) (.cells #[.string nm,.int .i64 lo,.int .i64 hi,.int .i64 most] 69)
 have HD:=Blk.new w 69 #[.string nm,.int .i64 lo,.int .i64 hi,.int .i64 most]
 have y1:=HD.cell 1
 have y2:=HD.cell 2
 simp only[zq1,zq2,zq3] at y1 y2
 clear HD HH
 go_enter Tryz.func119,Tryz.ntmps119
 go_wp2_with (go_at_call 116;refine (h _).mono ?_;rintro e w' ⟨rfl,rfl⟩)
 go_ret
 exact⟨rfl,HB⟩
theorem rf19Count (v:Value) (l:List RoofT) (d:Int) (w:World) (hv:RoofsAt w w.heap.size v l) (_h20:l.length≤20):Calls Tryz.prog 118 #[v,.int .i64 d] w fun e w'=>e = .returned (.int .i64 (cntR l d:Nat))∧Below w.heap.size w w':=by
 obtain⟨A,c,rfl,hc1,hc2,hcell⟩:=hv.open_
 unfold maxLen at hc2
 have HC:=zh hcell
 have HAll:=zh (hungTo_all l d)
 have HIs:=zh fun x W=>rf19Is x d W
 clear hv hcell
 go_enter Tryz.func118,Tryz.ntmps118
 go_wp2_with fail
 go_loopw [6,5] (fun ix u wr=>∃ k:Nat,k≤l.length∧ix = .int .i64 (k:Int)∧u = .int .i64 (hungTo l d k:Nat)∧Hid (Below w.heap.size w wr)) (fun ix _ _=>l.length-(intOf ix).toNat)
 case atStart=>exact⟨0,yI _,rfl,rfl,yB _ _⟩
 obtain⟨k,hk,rfl,rfl,HB⟩:=hrel
 have k0:(0:Int)≤(k:Int):=yE _
 by_cases hkl:k<l.length
 ·have k1:(k:Int)<(l.length:Int):=by omega
  obtain⟨b,o,rfl,hb,hcs⟩:=HC.out k hkl
  obtain⟨x0,x1,x2,x3⟩:=hcs k hkl
  have x0:=(HB.out.cell (p:=⟨b,o+k*4,none⟩) hb).trans x0
  have x1:=(HB.out.cell (p:=⟨b,o+k*4+1,none⟩) hb).trans x1
  have x2:=(HB.out.cell (p:=⟨b,o+k*4+2,none⟩) hb).trans x2
  have x3:=(HB.out.cell (p:=⟨b,o+k*4+3,none⟩) hb).trans x3
  have HYes:=zh fun h=>hungTo_yes (d:=d) hkl h
  have HNo:=zh fun h=>hungTo_no (d:=d) hkl h
  have his:=HIs.out l[k]
  clear hcs
  generalize l[k]=x at *
  cases hq:hangB d x
  case true=>
   have HV:=zh (HYes.out hq)
   rw[hq] at his
   have hle:=hungTo_le l d k
   obtain⟨nm,lo,hi,most⟩:=x
   simp only at x0 x1 x2 x3
   clear hq HYes HNo
   go_wp2_with (go_at_call 119;refine (his _).mono ?_;rintro e w5 ⟨rfl,hb5⟩)
   have HB5:=zh (HB.out.trans (hb5.mono HB.out.size))
   go_roundw
   case rel=>exact⟨k+1,hkl,by go_num,by rw[HV.out];go_num,HB5⟩
   simp[intOf];omega
  have HV:=zh (HNo.out hq)
  rw[hq] at his
  obtain⟨nm,lo,hi,most⟩:=x
  simp only at x0 x1 x2 x3
  clear hq HYes HNo
  go_wp2_with (go_at_call 119;refine (his _).mono ?_;rintro e w5 ⟨rfl,hb5⟩)
  have HB5:=zh (HB.out.trans (hb5.mono HB.out.size))
  go_roundw
  case rel=>exact⟨k+1,hkl,by go_num,by rw[HV.out],HB5⟩
  simp[intOf];omega
 obtain rfl:k=l.length:=by omega
 rw[HAll.out]
 go_wp2_with fail
 go_ret
 exact⟨rfl,HB.out⟩
theorem loadB_two (x:LoadT):loadB x=((decide (0≤x.pos)&&decide (x.pos≤1048576))&&(decide (0≤x.wt)&&decide (x.wt≤67108864))):=by
 unfold loadB
 rw[Bool.and_assoc]
theorem rf19Right (v:Value) (at_:List LoadT) (w:World) (hv:LoadsAt w w.heap.size v at_):Calls Tryz.prog 81 #[v] w fun e w'=>e = .returned (.bool (loadsB at_))∧w=w':=by
 obtain⟨A,c,rfl,hc1,hc2,hcell⟩:=hv.open_
 unfold maxLen at hc2
 have HC:=zh hcell
 have HL:Hid (loadsB at_=(decide (at_.length≤1000)&&at_.all loadB)):=rfl
 clear hv hcell
 by_cases h1:1000<at_.length
 ·have d1:decide ((1000:Int)<(at_.length:Int))=true:=yD (by omega)
  have HV:Hid (loadsB at_=false):=by unfold Hid;rw[HL.out,decide_eq_false (by omega)];rfl
  clear h1
  go_enter Tryz.func81,Tryz.ntmps81
  go_wp2_with fail
  go_ret
  exact⟨Ze HV.out.symm,rfl⟩
 have d1:decide ((1000:Int)<(at_.length:Int))=false:=yC (by omega)
 have HL2:Hid (loadsB at_=at_.all loadB):=by unfold Hid;rw[HL.out,decide_eq_true (by omega),Bool.true_and]
 clear h1 HL
 go_enter Tryz.func81,Tryz.ntmps81
 go_wp2_with fail
 go_loopw [3] (fun ix wr=>∃ k:Nat,k≤at_.length∧ix = .int .i64 (k:Int)∧Hid ((at_.take k).all loadB=true)∧w=wr) (fun ix _=>at_.length-(intOf ix).toNat)
 case atStart=>exact⟨0,yI _,rfl,rfl,rfl⟩
 obtain⟨k,hk,rfl,HA,rfl⟩:=hrel
 have k0:(0:Int)≤(k:Int):=yE _
 by_cases hkl:k<at_.length
 ·have k1:(k:Int)<(at_.length:Int):=by omega
  obtain⟨b,o,rfl,hb,hcs⟩:=HC.out k hkl
  obtain⟨x0,x1⟩:=hcs k hkl
  have HNo:Hid (loadB at_[k]=false→at_.all loadB=false):=fun h=>by
   rw[List.all_eq_false]
   exact⟨at_[k],yU hkl,by rw[h];decide⟩
  have HYe:Hid (loadB at_[k]=true→(at_.take (k+1)).all loadB=true):=fun h=>by
   rw[take_snoc at_ k hkl,List.all_append,HA.out]
   simpa using h
  have HTwo:=zh (loadB_two at_[k])
  clear hcs
  generalize at_[k]=x at *
  have hdp:=rf19Depth x.pos w
  have hbt:=rf19Between x.wt 0 67108864 w
  obtain⟨pos,wt⟩:=x
  simp only at x0 x1 hdp hbt HTwo
  cases hq1:(decide (0≤pos)&&decide (pos≤1048576))
  ·have HV:Hid (loadsB at_=false):=by unfold Hid;rw[HL2.out];exact HNo.out (by rw[HTwo.out,hq1];rfl)
   rw[hq1] at hdp
   clear hq1 HNo HYe HTwo
   go_wp2_with (go_at_call 117;refine hdp.mono ?_;rintro e w5 ⟨rfl,rfl⟩)
   go_ret
   exact⟨Ze HV.out.symm,rfl⟩
  rw[hq1] at hdp
  cases hq2:(decide (0≤wt)&&decide (wt≤67108864))
  ·have HV:Hid (loadsB at_=false):=by unfold Hid;rw[HL2.out];exact HNo.out (by rw[HTwo.out,hq1,hq2];rfl)
   rw[hq2] at hbt
   clear hq1 hq2 HNo HYe HTwo
   go_wp2_with (first | (go_at_call 117;refine hdp.mono ?_;rintro e w5 ⟨rfl,rfl⟩) | (go_at_call 116;refine hbt.mono ?_;rintro e w5 ⟨rfl,rfl⟩))
   go_ret
   exact⟨Ze HV.out.symm,rfl⟩
  have HV:=zh (HYe.out (by rw[HTwo.out,hq1,hq2];rfl))
  rw[hq2] at hbt
  clear hq1 hq2 HNo HYe HTwo
  go_wp2_with (first | (go_at_call 117;refine hdp.mono ?_;rintro e w5 ⟨rfl,rfl⟩) | (go_at_call 116;refine hbt.mono ?_;rintro e w5 ⟨rfl,rfl⟩))
  go_roundw
  case rel=>exact⟨k+1,hkl,by go_num,HV,by first | rfl | trivial⟩
  simp[intOf];omega
 obtain rfl:k=at_.length:=by omega
 have HV:Hid (loadsB at_=true):=by
  have:=HA.out
  rw[yS] at this
  unfold Hid
  rw[HL2.out,this]
 go_wp2_with fail
 go_ret
 exact⟨Ze HV.out.symm,rfl⟩
theorem cell_ltR {w:World} {a:Addr} {v:Value} (h:w.cell? a=some v):a.block<w.heap.size:=by
 unfold World.cell? at h
 cases hg:w.heap[a.block]? with
 | none=>simp[hg] at h
 | some o=>exact (Array.getElem?_eq_some_iff.1 hg).1
theorem rf19Valid (v:Value) (l:List RoofT) (w:World) (hv:RoofsAt w w.heap.size v l) (hn:∀ x∈l,x.name.size≤maxLen) :
  Calls Tryz.prog 80 #[v] w fun e w'=>e = .returned (.bool (roofsB nameB l))∧Below w.heap.size w w':=by
 obtain⟨A,c,rfl,hc1,hc2,hcell⟩:=hv.open_
 unfold maxLen at hc2
 have HC:=zh hcell
 have Hn:=zh hn
 by_cases h20:20<l.length
 ·have d20:decide ((20:Int)<(l.length:Int))=true:=yD (by omega)
  have HE:Hid (roofsB nameB l=false):=by unfold Hid roofsB;rw[decide_eq_false (by omega),Bool.false_and]
  clear h20 hv hcell hn
  go_enter Tryz.func80,Tryz.ntmps80
  go_wp2_with fail
  go_ret
  exact⟨Ze HE.out.symm,yB _ _⟩
 have d20:decide ((20:Int)<(l.length:Int))=false:=yC (by omega)
 have H20:=zh h20
 clear h20 hv hcell hn
 go_enter Tryz.func80,Tryz.ntmps80
 go_wp2_with fail
 go_loopw [3] (fun ix wr=>∃ k:Nat,k≤l.length∧ix = .int .i64 (k:Int)∧Hid (roofsTo nameB l k=true)∧Hid (Below w.heap.size w wr)) (fun ix _=>l.length-(intOf ix).toNat)
 case atStart=>exact⟨0,yI _,rfl,rfl,yB _ _⟩
 obtain⟨k,hk,rfl,HT,HB⟩:=hrel
 have k0:(0:Int)≤(k:Int):=yE _
 by_cases hkl:k<l.length
 rotate_left
 ·obtain rfl:k=l.length:=by omega
  have HE:Hid (roofsB nameB l=true):=by
   have:=H20.out
   unfold Hid roofsB
   rw[HT.out,yD (by omega)]
   rfl
  go_wp2_with fail
  go_ret
  exact⟨Ze HE.out.symm,HB.out⟩
 have k1:(k:Int)<(l.length:Int):=by omega
 obtain⟨b,o,rfl,hb,hcs⟩:=HC.out k hkl
 obtain⟨x0,x1,x2,x3⟩:=hcs k hkl
 have x0:=(HB.out.cell (p:=⟨b,o+k*4,none⟩) hb).trans x0
 have x1:=(HB.out.cell (p:=⟨b,o+k*4+1,none⟩) hb).trans x1
 have x2:=(HB.out.cell (p:=⟨b,o+k*4+2,none⟩) hb).trans x2
 have x3:=(HB.out.cell (p:=⟨b,o+k*4+3,none⟩) hb).trans x3
 have hnk:=Hn.out _ (yU hkl)
 have HNo:Hid (roof1 nameB l k=false→roofsB nameB l=false):=fun h=>roofs_no hkl h
 have HR1:Hid (roof1 nameB l k=(nameB l[k].name&&(roofNums l[k] && !(l.take k).any fun x=>decide (x.name=l[k].name)))):=by
  unfold Hid roof1 roofTwice
  rw[yM hkl]
  simp only[Option.map_some,Option.some.injEq]
 have HSu:Hid (roofsTo nameB l (k+1)=(roofsTo nameB l k&&roof1 nameB l k)):=rfl
 have HNames:=zh fun j (hj:j<l.length)=>(hcs j hj).1
 have Hb:=zh hb
 clear hcs
 generalize l[k]=x at *
 obtain⟨nm,lo,hi,most⟩:=x
 simp only at x0 x1 x2 x3 hnk HR1
 have HD:=zh (Blk.new wr 69 #[.string nm,.int .i64 lo,.int .i64 hi,.int .i64 most])
 have HB1:=zh (HB.out.alloc HB.out.size (.cells #[.string nm,.int .i64 lo,.int .i64 hi,.int .i64 most] 69))
 obtain⟨y0,y1,y2,y3⟩:=HD.out.c4
 go_upto_region 7 with fail
 clear x0 x1 x2 x3 HB
 generalize wr.alloc (.cells #[.string nm,.int .i64 lo,.int .i64 hi,.int .i64 most] 69)=W1 at *
 generalize wr.heap.size=s4 at *
 have HNm:=zh fun W=>refIsName nm hnk W
 have HA1:=zh fun W=>rf19Between lo 0 hi W
 have HA2:=zh fun W=>rf19Between hi 0 1048576 W
 have HA3:=zh fun W=>rf19Between most 0 67108864 W
 have HRn:Hid (roofNums ⟨nm,lo,hi,most⟩=(decide (0≤lo)&&(decide (lo≤hi)&&(decide (hi≤1048576)&&(decide (0≤most)&&decide (most≤67108864)))))):=rfl
 clear hnk
 cases hq1:nameB nm
 ·have HV2:=zh (HNo.out (by rw[HR1.out,hq1];rfl))
  rw[hq1] at HNm
  clear hq1 HNo HR1
  go_wp2_with (first | (go_at_call 90;refine (HNm.out _).mono ?_;rintro e w' ⟨rfl,rfl⟩) | (go_at_call 116;first | (refine (HA1.out _).mono ?_;rintro e w' ⟨rfl,rfl⟩;clear HA1) | (refine (HA2.out _).mono ?_;rintro e w' ⟨rfl,rfl⟩;clear HA2) | (refine (HA3.out _).mono ?_;rintro e w' ⟨rfl,rfl⟩;clear HA3)))
  go_ret
  exact⟨Ze HV2.out.symm,HB1.out⟩
 rw[hq1] at HNm
 have HR2:Hid (roof1 nameB l k=(roofNums ⟨nm,lo,hi,most⟩ && !(l.take k).any fun x=>decide (x.name=nm))):=by unfold Hid;rw[HR1.out,hq1,Bool.true_and]
 clear hq1 HR1
 cases hq2:(decide (0≤lo)&&decide (lo≤hi))
 ·have HV2:Hid (roofsB nameB l=false):=HNo.out (by
   rw[HR2.out,HRn.out]
   simp only[Bool.and_eq_false_iff,decide_eq_false_iff_not] at hq2 ⊢
   omega)
  rw[hq2] at HA1
  clear hq2 HNo HR2 HRn
  go_wp2_with (first | (go_at_call 90;refine (HNm.out _).mono ?_;rintro e w' ⟨rfl,rfl⟩) | (go_at_call 116;first | (refine (HA1.out _).mono ?_;rintro e w' ⟨rfl,rfl⟩;clear HA1) | (refine (HA2.out _).mono ?_;rintro e w' ⟨rfl,rfl⟩;clear HA2) | (refine (HA3.out _).mono ?_;rintro e w' ⟨rfl,rfl⟩;clear HA3)))
  go_ret
  exact⟨Ze HV2.out.symm,HB1.out⟩
 rw[hq2] at HA1
 cases hq3:(decide (0≤hi)&&decide (hi≤1048576))
 ·have HV2:Hid (roofsB nameB l=false):=HNo.out (by
   rw[HR2.out,HRn.out]
   simp only[Bool.and_eq_false_iff,decide_eq_false_iff_not,Bool.and_eq_true,decide_eq_true_eq] at hq2 hq3 ⊢
   omega)
  rw[hq3] at HA2
  clear hq2 hq3 HNo HR2 HRn
  go_wp2_with (first | (go_at_call 90;refine (HNm.out _).mono ?_;rintro e w' ⟨rfl,rfl⟩) | (go_at_call 116;first | (refine (HA1.out _).mono ?_;rintro e w' ⟨rfl,rfl⟩;clear HA1) | (refine (HA2.out _).mono ?_;rintro e w' ⟨rfl,rfl⟩;clear HA2) | (refine (HA3.out _).mono ?_;rintro e w' ⟨rfl,rfl⟩;clear HA3)))
  go_ret
  exact⟨Ze HV2.out.symm,HB1.out⟩
 rw[hq3] at HA2
 cases hq4:(decide (0≤most)&&decide (most≤67108864))
 ·have HV2:Hid (roofsB nameB l=false):=HNo.out (by
   rw[HR2.out,HRn.out]
   simp only[Bool.and_eq_false_iff,decide_eq_false_iff_not,Bool.and_eq_true,decide_eq_true_eq] at hq2 hq3 hq4 ⊢
   omega)
  rw[hq4] at HA3
  clear hq2 hq3 hq4 HNo HR2 HRn
  go_wp2_with (first | (go_at_call 90;refine (HNm.out _).mono ?_;rintro e w' ⟨rfl,rfl⟩) | (go_at_call 116;first | (refine (HA1.out _).mono ?_;rintro e w' ⟨rfl,rfl⟩;clear HA1) | (refine (HA2.out _).mono ?_;rintro e w' ⟨rfl,rfl⟩;clear HA2) | (refine (HA3.out _).mono ?_;rintro e w' ⟨rfl,rfl⟩;clear HA3)))
  go_ret
  exact⟨Ze HV2.out.symm,HB1.out⟩
 rw[hq4] at HA3
 have HR3:Hid (roof1 nameB l k = !(l.take k).any fun x=>decide (x.name=nm)):=by
  have hn:roofNums ⟨nm,lo,hi,most⟩=true:=by
   rw[HRn.out]
   simp only[Bool.and_eq_true,decide_eq_true_eq] at hq2 hq3 hq4 ⊢
   omega
  unfold Hid
  rw[HR2.out,hn,Bool.true_and]
 clear hq2 hq3 hq4 HR2 HRn
 go_upto_region 9 with (first | (go_at_call 90;refine (HNm.out _).mono ?_;rintro e w' ⟨rfl,rfl⟩) | (go_at_call 116;first | (refine (HA1.out _).mono ?_;rintro e w' ⟨rfl,rfl⟩;clear HA1) | (refine (HA2.out _).mono ?_;rintro e w' ⟨rfl,rfl⟩;clear HA2) | (refine (HA3.out _).mono ?_;rintro e w' ⟨rfl,rfl⟩;clear HA3)))
 clear HNm y1 y2 y3
 go_wp2_with fail
 go_loopw [5] (fun ix w2=>∃ j:Nat,j≤k∧ix = .int .i64 (j:Int)∧Hid (((l.take j).any fun x=>decide (x.name=nm))=false)∧Hid (Below W1.heap.size W1 w2)) (fun ix _=>k-(intOf ix).toNat)
 case atStart=>exact⟨0,yI _,rfl,rfl,yB _ _⟩
 obtain⟨j,hj,rfl,HAn,HB2⟩:=hrel
 have j0:(0:Int)≤(j:Int):=yE _
 by_cases hjk:j<k
 ·have j1:(j:Int)<(k:Int):=by omega
  have j2:(j:Int)<(l.length:Int):=by omega
  have hjl:j<l.length:=by omega
  have z0:=HNames.out j hjl
  have z0:=((HB1.out.trans (HB2.out.mono HB1.out.size)).cell (p:=⟨b,o+j*4,none⟩) Hb.out).trans z0
  have y0:=(HB2.out.cell (p:=⟨s4,0,none⟩) (cell_ltR y0)).trans y0
  have HYe:Hid (l[j].name=nm→((l.take k).any fun x=>decide (x.name=nm))=true):=fun h=>by
   rw[List.any_eq_true]
   exact⟨l[j],List.mem_take_iff_getElem.2 ⟨j,by omega,rfl⟩,yD h⟩
  have HNx:Hid (l[j].name≠nm→((l.take (j+1)).any fun x=>decide (x.name=nm))=false):=fun h=>by
   rw[take_snoc l j hjl,List.any_append,HAn.out,List.any_cons,List.any_nil,yC h]
   rfl
  generalize l[j].name=nj at *
  by_cases hne:nj=nm
  ·subst hne
   have HV2:=zh (HNo.out (by rw[HR3.out,HYe.out rfl];rfl))
   have tt:(nj.toList==nj.toList)=true:=beq_self_eq_true _
   clear HYe HNx HNo HR3
   go_wp2_with (exact Go.WalkKit.wp_stop)
   go_quiet (fail)
   go_wp2_with fail
   go_ret
   exact⟨Ze HV2.out.symm,Zf (HB1.out.trans (HB2.out.mono HB1.out.size)) _⟩
  have HV2:=zh (HNx.out hne)
  have tt:(nj.toList==nm.toList)=false:=by rw[str_beq];exact yC hne
  clear HYe HNx hne
  go_wp2_with (exact Go.WalkKit.wp_stop)
  go_quiet (fail)
  go_wp2_with fail
  go_roundw
  case rel=>exact⟨j+1,hjk,by go_num,HV2,Zf HB2.out _⟩
  simp[intOf];omega
 obtain rfl:j=k:=by omega
 have HV2:Hid (roofsTo nameB l (j+1)=true):=by unfold Hid;rw[HSu.out,HT.out,HR3.out,HAn.out];rfl
 have HBz:=zh (HB1.out.trans (HB2.out.mono HB1.out.size))
 go_wp2_with fail
 go_roundw
 case rel=>exact⟨j+1,hkl,by go_num,HV2,HBz⟩
 simp[intOf];omega
theorem rfMakeS (n d:Nat) (w:World) (hn:n≤67108864) (hd:1≤d) (hd2:d≤20) :
  Calls Tryz.prog 120 #[.int .i64 n,.int .i64 d] w fun e w'=>e = .returned (signV false (n / n.gcd d) (d / n.gcd d))∧Below w.heap.size w w':=by
 have hSn:=fun W=>refSize (n:Int) W (by omega) (by omega)
 have hSd:=fun W=>refSize (d:Int) W (by omega) (by omega)
 rw[Int.natAbs_natCast] at hSn hSd
 have hM:=fun W=>rfMadeW n d false W (by omega) (by omega) (by omega)
 obtain⟨n1,n2⟩:=low_w (n:=n) (by omega)
 obtain⟨d1,d2⟩:=low_w (n:=d) (by omega)
 simp only[uW,n1,n2,d1,d2] at hM
 obtain⟨fx,fy,fz,hf⟩:=signV_form false (n / n.gcd d) (d / n.gcd d)
 rw[hf] at hM ⊢
 have HSn:=zh hSn
 have HSd:=zh hSd
 have HM:=zh hM
 have z2:decide ((n:Int)<0)=false:=yC (by omega)
 have z3:decide ((d:Int)<0)=false:=yC (by omega)
 have D0:=zh (Blk.new w 23 #[.int .i64 0,.int .i64 0])
 have HB:=zh ((yB _ w).alloc (yA _) (.cells #[.int .i64 0,.int .i64 0] 23))
 clear hSn hSd hM n1 n2 d1 d2 hf
 go_enter Tryz.func120,Tryz.ntmps120
 go_wp2_with (first
  | (go_at_call 95;first | (refine (HSn.out _).mono ?_;rintro e w2 ⟨rfl,rfl⟩;clear HSn) | (refine (HSd.out _).mono ?_;rintro e w2 ⟨rfl,rfl⟩;clear HSd))
  | (go_at_call 97;refine (HM.out _).mono ?_;rintro e w3 ⟨rfl,hb3⟩;have D3:=D0.out.below hb3 D0.out.lt;have HBz:=HB.out.trans (hb3.mono HB.out.size);have q0:=D3.cell 0;have f0:=D3.frozen 0;have E1:=(D3.set_ 0 (.int .i64 fx));have f1:=E1.frozen 1;have E2:=E1.set_ 1 (.int .i64 fy);have p0:=E2.cell 0;have p1:=E2.cell 1;have r1:=E1.cell 1;simp only[zs1,zs2,zs3,zq1,zq2,zq3] at q0 p0 p1 r1;have HB9:=zh ((HBz.setCell (p:=⟨w.heap.size,0,none⟩) (yA _) (.int .i64 fx)).setCell (p:=⟨w.heap.size,1,none⟩) (yA _) (.int .i64 fy));clear HBz E1 E2 D3))
 refine YC (v:=.tuple #[.agg #[.int .i64 fx,.int .i64 fy],.int .i64 fz]) (by simp[results,Tryz.results120,go_sem,p0,p1]) rfl ?_
 exact⟨rfl,HB9.out⟩
theorem rfMake (n:Int) (d:Nat) (w:World) (hn0:0≤n) (hn:n≤67108864) (hd:1≤d) (hd2:d≤20) :
  fracOk (mkRat n d)=true∧Calls Tryz.prog 120 #[.int .i64 n,.int .i64 d] w fun e w'=>e = .returned (.tuple #[.agg #[.int .i64 (frOf (mkRat n d)).num,.int .i64 (frOf (mkRat n d)).den],.int .i64 0])∧Below w.heap.size w w':=by
 obtain⟨m,rfl⟩:=Int.eq_ofNat_of_zero_le hn0
 have h1:=rfMakeS m d w (by omega) hd hd2
 have h2:=made_q (q:=mkRat (m:Int) d) (N:=m) (D:=d) (neg:=false) hd rfl
 rw[← h2] at h1
 cases hk:fracOk (mkRat (m:Int) d)
 case true=>
  refine⟨rfl,?_⟩
  have h3:=fracV_ok hk
  rw[h3] at h1
  exact h1
 exfalso
 have h3:=fracV_no hk
 rw[h2] at h3
 unfold signV at h3
 rw[if_pos ⟨yH (Nat.div_le_self _ _) (by omega),yH (Nat.div_le_self _ _) (by omega)⟩] at h3
 injection h3 with h3
 injection h3 with h3
 injection h3 with h4 h5
 injection h5 with h5 _
 injection h5 with _ h5
 exact absurd h5 (by decide)
structure RfS (w W:World) (s9:Nat) (v:Value) (i:Nat) (L:List FrT) (q:FrT):Prop where
 b:Below w.heap.size w W
 d:Blk W s9 23 #[.int .i64 q.num,.int .i64 q.den]
 row:W.ownsRow w.heap.size 23 2 v i (L.flatMap FrT.cells)
 nd:v.ownBlock≠some s9
 low:w.heap.size≤s9
theorem RfS.below {w W W':World} {s9:Nat} {v:Value} {i:Nat} {L:List FrT} {q:FrT} (h:RfS w W s9 v i L q) (hb:Below W.heap.size W W'):RfS w W' s9 v i L q:=⟨h.b.trans (hb.mono h.b.size),h.d.below hb h.d.lt,ownsRow_of h.row hb,h.nd,h.low⟩
theorem RfS.alloc {w W:World} {s9:Nat} {v:Value} {i:Nat} {L:List FrT} {q:FrT} (h:RfS w W s9 v i L q) (o:Obj):RfS w (W.alloc o) s9 v i L q:=h.below ((yB _ W).alloc (yA _) o)
theorem RfS.far {w W:World} {s9:Nat} {v:Value} {i:Nat} {L:List FrT} {q:FrT} (h:RfS w W s9 v i L q) {g:Nat} {T:TypeId} {cs:Array Value} (hg:Blk W g T cs) (h1:s9≠g) (h2:v.ownBlock≠some g) (h3:w.heap.size≤g) (j:Nat) (u:Value):RfS w (W.setCell ⟨g,j,none⟩ u) s9 v i L q :=
 ⟨h.b.setCell (p:=⟨g,j,none⟩) h3 u,h.d.far (p:=⟨g,j,none⟩) h1 u,h.row.kept (hg.setGrown j u) (.inr h2),h.nd,h.low⟩
theorem RfS.put {w W:World} {s9:Nat} {v:Value} {i:Nat} {L:List FrT} {q:FrT} (h:RfS w W s9 v i L q) (a b:Int):RfS w ((W.setCell ⟨s9,0,none⟩ (.int .i64 a)).setCell ⟨s9,1,none⟩ (.int .i64 b)) s9 v i L ⟨a,b⟩ :=
 ⟨(h.b.setCell (p:=⟨s9,0,none⟩) h.low _).setCell (p:=⟨s9,1,none⟩) h.low _,(h.d.set_ 0 _).set_ 1 _,(h.row.kept (h.d.setGrown 0 _) (.inr h.nd)).kept ((h.d.set_ 0 (.int .i64 a)).setGrown 1 _) (.inr h.nd),h.nd,h.low⟩
structure NwR (W:World) (lo s9:Nat) (v:Value) (g:Nat) (cs:Array Value):Prop where
 e:Blk W g 23 cs
 l:s9<g
 nv:v.ownBlock≠some g
 lo:lo≤g
theorem NwR.below {W W':World} {lo s9:Nat} {v:Value} {g:Nat} {cs:Array Value} (h:NwR W lo s9 v g cs) (hb:Below W.heap.size W W'):NwR W' lo s9 v g cs:=⟨h.e.below hb h.e.lt,h.l,h.nv,h.lo⟩
theorem NwR.new {w W:World} {s9:Nat} {v:Value} {i:Nat} {L:List FrT} {q:FrT} (h:RfS w W s9 v i L q) (cs:Array Value):NwR (W.alloc (.cells cs 23)) w.heap.size s9 v W.heap.size cs :=
 ⟨Blk.new W 23 cs,h.d.lt,fun e=>Nat.lt_irrefl _ (h.row.lt _ e).2,h.b.size⟩
theorem fracV_of19 {q:Rat} {px py pz:Int} (h:fracV q = .tuple #[.agg #[.int .i64 px,.int .i64 py],.int .i64 pz]):(fracOk q=true→frOf q=⟨px,py⟩∧pz=0)∧(fracOk q=false→pz=5) :=
 ⟨fun hk=>⟨((fracV_of h).1 hk).2.1,((fracV_of h).1 hk).2.2⟩,(fracV_of h).2⟩
theorem rf19Loads (v v1:Value) (l:List RoofT) (at_:List LoadT) (w:World) (hlen:l.length≤20) (hlen2:at_.length≤1000) (hwt:∀ x∈at_,0≤x.wt∧x.wt≤67108864) (hv:RoofsAt w w.heap.size v l) (hl:LoadsAt w w.heap.size v1 at_) :
  Calls Tryz.prog 82 #[v,v1] w fun e w'=>Below w.heap.size w w'∧((borneE l at_=0∧∃ u,e = .returned (.tuple #[u,.int .i64 0])∧FrsAt w' w'.heap.size u (borneL l at_))∨(borneE l at_≠0∧e = .returned (.tuple #[.slice none 0 0,.int .i64 (borneE l at_)]))):=by
 have HCnt:=zh fun d W (hb:Below w.heap.size w W)=>rf19Count v l d W (hv.grow hb) hlen
 obtain⟨A,c,rfl,-,hca,hcr⟩:=hv.open_
 obtain⟨A1,c1,rfl,-,hcb,hcl⟩:=hl.open_
 unfold maxLen at hca hcb
 have HR:=zh hcr
 have HC:=zh hcl
 have HWt:=zh hwt
 have HIs:=zh fun x d W=>rf19Is x d W
 have HO:=zh fun W=>rfOf 0 W
 clear hv hl hcr hcl hwt
 go_enter Tryz.func82,Tryz.ntmps82
 go_wp2_with fail
 go_loopw [6] (fun ix wr=>∃ k:Nat,k≤at_.length∧ix = .int .i64 (k:Int)∧Hid (Below w.heap.size w wr)∧Hid (∀ j (hj:j<at_.length),j<k→cntR l at_[j].pos≠0)) (fun ix _=>at_.length-(intOf ix).toNat)
 case atStart=>exact⟨0,yI _,rfl,yB _ _,fun _ _ h=>absurd h (Nat.not_lt_zero _)⟩
 obtain⟨k,hk,rfl,HB,HN⟩:=hrel
 have k0:(0:Int)≤(k:Int):=yE _
 by_cases hkl:k<at_.length
 ·have k1:(k:Int)<(at_.length:Int):=by omega
  obtain⟨b,o,rfl,hb,hcs⟩:=HC.out k hkl
  obtain⟨x0,x1⟩:=hcs k hkl
  have x0:=(HB.out.cell (p:=⟨b,o+k*2,none⟩) hb).trans x0
  have HNone:Hid (cntR l at_[k].pos=0→borneE l at_=12):=fun h=>borneE_none hkl h
  have HNx:Hid (cntR l at_[k].pos≠0→∀ j (hj:j<at_.length),j<k+1→cntR l at_[j].pos≠0):=fun h j hj hjk=>by
   rcases Nat.lt_or_ge j k with h1 | h1
   ·exact HN.out j hj h1
   obtain rfl:j=k:=by omega
   exact h
  clear hcs x1
  generalize at_[k]=x at *
  obtain⟨pos,wt⟩:=x
  simp only at x0 HNone HNx
  have hcn:=HCnt.out pos _ HB.out
  by_cases hz:cntR l pos=0
  ·have hz0:(((cntR l pos:Nat):Int)==0)=true:=by rw[hz];rfl
   have HE:=zh (HNone.out hz)
   clear hz HNx HNone
   generalize cntR l pos=cn at *
   go_wp2_with (first | (go_at_call 118;refine hcn.mono ?_;rintro e W5 ⟨rfl,hb5⟩))
   go_ret2
   exact⟨HB.out.trans (hb5.mono HB.out.size),.inr ⟨by rw[HE.out];decide,by rw[HE.out];rfl⟩⟩
  have hz0:(((cntR l pos:Nat):Int)==0)=false:=beq_eq_false_iff_ne.2 (by omega)
  have HN2:=zh (HNx.out hz)
  clear hz HNx HNone HN
  generalize cntR l pos=cn at *
  go_wp2_with (first | (go_at_call 118;refine hcn.mono ?_;rintro e W5 ⟨rfl,hb5⟩))
  have HB5:=zh (HB.out.trans (hb5.mono HB.out.size))
  go_roundw
  case rel=>exact⟨k+1,hkl,by go_num,HB5,HN2⟩
  simp[intOf];omega
 obtain rfl:k=at_.length:=by omega
 have HStep:Hid (∀ j (hj:j<at_.length),cntR l at_[j].pos≠0):=fun j hj=>HN.out j hj hj
 have HNo:Hid (noneB l at_=false):=noneB_no HStep.out
 have HRow0:Hid (wr.ownsRow w.heap.size 23 2 (.slice none 0 0) 0 (((borneL l at_).take 0).flatMap FrT.cells)):=yJ _ _ _ _
 have HF0:Hid (∀ j (hj:j<l.length),j<0→fitTo l at_ l[j] at_.length=true):=fun _ _ h=>absurd h (Nat.not_lt_zero _)
 obtain⟨iF,hiF,hzF0,hzF1,hzF2⟩:=info_parts info_frac
 clear HN
 go_wp2_with fail
 go_loopw [8,7] (fun ix u wr=>∃ (i:Nat) (ov:Value),i≤l.length∧ix = .int .i64 (i:Int)∧ov=u∧Hid (Below w.heap.size w wr)∧Hid (wr.ownsRow w.heap.size 23 2 ov i (((borneL l at_).take i).flatMap FrT.cells))∧Hid (∀ j (hj:j<l.length),j<i→fitTo l at_ l[j] at_.length=true)) (fun ix _ _=>l.length-(intOf ix).toNat)
 case atStart=>exact⟨0,_,yI _,rfl,rfl,HB,HRow0,HF0⟩
 clear HRow0 HF0 HB
 obtain⟨i,ov,hi,rfl,rfl,HB,HRow,HF⟩:=hrel
 have i0:(0:Int)≤(i:Int):=yE _
 by_cases hil:i<l.length
 rotate_left
 ·obtain rfl:i=l.length:=by omega
  have HE:Hid (borneE l at_=0):=borneE_zero HNo.out fun j hj=>HF.out j hj hj
  have hrow:=HRow.out
  rw[List.take_of_length_le (by rw[borneL_len];exact yA _)] at hrow
  obtain⟨Ao,co,hov,-⟩:=Flat.of_own hrow
  subst hov
  have HRw:=zh (Flat.of_own hrow)
  clear hrow HRow HF
  go_wp2_with fail
  go_ret2
  exact⟨HB.out,.inl ⟨HE.out,_,rfl,by unfold FrsAt;rw[borneL_len];exact HRw.out⟩⟩
 have i1:(i:Int)<(l.length:Int):=by omega
 have HFi:Hid (∀ h:fitTo l at_ l[i] at_.length=true,∀ j (hj:j<l.length),j<i+1→fitTo l at_ l[j] at_.length=true):=fun h j hj hjk=>by
  rcases Nat.lt_or_ge j i with h1 | h1
  ·exact HF.out j hj h1
  obtain rfl:j=i:=by omega
  exact h
 have HBig:Hid (∀ k≤at_.length,fitTo l at_ l[i] k=false→borneE l at_=5):=fun k hk h=>borneE_big HNo.out hil hk h
 have HTk:Hid ((borneL l at_).take (i+1)=(borneL l at_).take i++[frOf (bearTo l at_ l[i] at_.length)]):=by
  unfold Hid
  rw[take_snoc _ i (by rw[borneL_len];exact hil)]
  unfold borneL
  rw[List.getElem_map]
 obtain⟨b,o,rfl,hb,hcs⟩:=HR.out i hil
 obtain⟨r0,r1,r2,r3⟩:=hcs i hil
 have Hb:=zh hb
 clear hcs hb
 generalize hrx:l[i]=r at *
 have HY:=zh fun k (hk:k<at_.length) h=>bear_yes (l:=l) (r:=r) hk h
 have HNb:=zh fun k (hk:k<at_.length) h=>bear_no (l:=l) (r:=r) hk h
 have HFs:=zh (fitTo_succ l at_ r)
 have his:=HIs.out r
 have HHg:Hid (∀ d,hangB d r=hangB d r):=fun _=>rfl
 obtain⟨nm,lo,hi',most⟩:=r
 simp only at r0 r1 r2 r3
 have HR0:=zh r0
 have HR1:=zh r1
 have HR2:=zh r2
 have HR3:=zh r3
 have HIs2:=zh his
 clear r0 r1 r2 r3 his hrx HHg
 go_wp2_with (first | (go_at_call 53;refine (HO.out _).mono ?_;rintro e W2 ⟨rfl,hb2⟩))
 have HS0:Hid (RfS w (W2.alloc (.cells #[.int .i64 0,.int .i64 1] 23)) W2.heap.size ov i ((borneL l at_).take i) (frOf (bearTo l at_ ⟨nm,lo,hi',most⟩ 0))):=by
  have hB2:=HB.out.trans (hb2.mono HB.out.size)
  exact⟨hB2.alloc hB2.size _,Blk.new W2 _ _,(ownsRow_of HRow.out hb2).alloc _,fun e=>Nat.lt_irrefl _ ((ownsRow_of HRow.out hb2).lt _ e).2,hB2.size⟩
 have HFt0:Hid (fitTo l at_ ⟨nm,lo,hi',most⟩ 0=true):=fitTo_zero _ _ _
 clear hb2 HB HRow
 go_wp2_with fail
 generalize W2.alloc (.cells #[.int .i64 0,.int .i64 1] 23)=W3 at *
 generalize W2.heap.size=s9 at *
 go_loopw [10] (fun ix wr=>∃ k:Nat,k≤at_.length∧ix = .int .i64 (k:Int)∧Hid (RfS w wr s9 ov i ((borneL l at_).take i) (frOf (bearTo l at_ ⟨nm,lo,hi',most⟩ k)))∧Hid (fitTo l at_ ⟨nm,lo,hi',most⟩ k=true)) (fun ix _=>at_.length-(intOf ix).toNat)
 case atStart=>exact⟨0,yI _,rfl,HS0,HFt0⟩
 clear HS0 HFt0
 obtain⟨k,hk,rfl,HS,HFt⟩:=hrel
 have k0:(0:Int)≤(k:Int):=yE _
 by_cases hkl:k<at_.length
 rotate_left
 ·obtain rfl:k=at_.length:=by omega
  have HFn:=zh (HFi.out HFt.out)
  have hd:=HS.out.d
  generalize frOf (bearTo l at_ ⟨nm,lo,hi',most⟩ at_.length)=q at *
  obtain⟨qn,qd⟩:=q
  obtain⟨z0,z1⟩:=hd.c2
  have HT:=zh (HS.out.alloc (.cells #[.int .i64 qn,.int .i64 qd] 23))
  have Hnew:=zh (World.news_of_block (Blk.new wr 23 #[.int .i64 qn,.int .i64 qd]))
  have hsz:=HT.out.b.size
  clear hd
  go_wp2_with (at_builtin;refine wpList_append_own _ rfl _ _ 42 rfl w.heap.size 23 iF (.agg #[.int .i64 0,.int .i64 0]) 2 16 Tryz.underlying42 hiF hzF0 hzF1 hzF2 rfl (by decide) _ _ _ rfl HT.out.row ⟨wr.heap.size,0,none⟩ 1 1 [.int .i64 qn,.int .i64 qd] rfl rfl Hnew.out (by simp[Value.oneCell']) (by unfold maxLen;omega) (by omega) hsz ?_;intro v8 w8 hown8 hgrow8 _;have HO8:=zh hown8;have HB8:=zh (HT.out.b.grown hgrow8 hsz (fun k e=>(HT.out.row.lt k e).1));clear hown8 hgrow8)
  have HO9:Hid (w8.ownsRow w.heap.size 23 2 v8 (i+1) (((borneL l at_).take (i+1)).flatMap FrT.cells)):=by
   unfold Hid
   rw[HTk.out,List.flatMap_append]
   exact HO8.out
  clear HO8
  go_roundw
  case rel=>first | exact⟨i+1,_,hil,by go_num,rfl,HB8,HO9,HFn⟩ | exact⟨v8,_,_,_,_,_,⟨i+1,hil,rfl,HB8,HO9,HFn⟩,rfl,by go_num⟩
  simp[intOf];omega
 have k1:(k:Int)<(at_.length:Int):=by omega
 obtain⟨b2,o2,rfl,hb2,hcs⟩:=HC.out k hkl
 obtain⟨x0,x1⟩:=hcs k hkl
 have HX0:=zh x0
 have HX1:=zh x1
 have Hb2:=zh hb2
 have hwt:=HWt.out _ (yU hkl)
 have hc0:=HStep.out k hkl
 have hY:=HY.out k hkl
 have hNb:=HNb.out k hkl
 clear hcs x0 x1 hb2
 obtain⟨pos,hpos⟩:∃ p,(at_[k]'hkl).pos=p:=⟨_,rfl⟩
 obtain⟨wt,hwe⟩:∃ p,(at_[k]'hkl).wt=p:=⟨_,rfl⟩
 have HSh:Hid (shareQ l (at_[k]'hkl)=mkRat wt (cntR l pos)):=by unfold Hid shareQ;rw[hpos,hwe]
 replace HX0:Hid (w.cell? ⟨b2,o2+k*2,none⟩=some (.int .i64 pos)):=by unfold Hid;rw[← hpos];exact HX0.out
 replace HX1:Hid (w.cell? ⟨b2,o2+k*2+1,none⟩=some (.int .i64 wt)):=by unfold Hid;rw[← hwe];exact HX1.out
 rw[hpos] at hc0 hY hNb
 rw[hwe] at hwt
 rw[HSh.out] at hY
 have hcl:=cntR_le l pos
 have hok:=(rfMake wt (cntR l pos) w hwt.1 hwt.2 (by omega) (by omega)).1
 have hmk:=fun W=>(rfMake wt (cntR l pos) W hwt.1 hwt.2 (by omega) (by omega)).2
 have HGs:=zh (good_q hok)
 have HQs:=zh (q_fr (mkRat wt (cntR l pos)))
 obtain⟨fs,hfs⟩:∃ fs,frOf (mkRat wt (cntR l pos))=fs:=⟨_,rfl⟩
 rw[hfs] at HGs HQs
 simp only[hfs] at hmk
 obtain⟨fx,fy⟩:=fs
 simp only at hmk
 have HMake:=zh hmk
 have HCn:=zh fun W (hb:Below w.heap.size w W)=>HCnt.out pos W hb
 have HYk:=zh hY
 have HNk:=zh hNb
 have HI3:Hid (∀ W,Calls Tryz.prog 119 #[.agg #[.string nm,.int .i64 lo,.int .i64 hi',.int .i64 most],.int .i64 pos] W fun e w'=>e = .returned (.bool (hangB pos ⟨nm,lo,hi',most⟩))∧Below W.heap.size W w'):=fun W=>HIs2.out pos W
 clear hwt hc0 hcl hok hmk hfs hpos hwe hY hNb
 generalize hbb:hangB pos ⟨nm,lo,hi',most⟩=hh at *
 clear hbb
 have r0:=(HS.out.b.cell (p:=⟨b,o+i*4,none⟩) Hb.out).trans HR0.out
 have r1:=(HS.out.b.cell (p:=⟨b,o+i*4+1,none⟩) Hb.out).trans HR1.out
 have r2:=(HS.out.b.cell (p:=⟨b,o+i*4+2,none⟩) Hb.out).trans HR2.out
 have r3:=(HS.out.b.cell (p:=⟨b,o+i*4+3,none⟩) Hb.out).trans HR3.out
 have x0:=(HS.out.b.cell (p:=⟨b2,o2+k*2,none⟩) Hb2.out).trans HX0.out
 have u0:=YE r0
 have u1:=YE r1
 have u2:=YE r2
 have u3:=YE r3
 have u4:=YE x0
 have cI:=HeldB.call (W:=wr) fun w' _=>HI3.out w'
 clear r0 r1 r2 r3 x0
 go_upto_region 14 with fail
 refine wp_region_heldb (by kernel_rfl) (by kernel_rfl) ?_
 repeat (go_big_quiet_step (first | (go_at_call 119;with_reducible exact cI _)))
 refine YB ?_
 rintro w4 ⟨⟨w4',hb4⟩,rfl⟩
 have HS4:=zh (HS.out.below hb4)
 clear u0 u1 u2 u3 u4 cI hb4 HS
 cases hh
 ·have hbe:=HNk.out rfl
  have HS5:Hid (RfS w w4 s9 ov i ((borneL l at_).take i) (frOf (bearTo l at_ ⟨nm,lo,hi',most⟩ (k+1)))):=by unfold Hid;rw[hbe];exact HS4.out
  have HF5:Hid (fitTo l at_ ⟨nm,lo,hi',most⟩ (k+1)=true):=by unfold Hid;rw[HFs.out,hbe,HFt.out,fitTo_ok HFt.out];rfl
  clear hbe
  go_wp2_with fail
  go_roundw
  case rel=>exact⟨k+1,hkl,by go_num,HS5,HF5⟩
  simp[intOf];omega
 have hbe:=HYk.out rfl
 have hgq:=good_q (fitTo_ok HFt.out)
 have hqq:=q_fr (bearTo l at_ ⟨nm,lo,hi',most⟩ k)
 have hAdd:=fun W=>rfAddW (frOf (bearTo l at_ ⟨nm,lo,hi',most⟩ k)) ⟨fx,fy⟩ W hgq HGs.out
 rw[hqq,HQs.out,← hbe] at hAdd
 obtain⟨px,py,pz,hpv⟩:=fracV_form (bearTo l at_ ⟨nm,lo,hi',most⟩ (k+1))
 have HPV:=zh (fracV_of19 hpv)
 rw[hpv] at hAdd
 have hT4:=HS4.out
 obtain⟨q,hq⟩:∃ q,frOf (bearTo l at_ ⟨nm,lo,hi',most⟩ k)=q:=⟨_,rfl⟩
 rw[hq] at hT4 hAdd
 obtain⟨qn,qd⟩:=q
 have HAdd:=zh hAdd
 obtain⟨ok,hok⟩:∃ ok,fracOk (bearTo l at_ ⟨nm,lo,hi',most⟩ (k+1))=ok:=⟨_,rfl⟩
 have Hok:=zh hok
 rw[hok] at HPV
 have HT4:=zh hT4
 clear hbe hgq hqq hAdd hpv hT4 hq hok HS4
 generalize cntR l pos=cn at *
 go_upto_region 15 with fail
 refine wp_region_po (fun i=>([.slice (some ⟨b2,o2,none⟩) at_.length c1,.int .i64 (k:Int),.pointer (some ⟨b2,o2+k*2,none⟩),.pointer (some ⟨b2,o2+k*2+1,none⟩),.int .i64 wt,.slice (some ⟨b,o,none⟩) l.length c,.slice (some ⟨b2,o2,none⟩) at_.length c1,.int .i64 (k:Int),.pointer (some ⟨b2,o2+k*2,none⟩),.pointer (some ⟨b2,o2+k*2,none⟩),.int .i64 pos,.int .i64 (cn:Int),.tuple #[.agg #[.int .i64 fx,.int .i64 fy],.int .i64 0],.tuple #[.agg #[.int .i64 fx,.int .i64 fy],.int .i64 0],.agg #[.int .i64 fx,.int .i64 fy],.int .i64 0,undef,undef,.int .i64 0]:List Value).getD i undef) [11,12,16,17] (by kernel_rfl) (by kernel_rfl) (by kernel_rfl) (by decide) ?_
 have HT6:=zh (HT4.out.below ((yB _ w4).drew))
 clear HT4
 generalize w4.drew=W6 at *
 generalize hPJ:poJ Tryz.prog Region.Mode.any _ _ _ _=PJ
 have HPJ:=zh hPJ
 have HEnd:∀ (W:World) (g11:Nat),RfS w W s9 ov i ((borneL l at_).take i) ⟨qn,qd⟩→NwR W w.heap.size s9 ov g11 #[.int .i64 fx,.int .i64 fy]→PJ 0 [] (fun i=>([.slice (some ⟨b2,o2,none⟩) at_.length c1,.int .i64 (k:Int),.pointer (some ⟨b2,o2+k*2,none⟩),.pointer (some ⟨b2,o2+k*2+1,none⟩),.int .i64 wt,.slice (some ⟨b,o,none⟩) l.length c,.slice (some ⟨b2,o2,none⟩) at_.length c1,.int .i64 (k:Int),.pointer (some ⟨b2,o2+k*2,none⟩),.pointer (some ⟨b2,o2+k*2,none⟩),.int .i64 pos,.int .i64 (cn:Int),.tuple #[.agg #[.int .i64 fx,.int .i64 fy],.int .i64 0],.tuple #[.agg #[.int .i64 fx,.int .i64 fy],.int .i64 0],.agg #[.int .i64 fx,.int .i64 fy],.int .i64 0,.pointer (some ⟨g11,0,none⟩),undef,.int .i64 0]:List Value).getD i undef) W:=by
  intro W g11 hT n11
  rw[← HPJ.out]
  have y0:=(hT.b.cell (p:=⟨b2,o2+k*2,none⟩) Hb2.out).trans HX0.out
  have y1:=(hT.b.cell (p:=⟨b2,o2+k*2+1,none⟩) Hb2.out).trans HX1.out
  refine poJ_end rfl ?_ ?_
  ·simp only[putAll,Act.put,zs1,zs2,zs3,readsQ]
   refine⟨?_,?_,?_,?_,?_,?_,?_,?_,?_,?_,?_,?_,?_,?_,?_,?_,?_,?_,?_,trivial⟩
   all_goals first
    | exact .inl rfl
    | exact .inr (.inl (by decide +kernel))
    | (refine .inr (.inr ?_);go_simp;done)
  simp only[putAll,Act.put,zs1,zs2,zs3,]
  clear y0 y1 HPJ hPJ
  have z0:=hT.d.cell 0
  have z1:=hT.d.cell 1
  have u0:=n11.e.cell 0
  have u1:=n11.e.cell 1
  simp only[zq1,zq2,zq3] at z0 z1 u0 u1
  go_upto_region 18 with fail
  go_wp2_with (first | (go_at_call 112;exact Go.WalkKit.wp_stop))
  refine (HAdd.out W).mono ?_
  rintro e W6 ⟨rfl,hb6⟩
  have hT6:=hT.below hb6
  have f0:=hT6.d.frozen 0
  have v0:=hT6.d.cell 0
  have f1:=(hT6.d.set_ 0 (.int .i64 px)).frozen 1
  have v1:=(hT6.d.set_ 0 (.int .i64 px)).cell 1
  simp only[zs1,zs2,zq1,zq2,zq3] at v0 v1
  have HT7:=zh (hT6.put px py)
  clear hT n11 hb6 z0 z1 u0 u1 hT6
  cases ok
  case true=>
   obtain⟨hpf,rfl⟩:=HPV.out.1 rfl
   have HT8:Hid (RfS w ((W6.setCell ⟨s9,0,none⟩ (.int .i64 px)).setCell ⟨s9,1,none⟩ (.int .i64 py)) s9 ov i ((borneL l at_).take i) (frOf (bearTo l at_ ⟨nm,lo,hi',most⟩ (k+1)))):=by unfold Hid;rw[hpf];exact HT7.out
   have HF8:Hid (fitTo l at_ ⟨nm,lo,hi',most⟩ (k+1)=true):=by unfold Hid;rw[HFs.out,HFt.out,Hok.out];rfl
   clear hpf HPV HT7
   go_wp2_with fail
   go_roundw
   case rel=>exact⟨k+1,hkl,by go_num,HT8,HF8⟩
   simp[intOf];omega
  obtain rfl:=HPV.out.2 rfl
  have HE:Hid (borneE l at_=5):=HBig.out (k+1) hkl (by rw[HFs.out,Hok.out,Bool.and_false])
  have HBz:=zh HT7.out.b
  clear HPV HT7
  go_wp2_with fail
  go_ret2
  exact⟨HBz.out,.inr ⟨by rw[HE.out];decide,by rw[HE.out];rfl⟩⟩
 have H21:∀ (W:World) (g11:Nat),RfS w W s9 ov i ((borneL l at_).take i) ⟨qn,qd⟩→NwR W w.heap.size s9 ov g11 #[.int .i64 0,.int .i64 0]→PJ 1 [17] (fun i=>([.slice (some ⟨b2,o2,none⟩) at_.length c1,.int .i64 (k:Int),.pointer (some ⟨b2,o2+k*2,none⟩),.pointer (some ⟨b2,o2+k*2+1,none⟩),.int .i64 wt,.slice (some ⟨b,o,none⟩) l.length c,.slice (some ⟨b2,o2,none⟩) at_.length c1,.int .i64 (k:Int),.pointer (some ⟨b2,o2+k*2,none⟩),.pointer (some ⟨b2,o2+k*2,none⟩),.int .i64 pos,.int .i64 (cn:Int),.tuple #[.agg #[.int .i64 fx,.int .i64 fy],.int .i64 0],.tuple #[.agg #[.int .i64 fx,.int .i64 fy],.int .i64 0],.agg #[.int .i64 fx,.int .i64 fy],.int .i64 0,.pointer (some ⟨g11,0,none⟩),undef,.int .i64 0]:List Value).getD i undef) W:=by
  intro W g11 hT n11
  rw[← HPJ.out]
  have y0:=(hT.b.cell (p:=⟨b2,o2+k*2,none⟩) Hb2.out).trans HX0.out
  have y1:=(hT.b.cell (p:=⟨b2,o2+k*2+1,none⟩) Hb2.out).trans HX1.out
  refine poJ_step (L:=[17]) rfl (by decide) ?_ ?_
  ·simp only[putAll,Act.put,zs1,zs2,zs3,readsQ]
   refine⟨?_,?_,?_,?_,?_,?_,?_,?_,?_,?_,?_,?_,?_,?_,?_,?_,?_,?_,?_,trivial⟩
   all_goals first
    | exact .inl rfl
    | exact .inr (.inl (by decide +kernel))
    | (refine .inr (.inr ?_);go_simp;done)
  intro i o hi hr ho
  simp only[List.mem_cons,List.not_mem_nil,or_false] at hi
  subst hi
  obtain rfl:=Option.some.inj ho
  clear hr ho
  have z0:=n11.e.cell 0
  have f0:=n11.e.frozen 0
  have z1:=(n11.e.set_ 0 (.int .i64 fx)).cell 1
  have f1:=(n11.e.set_ 0 (.int .i64 fx)).frozen 1
  simp only[zs1,zs2,zq1,zq2,zq3] at z0 z1
  refine .inl ⟨rfl,((W.setCell ⟨g11,0,none⟩ (.int .i64 fx)).setCell ⟨g11,1,none⟩ (.int .i64 fy)),fun i=>([.slice (some ⟨b2,o2,none⟩) at_.length c1,.int .i64 (k:Int),.pointer (some ⟨b2,o2+k*2,none⟩),.pointer (some ⟨b2,o2+k*2+1,none⟩),.int .i64 wt,.slice (some ⟨b,o,none⟩) l.length c,.slice (some ⟨b2,o2,none⟩) at_.length c1,.int .i64 (k:Int),.pointer (some ⟨b2,o2+k*2,none⟩),.pointer (some ⟨b2,o2+k*2,none⟩),.int .i64 pos,.int .i64 (cn:Int),.tuple #[.agg #[.int .i64 fx,.int .i64 fy],.int .i64 0],.tuple #[.agg #[.int .i64 fx,.int .i64 fy],.int .i64 0],.agg #[.int .i64 fx,.int .i64 fy],.int .i64 0,.pointer (some ⟨g11,0,none⟩),undef,.int .i64 0]:List Value).getD i undef,by simp only[putAll,Act.put,zs1,zs2,zs3,];go_simp,agreeL_all (by refine⟨?_,?_,?_,?_,?_,?_,?_,?_,?_,?_,?_,?_,?_,?_,?_,?_,?_,?_,?_,trivial⟩ <;> first | exact .inl rfl | exact .inr (.inr rfl) | exact .inr (.inl (by decide +kernel))),?_⟩
  rw[HPJ.out]
  exact HEnd ((W.setCell ⟨g11,0,none⟩ (.int .i64 fx)).setCell ⟨g11,1,none⟩ (.int .i64 fy)) g11 ((hT.far n11.e (Nat.ne_of_lt n11.l) n11.nv n11.lo 0 _).far (n11.e.set_ 0 (.int .i64 fx)) (Nat.ne_of_lt n11.l) n11.nv n11.lo 1 _) ⟨(n11.e.set_ 0 (.int .i64 fx)).set_ 1 (.int .i64 fy),n11.l,n11.nv,n11.lo⟩
 have H20:∀ (W:World),RfS w W s9 ov i ((borneL l at_).take i) ⟨qn,qd⟩→PJ 2 [16,17] (fun i=>([.slice (some ⟨b2,o2,none⟩) at_.length c1,.int .i64 (k:Int),.pointer (some ⟨b2,o2+k*2,none⟩),.pointer (some ⟨b2,o2+k*2+1,none⟩),.int .i64 wt,.slice (some ⟨b,o,none⟩) l.length c,.slice (some ⟨b2,o2,none⟩) at_.length c1,.int .i64 (k:Int),.pointer (some ⟨b2,o2+k*2,none⟩),.pointer (some ⟨b2,o2+k*2,none⟩),.int .i64 pos,.int .i64 (cn:Int),.tuple #[.agg #[.int .i64 fx,.int .i64 fy],.int .i64 0],.tuple #[.agg #[.int .i64 fx,.int .i64 fy],.int .i64 0],.agg #[.int .i64 fx,.int .i64 fy],.int .i64 0,undef,undef,.int .i64 0]:List Value).getD i undef) W:=by
  intro W hT
  rw[← HPJ.out]
  have y0:=(hT.b.cell (p:=⟨b2,o2+k*2,none⟩) Hb2.out).trans HX0.out
  have y1:=(hT.b.cell (p:=⟨b2,o2+k*2+1,none⟩) Hb2.out).trans HX1.out
  refine poJ_step (L:=[16,17]) rfl (by decide) ?_ ?_
  ·simp only[putAll,Act.put,zs1,zs2,zs3,readsQ]
   refine⟨?_,?_,?_,?_,?_,?_,?_,?_,?_,?_,?_,?_,?_,?_,?_,?_,?_,?_,?_,trivial⟩
   all_goals first
    | exact .inl rfl
    | exact .inr (.inl (by decide +kernel))
    | (refine .inr (.inr ?_);go_simp;done)
  intro i o hi hr ho
  simp only[List.mem_cons,List.not_mem_nil,or_false] at hi
  rcases hi with rfl | rfl
  ·obtain rfl:=Option.some.inj ho
   clear hr ho
   refine .inr (.inl ⟨_,(W.alloc (.cells #[.int .i64 0,.int .i64 0] 23)),fun i=>([.slice (some ⟨b2,o2,none⟩) at_.length c1,.int .i64 (k:Int),.pointer (some ⟨b2,o2+k*2,none⟩),.pointer (some ⟨b2,o2+k*2+1,none⟩),.int .i64 wt,.slice (some ⟨b,o,none⟩) l.length c,.slice (some ⟨b2,o2,none⟩) at_.length c1,.int .i64 (k:Int),.pointer (some ⟨b2,o2+k*2,none⟩),.pointer (some ⟨b2,o2+k*2,none⟩),.int .i64 pos,.int .i64 (cn:Int),.tuple #[.agg #[.int .i64 fx,.int .i64 fy],.int .i64 0],.tuple #[.agg #[.int .i64 fx,.int .i64 fy],.int .i64 0],.agg #[.int .i64 fx,.int .i64 fy],.int .i64 0,.pointer (some ⟨W.heap.size,0,none⟩),undef,.int .i64 0]:List Value).getD i undef,by simp only[putAll,Act.put,zs1,zs2,zs3,];go_simp,agreeL_all (by refine⟨?_,?_,?_,?_,?_,?_,?_,?_,?_,?_,?_,?_,?_,?_,?_,?_,?_,?_,?_,trivial⟩ <;> first | exact .inl rfl | exact .inr (.inr rfl) | exact .inr (.inl (by decide +kernel))),rfl,?_⟩)
   rw[HPJ.out]
   exact H21 (W.alloc (.cells #[.int .i64 0,.int .i64 0] 23)) W.heap.size (hT.alloc _) (NwR.new hT _)
  exact absurd hr (by rw[show rdP .any _ [16,17] 17=false by kernel_rfl];decide)
 have H11:∀ (W:World) (g11:Nat),RfS w W s9 ov i ((borneL l at_).take i) ⟨qn,qd⟩→NwR W w.heap.size s9 ov g11 #[.int .i64 0,.int .i64 0]→PJ 2 [12,17] (fun i=>([.slice (some ⟨b2,o2,none⟩) at_.length c1,.int .i64 (k:Int),.pointer (some ⟨b2,o2+k*2,none⟩),.pointer (some ⟨b2,o2+k*2+1,none⟩),.int .i64 wt,.slice (some ⟨b,o,none⟩) l.length c,.slice (some ⟨b2,o2,none⟩) at_.length c1,.int .i64 (k:Int),.pointer (some ⟨b2,o2+k*2,none⟩),.pointer (some ⟨b2,o2+k*2,none⟩),.int .i64 pos,.int .i64 (cn:Int),.tuple #[.agg #[.int .i64 fx,.int .i64 fy],.int .i64 0],.tuple #[.agg #[.int .i64 fx,.int .i64 fy],.int .i64 0],.agg #[.int .i64 fx,.int .i64 fy],.int .i64 0,.pointer (some ⟨g11,0,none⟩),undef,.int .i64 0]:List Value).getD i undef) W:=by
  intro W g11 hT n11
  rw[← HPJ.out]
  have y0:=(hT.b.cell (p:=⟨b2,o2+k*2,none⟩) Hb2.out).trans HX0.out
  have y1:=(hT.b.cell (p:=⟨b2,o2+k*2+1,none⟩) Hb2.out).trans HX1.out
  refine poJ_step (L:=[12,17]) rfl (by decide) ?_ ?_
  ·simp only[putAll,Act.put,zs1,zs2,zs3,readsQ]
   refine⟨?_,?_,?_,?_,?_,?_,?_,?_,?_,?_,?_,?_,?_,?_,?_,?_,?_,?_,?_,trivial⟩
   all_goals first
    | exact .inl rfl
    | exact .inr (.inl (by decide +kernel))
    | (refine .inr (.inr ?_);go_simp;done)
  intro i o hi hr ho
  simp only[List.mem_cons,List.not_mem_nil,or_false] at hi
  rcases hi with rfl | rfl
  ·obtain rfl:=Option.some.inj ho
   clear hr ho
   refine .inr (.inr ⟨120,#[.int .i64 wt,.int .i64 (cn:Int)],by simp only[putAll,Act.put,zs1,zs2,zs3,];go_simp,?_⟩)
   refine (HMake.out W).mono ?_
   rintro e W2 ⟨rfl,hb_W2⟩
   refine⟨_,fun i=>([.slice (some ⟨b2,o2,none⟩) at_.length c1,.int .i64 (k:Int),.pointer (some ⟨b2,o2+k*2,none⟩),.pointer (some ⟨b2,o2+k*2+1,none⟩),.int .i64 wt,.slice (some ⟨b,o,none⟩) l.length c,.slice (some ⟨b2,o2,none⟩) at_.length c1,.int .i64 (k:Int),.pointer (some ⟨b2,o2+k*2,none⟩),.pointer (some ⟨b2,o2+k*2,none⟩),.int .i64 pos,.int .i64 (cn:Int),.tuple #[.agg #[.int .i64 fx,.int .i64 fy],.int .i64 0],.tuple #[.agg #[.int .i64 fx,.int .i64 fy],.int .i64 0],.agg #[.int .i64 fx,.int .i64 fy],.int .i64 0,.pointer (some ⟨g11,0,none⟩),undef,.int .i64 0]:List Value).getD i undef,rfl,agreeL_all (by refine⟨?_,?_,?_,?_,?_,?_,?_,?_,?_,?_,?_,?_,?_,?_,?_,?_,?_,?_,?_,trivial⟩ <;> first | exact .inl rfl | exact .inr (.inr rfl) | exact .inr (.inl (by decide +kernel))),rfl,?_⟩
   rw[HPJ.out]
   exact H21 W2 g11 (hT.below hb_W2) (n11.below hb_W2)
  exact absurd hr (by rw[show rdP .any _ [12,17] 17=false by kernel_rfl];decide)
 have H10:∀ (W:World),RfS w W s9 ov i ((borneL l at_).take i) ⟨qn,qd⟩→PJ 3 [12,16,17] (fun i=>([.slice (some ⟨b2,o2,none⟩) at_.length c1,.int .i64 (k:Int),.pointer (some ⟨b2,o2+k*2,none⟩),.pointer (some ⟨b2,o2+k*2+1,none⟩),.int .i64 wt,.slice (some ⟨b,o,none⟩) l.length c,.slice (some ⟨b2,o2,none⟩) at_.length c1,.int .i64 (k:Int),.pointer (some ⟨b2,o2+k*2,none⟩),.pointer (some ⟨b2,o2+k*2,none⟩),.int .i64 pos,.int .i64 (cn:Int),.tuple #[.agg #[.int .i64 fx,.int .i64 fy],.int .i64 0],.tuple #[.agg #[.int .i64 fx,.int .i64 fy],.int .i64 0],.agg #[.int .i64 fx,.int .i64 fy],.int .i64 0,undef,undef,.int .i64 0]:List Value).getD i undef) W:=by
  intro W hT
  rw[← HPJ.out]
  have y0:=(hT.b.cell (p:=⟨b2,o2+k*2,none⟩) Hb2.out).trans HX0.out
  have y1:=(hT.b.cell (p:=⟨b2,o2+k*2+1,none⟩) Hb2.out).trans HX1.out
  refine poJ_step (L:=[12,16,17]) rfl (by decide) ?_ ?_
  ·simp only[putAll,Act.put,zs1,zs2,zs3,readsQ]
   refine⟨?_,?_,?_,?_,?_,?_,?_,?_,?_,?_,?_,?_,?_,?_,?_,?_,?_,?_,?_,trivial⟩
   all_goals first
    | exact .inl rfl
    | exact .inr (.inl (by decide +kernel))
    | (refine .inr (.inr ?_);go_simp;done)
  intro i o hi hr ho
  simp only[List.mem_cons,List.not_mem_nil,or_false] at hi
  rcases hi with rfl | rfl | rfl
  ·obtain rfl:=Option.some.inj ho
   clear hr ho
   refine .inr (.inr ⟨120,#[.int .i64 wt,.int .i64 (cn:Int)],by simp only[putAll,Act.put,zs1,zs2,zs3,];go_simp,?_⟩)
   refine (HMake.out W).mono ?_
   rintro e W2 ⟨rfl,hb_W2⟩
   refine⟨_,fun i=>([.slice (some ⟨b2,o2,none⟩) at_.length c1,.int .i64 (k:Int),.pointer (some ⟨b2,o2+k*2,none⟩),.pointer (some ⟨b2,o2+k*2+1,none⟩),.int .i64 wt,.slice (some ⟨b,o,none⟩) l.length c,.slice (some ⟨b2,o2,none⟩) at_.length c1,.int .i64 (k:Int),.pointer (some ⟨b2,o2+k*2,none⟩),.pointer (some ⟨b2,o2+k*2,none⟩),.int .i64 pos,.int .i64 (cn:Int),.tuple #[.agg #[.int .i64 fx,.int .i64 fy],.int .i64 0],.tuple #[.agg #[.int .i64 fx,.int .i64 fy],.int .i64 0],.agg #[.int .i64 fx,.int .i64 fy],.int .i64 0,undef,undef,.int .i64 0]:List Value).getD i undef,rfl,agreeL_all (by refine⟨?_,?_,?_,?_,?_,?_,?_,?_,?_,?_,?_,?_,?_,?_,?_,?_,?_,?_,?_,trivial⟩ <;> first | exact .inl rfl | exact .inr (.inr rfl) | exact .inr (.inl (by decide +kernel))),rfl,?_⟩
   rw[HPJ.out]
   exact H20 W2 (hT.below hb_W2)
  ·obtain rfl:=Option.some.inj ho
   clear hr ho
   refine .inr (.inl ⟨_,(W.alloc (.cells #[.int .i64 0,.int .i64 0] 23)),fun i=>([.slice (some ⟨b2,o2,none⟩) at_.length c1,.int .i64 (k:Int),.pointer (some ⟨b2,o2+k*2,none⟩),.pointer (some ⟨b2,o2+k*2+1,none⟩),.int .i64 wt,.slice (some ⟨b,o,none⟩) l.length c,.slice (some ⟨b2,o2,none⟩) at_.length c1,.int .i64 (k:Int),.pointer (some ⟨b2,o2+k*2,none⟩),.pointer (some ⟨b2,o2+k*2,none⟩),.int .i64 pos,.int .i64 (cn:Int),.tuple #[.agg #[.int .i64 fx,.int .i64 fy],.int .i64 0],.tuple #[.agg #[.int .i64 fx,.int .i64 fy],.int .i64 0],.agg #[.int .i64 fx,.int .i64 fy],.int .i64 0,.pointer (some ⟨W.heap.size,0,none⟩),undef,.int .i64 0]:List Value).getD i undef,by simp only[putAll,Act.put,zs1,zs2,zs3,];go_simp,agreeL_all (by refine⟨?_,?_,?_,?_,?_,?_,?_,?_,?_,?_,?_,?_,?_,?_,?_,?_,?_,?_,?_,trivial⟩ <;> first | exact .inl rfl | exact .inr (.inr rfl) | exact .inr (.inl (by decide +kernel))),rfl,?_⟩)
   rw[HPJ.out]
   exact H11 (W.alloc (.cells #[.int .i64 0,.int .i64 0] 23)) W.heap.size (hT.alloc _) (NwR.new hT _)
  exact absurd hr (by rw[show rdP .any _ [12,16,17] 17=false by kernel_rfl];decide)
 have H01:∀ (W:World) (g11:Nat),RfS w W s9 ov i ((borneL l at_).take i) ⟨qn,qd⟩→NwR W w.heap.size s9 ov g11 #[.int .i64 0,.int .i64 0]→PJ 3 [11,12,17] (fun i=>([.slice (some ⟨b2,o2,none⟩) at_.length c1,.int .i64 (k:Int),.pointer (some ⟨b2,o2+k*2,none⟩),.pointer (some ⟨b2,o2+k*2+1,none⟩),.int .i64 wt,.slice (some ⟨b,o,none⟩) l.length c,.slice (some ⟨b2,o2,none⟩) at_.length c1,.int .i64 (k:Int),.pointer (some ⟨b2,o2+k*2,none⟩),.pointer (some ⟨b2,o2+k*2,none⟩),.int .i64 pos,.int .i64 (cn:Int),.tuple #[.agg #[.int .i64 fx,.int .i64 fy],.int .i64 0],.tuple #[.agg #[.int .i64 fx,.int .i64 fy],.int .i64 0],.agg #[.int .i64 fx,.int .i64 fy],.int .i64 0,.pointer (some ⟨g11,0,none⟩),undef,.int .i64 0]:List Value).getD i undef) W:=by
  intro W g11 hT n11
  rw[← HPJ.out]
  have y0:=(hT.b.cell (p:=⟨b2,o2+k*2,none⟩) Hb2.out).trans HX0.out
  have y1:=(hT.b.cell (p:=⟨b2,o2+k*2+1,none⟩) Hb2.out).trans HX1.out
  refine poJ_step (L:=[11,12,17]) rfl (by decide) ?_ ?_
  ·simp only[putAll,Act.put,zs1,zs2,zs3,readsQ]
   refine⟨?_,?_,?_,?_,?_,?_,?_,?_,?_,?_,?_,?_,?_,?_,?_,?_,?_,?_,?_,trivial⟩
   all_goals first
    | exact .inl rfl
    | exact .inr (.inl (by decide +kernel))
    | (refine .inr (.inr ?_);go_simp;done)
  intro i o hi hr ho
  simp only[List.mem_cons,List.not_mem_nil,or_false] at hi
  rcases hi with rfl | rfl | rfl
  ·obtain rfl:=Option.some.inj ho
   clear hr ho
   refine .inr (.inr ⟨118,#[.slice (some ⟨b,o,none⟩) l.length c,.int .i64 pos],by simp only[putAll,Act.put,zs1,zs2,zs3,];go_simp,?_⟩)
   refine (HCn.out W hT.b).mono ?_
   rintro e W2 ⟨rfl,hb_W2⟩
   refine⟨_,fun i=>([.slice (some ⟨b2,o2,none⟩) at_.length c1,.int .i64 (k:Int),.pointer (some ⟨b2,o2+k*2,none⟩),.pointer (some ⟨b2,o2+k*2+1,none⟩),.int .i64 wt,.slice (some ⟨b,o,none⟩) l.length c,.slice (some ⟨b2,o2,none⟩) at_.length c1,.int .i64 (k:Int),.pointer (some ⟨b2,o2+k*2,none⟩),.pointer (some ⟨b2,o2+k*2,none⟩),.int .i64 pos,.int .i64 (cn:Int),.tuple #[.agg #[.int .i64 fx,.int .i64 fy],.int .i64 0],.tuple #[.agg #[.int .i64 fx,.int .i64 fy],.int .i64 0],.agg #[.int .i64 fx,.int .i64 fy],.int .i64 0,.pointer (some ⟨g11,0,none⟩),undef,.int .i64 0]:List Value).getD i undef,rfl,agreeL_all (by refine⟨?_,?_,?_,?_,?_,?_,?_,?_,?_,?_,?_,?_,?_,?_,?_,?_,?_,?_,?_,trivial⟩ <;> first | exact .inl rfl | exact .inr (.inr rfl) | exact .inr (.inl (by decide +kernel))),rfl,?_⟩
   rw[HPJ.out]
   exact H11 W2 g11 (hT.below hb_W2) (n11.below hb_W2)
  ·exact absurd hr (by rw[show rdP .any _ [11,12,17] 12=false by kernel_rfl];decide)
  exact absurd hr (by rw[show rdP .any _ [11,12,17] 17=false by kernel_rfl];decide)
 have H00:∀ (W:World),RfS w W s9 ov i ((borneL l at_).take i) ⟨qn,qd⟩→PJ 4 [11,12,16,17] (fun i=>([.slice (some ⟨b2,o2,none⟩) at_.length c1,.int .i64 (k:Int),.pointer (some ⟨b2,o2+k*2,none⟩),.pointer (some ⟨b2,o2+k*2+1,none⟩),.int .i64 wt,.slice (some ⟨b,o,none⟩) l.length c,.slice (some ⟨b2,o2,none⟩) at_.length c1,.int .i64 (k:Int),.pointer (some ⟨b2,o2+k*2,none⟩),.pointer (some ⟨b2,o2+k*2,none⟩),.int .i64 pos,.int .i64 (cn:Int),.tuple #[.agg #[.int .i64 fx,.int .i64 fy],.int .i64 0],.tuple #[.agg #[.int .i64 fx,.int .i64 fy],.int .i64 0],.agg #[.int .i64 fx,.int .i64 fy],.int .i64 0,undef,undef,.int .i64 0]:List Value).getD i undef) W:=by
  intro W hT
  rw[← HPJ.out]
  have y0:=(hT.b.cell (p:=⟨b2,o2+k*2,none⟩) Hb2.out).trans HX0.out
  have y1:=(hT.b.cell (p:=⟨b2,o2+k*2+1,none⟩) Hb2.out).trans HX1.out
  refine poJ_step (L:=[11,12,16,17]) rfl (by decide) ?_ ?_
  ·simp only[putAll,Act.put,zs1,zs2,zs3,readsQ]
   refine⟨?_,?_,?_,?_,?_,?_,?_,?_,?_,?_,?_,?_,?_,?_,?_,?_,?_,?_,?_,trivial⟩
   all_goals first
    | exact .inl rfl
    | exact .inr (.inl (by decide +kernel))
    | (refine .inr (.inr ?_);go_simp;done)
  intro i o hi hr ho
  simp only[List.mem_cons,List.not_mem_nil,or_false] at hi
  rcases hi with rfl | rfl | rfl | rfl
  ·obtain rfl:=Option.some.inj ho
   clear hr ho
   refine .inr (.inr ⟨118,#[.slice (some ⟨b,o,none⟩) l.length c,.int .i64 pos],by simp only[putAll,Act.put,zs1,zs2,zs3,];go_simp,?_⟩)
   refine (HCn.out W hT.b).mono ?_
   rintro e W2 ⟨rfl,hb_W2⟩
   refine⟨_,fun i=>([.slice (some ⟨b2,o2,none⟩) at_.length c1,.int .i64 (k:Int),.pointer (some ⟨b2,o2+k*2,none⟩),.pointer (some ⟨b2,o2+k*2+1,none⟩),.int .i64 wt,.slice (some ⟨b,o,none⟩) l.length c,.slice (some ⟨b2,o2,none⟩) at_.length c1,.int .i64 (k:Int),.pointer (some ⟨b2,o2+k*2,none⟩),.pointer (some ⟨b2,o2+k*2,none⟩),.int .i64 pos,.int .i64 (cn:Int),.tuple #[.agg #[.int .i64 fx,.int .i64 fy],.int .i64 0],.tuple #[.agg #[.int .i64 fx,.int .i64 fy],.int .i64 0],.agg #[.int .i64 fx,.int .i64 fy],.int .i64 0,undef,undef,.int .i64 0]:List Value).getD i undef,rfl,agreeL_all (by refine⟨?_,?_,?_,?_,?_,?_,?_,?_,?_,?_,?_,?_,?_,?_,?_,?_,?_,?_,?_,trivial⟩ <;> first | exact .inl rfl | exact .inr (.inr rfl) | exact .inr (.inl (by decide +kernel))),rfl,?_⟩
   rw[HPJ.out]
   exact H10 W2 (hT.below hb_W2)
  ·exact absurd hr (by rw[show rdP .any _ [11,12,16,17] 12=false by kernel_rfl];decide)
  ·obtain rfl:=Option.some.inj ho
   clear hr ho
   refine .inr (.inl ⟨_,(W.alloc (.cells #[.int .i64 0,.int .i64 0] 23)),fun i=>([.slice (some ⟨b2,o2,none⟩) at_.length c1,.int .i64 (k:Int),.pointer (some ⟨b2,o2+k*2,none⟩),.pointer (some ⟨b2,o2+k*2+1,none⟩),.int .i64 wt,.slice (some ⟨b,o,none⟩) l.length c,.slice (some ⟨b2,o2,none⟩) at_.length c1,.int .i64 (k:Int),.pointer (some ⟨b2,o2+k*2,none⟩),.pointer (some ⟨b2,o2+k*2,none⟩),.int .i64 pos,.int .i64 (cn:Int),.tuple #[.agg #[.int .i64 fx,.int .i64 fy],.int .i64 0],.tuple #[.agg #[.int .i64 fx,.int .i64 fy],.int .i64 0],.agg #[.int .i64 fx,.int .i64 fy],.int .i64 0,.pointer (some ⟨W.heap.size,0,none⟩),undef,.int .i64 0]:List Value).getD i undef,by simp only[putAll,Act.put,zs1,zs2,zs3,];go_simp,agreeL_all (by refine⟨?_,?_,?_,?_,?_,?_,?_,?_,?_,?_,?_,?_,?_,?_,?_,?_,?_,?_,?_,trivial⟩ <;> first | exact .inl rfl | exact .inr (.inr rfl) | exact .inr (.inl (by decide +kernel))),rfl,?_⟩)
   rw[HPJ.out]
   exact H01 (W.alloc (.cells #[.int .i64 0,.int .i64 0] 23)) W.heap.size (hT.alloc _) (NwR.new hT _)
  exact absurd hr (by rw[show rdP .any _ [11,12,16,17] 17=false by kernel_rfl];decide)
 exact H00 W6 HT6.out
end Go.Proofs.YtknkhnahflmjiaaGreatDoor
