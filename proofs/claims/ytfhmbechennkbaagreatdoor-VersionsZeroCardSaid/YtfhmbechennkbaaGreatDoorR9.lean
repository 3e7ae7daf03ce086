/- Lemmas. -/
import Derived.Test.YtfhmbechennkbaaGreatDoorC7
import Derived.Test.YtfhmbechennkbaaGreatDoorR8
namespace Go.Proofs.YtfhmbechennkbaaGreatDoor
set_option maxRecDepth 100000
set_option maxHeartbeats 40000000
open Go.RowKit Go.Shelf
theorem qqK (v:Value) (l:List Rat) (K:Nat) (w:World) (hv:EqsAt w v l K) (hK:K≤300000) (hl:l.length≤100):Calls Tryz.prog 86 #[v] w (FracsPost l w):=by
 obtain⟨A,c,rfl,gC,dr,hR⟩:=hv
 unfold maxLen at dr
 have HR:=zh hR
 have HK:=zh hK
 obtain⟨iF,hiF,LF,LD,LC⟩:=info_parts Dt
 clear hR hK
 go_enter Tryz.func86,Tryz.ntmps86
 go_wp2_with fail
 go_loopw [4,5] (fun ox ix wr=>∃ k:Nat,k≤l.length∧ix = .int .i64 k∧Y0 (wr.ownsRow w.heap.size 82 2 ox k (((l.take k).map B5).flatMap FrT.cells))∧Y0 (iU (l.take k)=true)∧Y0 (Below w.heap.size w wr)) (fun _ ix _=>l.length-(intOf ix).toNat)
 case atStart=>exact⟨0,yI _,rfl,yJ _ _ _ _,rfl,yB _ _⟩
 obtain⟨k,hk,rfl,HO,HA,HB⟩:=hrel
 have k0:(0:Int)≤(k:Int):=yE _
 by_cases aB:k<l.length
 ·have k1:(k:Int)<(l.length:Int):=by omega
  obtain⟨g,rfl,hg,mR⟩:=HR.o (by omega)
  obtain⟨gM,gQ,gH,gK,gL,gP,gG,gJ,y0,y1,y2,y3,hE⟩:=mR k aB
  have HE:=zh hE
  have y0:=(HB.o.cell (p:=⟨g,k*4,none⟩) hg).trans y0
  have y1:=(HB.o.cell (p:=⟨g,k*4+1,none⟩) hg).trans y1
  have y2:=(HB.o.cell (p:=⟨g,k*4+2,none⟩) hg).trans y2
  have y3:=(HB.o.cell (p:=⟨g,k*4+3,none⟩) hg).trans y3
  have HTk:Y0 (l.take (k+1)=l.take k++[l[k]]):=aC l k aB
  have mw:=zh (fun h:ju l[k]=false=>uM aB h)
  clear hE hg mR
  generalize l[k]=q at *
  go_wp2_with fail
  refine (K4 _ q K _ (HE.o.grow HB.o) HK.o).mono ?_
  rintro e w5 ⟨rfl,bg⟩
  have cN:=zh (HB.o.trans (bg.mono HB.o.size))
  have kg:=zh (qC HO.o bg)
  clear bg y0 y1 y2 y3
  cases hq:ju q
  case true=>
   rw[Jn hq]
   have HQ:=zh hq
   have ip:=cN.o.size
   have Oi:=zh ((kg.o.alloc (.cells #[.int .i64 q.num,.int .i64 (q.den:Int)] 82)).alloc (.cells #[.int .i64 q.num,.int .i64 (q.den:Int)] 82))
   have rV:=World.news_of_block (Blk.new (w5.alloc (.cells #[.int .i64 q.num,.int .i64 (q.den:Int)] 82)) 82 #[.int .i64 q.num,.int .i64 (q.den:Int)])
   rw[yZ] at rV
   have sK:=zh rV
   have HAl:Y0 (iU (l.take (k+1))=true):=by
    unfold Y0
    rw[HTk.o]
    unfold iU
    rw[List.all_append]
    have h:=HA.o
    unfold iU at h
    rw[h]
    simpa using HQ.o
   clear hq rV HO kg
   go_wp2_with (at_builtin;refine wpList_append_own _ rfl _ _ 59 rfl w.heap.size 82 iF (.agg #[.int .i64 0,.int .i64 0]) 2 16 Tryz.underlying59 hiF LF LD LC rfl (by decide) _ _ _ rfl Oi.o ⟨w5.heap.size+1,0,none⟩ 1 1 [.int .i64 q.num,.int .i64 (q.den:Int)] rfl rfl sK.o (by simp[Value.oneCell']) (by unfold maxLen;omega) (by omega) (by simp;omega) ?_;intro v' w1 fV dL _;obtain⟨g',oV,rfl⟩:=ownsRow_succ fV)
   have iq:=((cN.o.alloc ip (.cells #[.int .i64 q.num,.int .i64 (q.den:Int)] 82)).alloc (by simp;omega) (.cells #[.int .i64 q.num,.int .i64 (q.den:Int)] 82)).grown dL (by simp;omega) (fun j ej=>(Oi.o.lt j ej).1)
   have lK:=zh iq
   have hO6:w1.ownsRow w.heap.size 82 2 (.slice (some ⟨g',0,none⟩) (k+1) oV) (k+1) (((l.take (k+1)).map B5).flatMap FrT.cells):=by
    rw[HTk.o,yS,List.flatMap_append]
    exact fV
   have tS:=zh hO6
   clear iq hO6 fV dL Oi cN HB HA
   go_roundw
   case rel=>exact⟨k+1,by omega,by go_num,tS,HAl,lK⟩
   simp[intOf];omega
  rw[Jo hq]
  have HQ:=zh (mw.o hq)
  have ip:=cN.o.size
  have lK:=zh (cN.o.alloc ip (.cells #[.int .i64 0,.int .i64 0] 82))
  clear hq HO kg
  go_wp2_with fail
  refine YI (results_tmp2 rfl _ _ _) (by rfl) ?_
  exact⟨lK.o,.inr ⟨HQ.o,rfl⟩⟩
 obtain rfl:k=l.length:=by omega
 rw[yT] at HO HA
 go_wp2_with fail
 refine YI (results_tmp2 rfl _ _ _) (by rfl) ?_
 exact⟨HB.o,.inl ⟨HA.o,_,rfl,HO.o⟩⟩
theorem Rx (x:Rat):(sX x==0)=decide (x=0):=by
 unfold sX
 by_cases h:x=0
 ·subst h
  rfl
 rw[yC h,beq_eq_false_iff_ne]
 by_cases h1:x<0
 ·rw[if_pos h1]
  decide
 rw[if_neg h1,if_neg h]
 decide
def gCs (v0:Value):GPost:=⟨fun v=>v=v0,fun _ _=>True,⟨_,rfl⟩,fun _ _ _ _ _=>trivial,false⟩
theorem Rm {b:BeamT} (hb:BeamOk b) (h1:b.sup.length=1):(sX (dF b (ak b 0)-dF (au b) (b.len-ak b 0))==0)=cJ b:=by
 have h2:=uC hb
 rw[h1] at h2
 have h3:(0:Rat)-dF b (ak b 0)=bA b:=by rw[tG];rfl
 rw[Rx]
 unfold cJ
 rw[if_pos h1,← h2,← h3]
 have e:b.sup.length-1=0:=by omega
 simp only[Nat.sub_self] at h2 ⊢
 rw[decide_eq_decide]
 constructor
 ·intro h
  grind
 intro h
 grind
theorem ZL (v:Value) (b:BeamT) (w:World) (hv:BeamAt w w.heap.size v b) (hb:BeamOk b) (hT:∀ (u:Value) (w1:World),BeamAt w1 w1.heap.size u b→Calls Tryz.prog 204 #[u] w1 (TurnedPost b w1)) :
  Calls Tryz.prog 129 #[v] w fun e w'=>e = .returned (.bool (!cJ b))∧Below w.heap.size w w':=by
 have Mz:=hv
 obtain⟨As,cs,Al,cl,rfl,hS,-⟩:=hv
 obtain⟨_,_,e,_,mR,uD⟩:=hS.open_
 injection e with e1 _ e2
 subst e1 e2
 have h1:=hb.sup1
 have h4:=hb.sup 0 h1.1
 unfold maxLen at mR
 obtain⟨bs,os,rfl,ip,D6⟩:=uD 0 h1.1
 have WL:=D6 0 h1.1
 have e0:b.sup[0]'h1.1=ak b 0:=by unfold ak;rw[List.getD_eq_getElem?_getD,List.getElem?_eq_getElem h1.1];rfl
 rw[e0,Nat.add_zero] at WL
 have Hb:=zh hb
 have HT:=zh hT
 have HA0:=zh h4
 have bw:=zh ((yB _ w).alloc (yA _) (.cells (zC b (some ⟨bs,os,none⟩) cs Al cl) 122))
 have HV:=zh (Mz.grow bw.o)
 have bZ:=zh (Blk.new w 122 (zC b (some ⟨bs,os,none⟩) cs Al cl))
 have z0:=(bw.o.cell (p:=⟨bs,os,none⟩) ip).trans WL
 have s0:(0:Int)<(b.sup.length:Int):=by omega
 have Yj:=zh (Rm hb)
 have HTn:Y0 (b.sup.length≠1→cJ b=true):=fun h=>by unfold cJ;rw[if_neg h]
 clear uD D6 hb hS hT Mz h4 e0 WL
 go_enter Tryz.func129,Tryz.ntmps129
 go_upto_region 1 with fail
 generalize w.alloc (.cells (zC b (some ⟨bs,os,none⟩) cs Al cl) 122)=W1 at *
 obtain⟨y0,y1,y2,y3,y4⟩:=bZ.o.c5
 generalize ak b 0=sa at *
 by_cases hn:b.sup.length=1
 ·have hd:((b.sup.length:Int)==1)=true:=beq_iff_eq.2 (by omega)
  have HTc:=zh (Yj.o hn)
  clear hn Yj HTn
  have rj:=YL y0
  have ri:=YL y1
  have rh:=YL y2
  have rf:=YL y3
  have YP:=YL y4
  have MN:=YL z0
  clear y0 y1 y2 y3 y4 z0
  refine ag 20 (fun jx=>if jx=10 then some (jb (dF b sa) 1270) else if jx=16 then some (jb (dF (au b) (b.len-sa)) 1270) else if jx=17 then some (gCs (.int .i64 (sX (dF b sa-dF (au b) (b.len-sa))))) else none) (by kernel_rfl) (by kernel_rfl) ?_
  simp only[aU,aT,aW,aX]
  first | refine aR (by first | rfl | go_simp) rfl rfl ?_ | refine bk rfl (by first | rfl | go_simp) rfl ?_
  go_big_quiet_step (fail)
  refine YH ?_
  first | refine aR (by first | rfl | go_simp) rfl rfl ?_ | refine bk rfl (by first | rfl | go_simp) rfl ?_
  go_big_quiet_step (fail)
  refine YH ?_
  first | refine aR (by first | rfl | go_simp) rfl rfl ?_ | refine bk rfl (by first | rfl | go_simp) rfl ?_
  go_big_quiet_step (fail)
  refine YH ?_
  first | refine aR (by first | rfl | go_simp) rfl rfl ?_ | refine bk rfl (by first | rfl | go_simp) rfl ?_
  go_big_quiet_step (fail)
  refine YH ?_
  first | refine aR (by first | rfl | go_simp) rfl rfl ?_ | refine bk rfl (by first | rfl | go_simp) rfl ?_
  go_big_quiet_step (fail)
  refine YH ?_
  first | refine aR (by first | rfl | go_simp) rfl rfl ?_ | refine bk rfl (by first | rfl | go_simp) rfl ?_
  go_big_quiet_step (fail)
  refine YH ?_
  first | refine aR (by first | rfl | go_simp) rfl rfl ?_ | refine bk rfl (by first | rfl | go_simp) rfl ?_
  go_big_quiet_step (fail)
  refine YH ?_
  first | refine aR (by first | rfl | go_simp) rfl rfl ?_ | refine bk rfl (by first | rfl | go_simp) rfl ?_
  go_big_quiet_step (fail)
  refine YH ?_
  first | refine aR (by first | rfl | go_simp) rfl rfl ?_ | refine bk rfl (by first | rfl | go_simp) rfl ?_
  go_big_quiet_step (fail)
  refine YH ?_
  first | refine aR (by first | rfl | go_simp) rfl rfl ?_ | refine bk rfl (by first | rfl | go_simp) rfl ?_
  go_big_quiet_step (fail)
  refine YH ?_
  refine jh (by first | rfl | go_simp) rfl (fun w1 ao _=>⟨168,#[.agg (zC b (some ⟨bs,os,none⟩) cs Al cl),.int .i64 sa],by go_simp,Zg (K3 _ b sa w1 (HV.o.grow ao) Hb.o HA0.o.1 HA0.o.2)⟩) ?_
  rintro _ ⟨qxt,qxv,qxp,qxr,qxs,qxu,qxo,qxq,rfl⟩
  simp only[Act.put,aJ,aI,aH]
  first | refine aR (by first | rfl | go_simp) rfl rfl ?_ | refine bk rfl (by first | rfl | go_simp) rfl ?_
  go_big_quiet_step (fail)
  refine YH ?_
  first | refine aR (by first | rfl | go_simp) rfl rfl ?_ | refine bk rfl (by first | rfl | go_simp) rfl ?_
  go_big_quiet_step (fail)
  refine YH ?_
  first | refine aR (by first | rfl | go_simp) rfl rfl ?_ | refine bk rfl (by first | rfl | go_simp) rfl ?_
  go_big_quiet_step (fail)
  refine YH ?_
  first | refine aR (by first | rfl | go_simp) rfl rfl ?_ | refine bk rfl (by first | rfl | go_simp) rfl ?_
  go_big_quiet_step (fail)
  refine YH ?_
  first | refine aR (by first | rfl | go_simp) rfl rfl ?_ | refine bk rfl (by first | rfl | go_simp) rfl ?_
  go_big_quiet_step (fail)
  refine YH ?_
  refine jh (by first | rfl | go_simp) rfl (fun w1 ao _=>⟨169,#[.agg (zC b (some ⟨bs,os,none⟩) cs Al cl),.int .i64 sa],by go_simp,Zg (CQ _ b sa w1 (HV.o.grow ao) Hb.o HA0.o.1 HA0.o.2 HT.o)⟩) ?_
  rintro _ ⟨qxl,qxn,qxh,qxj,qxk,qxm,qxg,qxi,rfl⟩
  simp only[Act.put,aJ,aI,aH]
  refine jh (by first | rfl | go_simp) rfl ?_ ?_
  ·intro w1 ao hk
   have Ch:ExqAt w1 w1.heap.size (.agg (zD qxt qxv qxp qxr qxs qxu qxo qxq)) (dF b sa) (1270):=hk 13 (yG (by kernel_rfl))
   have h19:ExqAt w1 w1.heap.size (.agg (zD qxl qxn qxh qxj qxk qxm qxg qxi)) (dF (au b) (b.len-sa)) (1270):=hk 19 (yG (by kernel_rfl))
   exact⟨167,#[.agg (zD qxt qxv qxp qxr qxs qxu qxo qxq),.agg (zD qxl qxn qxh qxj qxk qxm qxg qxi)],by go_simp,(qzM _ _ (dF b sa) (dF (au b) (b.len-sa)) 1270 1270 w1 Ch h19 (by decide)).mono fun _ _ hp=>⟨_,hp.1,hp.2,rfl,trivial⟩⟩
  rintro _ rfl
  simp only[Act.put,aJ,aI,aH]
  have HTd:Y0 ((!(sX (dF b sa-dF (au b) (b.len-sa))==0)) = !cJ b):=by unfold Y0;rw[HTc.o]
  generalize sX (dF b sa-dF (au b) (b.len-sa))=z at *
  first | refine aR (by first | rfl | go_simp) rfl rfl ?_ | refine bk rfl (by first | rfl | go_simp) rfl ?_
  go_big_quiet_step (fail)
  refine YH ?_
  first | refine aR (by first | rfl | go_simp) rfl rfl ?_ | refine bk rfl (by first | rfl | go_simp) rfl ?_
  go_big_quiet_step (fail)
  refine YH ?_
  refine Zc ?_
  intro w8 aM hF
  have dP:=zh (bw.o.trans (aM.mono bw.o.size))
  clear hF aM
  go_wp2_with fail
  go_ret
  exact⟨congrArg (fun x=>Ending.returned (.bool x)) HTd.o,dP.o⟩
 have hd:((b.sup.length:Int)==1)=false:=beq_eq_false_iff_ne.2 (by omega)
 have HTd:Y0 (false = !cJ b):=by unfold Y0;rw[HTn.o hn];rfl
 have dP:=zh (Zf bw.o)
 clear hn Yj HTn
 go_quiet (fail)
 go_wp2_with fail
 go_ret
 exact⟨congrArg (fun x=>Ending.returned (.bool x)) HTd.o,dP.o _⟩
theorem XY {b:BeamT} {k:Nat} (hk:k<b.loads.length) (h:cK b.len b.loads[k]=false):dt b=false:=by
 unfold dt
 have:b.loads.all (cK b.len)=false:=by
  rw[List.all_eq_false]
  exact⟨b.loads[k],yV hk,by rw[h];decide⟩
 rw[this,Bool.and_false]
theorem qqx {b:BeamT} (h1:dj b=true) (h2:cR b b.sup.length=true) (h3:(b.loads.take b.loads.length).all (cK b.len)=true):dt b=true:=by
 rw[yT] at h3
 unfold dt
 rw[h1,h2,h3]
 rfl
theorem ZK (v:Value) (b:BeamT) (w:World) (hv:BeamAt w w.heap.size v b) (hn:b.name.size≤maxLen):Calls Tryz.prog 128 #[v] w fun e w'=>e = .returned (.bool (dt b))∧Below w.heap.size w w':=by
 obtain⟨As,cs,Al,cl,rfl,hS,hL⟩:=hv
 have HN:=fun W=>pC b.name hn W
 obtain⟨_,_,e,mz,jU,uD⟩:=hS.open_
 injection e with e1 _ e2
 subst e1 e2
 obtain⟨_,_,e,pL,rW,oN⟩:=hL.open_
 injection e with e1 _ e2
 subst e1 e2
 unfold maxLen at jU rW
 have HSc:=zh uD
 have vn:=zh oN
 have HD:=zh (Blk.new w 122 (zC b As cs Al cl))
 have HB:=zh ((yB _ w).alloc (yA _) (.cells (zC b As cs Al cl) 122))
 clear hS uD hn hL oN
 go_enter Tryz.func128,Tryz.ntmps128
 go_wp2_with (exact Go.WalkKit.wp_stop)
 generalize w.alloc (.cells (zC b As cs Al cl) 122)=W1 at *
 obtain⟨y0,y1,y2,y3,y4⟩:=HD.o.c5
 have Bi:=HN W1
 cases d0:da b.name
 ·rw[d0] at Bi
  have HV:Y0 (dt b=false):=by unfold Y0;refine cM ?_;unfold dj;simp only[d0];rfl
  go_wp2_with (go_at_call 47;refine Bi.mono ?_;rintro e w' ⟨rfl,rfl⟩)
  go_ret
  exact⟨Ze HV.o.symm,HB.o⟩
 rw[d0] at Bi
 by_cases c1:b.len<1
 ·have d1:decide (b.len<1)=true:=yD c1
  have HV:Y0 (dt b=false):=by unfold Y0;refine cM ?_;unfold dj;simp only[d0,d1];rfl
  go_wp2_with (go_at_call 47;refine Bi.mono ?_;rintro e w' ⟨rfl,rfl⟩)
  go_ret
  exact⟨Ze HV.o.symm,HB.o⟩
 have d1:decide (b.len<1)=false:=yC c1
 by_cases c2:1048576<b.len
 ·have d2:decide (1048576<b.len)=true:=yD c2
  have HV:Y0 (dt b=false):=by unfold Y0;refine cM ?_;unfold dj;simp only[d0,d1,d2];rfl
  go_wp2_with (go_at_call 47;refine Bi.mono ?_;rintro e w' ⟨rfl,rfl⟩)
  go_ret
  exact⟨Ze HV.o.symm,HB.o⟩
 have d2:decide (1048576<b.len)=false:=yC c2
 by_cases c3:b.even<0
 ·have d3:decide (b.even<0)=true:=yD c3
  have HV:Y0 (dt b=false):=by unfold Y0;refine cM ?_;unfold dj;simp only[d0,d1,d2,d3];rfl
  go_wp2_with (go_at_call 47;refine Bi.mono ?_;rintro e w' ⟨rfl,rfl⟩)
  go_ret
  exact⟨Ze HV.o.symm,HB.o⟩
 have d3:decide (b.even<0)=false:=yC c3
 by_cases c4:1048576<b.even
 ·have d4:decide (1048576<b.even)=true:=yD c4
  have HV:Y0 (dt b=false):=by unfold Y0;refine cM ?_;unfold dj;simp only[d0,d1,d2,d3,d4];rfl
  go_wp2_with (go_at_call 47;refine Bi.mono ?_;rintro e w' ⟨rfl,rfl⟩)
  go_ret
  exact⟨Ze HV.o.symm,HB.o⟩
 have d4:decide (1048576<b.even)=false:=yC c4
 by_cases c5:(b.sup.length:Int)<1
 ·have d5:decide ((b.sup.length:Int)<1)=true:=yD c5
  have HV:Y0 (dt b=false):=by unfold Y0;refine cM ?_;unfold dj;simp only[d0,d1,d2,d3,d4,d5];rfl
  go_wp2_with (go_at_call 47;refine Bi.mono ?_;rintro e w' ⟨rfl,rfl⟩)
  go_ret
  exact⟨Ze HV.o.symm,HB.o⟩
 have d5:decide ((b.sup.length:Int)<1)=false:=yC c5
 by_cases c6:10<(b.sup.length:Int)
 ·have d6:decide (10<(b.sup.length:Int))=true:=yD c6
  have HV:Y0 (dt b=false):=by unfold Y0;refine cM ?_;unfold dj;simp only[d0,d1,d2,d3,d4,d5,d6];rfl
  go_wp2_with (go_at_call 47;refine Bi.mono ?_;rintro e w' ⟨rfl,rfl⟩)
  go_ret
  exact⟨Ze HV.o.symm,HB.o⟩
 have d6:decide (10<(b.sup.length:Int))=false:=yC c6
 by_cases c7:40<(b.loads.length:Int)
 ·have d7:decide (40<(b.loads.length:Int))=true:=yD c7
  have HV:Y0 (dt b=false):=by unfold Y0;refine cM ?_;unfold dj;simp only[d0,d1,d2,d3,d4,d5,d6,d7];rfl
  go_wp2_with (go_at_call 47;refine Bi.mono ?_;rintro e w' ⟨rfl,rfl⟩)
  go_ret
  exact⟨Ze HV.o.symm,HB.o⟩
 have d7:decide (40<(b.loads.length:Int))=false:=yC c7
 have HH:Y0 (dj b=true):=by unfold Y0 dj;simp only[d0,d1,d2,d3,d4,d5,d6,d7];rfl
 obtain⟨bs,os,rfl,ip,D6⟩:=HSc.o 0 (by omega)
 have lq:Y0 (∀ j,j<b.sup.length→W1.cell? ⟨bs,os+j,none⟩=some (.int .i64 (ak b j))):=fun j hj=>by
  have h:=(HB.o.cell (p:=⟨bs,os+j,none⟩) ip).trans (D6 j hj)
  unfold ak
  rw[yN,yM hj]
  exact h
 clear D6 HSc
 go_wp2_with (go_at_call 47;refine Bi.mono ?_;rintro e w' ⟨rfl,rfl⟩)
 go_loopw [3] (fun x wr=>∃ k:Nat,k≤b.sup.length∧x = .int .i64 k∧Y0 (cR b k=true)∧∃ q,W1.drewN q=wr) (fun x _=>b.sup.length-(intOf x).toNat)
 case atStart=>exact⟨0,yI _,rfl,qf b,0,rfl⟩
 obtain⟨k,hk,rfl,HG,q,rfl⟩:=hrel
 by_cases aw:k<b.sup.length
 ·have z:=lq.o k aw
  have i1:(0:Int)≤(k:Int):=yE _
  have i2:(k:Int)<(b.sup.length:Int):=by omega
  by_cases e1:ak b k<0
  ·have f1:decide (ak b k<0)=true:=yD e1
   have HV:Y0 (dt b=false):=lZ aw (by unfold eO;rw[f1];rfl)
   go_wp2_with fail
   go_quiet (fail)
   go_wp2_with fail
   go_ret
   exact⟨Ze HV.o.symm,Zf (Zf HB.o _) _⟩
  have f1:decide (ak b k<0)=false:=yC e1
  by_cases e2:b.len<ak b k
  ·have f2:decide (b.len<ak b k)=true:=yD e2
   have HV:Y0 (dt b=false):=lZ aw (by unfold eO;rw[f1,f2];rfl)
   go_wp2_with fail
   go_quiet (fail)
   go_wp2_with fail
   go_ret
   exact⟨Ze HV.o.symm,Zf (Zf HB.o _) _⟩
  have f2:decide (b.len<ak b k)=false:=yC e2
  by_cases e3:k=0
  ·have f3':¬ (0:Int)<(k:Int):=by omega
   have f3:decide ((0:Int)<(k:Int))=false:=yC f3'
   have f3n:decide (0<k)=false:=yC (by omega)
   have HV:Y0 (cR b (k+1)=true):=j7 HG.o (by unfold eO;rw[f1,f2,decide_eq_true e3];rfl)
   clear e3
   go_wp2_with fail
   go_quiet (fail)
   go_wp2_with fail
   go_roundw
   case rel=>exact⟨k+1,aw,by go_num,HV,_,rfl⟩
   simp[intOf];omega
  have f3:decide ((0:Int)<(k:Int))=true:=yD (by omega)
  have f3n:decide (0<k)=true:=yD (by omega)
  have z0:=lq.o (k-1) (by omega)
  have i4:((k:Int)-1).toNat=k-1:=by omega
  have i5:(0:Int)≤(k:Int)-1:=by omega
  have i6:(k:Int)-1<(b.sup.length:Int):=by omega
  have v1:IntKind.i64.wrap ((k:Int)-1)=(k:Int)-1:=yF _ (by omega)
  have E3:Y0 (¬ k=0):=e3
  clear e3
  by_cases e4:ak b k≤ak b (k-1)
  ·have f4:decide (ak b k≤ak b (k-1))=true:=yD e4
   have HV:Y0 (dt b=false):=lZ aw (by unfold eO;rw[f1,f2,f4,decide_eq_false E3.o];rfl)
   go_wp2_with fail
   go_quiet (fail)
   go_wp2_with fail
   go_ret
   exact⟨Ze HV.o.symm,Zf (Zf HB.o _) _⟩
  have f4:decide (ak b k≤ak b (k-1))=false:=yC e4
  have HV:Y0 (cR b (k+1)=true):=j7 HG.o (by unfold eO;rw[f1,f2,f4,decide_eq_false E3.o];rfl)
  go_wp2_with fail
  go_quiet (fail)
  go_wp2_with fail
  go_roundw
  case rel=>exact⟨k+1,aw,by go_num,HV,_,rfl⟩
  simp[intOf];omega
 have mQ:k=b.sup.length:=by omega
 subst mQ
 have HBq:=zh (Zf HB.o q)
 have F1:=zh (HD.o.drewN q)
 clear y0 y1 y4 lq
 go_wp2_with fail
 have qkn:Y0 ((b.loads.take 0).all (cK b.len)=true):=rfl
 generalize W1.drewN q=W2 at *
 go_loopw [4] (fun x wr=>∃ k:Nat,k≤b.loads.length∧x = .int .i64 k∧Y0 ((b.loads.take k).all (cK b.len)=true)∧Y0 (Below w.heap.size w wr∧Blk wr w.heap.size 122 (zC b (some ⟨bs,os,none⟩) cs Al cl))) (fun x _=>b.loads.length-(intOf x).toNat)
 case atStart=>exact⟨0,yI _,rfl,qkn,HBq.o,F1.o⟩
 clear HBq F1 qkn HB HD y2 y3
 obtain⟨k,hk,rfl,HA,HM⟩:=hrel
 have y1:=HM.o.2.cell 1
 have y3:=HM.o.2.cell 3
 simp only[aP,aQ,aO] at y1 y3
 have i1:(0:Int)≤(k:Int):=yE _
 by_cases aw:k<b.loads.length
 ·have i2:(k:Int)<(b.loads.length:Int):=by omega
  obtain⟨bl,ol,rfl,QI,dW⟩:=vn.o k aw
  obtain⟨cW,cT⟩:=dW k aw
  have cW:=(HM.o.1.cell (p:=⟨bl,ol+k*2,none⟩) QI).trans cW
  have cT:=(HM.o.1.cell (p:=⟨bl,ol+k*2+1,none⟩) QI).trans cT
  have mw:=zh (fun h=>XY (b:=b) aw h)
  have uN:Y0 (cK b.len b.loads[k]=true→(b.loads.take (k+1)).all (cK b.len)=true):=fun h=>by
   rw[aC b.loads k aw,List.all_append,HA.o]
   simpa using h
  clear dW
  generalize b.loads[k]=x at *
  obtain⟨pos,wt⟩:=x
  simp only at cW cT
  have qp:Y0 (Below w.heap.size w (wr.alloc (.cells #[.int .i64 pos,.int .i64 wt] 162))∧Blk (wr.alloc (.cells #[.int .i64 pos,.int .i64 wt] 162)) w.heap.size 122 (zC b (some ⟨bs,os,none⟩) cs (some ⟨bl,ol,none⟩) cl)):=⟨HM.o.1.alloc HM.o.1.size _,HM.o.2.alloc _⟩
  have y1a:=qp.o.2.cell 1
  simp only[aP,aQ,aO] at y1a
  clear HM HA
  by_cases c0:pos<0
  ·have d0:decide (pos<0)=true:=yD c0
   have HV:Y0 (dt b=false):=mw.o (by unfold cK;simp only[d0];rfl)
   clear mw uN
   go_wp2_with fail
   go_ret
   exact⟨Ze HV.o.symm,qp.o.1⟩
  have d0:decide (pos<0)=false:=yC c0
  by_cases c1:b.len<pos
  ·have d1:decide (b.len<pos)=true:=yD c1
   have HV:Y0 (dt b=false):=mw.o (by unfold cK;simp only[d0,d1];rfl)
   clear mw uN
   go_wp2_with fail
   go_ret
   exact⟨Ze HV.o.symm,qp.o.1⟩
  have d1:decide (b.len<pos)=false:=yC c1
  by_cases c2:wt<0
  ·have d2:decide (wt<0)=true:=yD c2
   have HV:Y0 (dt b=false):=mw.o (by unfold cK;simp only[d0,d1,d2];rfl)
   clear mw uN
   go_wp2_with fail
   go_ret
   exact⟨Ze HV.o.symm,qp.o.1⟩
  have d2:decide (wt<0)=false:=yC c2
  by_cases c3:67108864<wt
  ·have d3:decide (67108864<wt)=true:=yD c3
   have HV:Y0 (dt b=false):=mw.o (by unfold cK;simp only[d0,d1,d2,d3];rfl)
   clear mw uN
   go_wp2_with fail
   go_ret
   exact⟨Ze HV.o.symm,qp.o.1⟩
  have d3:decide (67108864<wt)=false:=yC c3
  have HV:=zh (uN.o (by unfold cK;simp only[d0,d1,d2,d3];rfl))
  clear mw uN
  go_wp2_with fail
  go_roundw
  case rel=>exact⟨k+1,aw,by go_num,HV,qp⟩
  simp[intOf];omega
 have mQ:k=b.loads.length:=by omega
 subst mQ
 have HV:=zh (qqx HH.o HG.o HA.o)
 go_wp2_with fail
 go_ret
 exact⟨Ze HV.o.symm,HM.o.1⟩
def qR (b:BeamT):Int:=if dt b=false then 1 else if cJ b=false then 22 else 0
theorem ZN (v:Value) (b:BeamT) (w:World) (hv:BeamAt w w.heap.size v b) (hn:b.name.size≤maxLen) (hT:BeamOk b→∀ (u:Value) (w1:World),BeamAt w1 w1.heap.size u b→Calls Tryz.prog 204 #[u] w1 (TurnedPost b w1)):Calls Tryz.prog 85 #[v] w fun e w'=>e = .returned (.int .i64 (qR b))∧Below w.heap.size w w':=by
 have Mz:=hv
 obtain⟨As,cs,Al,cl,rfl,-⟩:=hv
 have HD:=zh (Blk.new w 122 (zC b As cs Al cl))
 have HB:=zh ((yB _ w).alloc (yA _) (.cells (zC b As cs Al cl) 122))
 have HV:=zh (Mz.grow HB.o)
 have JK:=zh (fun u W h=>ZK u b W h hn)
 have Yj:=zh (fun u h W hW=>ZL u b W hW h (hT h))
 clear Mz hn hT
 go_enter Tryz.func85,Tryz.ntmps85
 go_upto_region 1 with fail
 generalize w.alloc (.cells (zC b As cs Al cl) 122)=W1 at *
 obtain⟨y0,y1,y2,y3,y4⟩:=HD.o.c5
 go_wp2_with fail
 refine (JK.o _ W1 HV.o).mono ?_
 rintro e w3 ⟨rfl,cO⟩
 have bY:=zh (HB.o.trans (cO.mono HB.o.size))
 have QP:=zh (HV.o.grow cO)
 have WA:=HD.o.below cO HD.o.lt
 clear y0 y1 y2 y3 y4
 obtain⟨y0,y1,y2,y3,y4⟩:=WA.c5
 clear cO HB HV HD JK WA
 cases aK:dt b
 ·have HE:Y0 (qR b=1):=if_pos aK
  clear aK
  go_wp2_with fail
  go_ret
  exact⟨congrArg (fun x=>Ending.returned (.int .i64 x)) HE.o.symm,bY.o⟩
 have Fw:=zh (kr aK)
 have HE:Y0 (qR b=if cJ b=false then 22 else 0):=if_neg (by rw[aK];decide)
 clear aK
 go_wp2_with fail
 refine (Yj.o _ Fw.o w3 QP.o).mono ?_
 rintro e w4 ⟨rfl,cD⟩
 have dU:=zh (bY.o.trans (cD.mono bY.o.size))
 clear cD y0 y1 y2 y3 y4
 cases ht:cJ b
 ·have lP:Y0 (qR b=22):=HE.o.trans (if_pos ht)
  clear ht HE
  go_wp2_with fail
  go_ret
  exact⟨congrArg (fun x=>Ending.returned (.int .i64 x)) lP.o.symm,dU.o⟩
 have lP:Y0 (qR b=0):=HE.o.trans (if_neg (by rw[ht];decide))
 clear ht HE
 go_wp2_with fail
 go_ret
 exact⟨congrArg (fun x=>Ending.returned (.int .i64 x)) lP.o.symm,dU.o⟩
end Go.Proofs.YtfhmbechennkbaaGreatDoor
