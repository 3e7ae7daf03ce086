/- Lemmas. -/
import Derived.Test.YtfhmbechennkbaaGreatDoorI2
import Derived.Test.YtfhmbechennkbaaGreatDoorI7
namespace Go.Proofs.YtfhmbechennkbaaGreatDoor
set_option maxRecDepth 100000
set_option maxHeartbeats 40000000
open Go.RowKit Go.Shelf
def dh (M:Nat→Prop) (a b:Nat) (g:Nat):Prop:=M g∨(a≤g∧g<b)
theorem kN (g:Nat):∀ (vs:List Value) (o:Nat) (w:World),(w.setCells g o vs).heap.size=w.heap.size
 | [],_,_=>rfl
 | v::vs,o,w=>by
  rw[World.setCells,kN g vs (o+1)]
  simp[World.setCell]
section
variable {w W:World} {B D:Nat} {M:Nat→Prop} {st:St} {r:StR} {c:SetC}
theorem uf (h:StoreAt w B D M st r) (hb:Below w.heap.size w W):StoreAt W B D (dh M w.heap.size W.heap.size) st r :=
 h.more hb (fun _ hg=>.inl hg) (fun _g hg=>hg.elim .inl fun h=>.inr h.1) (fun g hg=>hg.elim (fun h1=>yK (h.lt g h1) hb.size) fun h1=>h1.2)
theorem kT {a:Nat} (h:OwnC W a c):SetCM W (dh M a W.heap.size) c :=
 ⟨FlatM.of_own h.1 fun g e=>.inr (h.1.lt g e),FlatM.of_own h.2.1 fun g e=>.inr (h.2.1.lt g e),FlatM.of_own h.2.2 fun g e=>.inr (h.2.2.lt g e)⟩
theorem Dg {W:World} {a n cap g k:Nat} {L:List SetC} (az:W.ownsRow a 26 13 (.slice (some ⟨g,0,none⟩) n cap) n (L.flatMap SetC.cells)) (hk:k<L.length):W.there g (k*13) 13:=fun i hi=>by
 obtain⟨cs,hgt⟩:=cm az (g:=g) (by simp[Value.ownBlock])
 refine⟨?_,Blk.frozen (t:=26) (cs:=cs) hgt _⟩
 have:=fC SetC.cells 13 (fun _=>rfl) L k i hk hi
 have aw:i<L[k].cells.length:=by show i<13;omega
 rw[yM aw] at this
 have h2:=az.cells (g:=g) (by simp[Value.ownBlock]) _ _ this
 rw[Addr.add_lit,yR] at h2
 rw[h2]
 rfl
theorem O9 {v:Value} {a:Nat} (h:StoreAt w B D M st r) (hb:Below w.heap.size w W) (ha:a=w.heap.size) (az:W.ownsRow a 26 13 v (r.L.length+1) (r.L.flatMap SetC.cells++c.cells)) (hc:OwnC W a c) :
  SetsM W (dh M w.heap.size W.heap.size) v (r.L++[c]):=by
 subst ha
 refine⟨?_,fun x hx=>?_⟩
 ·have h1:=FlatM.of_own (M:=dh M w.heap.size W.heap.size) az fun g e=>.inr (az.lt g e)
  rw[yQ,List.flatMap_append,List.flatMap_cons,List.flatMap_nil,List.append_nil]
  exact h1
 rcases List.mem_append.1 hx with hx | hx
 ·exact ((h.sets.2 x hx).kept (KeepM.of_below hb)).sub fun g hg=>.inl hg
 rw[List.mem_singleton] at hx
 subst hx
 exact kT hc
theorem Ry {v:Value} {a g cap k:Nat} {W':World} (h:StoreAt w B D M st r) (hb:Below w.heap.size w W) (ha:a=w.heap.size) (hv:v = .slice (some ⟨g,0,none⟩) r.L.length cap) (az:W.ownsRow a 26 13 v r.L.length (r.L.flatMap SetC.cells)) (hc:OwnC W a c) (hk:k < r.L.length)
  (hW':W'=W.setCells g (k*13) c.cells) :
  SetsM W' (dh M w.heap.size W'.heap.size) v (r.L.set k c)∧Below w.heap.size w W':=by
 subst ha hv hW'
 have QH:=az.lt g (by simp[Value.ownBlock])
 have hG:=bI g c.cells (k*13) W
 have gZ:Below w.heap.size w (W.setCells g (k*13) c.cells):=hb.grown hG hb.size (fun j e=>by have e1:g=j:=(by simpa using e);omega)
 obtain⟨cs,hgt⟩:=cm az (g:=g) (by simp[Value.ownBlock])
 have fB:∀ {t s n:Nat} {u:Value} {xs:List Value},W.ownsRow w.heap.size t s u n xs→t≠26→(W.setCells g (k*13) c.cells).ownsRow w.heap.size t s u n xs:=fun ho ht=>ho.kept hG (cQ ho (cs:=cs) hgt (Ne.symm ht))
 have pZ:OwnC (W.setCells g (k*13) c.cells) w.heap.size c:=⟨fB hc.1 (by decide),fB hc.2.1 (by decide),fB hc.2.2 (by decide)⟩
 have qO:=fun j u hu=>az.cells (g:=g) (by simp[Value.ownBlock]) j u hu
 have IW:c.cells.length=13:=rfl
 have oH:∀ i,i<c.cells.length→(W.cell? ⟨g,k*13+i,none⟩).isSome=true:=fun i hi=>by
  have:=fC SetC.cells 13 (fun _=>rfl) r.L k i hk (by omega)
  have aw:i<r.L[k].cells.length:=by show i<13;omega
  rw[yM aw] at this
  have h2:=qO _ _ this
  rw[Addr.add_lit,yR] at h2
  rw[h2]
  rfl
 have dK:(W.setCells g (k*13) c.cells).heap.size=W.heap.size:=kN g c.cells (k*13) W
 refine⟨⟨⟨_,_,by rw[List.length_set],?_,?_,fun _=>⟨g,0,rfl,.inr ⟨QH.1,by rw[dK];exact QH.2⟩,by rw[dK];exact QH.2,fun j u hu=>?_⟩⟩,fun x hx=>?_⟩,gZ⟩
 ·rw[List.length_set]
  rcases az.2 with⟨e,_⟩ | ⟨g',oV,cur,e,_,_,h1,_⟩
  ·cases e
  injection e with _ _ e3
  subst e3
  exact h1
 ·rcases az.2 with⟨e,_⟩ | ⟨g',oV,cur,e,_,_,_,h2,_⟩
  ·cases e
  injection e with _ _ e3
  subst e3
  exact h2
 ·rw[yR]
  have nB:=(List.getElem?_eq_some_iff.1 hu).1
  rw[d9 SetC.cells 13 (fun _=>rfl),List.length_set] at nB
  have hi:j / 13<r.L.length:=by omega
  have hr:j % 13<13:=Nat.mod_lt _ (by decide)
  have hj:j=j / 13*13+j % 13:=by omega
  have N3:=fC SetC.cells 13 (fun _=>rfl) (r.L.set k c) (j / 13) (j % 13) (by rw[List.length_set];exact hi) hr
  rw[← hj,hu] at N3
  by_cases EK:j / 13=k
  ·have e1:(r.L.set k c)[j / 13]'(by rw[List.length_set];exact hi)=c:=by simp[← EK]
   rw[e1] at N3
   have:=World.cell?_setCells_in g c.cells (k*13) W (fun i hi=>oH i hi) (j % 13) (by rw[IW];exact hr)
   rw[show k*13+j % 13=j by omega] at this
   rw[this]
   rw[← yM]
   exact N3.symm
  have e1:(r.L.set k c)[j / 13]'(by rw[List.length_set];exact hi)=r.L[j / 13]:=List.getElem_set_ne (Ne.symm EK) _
  rw[e1] at N3
  have h3:=fC SetC.cells 13 (fun _=>rfl) r.L (j / 13) (j % 13) hi hr
  rw[← hj,← N3] at h3
  have h4:=qO _ _ h3
  rw[Addr.add_lit,yR] at h4
  rw[World.cell?_setCells_out g c.cells (k*13) W ⟨g,j,none⟩ (fun _ _=>by show j<k*13∨k*13+c.cells.length≤j;rw[IW];omega)]
  exact h4
 rcases List.mem_or_eq_of_mem_set hx with hx | rfl
 ·exact ((h.sets.2 x hx).kept (KeepM.of_below gZ)).sub fun g hg=>.inl hg
 exact kT pZ
end
def jF (B D:Nat) (M:Nat→Prop) (o:Int×St) (w:World) (e:Ending) (w':World):Prop :=
 e = .returned (.int .i64 o.1)∧ChgF B D w w'∧∃ M' r',StoreAt w' B D M' o.2 r'∧∀ g,M' g→M g∨w.heap.size≤g
theorem rH {B D:Nat} {M:Nat→Prop} {st:St} {r:StR} {w W:World} {n:Int} (h:StoreAt w B D M st r) (hb:Below w.heap.size w W):jF B D M (n,st) w (.returned (.int .i64 n)) W :=
 ⟨rfl,ChgF.of_below hb (yH h.base (YJ h.blk.lt)),M,r,h.below hb,fun _ hg=>.inl hg⟩
theorem qA {B D:Nat} {M:Nat→Prop} {st:St} {w W W':World} {l:List SetT} {e:Ending} {o:Int×St} (hb:Below w.heap.size w W) (hB:B ≤ w.heap.size) (ho:o=(0,{ st with sets := l,past := st.past++[st.sets] }))
  (h:jy B D (dh M w.heap.size W.heap.size) st l W e W'):jF B D M o w (.returned (.int .i64 0)) W':=by
 obtain⟨-,hc,r',hs⟩:=h
 subst ho
 exact⟨rfl,(ChgF.of_below hb hB).trans hc,_,r',hs,fun g hg=>hg.elim .inl fun h=>.inr h.1⟩
theorem Rv (B D:Nat) (M:Nat→Prop) (st:St) (r:StR) (v:Value) (x:SetT) (w:World) (h:StoreAt w B D M st r) (aK:StOk st) (hv:SetAt w w.heap.size v x) (hn:SetNames x) (hp:st.past.length≤1000) :
  Calls Tryz.prog 24 #[.pointer (some ⟨D,0,none⟩),v] w (jF B D M (putV st x) w):=by
 have JK:=fun W (hb:Below w.heap.size w W)=>BQ v x W ((hv.below hb (yA _)).mono hb.size) hn
 have Qx:=zh fun (hl:tz x) W (hb:Below w.heap.size w W)=>Ef v x W ((hv.below hb (yA _)).mono hb.size) hl.1 hl.2.1 hl.2.2
 have HX:=zh (me r.L x.name)
 have HFi:=zh fun W (hb:Below w.heap.size w W)=>by
  have h1:=h.below hb
  have hd:=h1.blk.cell 0
  simp only[aP,aO] at hd
  have hF:=Kz D r.sv r.L x.name W hd h1.blk.lt h1.at
  rw[HX.o,h.setsE] at hF
  exact hF
 have Zv:=zh fun (c:SetC) (hc:c∈r.L) W (hb:Below w.heap.size w W)=>qxD c.val v c.s x W ((h.below hb).sets.2 c hc).set ((hv.below hb (yA _)).mono hb.size)
 have lh:=zh fun lv L2 W (hb:Below w.heap.size w W) (hl:SetsM W (dh M w.heap.size W.heap.size) lv L2)=>Gg B D (dh M w.heap.size W.heap.size) st r lv L2 W (uf h hb) hl hp
 have QZ:=zh fun W (hb:Below w.heap.size w W) (PN:r.L.length≤60)=>J1 r.sv r.L W (h.below hb).at (by omega)
 have hB:=yH h.base (YJ h.blk.lt)
 have Kc:=h.blk.lt
 have PN:r.L.length≤60:=by
  have:=aK.len
  rw[← h.setsE,yP] at this
  exact this
 have hLe:st.sets.length=r.L.length:=by rw[← h.setsE,yP]
 have BU:=zh hLe
 have HS:=zh h
 have kA:=zh fun W (hb:Below w.heap.size w W)=>by
  have h1:=(h.below hb).blk.cell 0
  simp only[aP,aO] at h1
  exact h1
 obtain⟨Al,cl,Ai,ci,Ab,cb,rfl,-,-,-⟩:=hv
 have eK:=zh (Blk.new w 26 (zA x Al cl Ai ci Ab cb))
 have bZ:=zh ((yB _ w).alloc (yA _) (.cells (zA x Al cl Ai ci Ab cb) 26))
 have Cf:=JK _ bZ.o
 clear h aK hn hp JK HX hLe
 unfold aL at *
 rcases yL (bS x) with hvx | hvx
 rotate_left
 ·have MB:Y0 (putV st x=(1,st)):=by unfold Y0 putV;rw[hvx];rfl
  rw[hvx] at Cf
  clear hvx
  go_enter Tryz.func24,Tryz.ntmps24
  go_wp2_with fail
  refine Cf.mono ?_
  rintro e w2 ⟨rfl,bE⟩
  have hb:=bZ.o.trans (bE.mono bZ.o.size)
  go_wp2_with fail
  go_ret
  rw[MB.o]
  exact rH HS.o hb
 have MB:Y0 (putV st x=fO st x):=by unfold Y0 putV;rw[hvx];rfl
 have HVx:=zh hvx
 have Qx:=zh (Qx.o (kU hvx))
 rw[hvx] at Cf
 clear hvx
 go_enter Tryz.func24,Tryz.ntmps24
 go_wp2_with fail
 refine Cf.mono ?_
 rintro e w2 ⟨rfl,bE⟩
 have bK:=zh (bZ.o.trans (bE.mono bZ.o.size))
 have cF:=zh (eK.o.below bE eK.o.lt)
 clear bE bZ eK Cf
 obtain⟨z0,z1,z2,z3,z4,z5,z6,z7,z8,z9,jg,fc,gU⟩:=cF.o.c13
 go_wp2_with fail
 refine (HFi.o w2 bK.o).mono ?_
 rintro e w3 ⟨rfl,cO⟩
 have bY:=zh (bK.o.trans (cO.mono bK.o.size))
 have iD:=zh (cF.o.below cO cF.o.lt)
 clear cO bK cF z0 z1 z2 z3 z4 z5 z6 z7 z8 z9 jg fc gU HFi
 have WA:=kA.o w3 bY.o
 obtain⟨As,cs,es⟩:∃ A c,r.sv = .slice A r.L.length c:=let ⟨A,c,e,_⟩:=HS.o.at;⟨A,c,e⟩
 have pc:=zh es
 rw[es] at WA
 clear es
 cases hi:fG st.sets x.name with
 | none=>
  rw[show ff none = -1 from rfl]
  by_cases rX:60≤st.sets.length
  ·have HE:Y0 (fO st x=(4,st)):=by unfold Y0 fO;rw[hi];simp[rX]
   have f60:(60:Int)≤(r.L.length:Int):=by have:=BU.o;omega
   clear hi rX
   go_wp2_with fail
   go_quiet (fail)
   go_wp2_with fail
   go_ret
   rw[MB.o,HE.o]
   exact rH HS.o (Zf bY.o _)
  have HE:Y0 (fO st x=(0,{ st with sets:=st.sets++[x],past:=st.past++[st.sets] })):=by unfold Y0 fO;rw[hi];simp[rX]
  have f60:(r.L.length:Int)<60:=by have:=BU.o;omega
  clear hi rX
  go_wp2_with fail
  refine wp_region_quiet_lit (by kernel_rfl) (by kernel_rfl) ?_
  repeat (go_big_quiet_step (fail))
  refine YH ?_
  intro _ IL
  obtain⟨nq,qkB⟩:=IL
  subst qkB
  have dU:=zh (Zf bY.o nq)
  have lR:=zh (iD.o.drewN nq)
  clear bY iD WA
  generalize w3.drewN nq=w4 at *
  have P9:=kA.o w4 dU.o
  rw[pc.o] at P9
  have qkW:=yK Kc dU.o.size
  have dW:=QZ.o w4 dU.o PN
  rw[pc.o] at dW
  go_wp2_with fail
  refine dW.mono ?_
  rintro e w5 ⟨lv,rfl,ho5,bg⟩
  have cN:=zh (dU.o.trans (bg.mono dU.o.size))
  have pS:=zh (lR.o.below bg lR.o.lt)
  have kg:=zh (bo ho5 dU.o.size)
  obtain⟨A5,c5,rfl⟩:=bD ho5
  have how:=Qx.o w5 cN.o
  clear bg ho5 dU lR P9 dW QZ
  obtain⟨z0,z1,z2,z3,z4,z5,z6,z7,z8,z9,jg,fc,gU⟩:=pS.o.c13
  go_wp2_with fail
  refine how.mono ?_
  rintro e w6 ⟨iq,A1,k1,A2,k2,A3,k3,rfl,o1,o2,o3⟩
  unfold aL
  have lK:=zh (cN.o.trans (iq.mono cN.o.size))
  have MC:Y0 (OwnC (w6.alloc (.cells (zA x A1 k1 A2 k2 A3 k3) 26)) w.heap.size ⟨x,A1,k1,A2,k2,A3,k3⟩):=⟨(bo o1 cN.o.size).alloc _,(bo o2 cN.o.size).alloc _,(bo o3 cN.o.size).alloc _⟩
  have tS:=zh ((bQ kg.o iq).alloc (.cells (zA x A1 k1 A2 k2 A3 k3) 26))
  have qp:=zh (lK.o.alloc lK.o.size (.cells (zA x A1 k1 A2 k2 A3 k3) 26))
  have sK:=zh (World.news_of_block (Blk.new w6 26 (zA x A1 k1 A2 k2 A3 k3)))
  have dK:=qp.o.size
  obtain⟨iF,hiF,LF,LD,LC⟩:=info_parts ik
  clear iq o1 o2 o3 cN pS kg how Qx z0 z1 z2 z3 z4 z5 z6 z7 z8 z9 jg fc gU
  go_wp2_with (at_builtin;refine wpList_append_own _ rfl _ _ 46 rfl w.heap.size 26 iF (.agg zE) 13 160 Tryz.underlying46 hiF LF LD LC rfl (by decide) _ _ _ rfl tS.o ⟨w6.heap.size,0,none⟩ 1 1 (zB x A1 k1 A2 k2 A3 k3) rfl rfl sK.o (by simp[Value.oneCell']) (by unfold maxLen;omega) (by omega) dK ?_;intro v' w8 fV dL _;obtain⟨g',oV,rfl⟩:=ownsRow_succ fV;have Qz:=zh fV;have HG8:Y0 ((w6.alloc (.cells (zA x A1 k1 A2 k2 A3 k3) 26)).grownBy w8 (Value.slice A5 r.L.length c5).ownBlock):=dL;clear fV dL)
  have aM:Below w.heap.size w w8:=qp.o.grown HG8.o qp.o.size (fun j e=>(tS.o.lt j e).1)
  have hr:∀ {t s n:Nat} {u:Value} {xs:List Value},(w6.alloc (.cells (zA x A1 k1 A2 k2 A3 k3) 26)).ownsRow w.heap.size t s u n xs→t≠26→w8.ownsRow w.heap.size t s u n xs:=fun ho ht=>ho.kept HG8.o (by
   rcases Classical.em ((Value.slice A5 r.L.length c5).ownBlock=none) with e | e
   ·rw[e]
    exact Classical.em _
   obtain⟨g,eg⟩:=Option.ne_none_iff_exists'.1 e
   obtain⟨cs',mR⟩:=cm tS.o eg
   rw[eg]
   exact cQ ho (cs:=cs') mR (Ne.symm ht))
  have qjz:OwnC w8 w.heap.size ⟨x,A1,k1,A2,k2,A3,k3⟩:=⟨hr MC.o.1 (by decide),hr MC.o.2.1 (by decide),hr MC.o.2.2 (by decide)⟩
  have jM:=O9 (c:=(⟨x,A1,k1,A2,k2,A3,k3⟩:SetC)) HS.o aM rfl Qz.o qjz
  have Zk:=lh.o _ _ w8 aM jM
  have HPF:Y0 (∀ e W',jy B D (dh M w.heap.size w8.heap.size) st ((r.L++[(⟨x,A1,k1,A2,k2,A3,k3⟩:SetC)]).map SetC.s) w8 e W'→e = .returned (.tuple #[])∧jF B D M (putV st x) w (.returned (.int .i64 0)) W'):=fun e W' Jd=>⟨Jd.1,qA aM hB (by rw[MB.o,HE.o,yS,HS.o.setsE];rfl) Jd⟩
  clear aM hr qjz jM Qz HG8 tS MC qp sK lK lh HS HE MB
  go_wp2_with fail
  refine Zk.mono ?_
  intro e w9 Jd
  obtain⟨he,hpp⟩:=HPF.o e w9 Jd
  subst he
  have HPP:=zh hpp
  clear Jd hpp HPF Zk
  go_wp2_with fail
  go_ret
  exact HPP.o
 | some k=>
  rw[show ff (some k)=(k:Int) from rfl]
  obtain⟨hk,-⟩:=LB HS.o.setsE hi
  have qi:st.sets[k]? = some r.L[k].s:=by rw[← HS.o.setsE,YD,yM hk];rfl
  have Ja:=yV hk
  have QV:=zh hk
  obtain⟨A,cc,eA,gC,dr,ah⟩:=(HS.o.below bY.o).at.open_
  rw[pc.o] at eA
  injection eA with eA1 _ eA2
  subst eA1 eA2
  unfold maxLen at dr
  obtain⟨b1,o1,e1,ao,hx⟩:=ah k hk
  have hy:=hx k hk
  rw[e1] at WA
  have y0:=hy 0 _ rfl
  have y1:=hy 1 _ rfl
  have y2:=hy 2 _ rfl
  have y3:=hy 3 _ rfl
  have y4:=hy 4 _ rfl
  have y5:=hy 5 _ rfl
  have y6:=hy 6 _ rfl
  have y7:=hy 7 _ rfl
  have y8:=hy 8 _ rfl
  have y9:=hy 9 _ rfl
  have lM:=hy 10 _ rfl
  have iY:=hy 11 _ rfl
  have iG:=hy 12 _ rfl
  rw[Nat.add_zero] at y0
  have JX:=fun W (hb:Below w3.heap.size w3 W)=>Zv.o r.L[k] Ja W (bY.o.trans (hb.mono bY.o.size))
  have kc0:(0:Int)≤(k:Int):=yE _
  have kc1:(k:Int)<(r.L.length:Int):=by omega
  have nD:Y0 (r.L[k].s=x→fO st x=(0,st)):=fun e=>by unfold fO;rw[hi];dsimp only;rw[if_pos (qi.trans (congrArg some e))]
  have lP:Y0 (r.L[k].s≠x→fO st x=(0,{ st with sets:=st.sets.set k x,past:=st.past++[st.sets] })):=fun e=>by
   unfold fO
   rw[hi]
   dsimp only
   rw[if_neg (fun h=>e (by rw[qi] at h;exact Option.some.inj h))]
  clear hi qi Ja hx hy ah e1
  generalize r.L[k]=c at *
  clear hk
  unfold SetC.val aL at JX
  have Bu:=HeldB.call JX
  have p0:=YL WA
  have py0:=YL y0
  have py1:=YL y1
  have py2:=YL y2
  have py3:=YL y3
  have py4:=YL y4
  have py5:=YL y5
  have py6:=YL y6
  have py7:=YL y7
  have py8:=YL y8
  have py9:=YL y9
  have qkx:=YL lM
  have qkw:=YL iY
  have qkv:=YL iG
  obtain⟨z0,z1,z2,z3,z4,z5,z6,z7,z8,z9,jg,fc,gU⟩:=iD.o.c13
  have pz0:=YL z0
  have pz1:=YL z1
  have pz2:=YL z2
  have pz3:=YL z3
  have pz4:=YL z4
  have pz5:=YL z5
  have pz6:=YL z6
  have pz7:=YL z7
  have pz8:=YL z8
  have pz9:=YL z9
  have qku:=YL jg
  have qkt:=YL fc
  have qks:=YL gU
  clear JX
  go_wp2_with fail
  by_cases hq:c.s=x
  ·rw[yD hq] at Bu
   have HE:=zh (nD.o hq)
   clear hq nD lP WA y0 y1 y2 y3 y4 y5 y6 y7 y8 y9 lM iY iG z0 z1 z2 z3 z4 z5 z6 z7 z8 z9 jg fc gU
   refine cn (by kernel_rfl) (by kernel_rfl) ?_
   repeat (go_big_quiet_step ((go_at_call 71;exact Bu _)))
   refine YH ?_
   rintro w4 ⟨⟨w4',cD⟩,rfl⟩
   have Jb:=bY.o.trans (cD.mono bY.o.size)
   go_wp2_with fail
   go_ret
   rw[MB.o,HE.o]
   exact rH HS.o Jb
  rw[yC hq] at Bu
  have HE:=zh (lP.o hq)
  clear hq nD lP WA y0 y1 y2 y3 y4 y5 y6 y7 y8 y9 lM iY iG z0 z1 z2 z3 z4 z5 z6 z7 z8 z9 jg fc gU
  refine cn (by kernel_rfl) (by kernel_rfl) ?_
  repeat (go_big_quiet_step ((go_at_call 71;exact Bu _)))
  refine YH ?_
  rintro w4 ⟨⟨w4',cD⟩,rfl⟩
  have dU:=zh (bY.o.trans (cD.mono bY.o.size))
  have lR:=zh (iD.o.below cD iD.o.lt)
  clear cD bY iD Bu p0 py0 py1 py2 py3 py4 py5 py6 py7 py8 py9 qkx qkw qkv pz0 pz1 pz2 pz3 pz4 pz5 pz6 pz7 pz8 pz9 qku qkt qks
  have P9:=kA.o w4 dU.o
  rw[pc.o] at P9
  have qkW:=yK Kc dU.o.size
  have dW:=QZ.o w4 dU.o PN
  rw[pc.o] at dW
  go_wp2_with fail
  refine dW.mono ?_
  rintro e w5 ⟨lv,rfl,ho5,bg⟩
  have cN:=zh (dU.o.trans (bg.mono dU.o.size))
  have pS:=zh (lR.o.below bg lR.o.lt)
  have kg:=zh (bo ho5 dU.o.size)
  obtain⟨g5,c5,rfl⟩:∃ g c,lv = .slice (some ⟨g,0,none⟩) r.L.length c:=by
   rcases ho5.2 with⟨_,h0⟩ | ⟨g,cap,cur,rfl,_⟩
   ·have:=QV.o
    omega
   exact⟨g,cap,rfl⟩
  have how:=Qx.o w5 cN.o
  clear bg ho5 dU lR P9 dW QZ
  obtain⟨z0,z1,z2,z3,z4,z5,z6,z7,z8,z9,jg,fc,gU⟩:=pS.o.c13
  go_wp2_with fail
  refine how.mono ?_
  rintro e w6 ⟨iq,A1,k1,A2,k2,A3,k3,rfl,o1,o2,o3⟩
  unfold aL
  dsimp only
  have lK:=zh (cN.o.trans (iq.mono cN.o.size))
  have MC:Y0 (OwnC w6 w.heap.size ⟨x,A1,k1,A2,k2,A3,k3⟩):=⟨bo o1 cN.o.size,bo o2 cN.o.size,bo o3 cN.o.size⟩
  have tS:=zh (bQ kg.o iq)
  clear iq o1 o2 o3 cN pS kg how Qx z0 z1 z2 z3 z4 z5 z6 z7 z8 z9 jg fc gU
  iterate 4 (first | go_values | go_skip | go_guarded | go_step | go_upon)
  have ql:=zh (Dg tS.o QV.o)
  refine wpList_store_mid rfl 26 (.tmp 59) (.tmp 58) rfl g5 (k*13) (zA x A1 k1 A2 k2 A3 k3) rfl rfl ql.o (by kernel_rfl) (by simp[Value.oneCell']) ?_
  simp only[Act.put]
  obtain⟨jM,aM⟩:=Ry (c:=(⟨x,A1,k1,A2,k2,A3,k3⟩:SetC)) (k:=k) HS.o lK.o rfl rfl tS.o MC.o QV.o rfl
  have Zk:=lh.o _ _ _ aM jM
  have HPF:Y0 (∀ e W',jy B D (dh M w.heap.size (w6.setCells g5 (k*13) (⟨x,A1,k1,A2,k2,A3,k3⟩:SetC).cells).heap.size) st ((r.L.set k (⟨x,A1,k1,A2,k2,A3,k3⟩:SetC)).map SetC.s) (w6.setCells g5 (k*13) (⟨x,A1,k1,A2,k2,A3,k3⟩:SetC).cells) e W'→e = .returned (.tuple #[])∧jF B D M (putV st x) w (.returned (.int .i64 0)) W'):=fun e W' Jd=>⟨Jd.1,qA aM hB (by rw[MB.o,HE.o,List.map_set,HS.o.setsE]) Jd⟩
  clear jM aM tS MC lK lh HS HE MB ql
  change wpList _ _ _ _ _ (w6.setCells g5 (k*13) (⟨x,A1,k1,A2,k2,A3,k3⟩:SetC).cells)
  generalize w6.setCells g5 (k*13) (⟨x,A1,k1,A2,k2,A3,k3⟩:SetC).cells=w8 at *
  go_wp2_with fail
  refine Zk.mono ?_
  intro e w9 Jd
  obtain⟨he,hpp⟩:=HPF.o e w9 Jd
  subst he
  have HPP:=zh hpp
  clear Jd hpp HPF Zk
  go_wp2_with fail
  go_ret
  exact HPP.o
def lL:List Value:=[.string ⟨#[]⟩,.int .i64 0,.int .i64 0,.int .i64 0,.int .i64 0,.slice none 0 0,.int .i64 0,.int .i64 0,.int .i64 0,.int .i64 0,.int .i64 0,.slice none 0 0,.slice none 0 0]
theorem Qb (b o c:Nat) (w:World) (hc:∀ j,j<13→(w.cell? ⟨b,o+j,none⟩).isSome=true) (hf:∀ j,j<13→w.frozen? ⟨b,o+j,none⟩=false) (ty:TypeId) :
  (Builtin.clear_ #[46] ty #[.slice (some ⟨b,o,none⟩) 1 c]).run Tryz.prog w = .ok (.tuple #[]) (w.setCells b o lL):=by
 have F7:=run_storeCells_cells (P:=Tryz.prog) b o lL 0 w (by simpa[lL] using hc) (by simpa[lL] using hf) (by intro v hv;simp only[lL,List.mem_cons,List.not_mem_nil,or_false] at hv;rcases hv with rfl | rfl | rfl | rfl | rfl | rfl | rfl | rfl | rfl | rfl | rfl | rfl | rfl <;> rfl)
 simp only[Nat.add_zero] at F7
 have hz:(Builtin.zeroCells (Value.agg zE).cells 1).toList=lL:=by kernel_rfl
 simp[Builtin.clear_,run_underlying Tryz.underlying46,Tryz.zeroValue26,hz,F7]
theorem fN (b:Nat):∀ (vs:List Value) (o:Nat) (w:World),(w.setCells b o vs).heap.size=w.heap.size
 | [],_,_=>rfl
 | v::r,o,w=>by rw[World.setCells,fN b r];simp[World.setCell]
theorem kY (b:Nat):∀ (vs:List Value) (o:Nat) (w:World) {k:Nat},k ≠ b→(w.setCells b o vs).heap[k]? = w.heap[k]?
 | [],_,_,_,_=>rfl
 | v::r,o,w,k,h=>by rw[World.setCells,kY b r _ _ h];exact YC w _ v k h
theorem eP (b:Nat):∀ (vs:List Value) (o:Nat) (w:World),(w.setCells b o vs).os=w.os ∧ (w.setCells b o vs).tape=w.tape ∧ (w.setCells b o vs).output=w.output
 | [],_,_=>⟨rfl,rfl,rfl⟩
 | v::r,o,w=>by
  obtain⟨h1,h2,h3⟩:=eP b r (o+1) (w.setCell ⟨b,o,none⟩ v)
  exact⟨h1,h2,h3⟩
def eF (l:List SetC) (i:Nat):List Value:=(l.drop (i+1)).flatMap SetC.cells
theorem fQ (l:List SetC) (i:Nat):(eF l i).length=(l.length-(i+1))*13:=by unfold eF;rw[d9 SetC.cells 13 (fun _=>rfl),List.length_drop]
theorem AP (l:List SetC) (i t:Nat) (ht:t<(l.length-(i+1))*13):(eF l i)[t]? = (l.flatMap SetC.cells)[(i+1)*13+t]?:=by
 have h:=List.take_append_drop (i+1) l
 have e:l.flatMap SetC.cells=(l.take (i+1)).flatMap SetC.cells++eF l i:=by
  unfold eF
  rw[← List.flatMap_append,h]
 have hl:((l.take (i+1)).flatMap SetC.cells).length=(i+1)*13:=by rw[d9 SetC.cells 13 (fun _=>rfl),YA];omega
 rw[e,List.getElem?_append_right (by omega),hl]
 congr 1
 omega
theorem NP (l:List SetC) (i:Nat) (_hi:i<l.length):(l.eraseIdx i).flatMap SetC.cells=(l.take i).flatMap SetC.cells++eF l i:=by
 rw[List.eraseIdx_eq_take_drop_succ,List.flatMap_append]
 rfl
theorem Mk (base g cap:Nat) (l:List SetC) (i:Nat) (w:World) (hi:i<l.length) (qjQ:l.length≤100) (h:w.ownsRow base 26 13 (.slice (some ⟨g,0,none⟩) l.length cap) l.length (l.flatMap SetC.cells)) :
  Calls Tryz.prog 74 #[.slice (some ⟨g,0,none⟩) l.length cap,.int .i64 i,.int .i64 ((i:Int)+1)] w fun e w'=>e = .returned (.slice (some ⟨g,0,none⟩) (l.length-1) cap) ∧
   Flat w' w'.heap.size (.slice (some ⟨g,0,none⟩) (l.length-1) cap) (l.length-1) ((l.eraseIdx i).flatMap SetC.cells)∧w.grownBy w' (some g):=by
 rcases h.2 with⟨h1,_⟩ | ⟨g',oV,cur,h1,hb,hg,hnc,Ja,mR,ht⟩
 ·cases h1
 injection h1 with e1 _ e2
 injection e1 with e1
 injection e1 with e1
 subst e1 e2
 obtain⟨i0,il,gu,iC,iN⟩:=info_parts ik
 have qkL:=(Array.getElem?_eq_some_iff.1 hg).1
 have ah:∀ q k,k<cap*13→((w.drewN q).cell? ⟨g,k,none⟩).isSome=true∧(w.drewN q).frozen? ⟨g,k,none⟩=false:=fun q k hk=>by
  constructor
  ·show (w.cell? ⟨g,k,none⟩).isSome=true
   rw[cell_of_row w g k cur _ (0,0) hg,Array.getElem?_eq_getElem (by omega)]
   rfl
  show w.frozen? ⟨g,k,none⟩=false
  simp[World.frozen?,hg]
 have Wc:∀ k,k<l.length*13→w.cell? ⟨g,k,none⟩=(l.flatMap SetC.cells)[k]?:=fun k hk=>by
  rw[cell_of_row w g k cur _ (0,0) hg,← ht,List.getElem?_take,if_pos hk]
  simp
 obtain⟨A,hA,qze⟩:∃ A:Addr,(if cap=i+1 then some (⟨g,0,none⟩:Addr) else some ⟨g,(i+1)*13,none⟩)=some A∧Y0 (∀ t u,(eF l i)[t]? = some u→w.drew.cell? (A.add t)=some u):=by
  by_cases hc:cap=i+1
  ·refine⟨⟨g,0,none⟩,by simp[hc],fun t u hu=>?_⟩
   have h0:(eF l i).length=0:=by rw[fQ];omega
   rw[List.length_eq_zero_iff.1 h0] at hu
   simp at hu
  refine⟨⟨g,(i+1)*13,none⟩,by simp[hc],fun t u hu=>?_⟩
  have ht:t<(l.length-(i+1))*13:=by
   have:=(List.getElem?_eq_some_iff.1 hu).1
   rwa [fQ] at this
  rw[AP l i t ht] at hu
  rw[Addr.add_lit]
  exact (Wc _ (by omega)).trans hu
 have s1:Y0 ((eF l i).length=(l.length-(i+1))*13):=fQ l i
 have s2:Y0 (∀ u∈eF l i,u.oneCell'=true):=jv _
 have s3:Y0 (∀ t,t<(eF l i).length→(w.drew.cell? ⟨g,0+i*13+t,none⟩).isSome=true∧w.drew.frozen? ⟨g,0+i*13+t,none⟩=false):=fun t ht=>by
  rw[fQ] at ht
  rw[yR]
  exact ah 1 _ (by omega)
 obtain⟨W1,gT⟩:∃ W1,W1=w.drew.setCells g (0+i*13) (eF l i):=⟨_,rfl⟩
 have qvo:∀ k,k<cap*13→(W1.cell? ⟨g,k,none⟩).isSome=true∧W1.frozen? ⟨g,k,none⟩=false:=fun k hk=>by
  rw[gT,World.frozen?_setCells]
  exact⟨World.isSome_setCells g _ _ _ _ (ah 1 k hk).1,(ah 1 k hk).2⟩
 have dW:∀ ty,(Builtin.clear_ #[46] ty #[.slice (some ⟨g,(l.length-1)*13,none⟩) 1 (cap-(l.length-1))]).run Tryz.prog W1 = .ok (.tuple #[]) (W1.setCells g ((l.length-1)*13) lL):=fun ty=>
  Qb g _ _ W1 (fun j hj=>(qvo _ (by omega)).1) (fun j hj=>(qvo _ (by omega)).2) ty
 have Yi:Y0 (W1=w.drew.setCells g (0+i*13) (eF l i)):=gT
 have HF:Y0 (Flat (W1.setCells g ((l.length-1)*13) lL) (W1.setCells g ((l.length-1)*13) lL).heap.size (.slice (some ⟨g,0,none⟩) (l.length-1) cap) (l.length-1) ((l.eraseIdx i).flatMap SetC.cells)∧w.grownBy (W1.setCells g ((l.length-1)*13) lL) (some g)):=by
  have hlE:((l.eraseIdx i).flatMap SetC.cells).length=(l.length-1)*13:=by rw[d9 SetC.cells 13 (fun _=>rfl),List.length_eraseIdx,if_pos hi]
  refine⟨⟨_,_,rfl,by omega,Ja,fun _=>⟨g,0,rfl,?_,fun j u hu=>?_⟩⟩,?_⟩
  ·rw[fN,gT,fN]
   exact qkL
  ·have hj:j<(l.length-1)*13:=by
    have:=(List.getElem?_eq_some_iff.1 hu).1
    omega
   rw[yR,World.cell?_setCells_out _ _ _ _ _ (fun _ _=>.inl hj),gT,yR]
   rw[NP l i hi] at hu
   by_cases N8:j<i*13
   ·rw[World.cell?_setCells_out _ _ _ _ _ (fun _ _=>.inl N8)]
    rw[List.getElem?_append_left (by rw[d9 SetC.cells 13 (fun _=>rfl),YA];omega)] at hu
    show w.cell? _=_
    rw[Wc j (by omega),← hu]
    conv=>lhs;rw[← List.take_append_drop i l,List.flatMap_append]
    rw[List.getElem?_append_left (by rw[d9 SetC.cells 13 (fun _=>rfl),YA];omega)]
   obtain⟨t,rfl⟩:∃ t,j=i*13+t:=⟨j-i*13,by omega⟩
   rw[List.getElem?_append_right (by rw[d9 SetC.cells 13 (fun _=>rfl),YA];omega),d9 SetC.cells 13 (fun _=>rfl),YA,Nat.min_eq_left (by omega),Nat.add_sub_cancel_left] at hu
   have P0:t<(eF l i).length:=(List.getElem?_eq_some_iff.1 hu).1
   have hm:=fQ l i
   rw[World.cell?_setCells_in g (eF l i) (i*13) w.drew (fun j hj=>show (w.drew.cell? _).isSome=true from (ah 1 _ (by omega)).1) t P0,← hu,yM]
  refine⟨?_,?_,?_,?_,fun k hk fB=>?_⟩
  ·rw[(eP _ _ _ _).1,gT,(eP _ _ _ _).1];rfl
  ·rw[(eP _ _ _ _).2.1,gT,(eP _ _ _ _).2.1];rfl
  ·rw[(eP _ _ _ _).2.2,gT,(eP _ _ _ _).2.2];rfl
  ·rw[fN,gT,fN];exact yA _
  have hkg:k≠g:=fun e=>fB (by rw[e])
  rw[kY _ _ _ _ hkg,gT,kY _ _ _ _ hkg]
  rfl
 have QG:i≤cap:=by omega
 have hjc:i+1≤cap:=by omega
 unfold maxLen at Ja
 clear h gT qvo Wc ah ht hg mR
 generalize hn:l.length=n at *
 obtain⟨n1,rfl⟩:∃ n1,n=n1+1:=⟨n-1,by omega⟩
 simp only[Nat.add_sub_cancel] at dW HF ⊢
 have hwr:IntKind.i64.wrap ((i:Int)+1)=(i:Int)+1:=yF _ (by omega)
 have hp0:(0:Int)≤(i:Int)+1:=by omega
 have P2:(i:Int)+1≤((n1+1:Nat):Int):=by omega
 have qkE:(i:Int)+1≤(n1:Int)+1:=by omega
 have Wi:((i:Int)+1).toNat=i+1:=by omega
 have Hn:=zh hn
 have vqF:i+(n1+1-(i+1))=n1:=by omega
 have vqI:¬ cap=n1:=by omega
 have qkH:n1≤cap:=by omega
 clear hn
 go_enter Tryz.func74,Tryz.ntmps74
 go_wp2_with fail
 go_region_law (refine step_append_room rfl (.tmp 22) (.tmp 25) 46 rfl 26 i0 13 Tryz.underlying46 il iC g 0 i cap (by simp[Act.eval,Act.put]) A (n1+1-(i+1)) (cap-(i+1)) (eF l i) (by simp[Act.eval,Act.put]) s1.o qze.o s2.o (by omega) s3.o ?_;rw[← Yi.o])
 rw[show i+(n1-i)=n1 by omega]
 go_simp
 have hq0:(0:Int)≤(n1:Int)+1:=by omega
 have YT:((n1:Int)+1).toNat=n1+1:=by omega
 have hq2:(n1:Int)≤(n1:Int)+1:=by omega
 have hq3:(n1:Int)+1≤(cap:Int):=by omega
 clear hwr hp0 P2 qkE Wi
 go_wp2_with fail
 go_ret
 exact⟨rfl,HF.o.1,HF.o.2⟩
theorem C3 {w:World} {B:Nat} {M:Nat→Prop} {g o n m c:Nat} {xs:List Value} (h:Flat w B (.slice (some ⟨g,o,none⟩) n c) m xs) (hM:M g) (hg:g<w.heap.size):FlatM w M (.slice (some ⟨g,o,none⟩) n c) m xs:=by
 obtain⟨A,c',e,h1,h2,h3⟩:=h
 injection e with e1 e2 e3
 subst e1 e2 e3
 refine⟨_,_,rfl,h1,h2,fun hn=>?_⟩
 obtain⟨b,off,e,_,hc⟩:=h3 hn
 injection e with e
 injection e with e1 e2
 subst e1 e2
 exact⟨_,_,rfl,hM,hg,hc⟩
theorem Rz {w W W':World} {B D:Nat} {M:Nat→Prop} {st:St} {r:StR} {g cap k:Nat} (h:StoreAt w B D M st r) (hb:Below w.heap.size w W) (az:W.ownsRow w.heap.size 26 13 (.slice (some ⟨g,0,none⟩) r.L.length cap) r.L.length (r.L.flatMap SetC.cells))
  (hk:k<r.L.length) (hf:Flat W' W'.heap.size (.slice (some ⟨g,0,none⟩) (r.L.length-1) cap) (r.L.length-1) ((r.L.eraseIdx k).flatMap SetC.cells)) (hg:W.grownBy W' (some g)) :
  SetsM W' (dh M w.heap.size W'.heap.size) (.slice (some ⟨g,0,none⟩) (r.L.length-1) cap) (r.L.eraseIdx k)∧Below w.heap.size w W':=by
 have QH:=az.lt g (by simp[Value.ownBlock])
 have gZ:Below w.heap.size w W':=hb.grown hg hb.size (fun j e=>by have e1:g=j:=(by simpa using e);omega)
 have aw:g<W'.heap.size:=yK QH.2 hg.size
 refine⟨⟨?_,fun x hx=>((h.sets.2 x ((List.eraseIdx_sublist r.L k).subset hx)).kept (KeepM.of_below gZ)).sub fun g hg=>.inl hg⟩,gZ⟩
 rw[List.length_eraseIdx,if_pos hk]
 exact C3 hf (.inr ⟨QH.1,aw⟩) aw
theorem qh (L:List SetC) (k:Nat):(L.eraseIdx k).map SetC.s=(L.map SetC.s).eraseIdx k:=by
 rw[List.eraseIdx_eq_take_drop_succ,List.eraseIdx_eq_take_drop_succ,yS,List.map_take,List.map_drop]
theorem qqH (B D:Nat) (M:Nat→Prop) (st:St) (r:StR) (nm:ByteArray) (w:World) (h:StoreAt w B D M st r) (aK:StOk st) (hp:st.past.length≤1000) :
  Calls Tryz.prog 26 #[.pointer (some ⟨D,0,none⟩),.string nm] w (jF B D M (cw st nm) w):=by
 have HX:=zh (me r.L nm)
 have hd:=h.blk.cell 0
 simp only[aP,aO] at hd
 have hF:=Kz D r.sv r.L nm w hd h.blk.lt h.at
 rw[HX.o,h.setsE] at hF
 have lh:=zh fun lv L2 W (hb:Below w.heap.size w W) (hl:SetsM W (dh M w.heap.size W.heap.size) lv L2)=>Gg B D (dh M w.heap.size W.heap.size) st r lv L2 W (uf h hb) hl hp
 have QZ:=zh fun W (hb:Below w.heap.size w W) (PN:r.L.length≤60)=>J1 r.sv r.L W (h.below hb).at (by omega)
 have hB:=yH h.base (YJ h.blk.lt)
 have Kc:=h.blk.lt
 have PN:r.L.length≤60:=by
  have:=aK.len
  rw[← h.setsE,yP] at this
  exact this
 have HS:=zh h
 clear h aK hp HX
 obtain⟨As,cs,es⟩:∃ A c,r.sv = .slice A r.L.length c:=let ⟨A,c,e,_⟩:=HS.o.at;⟨A,c,e⟩
 have pc:=zh es
 clear es hd
 go_enter Tryz.func26,Tryz.ntmps26
 go_wp2_with fail
 refine hF.mono ?_
 rintro e w2 ⟨rfl,bE⟩
 have bK:=zh bE
 clear bE hF
 cases hi:fG st.sets nm with
 | none=>
  have HE:Y0 (cw st nm=(9,st)):=by unfold Y0 cw;rw[hi]
  rw[show ff none = -1 from rfl]
  clear hi
  go_wp2_with fail
  go_ret
  rw[HE.o]
  exact rH HS.o bK.o
 | some k=>
  rw[show ff (some k)=(k:Int) from rfl]
  obtain⟨hk,-⟩:=LB HS.o.setsE hi
  have HE:Y0 (cw st nm=(0,{ st with sets:=st.sets.eraseIdx k,past:=st.past++[st.sets] })):=by unfold Y0 cw;rw[hi]
  have QV:=zh hk
  have kc0:(0:Int)≤(k:Int):=yE _
  have kc1:(k:Int)≤60:=by omega
  have im:=(HS.o.below bK.o).blk.cell 0
  simp only[aP,aO] at im
  rw[pc.o] at im
  have vqP:=yK Kc bK.o.size
  have dW:=QZ.o w2 bK.o PN
  rw[pc.o] at dW
  clear hi hk QZ
  go_wp2_with fail
  refine dW.mono ?_
  rintro e w3 ⟨lv,rfl,Du,cO⟩
  have bY:=zh (bK.o.trans (cO.mono bK.o.size))
  have Ec:=zh (bo Du bK.o.size)
  obtain⟨g5,c5,rfl⟩:∃ g c,lv = .slice (some ⟨g,0,none⟩) r.L.length c:=by
   rcases Du.2 with⟨_,h0⟩ | ⟨g,cap,cur,rfl,_⟩
   ·have:=QV.o
    omega
   exact⟨g,cap,rfl⟩
  have hde:=Mk w.heap.size g5 c5 r.L k w3 QV.o (by omega) Ec.o
  clear cO Du bK dW im
  go_wp2_with fail
  refine hde.mono ?_
  rintro e w4 ⟨rfl,hf4,hg4⟩
  obtain⟨jM,cD⟩:=Rz HS.o bY.o Ec.o QV.o hf4 hg4
  have Zk:=lh.o _ _ w4 cD jM
  have HPF:Y0 (∀ e W',jy B D (dh M w.heap.size w4.heap.size) st ((r.L.eraseIdx k).map SetC.s) w4 e W'→e = .returned (.tuple #[])∧jF B D M (cw st nm) w (.returned (.int .i64 0)) W'):=fun e W' Jd=>⟨Jd.1,qA cD hB (by rw[HE.o,qh,HS.o.setsE]) Jd⟩
  clear jM cD hf4 hg4 hde Ec bY lh HS HE
  go_wp2_with fail
  refine Zk.mono ?_
  intro e w9 Jd
  obtain⟨he,hpp⟩:=HPF.o e w9 Jd
  subst he
  have HPP:=zh hpp
  clear Jd hpp HPF Zk
  go_wp2_with fail
  go_ret
  exact HPP.o
end Go.Proofs.YtfhmbechennkbaaGreatDoor
