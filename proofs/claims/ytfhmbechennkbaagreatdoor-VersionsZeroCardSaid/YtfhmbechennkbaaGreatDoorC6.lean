/- Lemmas. -/
import Derived.Test.YtfhmbechennkbaaGreatDoorC5
namespace Go.Proofs.YtfhmbechennkbaaGreatDoor
set_option maxRecDepth 100000
set_option maxHeartbeats 40000000
open Go.RowKit Go.Shelf
structure FrT where
 num:Int
 den:Int
deriving DecidableEq
def FrT.cells (x:FrT):List Value:=[.int .i64 x.num,.int .i64 x.den]
abbrev FrT.val (x:FrT):Value:=.agg #[.int .i64 x.num,.int .i64 x.den]
def B5 (q:Rat):FrT:=⟨q.num,(q.den:Int)⟩
def FrsAt (w:World) (B:Nat) (v:Value) (l:List FrT):Prop:=Flat w B v l.length (l.flatMap FrT.cells)
theorem FrsAt.below {w w':World} {B B':Nat} {v:Value} {l:List FrT} (h:FrsAt w B v l) (hb:Below B' w w') (hB:B≤B'):FrsAt w' B v l:=Flat.below h hb hB
theorem FrsAt.mono {w:World} {B B':Nat} {v:Value} {l:List FrT} (h:FrsAt w B v l) (hB:B≤B'):FrsAt w B' v l:=Flat.mono h hB
theorem qxX (l:List FrT) (j i:Nat) (hj:j<l.length) (hi:i<2):(l.flatMap FrT.cells)[j*2+i]? = l[j].cells[i]?:=by
 induction l generalizing j with
 | nil=>simp at hj
 | cons t l ih=>
  have h5:t.cells.length=2:=rfl
  rw[List.flatMap_cons]
  cases j with
  | zero=>rw[List.getElem?_append_left (by rw[h5];omega)];simp
  | succ j=>
   rw[List.getElem?_append_right (by rw[h5];omega),h5]
   have:=ih j (by simpa using hj)
   rw[show (j+1)*2+i-2=j*2+i by omega,this]
   rfl
theorem FrsAt.open_ {w:World} {B:Nat} {v:Value} {l:List FrT} (h:FrsAt w B v l) :
  ∃ A c,v = .slice A l.length c∧l.length≤c∧c≤maxLen∧∀ k (_:k<l.length),∃ b off,A=some ⟨b,off,none⟩∧b<B∧∀ j (hj:j<l.length),w.cell? ⟨b,off+j*2,none⟩=some (.int .i64 l[j].num)∧w.cell? ⟨b,off+j*2+1,none⟩=some (.int .i64 l[j].den):=by
 obtain⟨A,c,h1,h2,h3,h4⟩:=h
 refine⟨A,c,h1,h2,h3,fun k hk=>?_⟩
 obtain⟨b,off,e,aw,hc⟩:=h4 (by omega)
 refine⟨b,off,e,aw,fun j hj=>?_⟩
 have f:=fun (i:Nat) (hi:i<2) u (hu:l[j].cells[i]? = some u)=>hc (j*2+i) u ((qxX l j i hj hi).trans hu)
 have g:=fun (i:Nat) (hi:i<2) u (hu:l[j].cells[i]? = some u)=>(congrArg (fun o=>w.cell? ⟨b,o,none⟩) (Nat.add_assoc off (j*2) i)).trans (f i hi u hu)
 exact⟨g 0 (by omega) _ rfl,g 1 (by omega) _ rfl⟩
theorem Dt:(Tryz.prog.info? 82).map (fun i=>(i.zero,i.size,i.bytes))=some (some (.agg #[.int .i64 0,.int .i64 0]),2,16):=by kernel_rfl
def iU (l:List Rat):Bool:=l.all ju
def FracsPost (l:List Rat) (w:World) (e:Ending) (w':World):Prop :=
 Below w.heap.size w w'∧((iU l=true∧∃ v,e = .returned (.tuple #[v,.int .i64 0])∧w'.ownsRow w.heap.size 82 2 v l.length ((l.map B5).flatMap FrT.cells))∨(iU l=false∧e = .returned (.tuple #[.slice none 0 0,.int .i64 5])))
theorem uM {l:List Rat} {k:Nat} (hk:k<l.length) (h:ju l[k]=false):iU l=false:=by
 unfold iU
 rw[List.all_eq_false]
 exact⟨l[k],yV hk,by rw[h];decide⟩
theorem Jn {q:Rat} (h:ju q=true):jO q = .tuple #[.agg #[.int .i64 q.num,.int .i64 (q.den:Int)],.int .i64 0]:=if_pos h
theorem Jo {q:Rat} (h:ju q=false):jO q = .tuple #[.agg #[.int .i64 0,.int .i64 0],.int .i64 5]:=if_neg (by rw[h];decide)
theorem qC {w w':World} {B e s n:Nat} {v:Value} {xs:List Value} (h:w.ownsRow B e s v n xs) (hb:Below w.heap.size w w'):w'.ownsRow B e s v n xs :=
 h.kept (lB (row:=none) hb) (by
  by_cases e:v.ownBlock=none
  ·exact .inl e
  exact .inr e)
theorem qqu (v:Value) (l:List Rat) (w:World) (hv:ExsAt w v l) (hl:l.length≤100):Calls Tryz.prog 118 #[v] w (FracsPost l w):=by
 obtain⟨g,rfl,hR⟩:=hv
 have HR:=zh hR
 obtain⟨iF,hiF,LF,LD,LC⟩:=info_parts Dt
 clear hR
 go_enter Tryz.func118,Tryz.ntmps118
 go_wp2_with fail
 go_loopw [4,11] (fun ox ix wr=>∃ k:Nat,k≤l.length∧ix = .int .i64 k∧Y0 (wr.ownsRow w.heap.size 82 2 ox k (((l.take k).map B5).flatMap FrT.cells))∧Y0 (iU (l.take k)=true)∧Y0 (Below w.heap.size w wr)) (fun _ ix _=>l.length-(intOf ix).toNat)
 case atStart=>exact⟨0,yI _,rfl,yJ _ _ _ _,rfl,yB _ _⟩
 obtain⟨k,hk,rfl,HO,HA,HB⟩:=hrel
 have k0:(0:Int)≤(k:Int):=yE _
 by_cases aB:k<l.length
 ·have k1:(k:Int)<(l.length:Int):=by omega
  obtain⟨gM,gQ,gH,gK,gL,gP,gG,gJ,y0,y1,y2,y3,hE⟩:=HR.o.read (i:=k) aB
  have HE:=zh (hE l[k] (yM aB))
  have hg:=HR.o.lt
  have y0:=(HB.o.cell (p:=⟨g,k*4,none⟩) hg).trans y0
  have y1:=(HB.o.cell (p:=⟨g,k*4+1,none⟩) hg).trans y1
  have y2:=(HB.o.cell (p:=⟨g,k*4+2,none⟩) hg).trans y2
  have y3:=(HB.o.cell (p:=⟨g,k*4+3,none⟩) hg).trans y3
  have HTk:Y0 (l.take (k+1)=l.take k++[l[k]]):=aC l k aB
  have mw:=zh (fun h:ju l[k]=false=>uM aB h)
  clear hE hg
  generalize l[k]=q at *
  go_wp2_with fail
  have tF:=(yB wr.heap.size wr).alloc (yA _) (.cells (zD gM gQ gH gK gL gP gG gJ) 195)
  refine (qx1 _ q _ ((HE.o.grow HB.o).grow tF)).mono ?_
  rintro e w5 ⟨rfl,bg⟩
  have bg:=tF.trans (bg.mono tF.size)
  have cN:=zh (HB.o.trans (bg.mono HB.o.size))
  have kg:=zh (qC HO.o bg)
  clear bg tF y0 y1 y2 y3
  cases hq:ju q
  case true=>
   rw[Jn hq]
   have HQ:=zh hq
   have ip:=cN.o.size
   have Oi:=zh ((kg.o.alloc (.cells #[.int .i64 q.num,.int .i64 (q.den:Int)] 82)).alloc (.cells #[.int .i64 q.num,.int .i64 (q.den:Int)] 82))
   have rV:=World.news_of_block (Blk.new (w5.alloc (.cells #[.int .i64 q.num,.int .i64 (q.den:Int)] 82)) 82 #[.int .i64 q.num,.int .i64 (q.den:Int)])
   rw[yZ] at rV
   have sK:=zh rV
   have HAl:Y0 (iU (l.take (k+1))=true):=by
    unfold Y0
    rw[HTk.o]
    unfold iU
    rw[List.all_append]
    have h:=HA.o
    unfold iU at h
    rw[h]
    simpa using HQ.o
   clear hq rV HO kg
   go_wp2_with (at_builtin;refine wpList_append_own _ rfl _ _ 59 rfl w.heap.size 82 iF (.agg #[.int .i64 0,.int .i64 0]) 2 16 Tryz.underlying59 hiF LF LD LC rfl (by decide) _ _ _ rfl Oi.o ⟨w5.heap.size+1,0,none⟩ 1 1 [.int .i64 q.num,.int .i64 (q.den:Int)] rfl rfl sK.o (by simp[Value.oneCell']) (by unfold maxLen;omega) (by omega) (by simp;omega) ?_;intro v' w1 fV dL _;obtain⟨g',oV,rfl⟩:=ownsRow_succ fV)
   have iq:=((cN.o.alloc ip (.cells #[.int .i64 q.num,.int .i64 (q.den:Int)] 82)).alloc (by simp;omega) (.cells #[.int .i64 q.num,.int .i64 (q.den:Int)] 82)).grown dL (by simp;omega) (fun j ej=>(Oi.o.lt j ej).1)
   have lK:=zh iq
   have hO6:w1.ownsRow w.heap.size 82 2 (.slice (some ⟨g',0,none⟩) (k+1) oV) (k+1) (((l.take (k+1)).map B5).flatMap FrT.cells):=by
    rw[HTk.o,yS,List.flatMap_append]
    exact fV
   have tS:=zh hO6
   clear iq hO6 fV dL Oi cN HB HA
   go_roundw
   case rel=>exact⟨k+1,by omega,by go_num,tS,HAl,lK⟩
   simp[intOf];omega
  rw[Jo hq]
  have HQ:=zh (mw.o hq)
  have ip:=cN.o.size
  have lK:=zh (cN.o.alloc ip (.cells #[.int .i64 0,.int .i64 0] 82))
  clear hq HO kg
  go_wp2_with fail
  refine YI (results_tmp2 rfl _ _ _) (by rfl) ?_
  exact⟨lK.o,.inr ⟨HQ.o,rfl⟩⟩
 obtain rfl:k=l.length:=by omega
 rw[yT] at HO HA
 go_wp2_with fail
 refine YI (results_tmp2 rfl _ _ _) (by rfl) ?_
 exact⟨HB.o,.inl ⟨HA.o,_,rfl,HO.o⟩⟩
theorem lA (b:BeamT) {i:Nat} (hi:i<b.sup.length):(tr b)[i]? = some (Zx b i):=by
 unfold tr
 rw[YD,List.getElem?_range hi]
 rfl
def kc (b:BeamT) (i:Nat):Nat→Option Rat:=fun j=>if j<i then some (kR b j) else none
theorem mG (b:BeamT) (i:Nat):kc b (i+1)=eh (kc b i) i (kR b i):=by
 funext j
 unfold kc eh
 by_cases e:j=i
 ·subst e
  rw[if_pos rfl,if_pos (Nat.lt_succ_self _)]
 rw[if_neg e]
 dsimp only
 by_cases h:j<i
 ·rw[if_pos h,if_pos (by omega)]
 rw[if_neg h,if_neg (by omega)]
theorem OD (b:BeamT) {j:Nat} {q:Rat} (h:(ef b)[j]? = some q):kc b b.sup.length j=some q:=by
 unfold ef at h
 rw[YD] at h
 cases hj:(List.range b.sup.length)[j]? with
 | none=>rw[hj] at h;cases h
 | some x=>
  rw[hj] at h
  obtain⟨h1,h2⟩:=List.getElem?_eq_some_iff.1 hj
  simp only[List.getElem_range] at h2
  subst h2
  unfold kc
  rw[if_pos (by simpa using h1)]
  exact h
theorem wA (b:BeamT):(ef b).length=b.sup.length:=by simp[ef]
structure RcSt (w wr:World) (b:BeamT) (bx:Array Value) (gm go:Nat) (fo:Nat→Option Rat):Prop where
 bm:Blk wr w.heap.size 122 bx
 mom:ExRow wr gm b.sup.length (fun j=>(tr b)[j]?)
 o:ExRow wr go b.sup.length fo
 bel:Below w.heap.size w wr
 gm:gm<w.heap.size
 go:w.heap.size<go
section
variable {w wr w':World} {b:BeamT} {bx:Array Value} {gm go:Nat} {fo:Nat→Option Rat}
theorem RcSt.grow (h:RcSt w wr b bx gm go fo) (hb:Below wr.heap.size wr w'):RcSt w w' b bx gm go fo :=
 ⟨h.bm.below hb h.bm.lt,h.mom.grow hb,h.o.grow hb,h.bel.trans (hb.mono h.bel.size),h.gm,h.go⟩
theorem RcSt.alloc (h:RcSt w wr b bx gm go fo) (o:Obj):RcSt w (wr.alloc o) b bx gm go fo:=h.grow ((yB _ _).alloc (yA _) _)
theorem RcSt.put (h:RcSt w wr b bx gm go fo) {i:Nat} (hi:i<b.sup.length) {b1:Bool} {A1:Option Addr} {l1 c1:Nat} {b2:Bool} {A2:Option Addr} {l2 c2:Nat} {q:Rat} (hE:ExactAt wr (.agg (zD b1 A1 l1 c1 b2 A2 l2 c2)) q) :
  RcSt w ((((wr.setCell ⟨go,i*4,none⟩ (.bool b1)).setCell ⟨go,i*4+1,none⟩ (.slice A1 l1 c1)).setCell ⟨go,i*4+2,none⟩ (.bool b2)).setCell ⟨go,i*4+3,none⟩ (.slice A2 l2 c2)) b bx gm go (eh fo i q):=by
 obtain⟨cs,hg⟩:=h.o.blk
 have h1:=h.gm
 have h2:=h.go
 exact⟨h.bm.far4o (Nat.ne_of_lt h2) _ _ _ _ _,h.mom.far hg (by omega) _ _ _ _ _,h.o.write hi hE,dN h.bel (YJ h2) _ _ _ _ _,h1,h2⟩
end
def qqC (l:List Rat) (w:World) (e:Ending) (w':World):Prop:=Below w.heap.size w w'∧∃ v,e = .returned v∧ExsAt w' v l
theorem XH (v u:Value) (b:BeamT) (w:World) (hv:BeamAt w w.heap.size v b) (hu:ExsAt w u (tr b)) (hb:BeamOk b):Calls Tryz.prog 119 #[v,u] w (qqC (ef b) w):=by
 obtain⟨As,cs,Al,cl,rfl,hS,hL⟩:=hv
 obtain⟨gm,rfl,hM⟩:=hu
 obtain⟨Bj,hm2⟩:=hb.sup1
 obtain⟨_,_,e,_,_,uD⟩:=hS.open_
 injection e with e1 _ e2
 subst e1 e2
 obtain⟨bs,os,rfl,ip,D6⟩:=uD 0 Bj
 obtain⟨_,_,e,_,dW,oN⟩:=hL.open_
 injection e with e1 _ e2
 subst e1 e2
 unfold maxLen at dW
 have HV:Y0 (BeamAt w w.heap.size (.agg (zC b (some ⟨bs,os,none⟩) cs Al cl)) b):=⟨_,_,Al,cl,rfl,hS,hL⟩
 have lq:Y0 (∀ j,j<b.sup.length→w.cell? ⟨bs,os+j,none⟩=some (.int .i64 (ak b j))):=fun j hj=>by
  have h:=D6 j hj
  unfold ak
  rw[yN,yM hj]
  exact h
 have vn:=zh oN
 have Hb:=zh hb
 have HbT:=zh (lT hb)
 rw[rQ] at hM
 rw[rQ]
 have HM:=zh hM
 have HD:=zh (Blk.new w 122 (zC b (some ⟨bs,os,none⟩) cs Al cl))
 have HB:=zh ((yB _ w).alloc (yA _) (.cells (zC b (some ⟨bs,os,none⟩) cs Al cl) 122))
 have hll:=hb.loads1
 obtain⟨iE,LP,qM,qL,tD⟩:=info_parts qK
 have bV:iE.bytes*b.sup.length≤281474976710656:=by rw[tD];omega
 clear hS hL hb uD D6 oN hM
 go_enter Tryz.func119,Tryz.ntmps119
 go_wp2_with (at_make;refine wpList_make_full _ rfl _ _ 155 rfl _ 195 iE (.agg (zD false none 0 0 false none 0 0)) 4 Tryz.underlying155 LP qM qL .i64 .i64 _ _ b.sup.length rfl rfl rfl rfl bV (by unfold maxLen;omega) (Nat.le_refl _) ?_;intro Kq Bh pM;have Q8:=zh (HD.o.kept pM (by simp));have y0:=Q8.o.cell 0;have y1:=Q8.o.cell 1;have y2:=Q8.o.cell 2;have y3:=Q8.o.cell 3;simp only[aP,aQ,aO] at y0 y1 y2 y3;have tT:=zh Bh;have qj9:=zh pM;clear Bh pM)
 have Yo:Y0 (RcSt w Kq b (zC b (some ⟨bs,os,none⟩) cs Al cl) gm (w.heap.size+1) (kc b 0)):=by
  have dK:(w.alloc (.cells (zC b (some ⟨bs,os,none⟩) cs Al cl) 122)).heap.size=w.heap.size+1:=by simp
  have sd:=(yB (w.alloc (.cells (zC b (some ⟨bs,os,none⟩) cs Al cl) 122)).heap.size (w.alloc (.cells (zC b (some ⟨bs,os,none⟩) cs Al cl) 122))).grown qj9.o (yA _) (fun k hk=>by cases hk)
  have Bf:=ExRow.made tT.o
  have hb:=HB.o.trans (sd.mono HB.o.size)
  exact⟨Q8.o,(HM.o.grow ((yB _ w).alloc (yA _) _)).grow sd,by
   have h:=Bf.weak (f':=kc b 0) (fun j q _ h=>by unfold kc at h;rw[if_neg (by omega)] at h;cases h)
   simpa using h,hb,HM.o.lt,by omega⟩
 have HGm:=zh HM.o.lt
 clear HM Q8 tT qj9 HD HB bV LP qM qL tD y0 y1 y2 y3
 generalize w.heap.size+1=go at *
 go_loopw [21] (fun ix wr=>∃ i:Nat,i≤b.sup.length∧ix = .int .i64 i∧Y0 (RcSt w wr b (zC b (some ⟨bs,os,none⟩) cs Al cl) gm go (kc b i))) (fun ix _=>b.sup.length-(intOf ix).toNat)
 case atStart=>exact⟨0,yI _,rfl,Yo⟩
 clear Yo
 obtain⟨i,him,rfl,HR⟩:=hrel
 have k0:(0:Int)≤(i:Int):=yE _
 have k01:(i:Int)≤10:=by omega
 by_cases rk:i<b.sup.length
 ·have k1:(i:Int)<(b.sup.length:Int):=by omega
  obtain⟨sq,hsq⟩:∃ sq,ak b i=sq:=⟨_,rfl⟩
  have FE:=zh hsq
  have z1:=(HR.o.bel.cell (p:=⟨bs,os+i,none⟩) ip).trans (lq.o i rk)
  have ts:=Hb.o.sup i rk
  have tl:=Hb.o.len
  rw[hsq] at z1 ts
  clear hsq
  obtain⟨ts1,ts2⟩:=ts
  obtain⟨Cd,Cc⟩:=tl
  obtain⟨y0,y1,y2,y3,y4⟩:=HR.o.bm.c5
  go_wp2_with fail
  refine (eV _ _ (by decide) (by decide)).mono ?_
  rintro e w5 ⟨bg,v5,rfl,Ma⟩
  obtain⟨qv1,qv3,qvX,qvZ,qv0,qv2,qvW,qvY,rfl,-,-⟩:=Ma.form
  have Yw:=zh Ma
  have m8:=zh (HR.o.grow bg)
  obtain⟨_,_,_,_,_,_,_,_,o0,o1,o2,o3,-⟩:=m8.o.o.read (i:=i) rk
  have lF:=m8.o.o.frozen (i*4)
  have lE:=m8.o.o.frozen (i*4+1)
  have lD:=m8.o.o.frozen (i*4+2)
  have lC:=m8.o.o.frozen (i*4+3)
  have vm:=zh (m8.o.put (i:=i) rk Yw.o)
  have y3:=vm.o.bm.cell 3
  simp only[aP,aQ,aO] at y3
  clear y0 y1 y2 y4 Ma bg HR z1
  go_wp2_with fail
  generalize ((((w5.setCell ⟨go,i*4,none⟩ (.bool qv1)).setCell ⟨go,i*4+1,none⟩ (.slice qv3 qvX qvZ)).setCell ⟨go,i*4+2,none⟩ (.bool qv0)).setCell ⟨go,i*4+3,none⟩ (.slice qv2 qvW qvY))=W6 at *
  clear m8 Yw o0 o1 o2 o3 lF lE lD lC y3
  obtain⟨wo,rfl⟩:∃ wo:World,wo=W6:=⟨_,rfl⟩
  have HR7:Y0 (RcSt w wo b (zC b (some ⟨bs,os,none⟩) cs Al cl) gm go (eh (kc b i) i (jm b sq 0))):=vm
  clear vm
  go_loopw [33] (fun kx wr=>∃ k:Nat,k≤b.loads.length∧kx = .int .i64 k∧Y0 (RcSt w wr b (zC b (some ⟨bs,os,none⟩) cs Al cl) gm go (eh (kc b i) i (jm b sq k)))) (fun kx _=>b.loads.length-(intOf kx).toNat)
  case atStart=>exact⟨0,yI _,rfl,HR7⟩
  clear HR7
  obtain⟨k,hk,rfl,HR⟩:=hrel
  have kk0:(0:Int)≤(k:Int):=yE _
  by_cases aB:k<b.loads.length
  ·have kk1:(k:Int)<(b.loads.length:Int):=by omega
   obtain⟨b2,o2,rfl,aw,qzj⟩:=vn.o k aB
   obtain⟨cW,cT⟩:=qzj k aB
   have cW:=(HR.o.bel.cell (p:=⟨b2,o2+k*2,none⟩) aw).trans cW
   have cT:=(HR.o.bel.cell (p:=⟨b2,o2+k*2+1,none⟩) aw).trans cT
   obtain⟨p1,p2,p3,p4⟩:=Hb.o.loads _ (yV aB)
   have lg:=zh (Zl (b:=b) (f:=oK sq) (s:=((0:Int):Rat)) aB)
   have Q6:=zh (Dy Hb.o sq (YJ aB))
   have fF:=zh (HR.o.alloc (.cells #[.int .i64 b.loads[k].pos,.int .i64 b.loads[k].wt] 162))
   clear qzj
   generalize b.loads[k]=x at *
   obtain⟨pos,wt⟩:=x
   simp only at cW cT p1 p2 p3 p4 fF
   by_cases qN:pos=sq
   ·have hd:(pos==sq)=true:=beq_iff_eq.2 qN
    have HT:Y0 (jm b sq (k+1)=jm b sq k+((wt:Int):Rat)):=by
     unfold Y0 jm
     rw[lg.o]
     unfold oK
     simp only[if_pos qN]
    have CB:Y0 (bT ((wt:Int):Rat) 5):=vt (x:=⟨pos,wt⟩) ⟨p3,p4⟩
    clear lg qN
    go_wp2_with fail
    have z:=Blk.new wr 162 #[.int .i64 pos,.int .i64 wt]
    have z2:=z.cell 0
    have z3:=z.cell 1
    simp only[aP,aQ,aO] at z2 z3
    clear z cW cT HR
    generalize wr.alloc (.cells #[.int .i64 pos,.int .i64 wt] 162)=W7 at *
    have MN:=YL z2
    have uz1:=YL z3
    clear z2 z3
    obtain⟨fJ,fK,fH,fI,fw,fx,fu,fv,a0,a1,a2,a3,mj⟩:=fF.o.o.read (i:=i) (by omega)
    have my:=zh (mj _ (dS _ _ _))
    have pY:=YL a0
    have pX:=YL a1
    have pW:=YL a2
    have pV:=YL a3
    clear a0 a1 a2 a3 mj
    have aG:=zh fF.o.bel
    refine ag 11 (fun jx=>if jx=8 then some (gE (((wt:Int):Rat))) else if jx=9 then some (gE (jm b sq k+((wt:Int):Rat))) else none) (by kernel_rfl) (by kernel_rfl) ?_
    simp only[aU,aT,aW,aX]
    refine ae 8 (by kernel_rfl) (by rfl) (by decide) ?_
    simp only[aU,aT,aW,aX]
    repeat (go_big_quiet_step (fail))
    refine YH ?_
    refine af rfl rfl ?_ ?_
    ·intro w1 ao hk
     have hb:=(aG.o).trans (ao.mono (aG.o).size)
     have hC:=MakesE.g (eV wt w1 (by omega) (by omega))
     exact⟨156,#[.int .i64 wt],by go_simp,hC⟩
    rintro _ ⟨qwz,qwB,qwv,qwx,qwy,qwA,qwu,qww,rfl⟩
    simp only[Act.put,aJ,aI,aH]
    refine af rfl rfl ?_ ?_
    ·intro w1 ao hk
     have hb:=(aG.o).trans (ao.mono (aG.o).size)
     have h49:ExactAt w1 (.agg (zD qwz qwB qwv qwx qwy qwA qwu qww)) (((wt:Int):Rat)):=hk 49 (yG (by kernel_rfl))
     have hC:=MakesE.g (du _ _ _ _ 245 5 w1 (my.o.grow ao) h49 Q6.o CB.o (by decide))
     exact⟨157,#[.agg (zD fJ fK fH fI fw fx fu fv),.agg (zD qwz qwB qwv qwx qwy qwA qwu qww)],by go_simp,hC⟩
    rintro _ ⟨qwr,qwt,qwn,qwp,qwq,qws,qwm,qwo,rfl⟩
    simp only[Act.put,aJ,aI,aH]
    refine ae 1 (by kernel_rfl) (by rfl) (by decide) ?_
    simp only[aU,aT,aW,aX]
    repeat (go_big_quiet_step (fail))
    refine YH ?_
    refine Zc ?_
    intro w8 aM hF
    have h50:ExactAt w8 (.agg (zD qwr qwt qwn qwp qwq qws qwm qwo)) (jm b sq k+((wt:Int):Rat)):=hF 50
    rw[← HT.o] at h50
    have qkc:=zh h50
    have fq:=zh (fF.o.grow aM)
    obtain⟨_,_,_,_,_,_,_,_,o0,o1,o2,o3,-⟩:=fq.o.o.read (i:=i) (by omega)
    have lF:=fq.o.o.frozen (i*4)
    have lE:=fq.o.o.frozen (i*4+1)
    have lD:=fq.o.o.frozen (i*4+2)
    have lC:=fq.o.o.frozen (i*4+3)
    clear hF h50 aM fF aG pY pX pW pV my MN uz1
    go_wp2_with fail
    have Og:=zh (fq.o.put (i:=i) (by omega) qkc.o)
    rw[dT] at Og
    generalize ((((w8.setCell ⟨go,i*4,none⟩ (.bool qwr)).setCell ⟨go,i*4+1,none⟩ (.slice qwt qwn qwp)).setCell ⟨go,i*4+2,none⟩ (.bool qwq)).setCell ⟨go,i*4+3,none⟩ (.slice qws qwm qwo))=W8 at *
    clear fq qkc o0 o1 o2 o3 lF lE lD lC
    go_roundw
    case rel=>exact⟨k+1,by omega,by go_num,Og⟩
    simp[intOf];omega
   have hd:(pos==sq)=false:=beq_eq_false_iff_ne.2 qN
   have HT:Y0 (jm b sq (k+1)=jm b sq k):=by
    unfold Y0 jm
    rw[lg.o]
    unfold oK
    simp only[if_neg qN]
   rw[← HT.o] at fF
   clear lg HR qN
   go_wp2_with fail
   go_roundw
   case rel=>exact⟨k+1,by omega,by go_num,fF⟩
   simp[intOf];omega
  obtain rfl:k=b.loads.length:=by omega
  have nj:Y0 (RcSt w wr b (zC b (some ⟨bs,os,none⟩) cs Al cl) gm go (eh (kc b i) i (eS b i))):=by
   unfold Y0 eS
   rw[FE.o]
   exact HR.o
  have z1:=(nj.o.bel.cell (p:=⟨bs,os+i,none⟩) ip).trans (lq.o i rk)
  rw[FE.o] at z1
  have kk2:decide ((b.loads.length:Int)<(b.loads.length:Int))=false:=yC (Int.lt_irrefl _)
  clear HR
  obtain⟨W9,rfl⟩:∃ W:World,W=wr:=⟨_,rfl⟩
  by_cases h0:0<i
  ·by_cases h1:i+1<b.sup.length
   ·have gu:((i:Int)==0)=false:=beq_eq_false_iff_ne.2 (by omega)
    have hzn:((i:Int)==(b.sup.length:Int)-1)=false:=beq_eq_false_iff_ne.2 (by omega)
    have YT:decide ((i:Int)+1<(b.sup.length:Int))=true:=yD (by omega)
    have hp0:(0:Int)<(i:Int):=by omega
    have z0:=(nj.o.bel.cell (p:=⟨bs,os+(i-1),none⟩) ip).trans (lq.o (i-1) (by omega))
    have t1:=Hb.o.inc (i-1) (by omega)
    have t0:=Hb.o.sup (i-1) (by omega)
    rw[show i-1+1=i by omega,FE.o] at t1
    have qjb:Y0 (ak b (i-1)=ak b (i-1)):=rfl
    have Q5:=ij Hb.o (i:=i-1) (by omega) false
    rw[show i-1+1=i by omega,FE.o] at Q5
    have Q5:=zh Q5
    have FF:=zh (fR Hb.o (i:=i-1) (by omega))
    have HMi:=zh (fR Hb.o (i:=i) (by omega))
    have Ym:Y0 (∀ c,c=ak b (i-1)→dJ b i=eS b i+bP b c sq false+(Zx b (i-1)-Zx b i) / ((sq-c:Int):Rat)):=fun c hc=>by
     unfold dJ bd
     rw[if_pos h0,FE.o,hc]
    obtain⟨sp,hsp⟩:∃ sp,ak b (i-1)=sp:=⟨_,rfl⟩
    have gx:=zh (Ym.o sp hsp.symm)
    rw[hsp] at t1 z0 Q5 t0
    clear Ym hsp qjb
    obtain⟨t01,t02⟩:=t0
    have i2:((i:Int)-1).toNat=i-1:=by omega
    have i4:(0:Int)≤(i:Int)-1:=by omega
    have i5:(i:Int)-1<(b.sup.length:Int):=by omega
    have v1:IntKind.i64.wrap ((i:Int)-1)=(i:Int)-1:=yF _ (by omega)
    have v3:IntKind.i64.wrap (sq-sp)=sq-sp:=yF _ (by omega)
    have z2:=(nj.o.bel.cell (p:=⟨bs,os+(i+1),none⟩) ip).trans (lq.o (i+1) (by omega))
    have t2:=Hb.o.inc i h1
    have t3:=Hb.o.sup (i+1) h1
    rw[FE.o] at t2
    have F0:=ij Hb.o (i:=i) h1 true
    rw[FE.o] at F0
    have F0:=zh F0
    have HMp:=zh (fR Hb.o (i:=i+1) h1)
    have HMj:=zh (fR Hb.o (i:=i) (by omega))
    have CB:=zh (lz Hb.o (i:=i) (by omega))
    have Ym:Y0 (∀ c,c=ak b (i+1)→eR b i=dJ b i+bP b sq c true+(Zx b (i+1)-Zx b i) / ((c-sq:Int):Rat)):=fun c hc=>by
     unfold eR bd
     rw[if_pos h1,Nat.add_sub_cancel,FE.o,hc]
    obtain⟨sr,hsr⟩:∃ sr,ak b (i+1)=sr:=⟨_,rfl⟩
    have jS:=zh (Ym.o sr hsr.symm)
    rw[hsr] at t2 z2 F0 t3
    have iN:=lq.o (i+1) (by omega)
    rw[hsr] at iN
    have HZ2:=zh iN
    clear Ym hsr iN
    obtain⟨t31,t32⟩:=t3
    have i3:((i:Int)+1).toNat=i+1:=by omega
    have i6:(i:Int)+1<(b.sup.length:Int):=by omega
    have i9:(0:Int)≤(i:Int)+1:=by omega
    have v2:IntKind.i64.wrap ((i:Int)+1)=(i:Int)+1:=yF _ (by omega)
    have v4:IntKind.i64.wrap (sr-sq)=sr-sq:=yF _ (by omega)
    have HF3:=zh (ie Hb.o (i:=i) (by omega))
    have HF4:=zh (ly Hb.o (i:=i) (by omega))
    obtain⟨y0,y1,y2,y3,y4⟩:=nj.o.bm.c5
    go_wp2_with fail
    clear y0 y1 y2 y3 y4
    obtain⟨fJ,fK,fH,fI,fw,fx,fu,fv,a0,a1,a2,a3,mj⟩:=nj.o.o.read (i:=i) (by omega)
    have my:=zh (mj _ (dS _ _ _))
    have pY:=YL a0
    have pX:=YL a1
    have pW:=YL a2
    have pV:=YL a3
    clear a0 a1 a2 a3 mj
    obtain⟨kl,ko,ki,kj,jI,jJ,jG,jH,c0,c1,c2,c3,Bz⟩:=nj.o.mom.read (i:=(i-1)) (by omega)
    have BW:=zh (Bz _ (lA b (by omega)))
    have FN:=YL c0
    have Eh:=YL c1
    have FM:=YL c2
    have vV:=YL c3
    clear c0 c1 c2 c3 Bz
    obtain⟨Co,Cq,Cd,Cm,Cn,Cp,Cc,Cl,d0,d1,d2,d3,Ji⟩:=nj.o.mom.read (i:=i) (by omega)
    have JO:=zh (Ji _ (lA b (by omega)))
    have FL:=YL d0
    have FK:=YL d1
    have FJ:=YL d2
    have FI:=YL d3
    clear d0 d1 d2 d3 Ji
    obtain⟨y0,y1,y2,y3,y4⟩:=nj.o.bm.c5
    have FT:=YL y0
    have FR:=YL y1
    have FQ:=YL y2
    have FP:=YL y3
    have FO:=YL y4
    clear y0 y1 y2 y3 y4
    have aG:=zh nj.o.bel
    refine ag 28 (fun jx=>if jx=9 then some (gE (bP b sp sq false)) else if jx=10 then some (gE (eS b i+bP b sp sq false)) else if jx=20 then some (gE (Zx b (i-1)-Zx b i)) else if jx=24 then some (gE (((sq-sp:Int):Rat))) else if jx=25 then some (gE ((Zx b (i-1)-Zx b i) / ((sq-sp:Int):Rat))) else if jx=26 then some (gE (eS b i+bP b sp sq false+(Zx b (i-1)-Zx b i) / ((sq-sp:Int):Rat))) else none) (by kernel_rfl) (by kernel_rfl) ?_
    simp only[aU,aT,aW,aX]
    refine ae 9 (by kernel_rfl) (by rfl) (by decide) ?_
    simp only[aU,aT,aW,aX]
    repeat (go_big_quiet_step (fail))
    refine YH ?_
    refine af rfl rfl ?_ ?_
    ·intro w1 ao hk
     have hb:=(aG.o).trans (ao.mono (aG.o).size)
     have hC:=MakesE.g (vL _ b sp sq false w1 ((HV.o.below hb (yA _)).mono hb.size) Hb.o (by omega) (by omega) (by omega))
     exact⟨158,#[.agg (zC b (some ⟨bs,os,none⟩) cs Al cl),.int .i64 sp,.int .i64 sq,.bool false],by go_simp,hC⟩
    rintro _ ⟨GJ,GL,GF,GH,GI,GK,GD,GG,rfl⟩
    simp only[Act.put,aJ,aI,aH]
    refine af rfl rfl ?_ ?_
    ·intro w1 ao hk
     have hb:=(aG.o).trans (ao.mono (aG.o).size)
     have h70:ExactAt w1 (.agg (zD GJ GL GF GH GI GK GD GG)) (bP b sp sq false):=hk 70 (yG (by kernel_rfl))
     have hC:=MakesE.g (du _ _ _ _ 245 245 w1 (my.o.grow ao) h70 (ig Hb.o i) Q5.o (by decide))
     exact⟨157,#[.agg (zD fJ fK fH fI fw fx fu fv),.agg (zD GJ GL GF GH GI GK GD GG)],by go_simp,hC⟩
    rintro _ ⟨GA,GC,G6,G8,G9,GB,G5,G7,rfl⟩
    simp only[Act.put,aJ,aI,aH]
    refine ae 9 (by kernel_rfl) (by rfl) (by decide) ?_
    simp only[aU,aT,aW,aX]
    repeat (go_big_quiet_step (fail))
    refine YH ?_
    refine af rfl rfl ?_ ?_
    ·intro w1 ao hk
     have hb:=(aG.o).trans (ao.mono (aG.o).size)
     have hC:=MakesE.g (hH _ _ _ _ 60000 60000 w1 (BW.o.grow ao) (JO.o.grow ao) FF.o HMi.o (by decide))
     exact⟨159,#[.agg (zD kl ko ki kj jI jJ jG jH),.agg (zD Co Cq Cd Cm Cn Cp Cc Cl)],by go_simp,hC⟩
    rintro _ ⟨G2,G4,Gy,G0,G1,G3,Gx,Gz,rfl⟩
    simp only[Act.put,aJ,aI,aH]
    refine ae 3 (by kernel_rfl) (by rfl) (by decide) ?_
    simp only[aU,aT,aW,aX]
    repeat (go_big_quiet_step (fail))
    refine YH ?_
    refine af rfl rfl ?_ ?_
    ·intro w1 ao hk
     have hb:=(aG.o).trans (ao.mono (aG.o).size)
     have hC:=MakesE.g (eV (sq-sp) w1 (by omega) (by omega))
     exact⟨156,#[.int .i64 (sq-sp)],by go_simp,hC⟩
    rintro _ ⟨wG,wI,wC,wE,wF,wH,wB,wD,rfl⟩
    simp only[Act.put,aJ,aI,aH]
    refine af rfl rfl ?_ ?_
    ·intro w1 ao hk
     have hb:=(aG.o).trans (ao.mono (aG.o).size)
     have h81:ExactAt w1 (.agg (zD G2 G4 Gy G0 G1 G3 Gx Gz)) (Zx b (i-1)-Zx b i):=hk 81 (yG (by kernel_rfl))
     have h85:ExactAt w1 (.agg (zD wG wI wC wE wF wH wB wD)) (((sq-sp:Int):Rat)):=hk 85 (yG (by kernel_rfl))
     have hC:=MakesE.g (DN _ _ _ _ 120001 1 w1 h81 h85 (cV (K:=60000) (M:=60000) FF.o HMi.o) (bp (by rw[Nat.pow_one];omega) (yA _)) (by rw[Rat.num_intCast];omega) (by decide))
     exact⟨160,#[.agg (zD G2 G4 Gy G0 G1 G3 Gx Gz),.agg (zD wG wI wC wE wF wH wB wD)],by go_simp,hC⟩
    rintro _ ⟨uq,uu,uj,um,uo,us,ui,uk,rfl⟩
    simp only[Act.put,aJ,aI,aH]
    refine af rfl rfl ?_ ?_
    ·intro w1 ao hk
     have hb:=(aG.o).trans (ao.mono (aG.o).size)
     have h71:ExactAt w1 (.agg (zD GA GC G6 G8 G9 GB G5 G7)) (eS b i+bP b sp sq false):=hk 71 (yG (by kernel_rfl))
     have h86:ExactAt w1 (.agg (zD uq uu uj um uo us ui uk)) ((Zx b (i-1)-Zx b i) / ((sq-sp:Int):Rat)):=hk 86 (yG (by kernel_rfl))
     have hC:=MakesE.g (du _ _ _ _ (245+246) 120002 w1 h71 h86 (fX (ig Hb.o i) Q5.o) (dX (K:=120001) (M:=1) (by rw[Rat.num_intCast];omega) (cV (K:=60000) (M:=60000) FF.o HMi.o) (bp (by rw[Nat.pow_one];omega) (yA _))) (by decide))
     exact⟨157,#[.agg (zD GA GC G6 G8 G9 GB G5 G7),.agg (zD uq uu uj um uo us ui uk)],by go_simp,hC⟩
    rintro _ ⟨Gu,Gw,Gq,Gs,Gt,Gv,Gp,Gr,rfl⟩
    simp only[Act.put,aJ,aI,aH]
    refine ae 1 (by kernel_rfl) (by rfl) (by decide) ?_
    simp only[aU,aT,aW,aX]
    repeat (go_big_quiet_step (fail))
    refine YH ?_
    refine Zc ?_
    intro w8 aM hF
    have h87:ExactAt w8 (.agg (zD Gu Gw Gq Gs Gt Gv Gp Gr)) (eS b i+bP b sp sq false+(Zx b (i-1)-Zx b i) / ((sq-sp:Int):Rat)):=hF 87
    have Yv:=zh h87
    have fq:=zh (nj.o.grow aM)
    obtain⟨_,_,_,_,_,_,_,_,o0,o1,o2,o3,-⟩:=fq.o.o.read (i:=i) (by omega)
    have lF:=fq.o.o.frozen (i*4)
    have lE:=fq.o.o.frozen (i*4+1)
    have lD:=fq.o.o.frozen (i*4+2)
    have lC:=fq.o.o.frozen (i*4+3)
    clear hF h87 aM nj aG pY pX pW pV my FN Eh FM vV BW FL FK FJ FI JO FT FR FQ FP FO
    obtain⟨y0,y1,y2,y3,y4⟩:=fq.o.bm.c5
    have z2:=(fq.o.bel.cell (p:=⟨bs,os+(i+1),none⟩) ip).trans HZ2.o
    have ng1:w.heap.size≠go:=Nat.ne_of_lt fq.o.go
    have ng2:bs≠go:=by have:=fq.o.go;omega
    have ng3:go≠w.heap.size:=Ne.symm ng1
    have ng4:go≠bs:=Ne.symm ng2
    go_wp2_with fail
    clear y0 y1 y2 y3 y4 z2 ng1 ng2 ng3 ng4
    have Fv:=zh (fq.o.put (i:=i) (by omega) Yv.o)
    rw[dT] at Fv
    generalize ((((w8.setCell ⟨go,i*4,none⟩ (.bool Gu)).setCell ⟨go,i*4+1,none⟩ (.slice Gw Gq Gs)).setCell ⟨go,i*4+2,none⟩ (.bool Gt)).setCell ⟨go,i*4+3,none⟩ (.slice Gv Gp Gr))=Mw at *
    clear fq Yv o0 o1 o2 o3 lF lE lD lC
    rw[← gx.o] at Fv
    obtain⟨fJ,fK,fH,fI,fw,fx,fu,fv,a0,a1,a2,a3,mj⟩:=Fv.o.o.read (i:=i) (by omega)
    have my:=zh (mj _ (dS _ _ _))
    have pY:=YL a0
    have pX:=YL a1
    have pW:=YL a2
    have pV:=YL a3
    clear a0 a1 a2 a3 mj
    obtain⟨kl,ko,ki,kj,jI,jJ,jG,jH,c0,c1,c2,c3,Bz⟩:=Fv.o.mom.read (i:=(i+1)) (by omega)
    have BW:=zh (Bz _ (lA b (by omega)))
    have FN:=YL c0
    have Eh:=YL c1
    have FM:=YL c2
    have vV:=YL c3
    clear c0 c1 c2 c3 Bz
    obtain⟨Co,Cq,Cd,Cm,Cn,Cp,Cc,Cl,d0,d1,d2,d3,Ji⟩:=Fv.o.mom.read (i:=i) (by omega)
    have JO:=zh (Ji _ (lA b (by omega)))
    have FL:=YL d0
    have FK:=YL d1
    have FJ:=YL d2
    have FI:=YL d3
    clear d0 d1 d2 d3 Ji
    obtain⟨y0,y1,y2,y3,y4⟩:=Fv.o.bm.c5
    have FT:=YL y0
    have FR:=YL y1
    have FQ:=YL y2
    have FP:=YL y3
    have FO:=YL y4
    clear y0 y1 y2 y3 y4
    have aG:=zh Fv.o.bel
    refine ag 28 (fun jx=>if jx=9 then some (gE (bP b sq sr true)) else if jx=10 then some (gE (dJ b i+bP b sq sr true)) else if jx=20 then some (gE (Zx b (i+1)-Zx b i)) else if jx=24 then some (gE (((sr-sq:Int):Rat))) else if jx=25 then some (gE ((Zx b (i+1)-Zx b i) / ((sr-sq:Int):Rat))) else if jx=26 then some (gE (dJ b i+bP b sq sr true+(Zx b (i+1)-Zx b i) / ((sr-sq:Int):Rat))) else none) (by kernel_rfl) (by kernel_rfl) ?_
    simp only[aU,aT,aW,aX]
    refine ae 9 (by kernel_rfl) (by rfl) (by decide) ?_
    simp only[aU,aT,aW,aX]
    repeat (go_big_quiet_step (fail))
    refine YH ?_
    refine af rfl rfl ?_ ?_
    ·intro w1 ao hk
     have hb:=(aG.o).trans (ao.mono (aG.o).size)
     have hC:=MakesE.g (vL _ b sq sr true w1 ((HV.o.below hb (yA _)).mono hb.size) Hb.o (by omega) (by omega) (by omega))
     exact⟨158,#[.agg (zC b (some ⟨bs,os,none⟩) cs Al cl),.int .i64 sq,.int .i64 sr,.bool true],by go_simp,hC⟩
    rintro _ ⟨oq,ou,oe,oh,om,ot,od,og,rfl⟩
    simp only[Act.put,aJ,aI,aH]
    refine af rfl rfl ?_ ?_
    ·intro w1 ao hk
     have hb:=(aG.o).trans (ao.mono (aG.o).size)
     have WY:ExactAt w1 (.agg (zD oq ou oe oh om ot od og)) (bP b sq sr true):=hk 108 (yG (by kernel_rfl))
     have hC:=MakesE.g (du _ _ _ _ 121000 245 w1 (my.o.grow ao) WY CB.o F0.o (by decide))
     exact⟨157,#[.agg (zD fJ fK fH fI fw fx fu fv),.agg (zD oq ou oe oh om ot od og)],by go_simp,hC⟩
    rintro _ ⟨nZ,oc,nV,nX,nY,oa,nU,nW,rfl⟩
    simp only[Act.put,aJ,aI,aH]
    refine ae 9 (by kernel_rfl) (by rfl) (by decide) ?_
    simp only[aU,aT,aW,aX]
    repeat (go_big_quiet_step (fail))
    refine YH ?_
    refine af rfl rfl ?_ ?_
    ·intro w1 ao hk
     have hb:=(aG.o).trans (ao.mono (aG.o).size)
     have hC:=MakesE.g (hH _ _ _ _ 60000 60000 w1 (BW.o.grow ao) (JO.o.grow ao) HMp.o HMj.o (by decide))
     exact⟨159,#[.agg (zD kl ko ki kj jI jJ jG jH),.agg (zD Co Cq Cd Cm Cn Cp Cc Cl)],by go_simp,hC⟩
    rintro _ ⟨Ap,Au,Ah,Am,An,Ar,Ag,Aj,rfl⟩
    simp only[Act.put,aJ,aI,aH]
    refine ae 3 (by kernel_rfl) (by rfl) (by decide) ?_
    simp only[aU,aT,aW,aX]
    repeat (go_big_quiet_step (fail))
    refine YH ?_
    refine af rfl rfl ?_ ?_
    ·intro w1 ao hk
     have hb:=(aG.o).trans (ao.mono (aG.o).size)
     have hC:=MakesE.g (eV (sr-sq) w1 (by omega) (by omega))
     exact⟨156,#[.int .i64 (sr-sq)],by go_simp,hC⟩
    rintro _ ⟨Ad,Af,zW,zY,zZ,Ae,zV,zX,rfl⟩
    simp only[Act.put,aJ,aI,aH]
    refine af rfl rfl ?_ ?_
    ·intro w1 ao hk
     have hb:=(aG.o).trans (ao.mono (aG.o).size)
     have qvN:ExactAt w1 (.agg (zD Ap Au Ah Am An Ar Ag Aj)) (Zx b (i+1)-Zx b i):=hk 119 (yG (by kernel_rfl))
     have qvM:ExactAt w1 (.agg (zD Ad Af zW zY zZ Ae zV zX)) (((sr-sq:Int):Rat)):=hk 123 (yG (by kernel_rfl))
     have hC:=MakesE.g (DN _ _ _ _ 120001 1 w1 qvN qvM (cV (K:=60000) (M:=60000) HMp.o HMj.o) (bp (by rw[Nat.pow_one];omega) (yA _)) (by rw[Rat.num_intCast];omega) (by decide))
     exact⟨160,#[.agg (zD Ap Au Ah Am An Ar Ag Aj),.agg (zD Ad Af zW zY zZ Ae zV zX)],by go_simp,hC⟩
    rintro _ ⟨zS,zU,zO,zQ,zR,zT,zN,zP,rfl⟩
    simp only[Act.put,aJ,aI,aH]
    refine af rfl rfl ?_ ?_
    ·intro w1 ao hk
     have hb:=(aG.o).trans (ao.mono (aG.o).size)
     have WX:ExactAt w1 (.agg (zD nZ oc nV nX nY oa nU nW)) (dJ b i+bP b sq sr true):=hk 109 (yG (by kernel_rfl))
     have qvL:ExactAt w1 (.agg (zD zS zU zO zQ zR zT zN zP)) ((Zx b (i+1)-Zx b i) / ((sr-sq:Int):Rat)):=hk 124 (yG (by kernel_rfl))
     have hC:=MakesE.g (du _ _ _ _ (121000+246) 120002 w1 WX qvL (fX CB.o F0.o) (dX (K:=120001) (M:=1) (by rw[Rat.num_intCast];omega) (cV (K:=60000) (M:=60000) HMp.o HMj.o) (bp (by rw[Nat.pow_one];omega) (yA _))) (by decide))
     exact⟨157,#[.agg (zD nZ oc nV nX nY oa nU nW),.agg (zD zS zU zO zQ zR zT zN zP)],by go_simp,hC⟩
    rintro _ ⟨zK,zM,zG,zI,zJ,zL,zz,zH,rfl⟩
    simp only[Act.put,aJ,aI,aH]
    refine ae 1 (by kernel_rfl) (by rfl) (by decide) ?_
    simp only[aU,aT,aW,aX]
    repeat (go_big_quiet_step (fail))
    refine YH ?_
    refine Zc ?_
    intro w8 aM hF
    have Md:ExactAt w8 (.agg (zD zK zM zG zI zJ zL zz zH)) (dJ b i+bP b sq sr true+(Zx b (i+1)-Zx b i) / ((sr-sq:Int):Rat)):=hF 125
    have JS:=zh Md
    have fq:=zh (Fv.o.grow aM)
    obtain⟨_,_,_,_,_,_,_,_,o0,o1,o2,o3,-⟩:=fq.o.o.read (i:=i) (by omega)
    have lF:=fq.o.o.frozen (i*4)
    have lE:=fq.o.o.frozen (i*4+1)
    have lD:=fq.o.o.frozen (i*4+2)
    have lC:=fq.o.o.frozen (i*4+3)
    clear hF Md aM Fv aG pY pX pW pV my FN Eh FM vV BW FL FK FJ FI JO FT FR FQ FP FO
    go_wp2_with fail
    have Oe:=zh (fq.o.put (i:=i) (by omega) JS.o)
    rw[dT] at Oe
    generalize ((((w8.setCell ⟨go,i*4,none⟩ (.bool zK)).setCell ⟨go,i*4+1,none⟩ (.slice zM zG zI)).setCell ⟨go,i*4+2,none⟩ (.bool zJ)).setCell ⟨go,i*4+3,none⟩ (.slice zL zz zH))=W11 at *
    clear fq JS o0 o1 o2 o3 lF lE lD lC
    rw[← jS.o] at Oe
    have iW:Y0 (eQ b i=eR b i):=if_neg (by omega)
    rw[← iW.o] at Oe
    have gD:Y0 (kR b i=eQ b i):=if_neg (by omega)
    rw[← gD.o] at Oe
    have Og:Y0 (RcSt w W11 b (zC b (some ⟨bs,os,none⟩) cs Al cl) gm go (kc b (i+1))):=by
     unfold Y0
     rw[mG]
     exact Oe.o
    clear Oe
    go_roundw
    case rel=>exact⟨i+1,by omega,by go_num,Og⟩
    simp[intOf];omega
   have gu:((i:Int)==0)=false:=beq_eq_false_iff_ne.2 (by omega)
   have hzn:((i:Int)==(b.sup.length:Int)-1)=true:=beq_iff_eq.2 (by omega)
   have YT:decide ((i:Int)+1<(b.sup.length:Int))=false:=yC (by omega)
   have hp0:(0:Int)<(i:Int):=by omega
   have z0:=(nj.o.bel.cell (p:=⟨bs,os+(i-1),none⟩) ip).trans (lq.o (i-1) (by omega))
   have t1:=Hb.o.inc (i-1) (by omega)
   have t0:=Hb.o.sup (i-1) (by omega)
   rw[show i-1+1=i by omega,FE.o] at t1
   have qjb:Y0 (ak b (i-1)=ak b (i-1)):=rfl
   have Q5:=ij Hb.o (i:=i-1) (by omega) false
   rw[show i-1+1=i by omega,FE.o] at Q5
   have Q5:=zh Q5
   have FF:=zh (fR Hb.o (i:=i-1) (by omega))
   have HMi:=zh (fR Hb.o (i:=i) (by omega))
   have Ym:Y0 (∀ c,c=ak b (i-1)→dJ b i=eS b i+bP b c sq false+(Zx b (i-1)-Zx b i) / ((sq-c:Int):Rat)):=fun c hc=>by
    unfold dJ bd
    rw[if_pos h0,FE.o,hc]
   obtain⟨sp,hsp⟩:∃ sp,ak b (i-1)=sp:=⟨_,rfl⟩
   have gx:=zh (Ym.o sp hsp.symm)
   rw[hsp] at t1 z0 Q5 t0
   clear Ym hsp qjb
   obtain⟨t01,t02⟩:=t0
   have i2:((i:Int)-1).toNat=i-1:=by omega
   have i4:(0:Int)≤(i:Int)-1:=by omega
   have i5:(i:Int)-1<(b.sup.length:Int):=by omega
   have v1:IntKind.i64.wrap ((i:Int)-1)=(i:Int)-1:=yF _ (by omega)
   have v3:IntKind.i64.wrap (sq-sp)=sq-sp:=yF _ (by omega)
   have jS:Y0 (eR b i=dJ b i):=if_neg h1
   have HF3:=zh (ie Hb.o (i:=i) (by omega))
   have HF4:=zh (ly Hb.o (i:=i) (by omega))
   obtain⟨y0,y1,y2,y3,y4⟩:=nj.o.bm.c5
   go_wp2_with fail
   clear y0 y1 y2 y3 y4
   obtain⟨fJ,fK,fH,fI,fw,fx,fu,fv,a0,a1,a2,a3,mj⟩:=nj.o.o.read (i:=i) (by omega)
   have my:=zh (mj _ (dS _ _ _))
   have pY:=YL a0
   have pX:=YL a1
   have pW:=YL a2
   have pV:=YL a3
   clear a0 a1 a2 a3 mj
   obtain⟨kl,ko,ki,kj,jI,jJ,jG,jH,c0,c1,c2,c3,Bz⟩:=nj.o.mom.read (i:=(i-1)) (by omega)
   have BW:=zh (Bz _ (lA b (by omega)))
   have FN:=YL c0
   have Eh:=YL c1
   have FM:=YL c2
   have vV:=YL c3
   clear c0 c1 c2 c3 Bz
   obtain⟨Co,Cq,Cd,Cm,Cn,Cp,Cc,Cl,d0,d1,d2,d3,Ji⟩:=nj.o.mom.read (i:=i) (by omega)
   have JO:=zh (Ji _ (lA b (by omega)))
   have FL:=YL d0
   have FK:=YL d1
   have FJ:=YL d2
   have FI:=YL d3
   clear d0 d1 d2 d3 Ji
   obtain⟨y0,y1,y2,y3,y4⟩:=nj.o.bm.c5
   have FT:=YL y0
   have FR:=YL y1
   have FQ:=YL y2
   have FP:=YL y3
   have FO:=YL y4
   clear y0 y1 y2 y3 y4
   have aG:=zh nj.o.bel
   refine ag 28 (fun jx=>if jx=9 then some (gE (bP b sp sq false)) else if jx=10 then some (gE (eS b i+bP b sp sq false)) else if jx=20 then some (gE (Zx b (i-1)-Zx b i)) else if jx=24 then some (gE (((sq-sp:Int):Rat))) else if jx=25 then some (gE ((Zx b (i-1)-Zx b i) / ((sq-sp:Int):Rat))) else if jx=26 then some (gE (eS b i+bP b sp sq false+(Zx b (i-1)-Zx b i) / ((sq-sp:Int):Rat))) else none) (by kernel_rfl) (by kernel_rfl) ?_
   simp only[aU,aT,aW,aX]
   refine ae 9 (by kernel_rfl) (by rfl) (by decide) ?_
   simp only[aU,aT,aW,aX]
   repeat (go_big_quiet_step (fail))
   refine YH ?_
   refine af rfl rfl ?_ ?_
   ·intro w1 ao hk
    have hb:=(aG.o).trans (ao.mono (aG.o).size)
    have hC:=MakesE.g (vL _ b sp sq false w1 ((HV.o.below hb (yA _)).mono hb.size) Hb.o (by omega) (by omega) (by omega))
    exact⟨158,#[.agg (zC b (some ⟨bs,os,none⟩) cs Al cl),.int .i64 sp,.int .i64 sq,.bool false],by go_simp,hC⟩
   rintro _ ⟨GJ,GL,GF,GH,GI,GK,GD,GG,rfl⟩
   simp only[Act.put,aJ,aI,aH]
   refine af rfl rfl ?_ ?_
   ·intro w1 ao hk
    have hb:=(aG.o).trans (ao.mono (aG.o).size)
    have h70:ExactAt w1 (.agg (zD GJ GL GF GH GI GK GD GG)) (bP b sp sq false):=hk 70 (yG (by kernel_rfl))
    have hC:=MakesE.g (du _ _ _ _ 245 245 w1 (my.o.grow ao) h70 (ig Hb.o i) Q5.o (by decide))
    exact⟨157,#[.agg (zD fJ fK fH fI fw fx fu fv),.agg (zD GJ GL GF GH GI GK GD GG)],by go_simp,hC⟩
   rintro _ ⟨GA,GC,G6,G8,G9,GB,G5,G7,rfl⟩
   simp only[Act.put,aJ,aI,aH]
   refine ae 9 (by kernel_rfl) (by rfl) (by decide) ?_
   simp only[aU,aT,aW,aX]
   repeat (go_big_quiet_step (fail))
   refine YH ?_
   refine af rfl rfl ?_ ?_
   ·intro w1 ao hk
    have hb:=(aG.o).trans (ao.mono (aG.o).size)
    have hC:=MakesE.g (hH _ _ _ _ 60000 60000 w1 (BW.o.grow ao) (JO.o.grow ao) FF.o HMi.o (by decide))
    exact⟨159,#[.agg (zD kl ko ki kj jI jJ jG jH),.agg (zD Co Cq Cd Cm Cn Cp Cc Cl)],by go_simp,hC⟩
   rintro _ ⟨G2,G4,Gy,G0,G1,G3,Gx,Gz,rfl⟩
   simp only[Act.put,aJ,aI,aH]
   refine ae 3 (by kernel_rfl) (by rfl) (by decide) ?_
   simp only[aU,aT,aW,aX]
   repeat (go_big_quiet_step (fail))
   refine YH ?_
   refine af rfl rfl ?_ ?_
   ·intro w1 ao hk
    have hb:=(aG.o).trans (ao.mono (aG.o).size)
    have hC:=MakesE.g (eV (sq-sp) w1 (by omega) (by omega))
    exact⟨156,#[.int .i64 (sq-sp)],by go_simp,hC⟩
   rintro _ ⟨wG,wI,wC,wE,wF,wH,wB,wD,rfl⟩
   simp only[Act.put,aJ,aI,aH]
   refine af rfl rfl ?_ ?_
   ·intro w1 ao hk
    have hb:=(aG.o).trans (ao.mono (aG.o).size)
    have h81:ExactAt w1 (.agg (zD G2 G4 Gy G0 G1 G3 Gx Gz)) (Zx b (i-1)-Zx b i):=hk 81 (yG (by kernel_rfl))
    have h85:ExactAt w1 (.agg (zD wG wI wC wE wF wH wB wD)) (((sq-sp:Int):Rat)):=hk 85 (yG (by kernel_rfl))
    have hC:=MakesE.g (DN _ _ _ _ 120001 1 w1 h81 h85 (cV (K:=60000) (M:=60000) FF.o HMi.o) (bp (by rw[Nat.pow_one];omega) (yA _)) (by rw[Rat.num_intCast];omega) (by decide))
    exact⟨160,#[.agg (zD G2 G4 Gy G0 G1 G3 Gx Gz),.agg (zD wG wI wC wE wF wH wB wD)],by go_simp,hC⟩
   rintro _ ⟨uq,uu,uj,um,uo,us,ui,uk,rfl⟩
   simp only[Act.put,aJ,aI,aH]
   refine af rfl rfl ?_ ?_
   ·intro w1 ao hk
    have hb:=(aG.o).trans (ao.mono (aG.o).size)
    have h71:ExactAt w1 (.agg (zD GA GC G6 G8 G9 GB G5 G7)) (eS b i+bP b sp sq false):=hk 71 (yG (by kernel_rfl))
    have h86:ExactAt w1 (.agg (zD uq uu uj um uo us ui uk)) ((Zx b (i-1)-Zx b i) / ((sq-sp:Int):Rat)):=hk 86 (yG (by kernel_rfl))
    have hC:=MakesE.g (du _ _ _ _ (245+246) 120002 w1 h71 h86 (fX (ig Hb.o i) Q5.o) (dX (K:=120001) (M:=1) (by rw[Rat.num_intCast];omega) (cV (K:=60000) (M:=60000) FF.o HMi.o) (bp (by rw[Nat.pow_one];omega) (yA _))) (by decide))
    exact⟨157,#[.agg (zD GA GC G6 G8 G9 GB G5 G7),.agg (zD uq uu uj um uo us ui uk)],by go_simp,hC⟩
   rintro _ ⟨Gu,Gw,Gq,Gs,Gt,Gv,Gp,Gr,rfl⟩
   simp only[Act.put,aJ,aI,aH]
   refine ae 1 (by kernel_rfl) (by rfl) (by decide) ?_
   simp only[aU,aT,aW,aX]
   repeat (go_big_quiet_step (fail))
   refine YH ?_
   refine Zc ?_
   intro w8 aM hF
   have h87:ExactAt w8 (.agg (zD Gu Gw Gq Gs Gt Gv Gp Gr)) (eS b i+bP b sp sq false+(Zx b (i-1)-Zx b i) / ((sq-sp:Int):Rat)):=hF 87
   have Yv:=zh h87
   have fq:=zh (nj.o.grow aM)
   obtain⟨_,_,_,_,_,_,_,_,o0,o1,o2,o3,-⟩:=fq.o.o.read (i:=i) (by omega)
   have lF:=fq.o.o.frozen (i*4)
   have lE:=fq.o.o.frozen (i*4+1)
   have lD:=fq.o.o.frozen (i*4+2)
   have lC:=fq.o.o.frozen (i*4+3)
   clear hF h87 aM nj aG pY pX pW pV my FN Eh FM vV BW FL FK FJ FI JO FT FR FQ FP FO
   go_wp2_with fail
   have Fv:=zh (fq.o.put (i:=i) (by omega) Yv.o)
   rw[dT] at Fv
   generalize ((((w8.setCell ⟨go,i*4,none⟩ (.bool Gu)).setCell ⟨go,i*4+1,none⟩ (.slice Gw Gq Gs)).setCell ⟨go,i*4+2,none⟩ (.bool Gt)).setCell ⟨go,i*4+3,none⟩ (.slice Gv Gp Gr))=Mw at *
   clear fq Yv o0 o1 o2 o3 lF lE lD lC
   rw[← gx.o] at Fv
   rw[← jS.o] at Fv
   have iW:Y0 (eQ b i=eR b i):=if_neg (by omega)
   rw[← iW.o] at Fv
   obtain⟨fJ,fK,fH,fI,fw,fx,fu,fv,a0,a1,a2,a3,mj⟩:=Fv.o.o.read (i:=i) (by omega)
   have my:=zh (mj _ (dS _ _ _))
   have pY:=YL a0
   have pX:=YL a1
   have pW:=YL a2
   have pV:=YL a3
   clear a0 a1 a2 a3 mj
   obtain⟨y0,y1,y2,y3,y4⟩:=Fv.o.bm.c5
   have FT:=YL y0
   have FR:=YL y1
   have FQ:=YL y2
   have FP:=YL y3
   have FO:=YL y4
   clear y0 y1 y2 y3 y4
   have aG:=zh Fv.o.bel
   refine ag 15 (fun jx=>if jx=7 then some (gB (au b)) else if jx=12 then some (gE (bW (au b) (b.len-sq))) else if jx=13 then some (gE (eQ b i+bW (au b) (b.len-sq))) else none) (by kernel_rfl) (by kernel_rfl) ?_
   simp only[aU,aT,aW,aX]
   refine ae 7 (by kernel_rfl) (by rfl) (by decide) ?_
   simp only[aU,aT,aW,aX]
   repeat (go_big_quiet_step (fail))
   refine YH ?_
   refine af rfl rfl ?_ ?_
   ·intro w1 ao hk
    have hb:=(aG.o).trans (ao.mono (aG.o).size)
    have hC:=TurnedPost.g (BO _ b w1 ((HV.o.below hb (yA _)).mono hb.size) Hb.o)
    exact⟨162,#[.agg (zC b (some ⟨bs,os,none⟩) cs Al cl)],by go_simp,hC⟩
   rintro _ ⟨Rp,Rn,Rq,Ro,rfl⟩
   simp only[Act.put,aJ,aI,aH]
   refine ae 4 (by kernel_rfl) (by rfl) (by decide) ?_
   simp only[aU,aT,aW,aX]
   repeat (go_big_quiet_step (fail))
   refine YH ?_
   refine af rfl rfl ?_ ?_
   ·intro w1 ao hk
    have hb:=(aG.o).trans (ao.mono (aG.o).size)
    have qvG:BeamAt w1 w1.heap.size (.agg (zC (au b) Rp Rn Rq Ro)) (au b):=hk 151 (yG (by kernel_rfl))
    have hC:=MakesE.g (sG _ (au b) (b.len-sq) w1 qvG HbT.o (by omega) (by show b.len-sq≤b.len;omega))
    exact⟨161,#[.agg (zC (au b) Rp Rn Rq Ro),.int .i64 (b.len-sq)],by go_simp,hC⟩
   rintro _ ⟨yh,yj,yd,yf,yg,yi,yc,ye,rfl⟩
   simp only[Act.put,aJ,aI,aH]
   refine af rfl rfl ?_ ?_
   ·intro w1 ao hk
    have hb:=(aG.o).trans (ao.mono (aG.o).size)
    have qvF:ExactAt w1 (.agg (zD yh yj yd yf yg yi yc ye)) (bW (au b) (b.len-sq)):=hk 156 (yG (by kernel_rfl))
    have hC:=MakesE.g (du _ _ _ _ 242300 245 w1 (my.o.grow ao) qvF HF4.o (iy HbT.o (by omega) (by show b.len-sq≤b.len;omega) (yA _)) (by decide))
    exact⟨157,#[.agg (zD fJ fK fH fI fw fx fu fv),.agg (zD yh yj yd yf yg yi yc ye)],by go_simp,hC⟩
   rintro _ ⟨xZ,yb,xV,xX,xY,ya,xU,xW,rfl⟩
   simp only[Act.put,aJ,aI,aH]
   refine ae 1 (by kernel_rfl) (by rfl) (by decide) ?_
   simp only[aU,aT,aW,aX]
   repeat (go_big_quiet_step (fail))
   refine YH ?_
   refine Zc ?_
   intro w8 aM hF
   have EV:ExactAt w8 (.agg (zD xZ yb xV xX xY ya xU xW)) (eQ b i+bW (au b) (b.len-sq)):=hF 157
   have JQ:=zh EV
   have fq:=zh (Fv.o.grow aM)
   obtain⟨_,_,_,_,_,_,_,_,o0,o1,o2,o3,-⟩:=fq.o.o.read (i:=i) (by omega)
   have lF:=fq.o.o.frozen (i*4)
   have lE:=fq.o.o.frozen (i*4+1)
   have lD:=fq.o.o.frozen (i*4+2)
   have lC:=fq.o.o.frozen (i*4+3)
   clear hF EV aM Fv aG pY pX pW pV my FT FR FQ FP FO
   go_wp2_with fail
   have HRt:=zh (fq.o.put (i:=i) (by omega) JQ.o)
   rw[dT] at HRt
   generalize ((((w8.setCell ⟨go,i*4,none⟩ (.bool xZ)).setCell ⟨go,i*4+1,none⟩ (.slice yb xV xX)).setCell ⟨go,i*4+2,none⟩ (.bool xY)).setCell ⟨go,i*4+3,none⟩ (.slice ya xU xW))=W13 at *
   clear fq JQ o0 o1 o2 o3 lF lE lD lC
   have gD:Y0 (kR b i=eQ b i+bW (au b) (b.len-sq)):=by unfold Y0 kR;rw[if_pos (by omega),FE.o]
   rw[← gD.o] at HRt
   have Og:Y0 (RcSt w W13 b (zC b (some ⟨bs,os,none⟩) cs Al cl) gm go (kc b (i+1))):=by
    unfold Y0
    rw[mG]
    exact HRt.o
   clear HRt
   go_roundw
   case rel=>exact⟨i+1,by omega,by go_num,Og⟩
   simp[intOf];omega
  by_cases h1:i+1<b.sup.length
  ·have gu:((i:Int)==0)=true:=beq_iff_eq.2 (by omega)
   have hp0:¬ (0:Int)<(i:Int):=by omega
   have P2:decide ((0:Int)<(i:Int))=false:=yC hp0
   have hzn:((i:Int)==(b.sup.length:Int)-1)=false:=beq_eq_false_iff_ne.2 (by omega)
   have YT:decide ((i:Int)+1<(b.sup.length:Int))=true:=yD (by omega)
   have gx:Y0 (dJ b i=eS b i):=if_neg h0
   have z2:=(nj.o.bel.cell (p:=⟨bs,os+(i+1),none⟩) ip).trans (lq.o (i+1) (by omega))
   have t2:=Hb.o.inc i h1
   have t3:=Hb.o.sup (i+1) h1
   rw[FE.o] at t2
   have F0:=ij Hb.o (i:=i) h1 true
   rw[FE.o] at F0
   have F0:=zh F0
   have HMp:=zh (fR Hb.o (i:=i+1) h1)
   have HMj:=zh (fR Hb.o (i:=i) (by omega))
   have CB:=zh (lz Hb.o (i:=i) (by omega))
   have Ym:Y0 (∀ c,c=ak b (i+1)→eR b i=dJ b i+bP b sq c true+(Zx b (i+1)-Zx b i) / ((c-sq:Int):Rat)):=fun c hc=>by
    unfold eR bd
    rw[if_pos h1,Nat.add_sub_cancel,FE.o,hc]
   obtain⟨sr,hsr⟩:∃ sr,ak b (i+1)=sr:=⟨_,rfl⟩
   have jS:=zh (Ym.o sr hsr.symm)
   rw[hsr] at t2 z2 F0 t3
   have iN:=lq.o (i+1) (by omega)
   rw[hsr] at iN
   have HZ2:=zh iN
   clear Ym hsr iN
   obtain⟨t31,t32⟩:=t3
   have i3:((i:Int)+1).toNat=i+1:=by omega
   have i6:(i:Int)+1<(b.sup.length:Int):=by omega
   have i9:(0:Int)≤(i:Int)+1:=by omega
   have v2:IntKind.i64.wrap ((i:Int)+1)=(i:Int)+1:=yF _ (by omega)
   have v4:IntKind.i64.wrap (sr-sq)=sr-sq:=yF _ (by omega)
   have HF3:=zh (ie Hb.o (i:=i) (by omega))
   have HF4:=zh (ly Hb.o (i:=i) (by omega))
   obtain⟨y0,y1,y2,y3,y4⟩:=nj.o.bm.c5
   go_wp2_with fail
   clear y0 y1 y2 y3 y4
   rw[← gx.o] at nj
   obtain⟨fJ,fK,fH,fI,fw,fx,fu,fv,a0,a1,a2,a3,mj⟩:=nj.o.o.read (i:=i) (by omega)
   have my:=zh (mj _ (dS _ _ _))
   have pY:=YL a0
   have pX:=YL a1
   have pW:=YL a2
   have pV:=YL a3
   clear a0 a1 a2 a3 mj
   obtain⟨kl,ko,ki,kj,jI,jJ,jG,jH,c0,c1,c2,c3,Bz⟩:=nj.o.mom.read (i:=(i+1)) (by omega)
   have BW:=zh (Bz _ (lA b (by omega)))
   have FN:=YL c0
   have Eh:=YL c1
   have FM:=YL c2
   have vV:=YL c3
   clear c0 c1 c2 c3 Bz
   obtain⟨Co,Cq,Cd,Cm,Cn,Cp,Cc,Cl,d0,d1,d2,d3,Ji⟩:=nj.o.mom.read (i:=i) (by omega)
   have JO:=zh (Ji _ (lA b (by omega)))
   have FL:=YL d0
   have FK:=YL d1
   have FJ:=YL d2
   have FI:=YL d3
   clear d0 d1 d2 d3 Ji
   obtain⟨y0,y1,y2,y3,y4⟩:=nj.o.bm.c5
   have FT:=YL y0
   have FR:=YL y1
   have FQ:=YL y2
   have FP:=YL y3
   have FO:=YL y4
   clear y0 y1 y2 y3 y4
   have aG:=zh nj.o.bel
   refine ag 28 (fun jx=>if jx=9 then some (gE (bP b sq sr true)) else if jx=10 then some (gE (dJ b i+bP b sq sr true)) else if jx=20 then some (gE (Zx b (i+1)-Zx b i)) else if jx=24 then some (gE (((sr-sq:Int):Rat))) else if jx=25 then some (gE ((Zx b (i+1)-Zx b i) / ((sr-sq:Int):Rat))) else if jx=26 then some (gE (dJ b i+bP b sq sr true+(Zx b (i+1)-Zx b i) / ((sr-sq:Int):Rat))) else none) (by kernel_rfl) (by kernel_rfl) ?_
   simp only[aU,aT,aW,aX]
   refine ae 9 (by kernel_rfl) (by rfl) (by decide) ?_
   simp only[aU,aT,aW,aX]
   repeat (go_big_quiet_step (fail))
   refine YH ?_
   refine af rfl rfl ?_ ?_
   ·intro w1 ao hk
    have hb:=(aG.o).trans (ao.mono (aG.o).size)
    have hC:=MakesE.g (vL _ b sq sr true w1 ((HV.o.below hb (yA _)).mono hb.size) Hb.o (by omega) (by omega) (by omega))
    exact⟨158,#[.agg (zC b (some ⟨bs,os,none⟩) cs Al cl),.int .i64 sq,.int .i64 sr,.bool true],by go_simp,hC⟩
   rintro _ ⟨oq,ou,oe,oh,om,ot,od,og,rfl⟩
   simp only[Act.put,aJ,aI,aH]
   refine af rfl rfl ?_ ?_
   ·intro w1 ao hk
    have hb:=(aG.o).trans (ao.mono (aG.o).size)
    have WY:ExactAt w1 (.agg (zD oq ou oe oh om ot od og)) (bP b sq sr true):=hk 108 (yG (by kernel_rfl))
    have hC:=MakesE.g (du _ _ _ _ 121000 245 w1 (my.o.grow ao) WY CB.o F0.o (by decide))
    exact⟨157,#[.agg (zD fJ fK fH fI fw fx fu fv),.agg (zD oq ou oe oh om ot od og)],by go_simp,hC⟩
   rintro _ ⟨nZ,oc,nV,nX,nY,oa,nU,nW,rfl⟩
   simp only[Act.put,aJ,aI,aH]
   refine ae 9 (by kernel_rfl) (by rfl) (by decide) ?_
   simp only[aU,aT,aW,aX]
   repeat (go_big_quiet_step (fail))
   refine YH ?_
   refine af rfl rfl ?_ ?_
   ·intro w1 ao hk
    have hb:=(aG.o).trans (ao.mono (aG.o).size)
    have hC:=MakesE.g (hH _ _ _ _ 60000 60000 w1 (BW.o.grow ao) (JO.o.grow ao) HMp.o HMj.o (by decide))
    exact⟨159,#[.agg (zD kl ko ki kj jI jJ jG jH),.agg (zD Co Cq Cd Cm Cn Cp Cc Cl)],by go_simp,hC⟩
   rintro _ ⟨Ap,Au,Ah,Am,An,Ar,Ag,Aj,rfl⟩
   simp only[Act.put,aJ,aI,aH]
   refine ae 3 (by kernel_rfl) (by rfl) (by decide) ?_
   simp only[aU,aT,aW,aX]
   repeat (go_big_quiet_step (fail))
   refine YH ?_
   refine af rfl rfl ?_ ?_
   ·intro w1 ao hk
    have hb:=(aG.o).trans (ao.mono (aG.o).size)
    have hC:=MakesE.g (eV (sr-sq) w1 (by omega) (by omega))
    exact⟨156,#[.int .i64 (sr-sq)],by go_simp,hC⟩
   rintro _ ⟨Ad,Af,zW,zY,zZ,Ae,zV,zX,rfl⟩
   simp only[Act.put,aJ,aI,aH]
   refine af rfl rfl ?_ ?_
   ·intro w1 ao hk
    have hb:=(aG.o).trans (ao.mono (aG.o).size)
    have qvN:ExactAt w1 (.agg (zD Ap Au Ah Am An Ar Ag Aj)) (Zx b (i+1)-Zx b i):=hk 119 (yG (by kernel_rfl))
    have qvM:ExactAt w1 (.agg (zD Ad Af zW zY zZ Ae zV zX)) (((sr-sq:Int):Rat)):=hk 123 (yG (by kernel_rfl))
    have hC:=MakesE.g (DN _ _ _ _ 120001 1 w1 qvN qvM (cV (K:=60000) (M:=60000) HMp.o HMj.o) (bp (by rw[Nat.pow_one];omega) (yA _)) (by rw[Rat.num_intCast];omega) (by decide))
    exact⟨160,#[.agg (zD Ap Au Ah Am An Ar Ag Aj),.agg (zD Ad Af zW zY zZ Ae zV zX)],by go_simp,hC⟩
   rintro _ ⟨zS,zU,zO,zQ,zR,zT,zN,zP,rfl⟩
   simp only[Act.put,aJ,aI,aH]
   refine af rfl rfl ?_ ?_
   ·intro w1 ao hk
    have hb:=(aG.o).trans (ao.mono (aG.o).size)
    have WX:ExactAt w1 (.agg (zD nZ oc nV nX nY oa nU nW)) (dJ b i+bP b sq sr true):=hk 109 (yG (by kernel_rfl))
    have qvL:ExactAt w1 (.agg (zD zS zU zO zQ zR zT zN zP)) ((Zx b (i+1)-Zx b i) / ((sr-sq:Int):Rat)):=hk 124 (yG (by kernel_rfl))
    have hC:=MakesE.g (du _ _ _ _ (121000+246) 120002 w1 WX qvL (fX CB.o F0.o) (dX (K:=120001) (M:=1) (by rw[Rat.num_intCast];omega) (cV (K:=60000) (M:=60000) HMp.o HMj.o) (bp (by rw[Nat.pow_one];omega) (yA _))) (by decide))
    exact⟨157,#[.agg (zD nZ oc nV nX nY oa nU nW),.agg (zD zS zU zO zQ zR zT zN zP)],by go_simp,hC⟩
   rintro _ ⟨zK,zM,zG,zI,zJ,zL,zz,zH,rfl⟩
   simp only[Act.put,aJ,aI,aH]
   refine ae 1 (by kernel_rfl) (by rfl) (by decide) ?_
   simp only[aU,aT,aW,aX]
   repeat (go_big_quiet_step (fail))
   refine YH ?_
   refine Zc ?_
   intro w8 aM hF
   have Md:ExactAt w8 (.agg (zD zK zM zG zI zJ zL zz zH)) (dJ b i+bP b sq sr true+(Zx b (i+1)-Zx b i) / ((sr-sq:Int):Rat)):=hF 125
   have JS:=zh Md
   have fq:=zh (nj.o.grow aM)
   obtain⟨_,_,_,_,_,_,_,_,o0,o1,o2,o3,-⟩:=fq.o.o.read (i:=i) (by omega)
   have lF:=fq.o.o.frozen (i*4)
   have lE:=fq.o.o.frozen (i*4+1)
   have lD:=fq.o.o.frozen (i*4+2)
   have lC:=fq.o.o.frozen (i*4+3)
   clear hF Md aM nj aG pY pX pW pV my FN Eh FM vV BW FL FK FJ FI JO FT FR FQ FP FO
   go_wp2_with fail
   have Oe:=zh (fq.o.put (i:=i) (by omega) JS.o)
   rw[dT] at Oe
   generalize ((((w8.setCell ⟨go,i*4,none⟩ (.bool zK)).setCell ⟨go,i*4+1,none⟩ (.slice zM zG zI)).setCell ⟨go,i*4+2,none⟩ (.bool zJ)).setCell ⟨go,i*4+3,none⟩ (.slice zL zz zH))=W11 at *
   clear fq JS o0 o1 o2 o3 lF lE lD lC
   rw[← jS.o] at Oe
   obtain⟨fJ,fK,fH,fI,fw,fx,fu,fv,a0,a1,a2,a3,mj⟩:=Oe.o.o.read (i:=i) (by omega)
   have my:=zh (mj _ (dS _ _ _))
   have pY:=YL a0
   have pX:=YL a1
   have pW:=YL a2
   have pV:=YL a3
   clear a0 a1 a2 a3 mj
   obtain⟨y0,y1,y2,y3,y4⟩:=Oe.o.bm.c5
   have FT:=YL y0
   have FR:=YL y1
   have FQ:=YL y2
   have FP:=YL y3
   have FO:=YL y4
   clear y0 y1 y2 y3 y4
   have aG:=zh Oe.o.bel
   refine ag 11 (fun jx=>if jx=8 then some (gE (bW b sq)) else if jx=9 then some (gE (eR b i+bW b sq)) else none) (by kernel_rfl) (by kernel_rfl) ?_
   simp only[aU,aT,aW,aX]
   refine ae 8 (by kernel_rfl) (by rfl) (by decide) ?_
   simp only[aU,aT,aW,aX]
   repeat (go_big_quiet_step (fail))
   refine YH ?_
   refine af rfl rfl ?_ ?_
   ·intro w1 ao hk
    have hb:=(aG.o).trans (ao.mono (aG.o).size)
    have hC:=MakesE.g (sG _ b sq w1 ((HV.o.below hb (yA _)).mono hb.size) Hb.o (by omega) (by omega))
    exact⟨161,#[.agg (zC b (some ⟨bs,os,none⟩) cs Al cl),.int .i64 sq],by go_simp,hC⟩
   rintro _ ⟨zn,zp,zi,zl,zm,zo,zg,zj,rfl⟩
   simp only[Act.put,aJ,aI,aH]
   refine af rfl rfl ?_ ?_
   ·intro w1 ao hk
    have hb:=(aG.o).trans (ao.mono (aG.o).size)
    have qvI:ExactAt w1 (.agg (zD zn zp zi zl zm zo zg zj)) (bW b sq):=hk 137 (yG (by kernel_rfl))
    have hC:=MakesE.g (du _ _ _ _ 242000 245 w1 (my.o.grow ao) qvI HF3.o (iy Hb.o (by omega) (by omega) (yA _)) (by decide))
    exact⟨157,#[.agg (zD fJ fK fH fI fw fx fu fv),.agg (zD zn zp zi zl zm zo zg zj)],by go_simp,hC⟩
   rintro _ ⟨zd,zf,yy,za,zc,ze,yx,yz,rfl⟩
   simp only[Act.put,aJ,aI,aH]
   refine ae 1 (by kernel_rfl) (by rfl) (by decide) ?_
   simp only[aU,aT,aW,aX]
   repeat (go_big_quiet_step (fail))
   refine YH ?_
   refine Zc ?_
   intro w8 aM hF
   have WW:ExactAt w8 (.agg (zD zd zf yy za zc ze yx yz)) (eR b i+bW b sq):=hF 138
   have JR:=zh WW
   have fq:=zh (Oe.o.grow aM)
   obtain⟨_,_,_,_,_,_,_,_,o0,o1,o2,o3,-⟩:=fq.o.o.read (i:=i) (by omega)
   have lF:=fq.o.o.frozen (i*4)
   have lE:=fq.o.o.frozen (i*4+1)
   have lD:=fq.o.o.frozen (i*4+2)
   have lC:=fq.o.o.frozen (i*4+3)
   clear hF WW aM Oe aG pY pX pW pV my FT FR FQ FP FO
   go_wp2_with fail
   have Qv:=zh (fq.o.put (i:=i) (by omega) JR.o)
   rw[dT] at Qv
   generalize ((((w8.setCell ⟨go,i*4,none⟩ (.bool zd)).setCell ⟨go,i*4+1,none⟩ (.slice zf yy za)).setCell ⟨go,i*4+2,none⟩ (.bool zc)).setCell ⟨go,i*4+3,none⟩ (.slice ze yx yz))=W12 at *
   clear fq JR o0 o1 o2 o3 lF lE lD lC
   have iW:Y0 (eQ b i=eR b i+bW b sq):=by unfold Y0 eQ;rw[if_pos (by omega),FE.o]
   rw[← iW.o] at Qv
   have gD:Y0 (kR b i=eQ b i):=if_neg (by omega)
   rw[← gD.o] at Qv
   have Og:Y0 (RcSt w W12 b (zC b (some ⟨bs,os,none⟩) cs Al cl) gm go (kc b (i+1))):=by
    unfold Y0
    rw[mG]
    exact Qv.o
   clear Qv
   go_roundw
   case rel=>exact⟨i+1,by omega,by go_num,Og⟩
   simp[intOf];omega
  have gu:((i:Int)==0)=true:=beq_iff_eq.2 (by omega)
  have hp0:¬ (0:Int)<(i:Int):=by omega
  have P2:decide ((0:Int)<(i:Int))=false:=yC hp0
  have hzn:((i:Int)==(b.sup.length:Int)-1)=true:=beq_iff_eq.2 (by omega)
  have YT:decide ((i:Int)+1<(b.sup.length:Int))=false:=yC (by omega)
  have gx:Y0 (dJ b i=eS b i):=if_neg h0
  have jS:Y0 (eR b i=dJ b i):=if_neg h1
  have HF3:=zh (ie Hb.o (i:=i) (by omega))
  have HF4:=zh (ly Hb.o (i:=i) (by omega))
  obtain⟨y0,y1,y2,y3,y4⟩:=nj.o.bm.c5
  go_wp2_with fail
  clear y0 y1 y2 y3 y4
  rw[← gx.o] at nj
  rw[← jS.o] at nj
  obtain⟨fJ,fK,fH,fI,fw,fx,fu,fv,a0,a1,a2,a3,mj⟩:=nj.o.o.read (i:=i) (by omega)
  have my:=zh (mj _ (dS _ _ _))
  have pY:=YL a0
  have pX:=YL a1
  have pW:=YL a2
  have pV:=YL a3
  clear a0 a1 a2 a3 mj
  obtain⟨y0,y1,y2,y3,y4⟩:=nj.o.bm.c5
  have FT:=YL y0
  have FR:=YL y1
  have FQ:=YL y2
  have FP:=YL y3
  have FO:=YL y4
  clear y0 y1 y2 y3 y4
  have aG:=zh nj.o.bel
  refine ag 11 (fun jx=>if jx=8 then some (gE (bW b sq)) else if jx=9 then some (gE (eR b i+bW b sq)) else none) (by kernel_rfl) (by kernel_rfl) ?_
  simp only[aU,aT,aW,aX]
  refine ae 8 (by kernel_rfl) (by rfl) (by decide) ?_
  simp only[aU,aT,aW,aX]
  repeat (go_big_quiet_step (fail))
  refine YH ?_
  refine af rfl rfl ?_ ?_
  ·intro w1 ao hk
   have hb:=(aG.o).trans (ao.mono (aG.o).size)
   have hC:=MakesE.g (sG _ b sq w1 ((HV.o.below hb (yA _)).mono hb.size) Hb.o (by omega) (by omega))
   exact⟨161,#[.agg (zC b (some ⟨bs,os,none⟩) cs Al cl),.int .i64 sq],by go_simp,hC⟩
  rintro _ ⟨zn,zp,zi,zl,zm,zo,zg,zj,rfl⟩
  simp only[Act.put,aJ,aI,aH]
  refine af rfl rfl ?_ ?_
  ·intro w1 ao hk
   have hb:=(aG.o).trans (ao.mono (aG.o).size)
   have qvI:ExactAt w1 (.agg (zD zn zp zi zl zm zo zg zj)) (bW b sq):=hk 137 (yG (by kernel_rfl))
   have hC:=MakesE.g (du _ _ _ _ 242000 245 w1 (my.o.grow ao) qvI HF3.o (iy Hb.o (by omega) (by omega) (yA _)) (by decide))
   exact⟨157,#[.agg (zD fJ fK fH fI fw fx fu fv),.agg (zD zn zp zi zl zm zo zg zj)],by go_simp,hC⟩
  rintro _ ⟨zd,zf,yy,za,zc,ze,yx,yz,rfl⟩
  simp only[Act.put,aJ,aI,aH]
  refine ae 1 (by kernel_rfl) (by rfl) (by decide) ?_
  simp only[aU,aT,aW,aX]
  repeat (go_big_quiet_step (fail))
  refine YH ?_
  refine Zc ?_
  intro w8 aM hF
  have WW:ExactAt w8 (.agg (zD zd zf yy za zc ze yx yz)) (eR b i+bW b sq):=hF 138
  have JR:=zh WW
  have fq:=zh (nj.o.grow aM)
  obtain⟨_,_,_,_,_,_,_,_,o0,o1,o2,o3,-⟩:=fq.o.o.read (i:=i) (by omega)
  have lF:=fq.o.o.frozen (i*4)
  have lE:=fq.o.o.frozen (i*4+1)
  have lD:=fq.o.o.frozen (i*4+2)
  have lC:=fq.o.o.frozen (i*4+3)
  clear hF WW aM nj aG pY pX pW pV my FT FR FQ FP FO
  go_wp2_with fail
  have Qv:=zh (fq.o.put (i:=i) (by omega) JR.o)
  rw[dT] at Qv
  generalize ((((w8.setCell ⟨go,i*4,none⟩ (.bool zd)).setCell ⟨go,i*4+1,none⟩ (.slice zf yy za)).setCell ⟨go,i*4+2,none⟩ (.bool zc)).setCell ⟨go,i*4+3,none⟩ (.slice ze yx yz))=W12 at *
  clear fq JR o0 o1 o2 o3 lF lE lD lC
  have iW:Y0 (eQ b i=eR b i+bW b sq):=by unfold Y0 eQ;rw[if_pos (by omega),FE.o]
  rw[← iW.o] at Qv
  obtain⟨fJ,fK,fH,fI,fw,fx,fu,fv,a0,a1,a2,a3,mj⟩:=Qv.o.o.read (i:=i) (by omega)
  have my:=zh (mj _ (dS _ _ _))
  have pY:=YL a0
  have pX:=YL a1
  have pW:=YL a2
  have pV:=YL a3
  clear a0 a1 a2 a3 mj
  obtain⟨y0,y1,y2,y3,y4⟩:=Qv.o.bm.c5
  have FT:=YL y0
  have FR:=YL y1
  have FQ:=YL y2
  have FP:=YL y3
  have FO:=YL y4
  clear y0 y1 y2 y3 y4
  have aG:=zh Qv.o.bel
  refine ag 15 (fun jx=>if jx=7 then some (gB (au b)) else if jx=12 then some (gE (bW (au b) (b.len-sq))) else if jx=13 then some (gE (eQ b i+bW (au b) (b.len-sq))) else none) (by kernel_rfl) (by kernel_rfl) ?_
  simp only[aU,aT,aW,aX]
  refine ae 7 (by kernel_rfl) (by rfl) (by decide) ?_
  simp only[aU,aT,aW,aX]
  repeat (go_big_quiet_step (fail))
  refine YH ?_
  refine af rfl rfl ?_ ?_
  ·intro w1 ao hk
   have hb:=(aG.o).trans (ao.mono (aG.o).size)
   have hC:=TurnedPost.g (BO _ b w1 ((HV.o.below hb (yA _)).mono hb.size) Hb.o)
   exact⟨162,#[.agg (zC b (some ⟨bs,os,none⟩) cs Al cl)],by go_simp,hC⟩
  rintro _ ⟨Rp,Rn,Rq,Ro,rfl⟩
  simp only[Act.put,aJ,aI,aH]
  refine ae 4 (by kernel_rfl) (by rfl) (by decide) ?_
  simp only[aU,aT,aW,aX]
  repeat (go_big_quiet_step (fail))
  refine YH ?_
  refine af rfl rfl ?_ ?_
  ·intro w1 ao hk
   have hb:=(aG.o).trans (ao.mono (aG.o).size)
   have qvG:BeamAt w1 w1.heap.size (.agg (zC (au b) Rp Rn Rq Ro)) (au b):=hk 151 (yG (by kernel_rfl))
   have hC:=MakesE.g (sG _ (au b) (b.len-sq) w1 qvG HbT.o (by omega) (by show b.len-sq≤b.len;omega))
   exact⟨161,#[.agg (zC (au b) Rp Rn Rq Ro),.int .i64 (b.len-sq)],by go_simp,hC⟩
  rintro _ ⟨yh,yj,yd,yf,yg,yi,yc,ye,rfl⟩
  simp only[Act.put,aJ,aI,aH]
  refine af rfl rfl ?_ ?_
  ·intro w1 ao hk
   have hb:=(aG.o).trans (ao.mono (aG.o).size)
   have qvF:ExactAt w1 (.agg (zD yh yj yd yf yg yi yc ye)) (bW (au b) (b.len-sq)):=hk 156 (yG (by kernel_rfl))
   have hC:=MakesE.g (du _ _ _ _ 242300 245 w1 (my.o.grow ao) qvF HF4.o (iy HbT.o (by omega) (by show b.len-sq≤b.len;omega) (yA _)) (by decide))
   exact⟨157,#[.agg (zD fJ fK fH fI fw fx fu fv),.agg (zD yh yj yd yf yg yi yc ye)],by go_simp,hC⟩
  rintro _ ⟨xZ,yb,xV,xX,xY,ya,xU,xW,rfl⟩
  simp only[Act.put,aJ,aI,aH]
  refine ae 1 (by kernel_rfl) (by rfl) (by decide) ?_
  simp only[aU,aT,aW,aX]
  repeat (go_big_quiet_step (fail))
  refine YH ?_
  refine Zc ?_
  intro w8 aM hF
  have EV:ExactAt w8 (.agg (zD xZ yb xV xX xY ya xU xW)) (eQ b i+bW (au b) (b.len-sq)):=hF 157
  have JQ:=zh EV
  have fq:=zh (Qv.o.grow aM)
  obtain⟨_,_,_,_,_,_,_,_,o0,o1,o2,o3,-⟩:=fq.o.o.read (i:=i) (by omega)
  have lF:=fq.o.o.frozen (i*4)
  have lE:=fq.o.o.frozen (i*4+1)
  have lD:=fq.o.o.frozen (i*4+2)
  have lC:=fq.o.o.frozen (i*4+3)
  clear hF EV aM Qv aG pY pX pW pV my FT FR FQ FP FO
  go_wp2_with fail
  have HRt:=zh (fq.o.put (i:=i) (by omega) JQ.o)
  rw[dT] at HRt
  generalize ((((w8.setCell ⟨go,i*4,none⟩ (.bool xZ)).setCell ⟨go,i*4+1,none⟩ (.slice yb xV xX)).setCell ⟨go,i*4+2,none⟩ (.bool xY)).setCell ⟨go,i*4+3,none⟩ (.slice ya xU xW))=W13 at *
  clear fq JQ o0 o1 o2 o3 lF lE lD lC
  have gD:Y0 (kR b i=eQ b i+bW (au b) (b.len-sq)):=by unfold Y0 kR;rw[if_pos (by omega),FE.o]
  rw[← gD.o] at HRt
  have Og:Y0 (RcSt w W13 b (zC b (some ⟨bs,os,none⟩) cs Al cl) gm go (kc b (i+1))):=by
   unfold Y0
   rw[mG]
   exact HRt.o
  clear HRt
  go_roundw
  case rel=>exact⟨i+1,by omega,by go_num,Og⟩
  simp[intOf];omega
 obtain rfl:i=b.sup.length:=by omega
 have HX:=zh (HR.o.o.weak fun j q _ h=>OD b h)
 have HBl:=zh HR.o.bel
 clear HR
 go_wp2_with fail
 go_ret
 exact⟨HBl.o,.slice (some ⟨go,0,none⟩) b.sup.length b.sup.length,rfl,go,by rw[wA],by rw[wA];exact HX.o⟩
end Go.Proofs.YtfhmbechennkbaaGreatDoor
