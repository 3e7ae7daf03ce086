/- Lemmas. -/
import Derived.Test.YtknkhnahflmjiaaGreatDoorR4
namespace Go.Proofs.YtknkhnahflmjiaaGreatDoor
set_option maxRecDepth 100000
set_option maxHeartbeats 40000000
open Go.RowKit Go.Shelf
structure TnQ (w W:World) (b:BeamT) (As:Option Addr) (cs:Nat) (Al:Option Addr) (cl:Nat) (v2 v3:Value) (xs:List Int) (ys:List LoadT):Prop where
 d0:Blk W w.heap.size 117 (zC b As cs Al cl)
 d1:Blk W (w.heap.size+1) 117 #[.string ⟨#[]⟩,.int .i64 0,.slice none 0 0,.slice none 0 0,.int .i64 0]
 d2:Blk W (w.heap.size+1+1) 117 #[.string b.name,.int .i64 b.len,v2,v3,.int .i64 b.even]
 o2:W.ownsRow w.heap.size 3 1 v2 xs.length (xs.map (Value.int .i64))
 o3:W.ownsRow w.heap.size 115 2 v3 ys.length (ys.flatMap LoadT.cells)
 bel:Below w.heap.size w W
section
variable {w W W':World} {b:BeamT} {As:Option Addr} {cs:Nat} {Al:Option Addr} {cl:Nat} {v2 v3:Value} {xs:List Int} {ys:List LoadT}
theorem lY {g:Nat} {t e:TypeId} {c:Array Value} {B s n:Nat} {v:Value} {L:List Value} (hb:Blk W g t c) (ho:W.ownsRow B e s v n L) (hg:W.grownBy W' v.ownBlock) (ht:e≠t):Blk W' g t c:=hb.kept hg (hb.ne_own ho ht)
theorem MM {e e':TypeId} {B B' s s' n n':Nat} {v v':Value} {L L':List Value} (h':W.ownsRow B' e' s' v' n' L') (ho:W.ownsRow B e s v n L) (hg:W.grownBy W' v.ownBlock) (ht:e≠e'):W'.ownsRow B' e' s' v' n' L':=h'.kept hg (Zj h' fun r e1 c f hh=>by
 obtain⟨c',hc⟩:=rW ho e1;rw[hh] at hc;injection hc with hc;injection hc with _ hc _;exact ht hc.symm)
theorem ie {e:TypeId} {B s n g i:Nat} {v u:Value} {L:List Value} {t:TypeId} {c:Array Value} (ho:W.ownsRow B e s v n L) (hb:Blk W g t c) (ht:e≠t):(W.setCell ⟨g,i,none⟩ u).ownsRow B e s v n L:=ho.kept (hb.setGrown i u) (Zj ho fun r e1 c' f hh=>by
 obtain rfl:g=r:=by simpa using e1
 unfold Blk at hb;rw[hb] at hh;injection hh with hh;injection hh with _ hh _;exact ht hh.symm)
theorem TnQ.allocDrew (h:TnQ w W b As cs Al cl v2 v3 xs ys) (o:Obj):TnQ w ((W.alloc o).drew) b As cs Al cl v2 v3 xs ys :=
 ⟨(h.d0.alloc o).drewN 1,(h.d1.alloc o).drewN 1,(h.d2.alloc o).drewN 1,fR (h.o2.alloc o) 1,fR (h.o3.alloc o) 1,(h.bel.alloc h.bel.size o).drew⟩
theorem TnQ.drew1 (h:TnQ w W b As cs Al cl v2 v3 xs ys):TnQ w W.drew b As cs Al cl v2 v3 xs ys :=
 ⟨h.d0.drewN 1,h.d1.drewN 1,h.d2.drewN 1,fR h.o2 1,fR h.o3 1,h.bel.drew⟩
theorem TnQ.alloc1 (h:TnQ w W b As cs Al cl v2 v3 xs ys) (o:Obj):TnQ w (W.alloc o) b As cs Al cl v2 v3 xs ys :=
 ⟨h.d0.alloc o,h.d1.alloc o,h.d2.alloc o,h.o2.alloc o,h.o3.alloc o,h.bel.alloc h.bel.size o⟩
theorem TnQ.step2 (h:TnQ w W b As cs Al cl v2 v3 xs ys) {v':Value} {w1:World} {x:Int} (bO:w1.ownsRow w.heap.size 3 1 v' (xs.length+1) (xs.map (Value.int .i64)++[.int .i64 x])) (hg:W.grownBy w1 v2.ownBlock) :
  TnQ w (w1.setCell ⟨w.heap.size+1+1,2,none⟩ v') b As cs Al cl v' v3 (xs++[x]) ys:=by
 have e0:=lY h.d0 h.o2 hg (by decide);have e1:=lY h.d1 h.o2 hg (by decide);have e2:=lY h.d2 h.o2 hg (by decide);have e3:=MM h.o3 h.o2 hg (by decide);have e4:Below w.heap.size w w1:=h.bel.grown hg h.bel.size (fun k e=>(h.o2.lt k e).1);refine⟨e0.far (by show w.heap.size≠w.heap.size+1+1;omega) _,e1.far (by show w.heap.size+1≠w.heap.size+1+1;omega) _,e2.set_ 2 v',?_,ie e3 e2 (by decide),e4.setCell (p:=⟨w.heap.size+1+1,2,none⟩) (by show w.heap.size≤w.heap.size+1+1;omega) _⟩
 rw[yR,List.map_append];exact ie bO e2 (by decide)
theorem TnQ.step3 (h:TnQ w W b As cs Al cl v2 v3 xs ys) {v':Value} {w1:World} {y:LoadT} (bO:w1.ownsRow w.heap.size 115 2 v' (ys.length+1) (ys.flatMap LoadT.cells++[.int .i64 y.pos,.int .i64 y.wt])) (hg:W.grownBy w1 v3.ownBlock) :
  TnQ w (w1.setCell ⟨w.heap.size+1+1,3,none⟩ v') b As cs Al cl v2 v' xs (ys++[y]):=by
 have e0:=lY h.d0 h.o3 hg (by decide);have e1:=lY h.d1 h.o3 hg (by decide);have e2:=lY h.d2 h.o3 hg (by decide);have e3:=MM h.o2 h.o3 hg (by decide);have e4:Below w.heap.size w w1:=h.bel.grown hg h.bel.size (fun k e=>(h.o3.lt k e).1);refine⟨e0.far (by show w.heap.size≠w.heap.size+1+1;omega) _,e1.far (by show w.heap.size+1≠w.heap.size+1+1;omega) _,e2.set_ 3 v',ie e3 e2 (by decide),?_,e4.setCell (p:=⟨w.heap.size+1+1,3,none⟩) (by show w.heap.size≤w.heap.size+1+1;omega) _⟩
 rw[yR,List.flatMap_append];exact ie bO e2 (by decide)
end
theorem TnQ.fin {w W:World} {b:BeamT} {As:Option Addr} {cs:Nat} {Al:Option Addr} {cl:Nat} {A2 A3:Option Addr} {k2 k3:Nat} {XS:List Int} {YS:List LoadT} (h:TnQ w W b As cs Al cl (.slice A2 XS.length k2) (.slice A3 YS.length k3) XS YS) (hX:b.sup.reverse.map (b.len - ·)=XS) (hY:b.loads.map (fun x=>(⟨b.len - x.pos,x.wt⟩:LoadT))=YS) {W9:World}
  (h9:((((W.setCell ⟨w.heap.size+1,0,none⟩ (.string b.name)).setCell ⟨w.heap.size+1,1,none⟩ (.int .i64 b.len)).setCell ⟨w.heap.size+1,2,none⟩ (.slice A2 XS.length k2)).setCell ⟨w.heap.size+1,3,none⟩ (.slice A3 YS.length k3)).setCell ⟨w.heap.size+1,4,none⟩ (.int .i64 b.even)=W9) :
  Blk W9 (w.heap.size+1) 117 #[.string b.name,.int .i64 b.len,.slice A2 XS.length k2,.slice A3 YS.length k3,.int .i64 b.even]∧Below w.heap.size w W9∧BeamAt W9 W9.heap.size (.agg #[.string b.name,.int .i64 b.len,.slice A2 XS.length k2,.slice A3 YS.length k3,.int .i64 b.even]) (ao b):=by
 have hR:w.heap.size≤w.heap.size+1:=YH _;have e1:=h.d1.set_ 0 (.string b.name);have e2:=e1.set_ 1 (.int .i64 b.len);have e3:=e2.set_ 2 (.slice A2 XS.length k2);have e4:=e3.set_ 3 (.slice A3 YS.length k3);have e5:=e4.set_ 4 (.int .i64 b.even);have o2:=ie (i:=4) (u:=.int .i64 b.even) (ie (i:=3) (u:=.slice A3 YS.length k3) (ie (i:=2) (u:=.slice A2 XS.length k2) (ie (i:=1) (u:=.int .i64 b.len) (ie (i:=0) (u:=.string b.name) h.o2 h.d1 (by decide)) e1 (by decide)) e2 (by decide)) e3 (by decide)) e4 (by decide)
 have o3:=ie (i:=4) (u:=.int .i64 b.even) (ie (i:=3) (u:=.slice A3 YS.length k3) (ie (i:=2) (u:=.slice A2 XS.length k2) (ie (i:=1) (u:=.int .i64 b.len) (ie (i:=0) (u:=.string b.name) h.o3 h.d1 (by decide)) e1 (by decide)) e2 (by decide)) e3 (by decide)) e4 (by decide);have hb:=((((h.bel.setCell (p:=⟨w.heap.size+1,0,none⟩) hR (.string b.name)).setCell (p:=⟨w.heap.size+1,1,none⟩) hR (.int .i64 b.len)).setCell (p:=⟨w.heap.size+1,2,none⟩) hR (.slice A2 XS.length k2)).setCell (p:=⟨w.heap.size+1,3,none⟩) hR (.slice A3 YS.length k3)).setCell (p:=⟨w.heap.size+1,4,none⟩) hR (.int .i64 b.even)
 subst h9;subst hX hY;exact⟨e5,hb,A2,k2,A3,k3,rfl,RowAt.of_own o2,Flat.of_own o3⟩
theorem ET {ops:Array Oper} {o:Oper} {a:Act} {w:World} {K:Act→World→Prop} {Q:Exit→Act→World→Prop} {E:Prop} (oQ:o.guard=none) (s x:Operand)
  (ho:o.op=.call { callee:=.builtin .append,args:=#[s,x],argTypes:=#[33,33] }) {B m:Nat} {v:Value} {xs:List Value} (T:w.ownsRow B 3 1 v m xs) (hB:B≤w.heap.size) {t:Int} {a1:Nat} (N:Blk w a1 3 #[.int .i64 t])
  (hs:a.eval s=v) (hx:a.eval x=.slice (some ⟨a1,0,none⟩) 1 1) (dD:m≤1000)
  (h:∀g cap w',w'.ownsRow B 3 1 (.slice (some ⟨g,0,none⟩) (m+1) cap) (m+1) (xs++[.int .i64 t])→w.grownBy w' v.ownBlock→K (a.put o.dst (.slice (some ⟨g,0,none⟩) (m+1) cap)) w') :
  if Region.wanted o (yielded ops a.tmps)=true then Oper.wp Tryz.prog o a w K Q else E:=by
 obtain⟨i0,m9,kg,lP,mX⟩:=info_parts sj;refine step_append_lies w oQ s x 33 ho B 3 i0 _ 1 8 Tryz.underlying33 m9 kg lP mX rfl (by decide) v m xs hs T ⟨a1,0,none⟩ 1 1 [.int .i64 t] hx rfl
  (fun j u hu=>by rw[Addr.add_lit,yS];exact (N.cell j).trans (by simpa using hu)) (fun u hu=>by rw[List.mem_singleton.1 hu];rfl) (by omega) (by unfold maxLen;omega) (by omega) hB _ rfl ?_
 intro g cap w' bO eO _ _;exact h g cap w' bO eO
theorem TW (b:BeamT) {i:Nat} (hi:i<b.sup.length):(b.sup.drop i).reverse.map (b.len - ·)=(b.sup.drop (i+1)).reverse.map (b.len - ·)++[b.len-b.sup[i]]:=by
 rw[List.drop_eq_getElem_cons hi,List.reverse_cons,List.map_append];rfl
theorem qzm (b:BeamT) {k:Nat} (hk:k<b.loads.length):(b.loads.take (k+1)).map (fun x=>(⟨b.len-x.pos,x.wt⟩:LoadT))=(b.loads.take k).map (fun x=>(⟨b.len-x.pos,x.wt⟩:LoadT))++[⟨b.len-b.loads[k].pos,b.loads[k].wt⟩]:=by
 rw[bF b.loads k hk,List.map_append];rfl
theorem Nc (v:Value) (b:BeamT) (w:World) (hv:BeamAt w w.heap.size v b) (hb:BeamOk b):Calls Tryz.prog 274 #[v] w (TurnedPost b w):=by
 obtain⟨As,cs,Al,cl,rfl,hS,hL⟩:=hv;obtain⟨_,_,e,_,oR,td⟩:=hS.open_;injection e with e1 _ e2;subst e1 e2;obtain⟨_,_,e,_,dR,nQ⟩:=hL.open_;injection e with e1 _ e2;subst e1 e2;have h1:=hb.sup1.2;have h2:=hb.loads1;have h5:=hb.len;unfold maxLen at oR dR;have M3:=zh td;have uw:=zh nQ;have Hb:=zh hb;obtain⟨XH,Vb⟩:=h5;have cY:=zh (cu w 117 117 117 (zC b As cs Al cl) #[.string ⟨#[]⟩,.int .i64 0,.slice none 0 0,.slice none 0 0,.int .i64 0] (zC b As cs Al cl))
 clear nQ td hb hS hL;go_enter Tryz.func274,Tryz.ntmps274;go_upto_region 2 with fail;generalize ((w.alloc (.cells (zC b As cs Al cl) 117)).alloc (.cells #[.string ⟨#[]⟩,.int .i64 0,.slice none 0 0,.slice none 0 0,.int .i64 0] 117)).alloc (.cells (zC b As cs Al cl) 117)=W3 at*;obtain⟨D0,D1,D2,bE⟩:=cY.o;have HT:Y0 (TnQ w ((W3.setCell ⟨w.heap.size+1+1,2,none⟩ (.slice none 0 0)).setCell ⟨w.heap.size+1+1,3,none⟩ (.slice none 0 0)) b As cs Al cl (.slice none 0 0) (.slice none 0 0) [] []) :=
  ⟨(D0.far (p:=⟨w.heap.size+1+1,2,none⟩) (by show w.heap.size≠w.heap.size+1+1;omega) _).far (p:=⟨w.heap.size+1+1,3,none⟩) (by show w.heap.size≠w.heap.size+1+1;omega) _,
   (D1.far (p:=⟨w.heap.size+1+1,2,none⟩) (by show w.heap.size+1≠w.heap.size+1+1;omega) _).far (p:=⟨w.heap.size+1+1,3,none⟩) (by show w.heap.size+1≠w.heap.size+1+1;omega) _,
   (D2.set_ 2 (.slice none 0 0)).set_ 3 (.slice none 0 0),yJ _ _ _ _,yJ _ _ _ _,
   (bE.setCell (p:=⟨w.heap.size+1+1,2,none⟩) (by show w.heap.size≤w.heap.size+1+1;omega) _).setCell (p:=⟨w.heap.size+1+1,3,none⟩) (by show w.heap.size≤w.heap.size+1+1;omega) _⟩
 have f2:=D2.frozen 2;have f3:=D2.frozen 3;have x2:=D2.cell 2;have x3:=D2.cell 3;have HT1:=HT.o.d0.cell 2;simp only[aB,aD,aA] at x2 x3 HT1;have cP:=zh D2;clear cY D0 D1 D2 bE;go_upto_region 4 with fail;generalize (W3.setCell ⟨w.heap.size+1+1,2,none⟩ (.slice none 0 0)).setCell ⟨w.heap.size+1+1,3,none⟩ (.slice none 0 0)=W4 at*;clear f2 f3 x2 x3 cP;go_wp2_with fail;have M8:Y0 ((b.sup.drop b.sup.length).reverse.map (b.len - ·)=[]):=by unfold Y0;rw[List.drop_length];rfl
 go_loopw [4] (fun kx wr=>∃m:Nat,m≤b.sup.length∧kx=.int .i64 ((m:Int)-1)∧∃v2,Y0 (TnQ w wr b As cs Al cl v2 (.slice none 0 0) ((b.sup.drop m).reverse.map (b.len - ·)) [])) (fun kx _=>(intOf kx+1).toNat)
 case atStart=>exact⟨b.sup.length,yA _,by go_num,_,by rw[M8.o];exact HT⟩
 clear HT HT1 M8;obtain⟨m,hm,rfl,v2,HT⟩:=hrel;have hlx:((b.sup.drop m).reverse.map (b.len - ·)).length=b.sup.length-m:=by simp
 rcases m with _|i
 ·rw[List.drop_zero] at HT hlx;generalize hXS:b.sup.reverse.map (b.len - ·)=XS at*;have HXS:=zh hXS;obtain⟨A2,k2,rfl⟩:=lw HT.o.o2;have HT:=zh HT.o;have wJ:Y0 ((b.loads.take 0).map (fun x=>(⟨b.len-x.pos,x.wt⟩:LoadT))=[]):=rfl;clear hm hXS hlx;have d3:=HT.o.d0.cell 3;simp only[aB,aD,aA] at d3;go_wp2_with fail;go_loopw [5] (fun kx wr=>∃k:Nat,k≤b.loads.length∧kx=.int .i64 k∧∃v3,Y0 (TnQ w wr b As cs Al cl (.slice A2 XS.length k2) v3 XS ((b.loads.take k).map (fun x=>(⟨b.len-x.pos,x.wt⟩:LoadT))))) (fun kx _=>b.loads.length-(intOf kx).toNat)
  case atStart=>exact⟨0,yI _,rfl,_,by rw[wJ.o];exact HT⟩
  clear HT wJ d3;obtain⟨k,hk,rfl,v3,HT⟩:=hrel;have k0:(0:Int)≤(k:Int):=yE _;have a3:=HT.o.d0.cell 3;have a1:=HT.o.d0.cell 1;simp only[aB,aD,aA] at a3 a1;obtain⟨A3,k3,rfl⟩:=lw HT.o.o3;by_cases aK:k<b.loads.length
  ·have k1:(k:Int)<(b.loads.length:Int):=by omega
   obtain⟨b2,o2,rfl,aI,dR⟩:=uw.o k aK;obtain⟨cG,dc⟩:=dR k aK;obtain⟨p1,p2,p3,p4⟩:=Hb.o.loads _ (yV aK);have HXs:=zh (qzm b (k:=k) aK);have Ew:((b.loads.take k).map (fun x=>(⟨b.len-x.pos,x.wt⟩:LoadT))).length≤1000:=by rw[yQ,YA];omega
   have HT:=zh HT.o;generalize (b.loads.take k).map (fun x=>(⟨b.len-x.pos,x.wt⟩:LoadT))=ys at*;generalize b.loads[k]=x at*;obtain⟨pos,wt⟩:=x;simp only at cG dc p1 p2 p3 p4;have v1:IntKind.i64.wrap (b.len-pos)=b.len-pos:=yF _ (by omega);generalize hn:ys.length=n at*;have T0:=HT.o.drew1;have T1:=T0.alloc1 (.cells #[.int .i64 (b.len-pos),.int .i64 wt] 115);have hN:Blk (wr.drew.alloc (.cells #[.int .i64 (b.len-pos),.int .i64 wt] 115)) wr.heap.size 115 #[.int .i64 (b.len-pos),.int .i64 wt]:=Blk.new wr.drew 115 #[.int .i64 (b.len-pos),.int .i64 wt]
   obtain⟨i0,m9,kg,lP,mX⟩:=info_parts mw;obtain⟨g3,kP,wz,ki,Ld,nK,-,-⟩ := run_append_lies (P := Tryz.prog) (w := wr.drew.alloc (.cells #[.int .i64 (b.len - pos),.int .i64 wt] 115)) 66 66 w.heap.size 115 i0 _ 2 16 Tryz.underlying66 m9 kg lP mX rfl (by decide)
    (.slice A3 n k3) n (ys.flatMap LoadT.cells) (by have h:=T1.o3;rw[hn] at h;exact h) ⟨wr.heap.size,0,none⟩ 1 1 [.int .i64 (b.len-pos),.int .i64 wt] rfl
    (fun j u hu=>by rw[Addr.add_lit,yS];exact (hN.cell j).trans (by simpa using hu)) (fun u hu=>by simp at hu;rcases hu with rfl|rfl <;> rfl) (by omega) (by unfold maxLen;omega) (by omega) T1.bel.size _ rfl
   have hZ0:=lY (W':=wz) T1.d0 T1.o3 nK (by decide);have XA:=lY (W':=wz) T1.d2 T1.o3 nK (by decide);have T3:=T1.step3 (y:=⟨b.len-pos,wt⟩) (v':=.slice (some ⟨g3,0,none⟩) (n+1) kP) (w1:=wz) (by rw[hn];exact Ld) nK;have hBz:Below w.heap.size w wz:=T1.bel.grown nK T1.bel.size (fun k e=>by have:=T1.o3;rw[hn] at this;exact (this.lt k e).1);obtain⟨Wd,hW0,tJ,uc,Hu⟩:∃Wd:Nat→World,Wd 0=wr.drew∧Wd 1=wr.drew.alloc (.cells #[.int .i64 (b.len-pos),.int .i64 wt] 115)∧Wd 2=wz∧Wd 3=wz.setCell ⟨w.heap.size+1+1,3,none⟩ (.slice (some ⟨g3,0,none⟩) (n+1) kP) :=
    ⟨fun m=>if m=0 then wr.drew else if m=1 then wr.drew.alloc (.cells #[.int .i64 (b.len-pos),.int .i64 wt] 115) else if m=2 then wz else wz.setCell ⟨w.heap.size+1+1,3,none⟩ (.slice (some ⟨g3,0,none⟩) (n+1) kP),rfl,rfl,rfl,rfl⟩
   have Hr:∀m,m≤3→Below w.heap.size w (Wd m)∧Blk (Wd m) w.heap.size 117 (zC b As cs (some ⟨b2,o2,none⟩) cl):=fun m hm=>by
    rcases m with _|_|_|_|m
    ·rw[hW0];exact⟨T0.bel,T0.d0⟩
    ·rw[tJ];exact⟨T1.bel,T1.d0⟩
    ·rw[uc];exact⟨hBz,hZ0⟩
    ·rw[Hu];exact⟨T3.bel,T3.d0⟩
    omega
   have c1:∀m,m≤3→(Wd m).cell? ⟨w.heap.size,1,none⟩=some (.int .i64 b.len):=fun m hm=>((Hr m hm).2.cell 1).trans rfl;have c3:∀m,m≤3→(Wd m).cell? ⟨w.heap.size,3,none⟩=some (.slice (some ⟨b2,o2,none⟩) b.loads.length cl):=fun m hm=>((Hr m hm).2.cell 3).trans rfl;have x1:∀m,m≤3→(Wd m).cell? ⟨b2,o2+k*2,none⟩=some (.int .i64 pos):=fun m hm=>((Hr m hm).1.cell (p:=⟨b2,o2+k*2,none⟩) aI).trans cG;have x2:∀m,m≤3→(Wd m).cell? ⟨b2,o2+k*2+1,none⟩=some (.int .i64 wt):=fun m hm=>((Hr m hm).1.cell (p:=⟨b2,o2+k*2+1,none⟩) aI).trans dc
   have d3:∀m,m≤1→(Wd m).cell? ⟨w.heap.size+1+1,3,none⟩=some (.slice A3 n k3):=fun m hm=>by
    rcases m with _|_|m
    ·rw[hW0];exact (T0.d2.cell 3).trans rfl
    ·rw[tJ];exact (T1.d2.cell 3).trans rfl
    omega
   have hz3:wz.cell? ⟨w.heap.size+1+1,3,none⟩=some (.slice A3 n k3):=(XA.cell 3).trans rfl;have hf3:=XA.frozen 3;have W0:=zh hW0;have W3:=zh Hu;have HT3:=zh T3;have vqL:∀i m,Xt .any #[] [] i m=Xt .any #[] [] i m:=fun _ _=>rfl;clear T0 T1 T3 Hr hZ0 XA hBz Ld nK hN m9 kg lP mX dR HT cG dc vqL a1;go_upto_region 11 with fail;refine kT [.pointer (some ⟨w.heap.size+1+1,3,none⟩),.slice A3 n k3,.pointer (some ⟨w.heap.size,1,none⟩),.int .i64 b.len,.pointer (some ⟨w.heap.size,3,none⟩),.slice (some ⟨b2,o2,none⟩) b.loads.length cl,.int .i64 k,.pointer (some ⟨b2,o2+k*2,none⟩),.pointer (some ⟨b2,o2+k*2,none⟩),.int .i64 pos,.int .i64 (b.len-pos),
    .pointer (some ⟨w.heap.size,3,none⟩),.slice (some ⟨b2,o2,none⟩) b.loads.length cl,.int .i64 k,.pointer (some ⟨b2,o2+k*2,none⟩),.pointer (some ⟨b2,o2+k*2+1,none⟩),.int .i64 wt,.agg #[.int .i64 (b.len-pos),.int .i64 wt],.slice (some ⟨wr.heap.size,0,none⟩) 1 1,.slice (some ⟨g3,0,none⟩) (n+1) kP,.pointer (some ⟨w.heap.size+1+1,3,none⟩),undef] Wd [18,19,21] (by kernel_rfl) (by kernel_rfl) (by kernel_rfl) (by decide) (by rfl) W0.o ?_ ?_
   ·simp only[aY,Act.put,aw,av,au];simp only[lL];refine⟨?_,?_,?_,?_,?_,?_,?_,?_,?_,?_,?_,?_,?_,?_,?_,?_,?_,?_,?_,?_,?_,?_,trivial⟩
    ·exact .inl ⟨by decide,fun m hm bM=>by go_simp⟩
    ·exact .inl ⟨by decide,fun m hm bM=>by
      have Rb:m≤1:=by
       rcases m with _|_|_|_|m
       ·omega
       ·omega
       ·exact absurd (Eq.trans (a:=false) (by kernel_rfl) bM) Bool.false_ne_true
       ·exact absurd (Eq.trans (a:=false) (by kernel_rfl) bM) Bool.false_ne_true
       exact absurd hm (by show ¬m+4≤3;omega)
      have h:=d3 m Rb;go_simp⟩
    ·exact .inl ⟨by decide,fun m hm bM=>by go_simp⟩
    ·exact .inl ⟨by decide,fun m hm bM=>by have h:=c1 m hm;go_simp⟩
    ·exact .inl ⟨by decide,fun m hm bM=>by go_simp⟩
    ·exact .inl ⟨by decide,fun m hm bM=>by have h:=c3 m hm;go_simp⟩
    ·exact .inl ⟨by decide,fun m hm bM=>by go_simp⟩
    ·exact .inl ⟨by decide,fun m hm bM=>by go_simp⟩
    ·exact .inl ⟨by decide,fun m hm bM=>by go_simp⟩
    ·exact .inl ⟨by decide,fun m hm bM=>by have h:=x1 m hm;go_simp⟩
    ·exact .inl ⟨by decide,fun m hm bM=>by go_simp⟩
    ·exact .inl ⟨by decide,fun m hm bM=>by go_simp⟩
    ·exact .inl ⟨by decide,fun m hm bM=>by have h:=c3 m hm;go_simp⟩
    ·exact .inl ⟨by decide,fun m hm bM=>by go_simp⟩
    ·exact .inl ⟨by decide,fun m hm bM=>by go_simp⟩
    ·exact .inl ⟨by decide,fun m hm bM=>by go_simp⟩
    ·exact .inl ⟨by decide,fun m hm bM=>by have h:=x2 m hm;go_simp⟩
    ·exact .inl ⟨by decide,fun m hm bM=>by go_simp⟩
    ·exact .inr ⟨0,rfl,.inr (.inl (by rw[W0.o,tJ];go_simp))⟩
    ·exact .inr ⟨1,rfl,.inr (.inl (by rw[tJ,uc];exact mG rfl (by go_simp) (by go_simp) ki))⟩
    ·exact .inl ⟨by decide,fun m hm bM=>by go_simp⟩
    exact .inr ⟨2,rfl,.inl ⟨rfl,by rw[uc,W3.o];go_simp⟩⟩
   simp only[aY,Act.put,aw,av,au];have eW:Wd (List.length [18,19,21])=wz.setCell ⟨w.heap.size+1+1,3,none⟩ (.slice (some ⟨g3,0,none⟩) (n+1) kP):=W3.o;rw[eW];clear eW W3 W0 tJ uc c1 c3 x1 x2 d3 hz3 hf3 ki;generalize wz.setCell ⟨w.heap.size+1+1,3,none⟩ (.slice (some ⟨g3,0,none⟩) (n+1) kP)=W9 at*;go_wp2_with fail;go_roundw
   case rel=>exact⟨k+1,by omega,by go_num,_,by rw[HXs.o];exact HT3⟩
   simp[intOf] <;> omega
  obtain rfl:k=b.loads.length:=by omega
  rw[yT] at HT;generalize hYS:b.loads.map (fun x=>(⟨b.len-x.pos,x.wt⟩:LoadT))=YS at*;have HT:=zh HT.o;obtain⟨W9,h9⟩:=zo (((((wr.setCell ⟨w.heap.size+1,0,none⟩ (.string b.name)).setCell ⟨w.heap.size+1,1,none⟩ (.int .i64 b.len)).setCell ⟨w.heap.size+1,2,none⟩ (.slice A2 XS.length k2)).setCell ⟨w.heap.size+1,3,none⟩ (.slice A3 YS.length k3)).setCell ⟨w.heap.size+1,4,none⟩ (.int .i64 b.even));have HE:=zh (HT.o.fin HXS.o hYS h9)
  have d0:=HT.o.d2.cell 0;have d1:=HT.o.d2.cell 1;have d2:=HT.o.d2.cell 2;have d3:=HT.o.d2.cell 3;have d4:=HT.o.d2.cell 4;have r0:=HT.o.d1.cell 0;have r1:=HT.o.d1.cell 1;have r2:=HT.o.d1.cell 2;have r3:=HT.o.d1.cell 3;have r4:=HT.o.d1.cell 4;have f0:=HT.o.d1.frozen 0;have f1:=HT.o.d1.frozen 1;have f2:=HT.o.d1.frozen 2;have f3:=HT.o.d1.frozen 3;have f4:=HT.o.d1.frozen 4;simp only[aB,aD,aA] at d0 d1 d2 d3 d4 r0 r1 r2 r3 r4
  have H9:=zh h9;clear HT hYS h9;go_wp2_with fail;rw[H9.o];obtain⟨fC,Mt,hbm⟩:=HE.o;obtain⟨p0,p1,p2,p3,p4⟩:=fC.c5;refine YF (v:=.agg #[.string b.name,.int .i64 b.len,.slice A2 XS.length k2,.slice A3 YS.length k3,.int .i64 b.even]) (by simp[results,Tryz.results274,go_sem,p0,p1,p2,p3,p4]) rfl ?_;exact⟨Mt,_,rfl,hbm⟩
 obtain⟨bb,oo,rfl,aI,hc⟩:=M3.o i (by omega);have hc0:=(HT.o.bel.cell (p:=⟨bb,oo+i,none⟩) aI).trans (hc i (by omega));have kG:∀o,(wr.alloc o).cell? ⟨bb,oo+i,none⟩=some (.int .i64 b.sup[i]):=fun o=>((HT.o.bel.alloc HT.o.bel.size o).cell (p:=⟨bb,oo+i,none⟩) aI).trans (hc i (by omega));have qkx:=Hb.o.sup i (by omega);have e9:ai b i=b.sup[i]:=by unfold ai;rw[List.getD_eq_getElem?_getD,List.getElem?_eq_getElem (by omega)];rfl
 rw[e9] at qkx;have HXs:=zh (TW b (i:=i) (by omega));have e0:((i+1:Nat):Int)-1=(i:Int):=by omega
 rw[e0];generalize (b.sup.drop (i+1)).reverse.map (b.len - ·)=xs at*;generalize b.sup[i]=s at*;obtain⟨mz,lQ⟩:=qkx;have i0:(0:Int)≤(i:Int):=yE _;have i1:(i:Int)<(b.sup.length:Int):=by omega
 have v1:IntKind.i64.wrap (b.len-s)=b.len-s:=yF _ (by omega);have v3:IntKind.i64.wrap ((i:Int)-1)=(i:Int)-1:=yF _ (by omega);have him:i≤b.sup.length:=by omega
 obtain⟨A2,k2,rfl⟩:=lw HT.o.o2;generalize hn:xs.length=n at*;have Ew:n≤1000:=by omega
 have a1:=HT.o.d0.cell 1;have a2:=HT.o.d0.cell 2;have a1':=fun o=>(HT.o.d0.alloc o).cell 1;have a2':=fun o=>(HT.o.d0.alloc o).cell 2;have d2:=HT.o.d2.cell 2;have d2':=fun o=>(HT.o.d2.alloc o).cell 2;simp only[aB,aD,aA] at a1 a2 a1' a2' d2 d2';have HTa:=HT.o.allocDrew (.cells #[.int .i64 (b.len-s)] 3);have HSo:Y0 (∀wz,((wr.alloc (.cells #[.int .i64 (b.len-s)] 3)).drew).grownBy wz (Value.slice A2 n k2).ownBlock→wz.frozen? ⟨w.heap.size+1+1,2,none⟩=false∧wz.cell? ⟨w.heap.size+1+1,2,none⟩=some (.slice A2 n k2)):=fun wz nK=>by
  have h:=lY HTa.d2 HTa.o2 (by exact nK) (by decide);exact⟨h.frozen 2,h.cell 2⟩
 have LY:Y0 (∀wz g3 kP,((wr.alloc (.cells #[.int .i64 (b.len-s)] 3)).drew).grownBy wz (Value.slice A2 n k2).ownBlock→wz.ownsRow w.heap.size 3 1 (.slice (some ⟨g3,0,none⟩) (n+1) kP) (n+1) (xs.map (Value.int .i64)++[.int .i64 (b.len-s)]) →
   TnQ w (wz.setCell ⟨w.heap.size+1+1,2,none⟩ (.slice (some ⟨g3,0,none⟩) (n+1) kP)) b (some ⟨bb,oo,none⟩) cs Al cl (.slice (some ⟨g3,0,none⟩) (n+1) kP) (.slice none 0 0) (xs++[b.len-s]) []):=fun wz g3 kP nK Ld=>HTa.step2 (by rw[hn];exact Ld) nK
 have M4:Y0 (((wr.alloc (.cells #[.int .i64 (b.len-s)] 3)).drew).ownsRow w.heap.size 3 1 (.slice A2 n k2) n (xs.map (Value.int .i64))∧w.heap.size≤((wr.alloc (.cells #[.int .i64 (b.len-s)] 3)).drew).heap.size∧Blk ((wr.alloc (.cells #[.int .i64 (b.len-s)] 3)).drew) wr.heap.size 3 #[.int .i64 (b.len-s)]):=⟨by have h:=HTa.o2;rw[hn] at h;exact h,HTa.bel.size,(Blk.new wr 3 #[.int .i64 (b.len-s)]).drewN 1⟩
 clear HTa HT hc hm hn hlx e9 e0 oR;go_wp2_with fail;go_region_law (refine ET rfl (.tmp 18) (.tmp 27) rfl M4.o.1 M4.o.2.1 M4.o.2.2 (by go_simp) (by go_simp) Ew ?_;intro g3 kP wz Ld nK;obtain⟨fz,cz⟩:=HSo.o wz nK;have HPv:=zh (LY.o wz g3 kP nK Ld);clear Ld nK)
 all_goals
  clear hc0 kG a1 a2 a1' a2' d2 d2' fz cz HSo LY M4;go_simp;go_wp2_with fail;go_roundw
  case rel=>exact⟨i,him,by go_num,_,by rw[HXs.o];exact HPv⟩
  simp[intOf] <;> omega
