/- Lemmas. -/
import Derived.Test.YtmmhehgajkaniaaGreatDoorZ11
namespace Go.Proofs.YtmmhehgajkaniaaGreatDoor
set_option maxRecDepth 100000
set_option maxHeartbeats 40000000
open Go.RowKit Go.Shelf
theorem OL (x:ItemT) (w:World) (hx:0≤x.pos∧x.pos≤1048576∧1≤x.width∧x.width≤1048576) :
  Calls Tryz.prog 133 #[x.val] w fun e w'=>e=.returned (.int .i64 (C3 x))∧w.alloc (.cells #[.string x.name,.int .i64 x.pos,.int .i64 x.width,.int .i64 x.wt,.int .i64 x.hang,.int .i64 x.front,.int .i64 x.back] 52)=w':=by
 have HV:Y0 (C3 x=x.pos+x.width/2):=rfl;obtain⟨h1,h2,h3,h4⟩:=hx;have v1:IntKind.i64.wrap (x.width/2)=x.width/2:=yF _ (by omega);have v2:IntKind.i64.wrap (x.pos+x.width/2)=x.pos+x.width/2:=yF _ (by omega);have v3:x.width.tdiv 2=x.width/2:=Int.tdiv_eq_ediv_of_nonneg (by omega);clear h1 h2 h3 h4;go_enter Tryz.func133,Tryz.ntmps133;go_wp2;go_ret;exact⟨by rw[HV.o];rfl,rfl⟩
theorem dB {w w':World} {B e s n:Nat} {v:Value} {xs:List Value} (h:w.ownsRow B e s v n xs) (hb:Below w.heap.size w w'):w'.ownsRow B e s v n xs :=
 h.kept (gG (row:=none) hb) (by
  by_cases e:v.ownBlock=none
  ·exact .inl e
  exact .inr e)
def gO (B:Nat) (l:List Int):GPost:=⟨fun v=>∃A c,v=.slice A l.length c,fun v w=>w.ownsRow B 3 1 v l.length (l.map (Value.int .i64)),⟨_,none,0,rfl⟩,fun _ _ _ hb h=>dB h hb,false⟩
theorem lO {w:World} {B e s n:Nat} {v:Value} {L:List Value} (h:w.ownsRow B e s v n L):∃A c,v=.slice A n c:=by
 rcases h.2 with⟨rfl,rfl⟩|⟨g,cap,cur,rfl,_⟩
 ·exact⟨none,0,rfl⟩
 exact⟨_,cap,rfl⟩
theorem ZI {v:Value} {l:List Int} {w:World} {B:Nat} (hl:bg w w.heap.size v l) (cI:l.length≤1000000) (hB:B≤w.heap.size) :
  Calls Tryz.prog 132 #[v] w fun e w'=>∃u,e=.returned u∧Below w.heap.size w w'∧(gO B l).σ u∧(gO B l).φ u w' :=
 (Gv v l w hl cI).mono fun _ _ ⟨u,he,hO,hb⟩=>⟨u,he,hb,(by obtain⟨A,c,h⟩:=lO hO;exact⟨A,c,h⟩),jg hO hB⟩
def Lg (B:Nat) (v:Value) (w:World):Prop:=∃g,v=.pointer (some ⟨g,0,none⟩)∧B≤g∧Blk w g 43 #[.string ⟨#[]⟩,.int .i64 0,.slice none 0 0,.slice none 0 0,.int .i64 0]
def vwz (B:Nat):GPost:=⟨fun v=>∃g,v=.pointer (some ⟨g,0,none⟩),Lg B,⟨_,0,rfl⟩,fun _ _ _ hb h=>by
 obtain⟨g,h1,h2,h3⟩:=h;exact⟨g,h1,h2,h3.below hb h3.lt⟩,false⟩
theorem Ga {P:Program} {o:Oper} {a:Act} {w:World} {B:Nat} (hB:B≤w.heap.size) (h:(execOp a.eval o).run P w=.ok (.value (.pointer (some ⟨w.heap.size,0,none⟩))) (w.alloc (.cells #[.string ⟨#[]⟩,.int .i64 0,.slice none 0 0,.slice none 0 0,.int .i64 0] 43))):kX P o a (vwz B) w :=
 ⟨_,_,h,(yB _ _).alloc (yA _) _,⟨_,rfl⟩,⟨_,rfl,hB,Blk.new _ _ _⟩,fun h=>by cases h⟩
structure BoS (w W:World) (bx:Array Value) (s:SetT) (G:Nat) (v2 v3:Value) (ys:List LoadT):Prop where
 d0:Blk W w.heap.size 26 bx
 d1:Blk W (w.heap.size+1) 43 #[.string ⟨#[]⟩,.int .i64 0,.slice none 0 0,.slice none 0 0,.int .i64 0]
 d2:Blk W G 43 #[.string s.name,.int .i64 s.len,v2,v3,.int .i64 s.pipe]
 o2:W.ownsRow w.heap.size 3 1 v2 s.lines.length (s.lines.map (Value.int .i64))
 o3:W.ownsRow w.heap.size 40 2 v3 ys.length (ys.flatMap LoadT.cells)
 bel:Below w.heap.size w W
 far:w.heap.size+1<G
section
variable {w W W':World} {bx:Array Value} {s:SetT} {G:Nat} {v2 v3:Value} {ys:List LoadT}
theorem BoS.below (h:BoS w W bx s G v2 v3 ys) (hb:Below W.heap.size W W'):BoS w W' bx s G v2 v3 ys :=
 ⟨h.d0.below hb h.d0.lt,h.d1.below hb h.d1.lt,h.d2.below hb h.d2.lt,dB h.o2 hb,dB h.o3 hb,h.bel.trans (hb.mono h.bel.size),h.far⟩
theorem BoS.push (h:BoS w W bx s G v2 v3 ys) {v':Value} {w1:World} {y:LoadT} (aK:w1.ownsRow w.heap.size 40 2 v' (ys.length+1) (ys.flatMap LoadT.cells++[.int .i64 y.pos,.int .i64 y.wt])) (hg:W.grownBy w1 v3.ownBlock) :
  Blk w1 G 43 #[.string s.name,.int .i64 s.len,v2,v3,.int .i64 s.pipe]∧BoS w (w1.setCell ⟨G,3,none⟩ v') bx s G v2 v' (ys++[y]):=by
 have hr:=fun r (e:v3.ownBlock=some r)=>tj h.o3 e;have k:=fun {g:Nat} {t:TypeId} {c:Array Value} (hb:Blk W g t c) (ht:t≠40)=>hb.kept hg (fun e=>by
  obtain⟨c',hc⟩:=hr g e.symm;unfold Blk at hb;rw[hb] at hc;injection hc with hc;injection hc with _ hc _;exact ht hc)
 have e0:=k h.d0 (by decide);have e1:=k h.d1 (by decide);have e2:=k h.d2 (by decide);have e4:w1.ownsRow w.heap.size 3 1 v2 s.lines.length (s.lines.map (Value.int .i64)):=h.o2.kept hg (Zj h.o2 fun r e c f hh=>by
  obtain⟨c',hc⟩:=hr r e;rw[hh] at hc;injection hc with hc;injection hc with _ hc _;exact absurd hc (by decide))
 have hf:=h.far;have ak:Below w.heap.size w w1:=h.bel.grown hg h.bel.size (fun k e=>(h.o3.lt k e).1);refine⟨e2,e0.far (by show w.heap.size≠G;omega) _,e1.far (by show w.heap.size+1≠G;omega) _,e2.set_ 3 v',?_,?_,ak.setCell (by show w.heap.size≤G;omega) _,hf⟩
 ·exact e4.kept (e2.setGrown 3 v') (Zj e4 fun r e c f hh=>by
   obtain rfl:G=r:=by simpa using e
   unfold Blk at e2;rw[e2] at hh;injection hh with hh;injection hh with _ hh _;exact absurd hh (by decide))
 have:(w1.setCell ⟨G,3,none⟩ v').ownsRow w.heap.size 40 2 v' (ys.length+1) (ys.flatMap LoadT.cells++[.int .i64 y.pos,.int .i64 y.wt]):=aK.kept (e2.setGrown 3 v') (Zj aK fun r e c f hh=>by
  obtain rfl:G=r:=by simpa using e
  unfold Blk at e2;rw[e2] at hh;injection hh with hh;injection hh with _ hh _;exact absurd hh (by decide))
 rw[yQ,List.flatMap_append];exact this
end
theorem jf (w:World) (g i:Nat) (u:Value):w.grownBy (w.setCell ⟨g,i,none⟩ u) (some g):=⟨rfl,rfl,rfl,by simp[World.setCell],fun k _ hk=>Below.heap_setCell w _ u k (fun e=>hk (by rw[e]))⟩
theorem kL (w:World) (g:Nat) (u0 u1 u2 u3 u4:Value):w.grownBy (((((w.setCell ⟨g,0,none⟩ u0).setCell ⟨g,1,none⟩ u1).setCell ⟨g,2,none⟩ u2).setCell ⟨g,3,none⟩ u3).setCell ⟨g,4,none⟩ u4) (some g) :=
 dy (dy (dy (dy (jf w g 0 u0) (jf _ g 1 u1)) (jf _ g 2 u2)) (jf _ g 3 u3)) (jf _ g 4 u4)
theorem Nl {ops:Array Oper} {o:Oper} {a:Act} {w:World} {K:Act→World→Prop} {Q:Exit→Act→World→Prop} {E:Prop} (sP:o.guard=none) (s x:Operand)
  (ho:o.op=.call { callee:=.builtin .append,args:=#[s,x],argTypes:=#[41,41] }) {B m:Nat} {v:Value} {xs:List Value} (T:w.ownsRow B 40 2 v m xs) (hB:B≤w.heap.size) {y:LoadT} {a1:Nat} (N:Blk w a1 40 #[.int .i64 y.pos,.int .i64 y.wt])
  (hs:a.eval s=v) (hx:a.eval x=.slice (some ⟨a1,0,none⟩) 1 1) (cI:m≤1000)
  (h:∀g cap w',w'.ownsRow B 40 2 (.slice (some ⟨g,0,none⟩) (m+1) cap) (m+1) (xs++[.int .i64 y.pos,.int .i64 y.wt])→w.grownBy w' v.ownBlock→K (a.put o.dst (.slice (some ⟨g,0,none⟩) (m+1) cap)) w') :
  if Region.wanted o (yielded ops a.tmps)=true then Oper.wp Tryz.prog o a w K Q else E:=by
 obtain⟨i0,jB,hH,jb,km⟩:=info_parts mT;refine step_append_lies w sP s x 41 ho B 40 i0 _ 2 16 Tryz.underlying41 jB hH jb km rfl (by decide) v m xs hs T ⟨a1,0,none⟩ 1 1 [.int .i64 y.pos,.int .i64 y.wt] hx rfl
  (fun j u hu=>by rw[Addr.add_lit,yR];exact (N.cell j).trans (by simpa using hu)) (fun u hu=>by simp at hu;rcases hu with rfl|rfl <;> rfl) (by omega) (by unfold maxLen;omega) (by omega) hB _ rfl ?_
 intro g cap w' aK eI _ _;exact h g cap w' aK eI
def Lf (s:SetT) (w:World) (e:Ending) (w':World):Prop:=Below w.heap.size w w'∧∃v,e=.returned v∧BeamAt w' w'.heap.size v (eZ s)
theorem OQ (v:Value) (s:SetT) (w:World) (hv:SetAt w w.heap.size v s) (bL:cD s=true):Calls Tryz.prog 91 #[v] w (Lf s w):=by
  have hk:=Zm bL;have HX:=zh fun x (hx:x∈s.items)=>tu (hk.wts.2 x hx).2;have cI:=hk.len;have h40:=hk.wts.1;have DI:s.lines.length≤1000:=by
    have:=(ja (oW bL)).sup1;exact yH this.2 (by decide)
  clear hk bL;obtain⟨Al,cl,Ai,ci,Ab,cb,rfl,hL,hI,-⟩:=hv;have HL:=zh hL;obtain⟨_,_,e,Py,hi2,U6⟩:=hI.open_;injection e with e1 _ e2;subst e1 e2;have HI:=zh U6;unfold maxLen at hi2;clear hL hI U6;unfold fc at*;go_enter Tryz.func91,Tryz.ntmps91;go_wp2_with (exact zX);have Y9:=(Blk.new w 26 (zA s Al cl Ai ci Ab cb)).alloc (.cells #[.string ⟨#[]⟩,.int .i64 0,.slice none 0 0,.slice none 0 0,.int .i64 0] 43)
  have pR:=Blk.new (w.alloc (.cells (zA s Al cl Ai ci Ab cb) 26)) 43 #[.string ⟨#[]⟩,.int .i64 0,.slice none 0 0,.slice none 0 0,.int .i64 0];rw[yZ] at pR;have sd:=((yB _ w).alloc (yA _) (.cells (zA s Al cl Ai ci Ab cb) 26)).alloc (by simp) (.cells #[.string ⟨#[]⟩,.int .i64 0,.slice none 0 0,.slice none 0 0,.int .i64 0] 43);have jT:((w.alloc (.cells (zA s Al cl Ai ci Ab cb) 26)).alloc (.cells #[.string ⟨#[]⟩,.int .i64 0,.slice none 0 0,.slice none 0 0,.int .i64 0] 43)).heap.size=w.heap.size+1+1:=by simp
  generalize (w.alloc (.cells (zA s Al cl Ai ci Ab cb) 26)).alloc (.cells #[.string ⟨#[]⟩,.int .i64 0,.slice none 0 0,.slice none 0 0,.int .i64 0] 43)=W2 at*;have zy:=zh Y9;have sL:=zh pR;have dZ:=zh sd;have iw:=zh jT;clear Y9 pR sd jT;have y0:=zy.o.cell 0;have y4:=zy.o.cell 4;have y5:=zy.o.cell 5;have y6:=zy.o.cell 6;simp only[aG,aH,aD] at y0 y4 y5 y6;have u0:=YL y0;have u4:=YL y4;have u5:=YL y5;have u6:=YL y6
  clear y0 y4 y5 y6;refine af 11 (fun jx=>if jx=6 then some (gO w.heap.size s.lines) else if jx=10 then some (vwz W2.heap.size) else none) (by kernel_rfl) (by kernel_rfl) ?_;simp only[aM,aP,aN,aO];refine zw 6 ?_;simp only[aM,aP,aN,aO]
  repeat (go_big_quiet_step (fail))
  refine YE ?_;refine ae rfl rfl ?_ ?_
  · intro w1 ak hk
    have hb:=dZ.o.trans (ak.mono dZ.o.size);have hC:=ZI (B:=w.heap.size) (RowAt.mono (RowAt.below HL.o hb (yA _)) hb.size) (by omega) hb.size;exact zc hC
  rintro _ ⟨A2,c2,rfl⟩;simp only[Act.put,aC,aB,aA];refine zw 3 ?_;simp only[aM,aP,aN,aO]
  repeat (go_big_quiet_step (fail))
  refine YE ?_;refine aV rfl rfl (fun w1 ak _=>Ga ak.size (by go_simp)) ?_;rintro _ ⟨G,rfl⟩;simp only[Act.put,aC,aB,aA];refine Zc ?_;intro w8 aJ hF;have vk:w8.ownsRow w.heap.size 3 1 (.slice A2 s.lines.length c2) s.lines.length (s.lines.map (Value.int .i64)):=hF 12;have h3:Lg W2.heap.size (.pointer (some ⟨G,0,none⟩)) w8:=hF 3;obtain⟨_,e3,U8,b3⟩:=h3;injection e3 with e3;injection e3 with e3;injection e3 with e3 _ _
  subst e3;rw[iw.o] at U8;have WK:=zh (zy.o.below aJ zy.o.lt);have WJ:=zh (sL.o.below aJ sL.o.lt);have ep:=zh (dZ.o.trans (aJ.mono dZ.o.size));have f0:=b3.frozen 0;have f1:=b3.frozen 1;have f2:=b3.frozen 2;have f3:=b3.frozen 3;have f4:=b3.frozen 4;have c0:=b3.cell 0;have c1:=b3.cell 1;have cc2:=b3.cell 2;have c3:=b3.cell 3;have c4:=b3.cell 4;simp only[aG,aH,aD] at c0 c1 cc2 c3 c4;have h5:=((((b3.set_ 0 (.string s.name)).set_ 1 (.int .i64 s.len)).set_ 2 (.slice A2 s.lines.length c2)).set_ 3 (.slice none 0 0)).set_ 4 (.int .i64 s.pipe)
  have US:=kL w8 G (.string s.name) (.int .i64 s.len) (.slice A2 s.lines.length c2) (.slice none 0 0) (.int .i64 s.pipe);have hBo:Y0 (BoS w (((((w8.setCell ⟨G,0,none⟩ (.string s.name)).setCell ⟨G,1,none⟩ (.int .i64 s.len)).setCell ⟨G,2,none⟩ (.slice A2 s.lines.length c2)).setCell ⟨G,3,none⟩ (.slice none 0 0)).setCell ⟨G,4,none⟩ (.int .i64 s.pipe)) (zA s Al cl Ai ci Ab cb) s G (.slice A2 s.lines.length c2) (.slice none 0 0) []):=by
    refine⟨WK.o.kept US (by simp; omega),WJ.o.kept US (by simp; omega),h5,vk.kept US (Zj vk fun r e c f hh=>?_),yJ _ _ _ _,ep.o.grown US ep.o.size (fun k e=>by simp at e; omega),by omega⟩;obtain rfl:G=r:=by simpa using e
    have hb:=b3;unfold Blk at hb;rw[hb] at hh;injection hh with hh;injection hh with _ hh _;exact absurd hh (by decide)
  clear vk h5 US b3 U8 ep WK WJ hF aJ u0 u4 u5 u6 zy sL dZ iw;have fS:=hBo.o.d0.cell 11;simp only[aG,aH,aD] at fS;go_wp2_with (exact zX);clear f0 f1 f2 f3 f4 c0 c1 cc2 c3 c4;generalize (((((w8.setCell ⟨G,0,none⟩ (.string s.name)).setCell ⟨G,1,none⟩ (.int .i64 s.len)).setCell ⟨G,2,none⟩ (.slice A2 s.lines.length c2)).setCell ⟨G,3,none⟩ (.slice none 0 0)).setCell ⟨G,4,none⟩ (.int .i64 s.pipe))=W9 at*
  have vf:=fun (x:ItemT) (h:0≤x.pos∧x.pos≤1048576∧1≤x.width∧x.width≤1048576) W=>OL x W h;have vw0:=zh vf;clear vf;go_loopw [19] (fun ix wr=>∃k:Nat,k≤s.items.length∧ix=.int .i64 k∧Y0 (∃v3,BoS w wr (zA s Al cl Ai ci Ab cb) s G (.slice A2 s.lines.length c2) v3 ((s.items.map cU).take k))) (fun ix _=>s.items.length-(intOf ix).toNat)
  case atStart=>exact⟨0,yI _,rfl,⟨_,hBo.o⟩⟩
  clear hBo fS;obtain⟨k,hk,rfl,HTx⟩:=hrel;obtain⟨v3,hT⟩:=HTx.o;have HT:=zh hT;clear hT HTx;have k0:(0:Int)≤(k:Int):=yE _;by_cases ay:k<s.items.length
  · have k1:(k:Int)<(s.items.length:Int):=by omega
    obtain⟨b1,bX,rfl,ak,hc⟩:=HI.o k ay;have ai:=HT.o.bel;have y0:=(ai.cell (p:=⟨b1,bX+k*7,none⟩) ak).trans (hc k ay).1;have y1:=(ai.cell (p:=⟨b1,bX+k*7+1,none⟩) ak).trans (hc k ay).2.1;have y2:=(ai.cell (p:=⟨b1,bX+k*7+2,none⟩) ak).trans (hc k ay).2.2.1;have y3:=(ai.cell (p:=⟨b1,bX+k*7+3,none⟩) ak).trans (hc k ay).2.2.2.1;have y4:=(ai.cell (p:=⟨b1,bX+k*7+4,none⟩) ak).trans (hc k ay).2.2.2.2.1;have y5:=(ai.cell (p:=⟨b1,bX+k*7+5,none⟩) ak).trans (hc k ay).2.2.2.2.2.1
    have y6:=(ai.cell (p:=⟨b1,bX+k*7+6,none⟩) ak).trans (hc k ay).2.2.2.2.2.2;have hx:=HX.o _ (yV ay);have HY:Y0 ((s.items.map cU).take (k+1)=(s.items.map cU).take k++[cU s.items[k]]):=by
      unfold Y0;rw[aY _ k (by simpa using ay)];simp
    have GV:((s.items.map cU).take k).length≤1000:=by
      rw[YA,yP];omega
    have BU:Y0 (((s.items.map cU).take k).length=k):=by
      unfold Y0;rw[YA,yP];omega
    have vf:=vw0.o s.items[k] (by omega);clear hc ai hx;generalize s.items[k]=x at*;obtain⟨nm,pos,width,wt,hang,front,back⟩:=x;simp only at y0 y1 y2 y3 y4 y5 y6 vf;have GY:cU ⟨nm,pos,width,wt,hang,front,back⟩=⟨C3 ⟨nm,pos,width,wt,hang,front,back⟩,wt⟩:=rfl;rw[GY] at HY;clear GY;generalize C3 ⟨nm,pos,width,wt,hang,front,back⟩=mid at*;go_wp2_with (exact zX);have YX:=Blk.new wr 52 #[.string nm,.int .i64 pos,.int .i64 width,.int .i64 wt,.int .i64 hang,.int .i64 front,.int .i64 back]
    have hT5:=HT.o.below ((yB _ wr).alloc (yA _) (.cells #[.string nm,.int .i64 pos,.int .i64 width,.int .i64 wt,.int .i64 hang,.int .i64 front,.int .i64 back] 52));clear HT y0 y1 y2 y3 y4 y5 y6;generalize wr.alloc (.cells #[.string nm,.int .i64 pos,.int .i64 width,.int .i64 wt,.int .i64 hang,.int .i64 front,.int .i64 back] 52)=w5 at*;generalize wr.heap.size=D5 at*;have HT:=zh hT5;have i0:=YX.cell 0
    have i1:=YX.cell 1;have i2:=YX.cell 2;have i3:=YX.cell 3;have i4:=YX.cell 4;have i5:=YX.cell 5;have i6:=YX.cell 6;have j3:=fun o=>(YX.alloc o).cell 3;have e3:=HT.o.d2.cell 3;have e3':=fun o=>(HT.o.d2.alloc o).cell 3;have vxI:=fun o o'=>((HT.o.d2.alloc o).alloc o').cell 3;simp only[aG,aH,aD] at i0 i1 i2 i3 i4 i5 i6 j3 e3 e3' vxI;have bM:Below w5.heap.size w5 (((w5.alloc (.cells #[.string nm,.int .i64 pos,.int .i64 width,.int .i64 wt,.int .i64 hang,.int .i64 front,.int .i64 back] 52)).alloc (.cells #[.int .i64 mid,.int .i64 wt] 40)).drew):=(((yB _ w5).alloc (yA _) _).alloc (by simp) _).drew
    have hT6:=HT.o.below bM;have hN:Blk (((w5.alloc (.cells #[.string nm,.int .i64 pos,.int .i64 width,.int .i64 wt,.int .i64 hang,.int .i64 front,.int .i64 back] 52)).alloc (.cells #[.int .i64 mid,.int .i64 wt] 40)).drew) (w5.heap.size+1) 40 #[.int .i64 mid,.int .i64 wt]:=by
      have h:=Blk.new (w5.alloc (.cells #[.string nm,.int .i64 pos,.int .i64 width,.int .i64 wt,.int .i64 hang,.int .i64 front,.int .i64 back] 52)) 40 #[.int .i64 mid,.int .i64 wt];rw[yZ] at h;exact h
    have PG:Y0 _:=And.intro hT6.o3 (And.intro hT6.bel.size hN);have qjF:Y0 _:=fun wz v' (aK:_) (hg:_)=>hT6.push (v':=v') (w1:=wz) (y:=⟨mid,wt⟩) aK hg;have aS:Y0 _:=fun wz v' (aK:_) (hg:_)=>(hT6.push (v':=v') (w1:=wz) (y:=⟨mid,wt⟩) aK hg).1;clear hT5 hT6 YX hN bM;go_region_law (first
      | (go_simp; go_at_call 133; refine (vf _).mono ?_; rintro e wz ⟨rfl,rfl⟩)
      | (refine Nl (y:=⟨mid,wt⟩) rfl (.tmp 24) (.tmp 30) rfl PG.o.1 PG.o.2.1 PG.o.2.2 (by go_simp) (by go_simp) GV ?_; intro g3 jn wz Oe vh; have Pd:=zh (qjF.o wz _ Oe vh); have fz:=Pd.o.1.frozen 3; have cz:=Pd.o.1.cell 3; simp only[aG,aH,aD] at cz; clear Oe vh))
    all_goals
      clear i0 i1 i2 i3 i4 i5 i6 j3 e3 e3' vxI fz cz qjF PG aS;go_simp;go_wp2_with fail;go_roundw
      case rel=>exact⟨k+1,by omega,by go_num,⟨_,by have h:=Pd.o.2; rw[BU.o] at h; rw[HY.o]; exact h⟩⟩
      simp[intOf]; omega
  obtain rfl:k=s.items.length:=by omega
  have hT:=HT.o;rw[List.take_of_length_le (by simp)] at hT;obtain⟨A3,c3,rfl⟩:=lO hT.o3;have y0:=hT.d2.cell 0;have y1:=hT.d2.cell 1;have y2:=hT.d2.cell 2;have y3:=hT.d2.cell 3;have y4:=hT.d2.cell 4;have z0:=hT.d1.cell 0;have z1:=hT.d1.cell 1;have z2:=hT.d1.cell 2;have z3:=hT.d1.cell 3;have z4:=hT.d1.cell 4;have f0:=hT.d1.frozen 0;have f1:=hT.d1.frozen 1;have f2:=hT.d1.frozen 2;have f3:=hT.d1.frozen 3
  have f4:=hT.d1.frozen 4;simp only[aG,aH,aD] at y0 y1 y2 y3 y4 z0 z1 z2 z3 z4;have HT:=zh hT;clear hT;have YY:Blk (((((wr.setCell ⟨w.heap.size+1,0,none⟩ (.string s.name)).setCell ⟨w.heap.size+1,1,none⟩ (.int .i64 s.len)).setCell ⟨w.heap.size+1,2,none⟩ (.slice A2 s.lines.length c2)).setCell ⟨w.heap.size+1,3,none⟩ (.slice A3 (s.items.map cU).length c3)).setCell ⟨w.heap.size+1,4,none⟩ (.int .i64 s.pipe)) (w.heap.size+1) 43 #[.string s.name,.int .i64 s.len,.slice A2 s.lines.length c2,.slice A3 (s.items.map cU).length c3,.int .i64 s.pipe]:=((((HT.o.d1.set_ 0 (.string s.name)).set_ 1 (.int .i64 s.len)).set_ 2 (.slice A2 s.lines.length c2)).set_ 3 (.slice A3 (s.items.map cU).length c3)).set_ 4 (.int .i64 s.pipe)
  have Mt:=kL wr (w.heap.size+1) (.string s.name) (.int .i64 s.len) (.slice A2 s.lines.length c2) (.slice A3 (s.items.map cU).length c3) (.int .i64 s.pipe);have hB9 := HT.o.bel.grown Mt HT.o.bel.size (fun k e=>by
   obtain rfl:w.heap.size + 1=k := by simpa using e
   omega)
  have C8:=HT.o.o2.kept Mt (Zj HT.o.o2 fun r e c f hh=>by
    obtain rfl:w.heap.size+1=r:=by simpa using e
    have h:=HT.o.d1;unfold Blk at h;rw[h] at hh;injection hh with hh;injection hh with _ hh _;exact absurd hh (by decide))
  have ho3:=HT.o.o3.kept Mt (Zj HT.o.o3 fun r e c f hh=>by
    obtain rfl:w.heap.size+1=r:=by simpa using e
    have h:=HT.o.d1;unfold Blk at h;rw[h] at hh;injection hh with hh;injection hh with _ hh _;exact absurd hh (by decide))
  have HO2:=zh C8;have HO3:=zh ho3;have nG:=zh hB9;have zR:=zh YY;clear C8 ho3 hB9 YY Mt;have p0:=zR.o.cell 0;have p1:=zR.o.cell 1;have p2:=zR.o.cell 2;have p3:=zR.o.cell 3;have p4:=zR.o.cell 4;simp only[aG,aH,aD] at p0 p1 p2 p3 p4;rw[yP] at*;go_wp2_with fail;refine YF (v:=.agg #[.string s.name,.int .i64 s.len,.slice A2 s.lines.length c2,.slice A3 s.items.length c3,.int .i64 s.pipe]) (by simp[results,Tryz.results91,go_sem,p0,p1,p2,p3,p4]) rfl ?_
  exact⟨nG.o,_,rfl,A2,c2,A3,c3,by simp[eZ],RowAt.of_own HO2.o,by
    have h:=Flat.of_own HO3.o;unfold LoadsAt;simpa[eZ] using h⟩
