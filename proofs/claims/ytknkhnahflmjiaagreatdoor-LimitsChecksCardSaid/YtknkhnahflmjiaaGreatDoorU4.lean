/- Lemmas. -/
import Derived.Deep.RegionLaw
import Derived.Test.YtknkhnahflmjiaaGreatDoorT7
import Derived.Test.YtknkhnahflmjiaaGreatDoorU3
namespace Go.Proofs.YtknkhnahflmjiaaGreatDoor
set_option maxRecDepth 100000
set_option maxHeartbeats 40000000
def zY (x:ItemT):Int:=x.pos+x.width/2
def df (x:ItemT):LoadT:=⟨zY x,x.wt⟩
def fi (s:SetT):BeamT:=⟨s.name,s.len,s.lines,s.items.map df,s.pipe⟩
theorem GJ {l:List Int} (h:iK l l.length=true):∀d i,i + d < l.length→js l i ≤ js l (i + d)
 | 0,i,_=>Int.le_refl _
 | d+1,i,hi=>by
  have h1:=GJ h d i (by omega);unfold iK at h;rw[yP] at h;have h2:=h (i+d+1) (by omega) (by omega);rw[show i+d+1-1=i+d by omega] at h2;rw[show i+(d+1)=i+d+1 by omega];omega
theorem si {x:ItemT} {len:Int} (h:d9 x len=true):0≤x.pos∧1≤x.width∧x.width≤1048576∧x.pos≤len-x.width:=by
 unfold d9 at h;simp only[Bool.and_eq_true,decide_eq_true_eq] at h;have h1:=Zh h.2.1;exact⟨h.1,h1.1,h1.2,h.2.2⟩
theorem nZ {s:SetT} (h:cA s=true):dq (fi s)=true:=by
 have hn:dW s.name=true:=by
  unfold cA at h;simp only[Bool.and_eq_true] at h;exact h.1
 have hk:=Zm h;have hl:=hk.lines;unfold fH at hl;simp only[Bool.and_eq_true,Bool.not_eq_true',decide_eq_false_iff_not] at hl;obtain⟨l1,l2,l3,l4⟩:=hl;have hb:=Zh l1;have h40:=hk.wts.1;have dD:=hk.len;have vqB:=hk.pipe;have UG:∀i,i<s.lines.length→0≤js s.lines i∧js s.lines i≤s.len:=fun i hi=>by
  have e1:=GJ l4 i 0 (by omega);have e2:=GJ l4 (s.lines.length-1-i) i (by omega);rw[yS] at e1;rw[show i+(s.lines.length-1-i)=s.lines.length-1 by omega] at e2;omega
 unfold dq de cU;simp only[Bool.and_eq_true,Bool.not_eq_true',decide_eq_false_iff_not,decide_eq_true_eq,List.all_eq_true];refine⟨⟨⟨⟨⟨⟨⟨⟨⟨hn,?_⟩,?_⟩,?_⟩,?_⟩,?_⟩,?_⟩,?_⟩,fun i hi=>?_⟩,fun x hx=>?_⟩
 ·show ¬s.len<1;omega
 ·show ¬1048576<s.len;omega
 ·show ¬s.pipe<0;omega
 ·show ¬1048576<s.pipe;omega
 ·show ¬(s.lines.length:Int)<1;omega
 ·show ¬10<(s.lines.length:Int);omega
 ·show ¬40<((s.items.map df).length:Int);rw[yQ];omega
 ·have hi':i<s.lines.length:=hi;have e1:=UG i hi';unfold eQ;have e0:∀j,ai (fi s) j=js s.lines j:=fun j=>rfl;rw[e0,e0];simp only[Bool.and_eq_true,Bool.or_eq_true,Bool.not_eq_true',decide_eq_false_iff_not,decide_eq_true_eq];refine⟨⟨by omega,show ¬s.len<_ by omega⟩,?_⟩;rcases Nat.eq_zero_or_pos i with h0|h0
  ·exact .inl h0
  refine .inr ?_;unfold iK at l4;rw[yP] at l4
  have:=l4 i hi' h0;omega
 have hx':x∈s.items.map df:=hx;rw[List.mem_map] at hx';obtain⟨y,hy,rfl⟩:=hx';obtain⟨h1,h2⟩:=hk.wts.2 y hy;have h3:=si h2;have h4:0≤y.wt∧y.wt≤1048576:=by
  unfold fW at h1;simp only[Bool.and_eq_true] at h1;exact Zh h1.2.1
 unfold cL;simp only[Bool.and_eq_true,Bool.not_eq_true',decide_eq_false_iff_not];show ((¬y.pos+y.width/2<0∧¬s.len<y.pos+y.width/2)∧¬y.wt<0)∧¬67108864<y.wt;omega
open Go.RowKit Go.Shelf
theorem LG (x:ItemT) (w:World) (hx:0≤x.pos∧x.pos≤1048576∧1≤x.width∧x.width≤1048576) :
  Calls Tryz.prog 147 #[x.val] w fun e w'=>e=.returned (.int .i64 (zY x))∧w.alloc (.cells #[.string x.name,.int .i64 x.pos,.int .i64 x.width,.int .i64 x.wt,.int .i64 x.hang,.int .i64 x.front,.int .i64 x.back] 125)=w':=by
 have HV:Y0 (zY x=x.pos+x.width/2):=rfl;obtain⟨h1,h2,h3,h4⟩:=hx;have v1:IntKind.i64.wrap (x.width/2)=x.width/2:=yF _ (by omega);have v2:IntKind.i64.wrap (x.pos+x.width/2)=x.pos+x.width/2:=yF _ (by omega);have v3:x.width.tdiv 2=x.width/2:=Int.tdiv_eq_ediv_of_nonneg (by omega);clear h1 h2 h3 h4;go_enter Tryz.func147,Tryz.ntmps147;go_wp2;go_ret;exact⟨by rw[HV.o];rfl,rfl⟩
theorem bR {w w':World} {B e s n:Nat} {v:Value} {xs:List Value} (h:w.ownsRow B e s v n xs) (hb:Below w.heap.size w w'):w'.ownsRow B e s v n xs :=
 h.kept (kH (row:=none) hb) (by
  by_cases e:v.ownBlock=none
  ·exact .inl e
  exact .inr e)
def gO (B:Nat) (l:List Int):GPost:=⟨fun v=>∃A c,v=.slice A l.length c,fun v w=>w.ownsRow B 3 1 v l.length (l.map (Value.int .i64)),⟨_,none,0,rfl⟩,fun _ _ _ hb h=>bR h hb,false⟩
theorem lx {w:World} {B e s n:Nat} {v:Value} {L:List Value} (h:w.ownsRow B e s v n L):∃A c,v=.slice A n c:=by
 rcases h.2 with⟨rfl,rfl⟩|⟨g,cap,cur,rfl,_⟩
 ·exact⟨none,0,rfl⟩
 exact⟨_,cap,rfl⟩
theorem Vy {v:Value} {l:List Int} {w:World} {B:Nat} (hl:ct w w.heap.size v l) (dD:l.length≤1000000) (hB:B≤w.heap.size) :
  Calls Tryz.prog 146 #[v] w fun e w'=>∃u,e=.returned u∧Below w.heap.size w w'∧(gO B l).σ u∧(gO B l).φ u w' :=
 (Sr v l w hl dD).mono fun _ _ ⟨u,he,hO,hb⟩=>⟨u,he,hb,(by obtain⟨A,c,h⟩:=lx hO;exact⟨A,c,h⟩),C6 hO hB⟩
def I7 (B:Nat) (v:Value) (w:World):Prop:=∃g,v=.pointer (some ⟨g,0,none⟩)∧B≤g∧Blk w g 117 #[.string ⟨#[]⟩,.int .i64 0,.slice none 0 0,.slice none 0 0,.int .i64 0]
def qjT (B:Nat):GPost:=⟨fun v=>∃g,v=.pointer (some ⟨g,0,none⟩),I7 B,⟨_,0,rfl⟩,fun _ _ _ hb h=>by
 obtain⟨g,h1,h2,h3⟩:=h;exact⟨g,h1,h2,h3.below hb h3.lt⟩,false⟩
theorem Dk {P:Program} {o:Oper} {a:Act} {w:World} {B:Nat} (hB:B≤w.heap.size) (h:(execOp a.eval o).run P w=.ok (.value (.pointer (some ⟨w.heap.size,0,none⟩))) (w.alloc (.cells #[.string ⟨#[]⟩,.int .i64 0,.slice none 0 0,.slice none 0 0,.int .i64 0] 117))):jv P o a (qjT B) w :=
 ⟨_,_,h,(yB _ _).alloc (yA _) _,⟨_,rfl⟩,⟨_,rfl,hB,Blk.new _ _ _⟩,fun h=>by cases h⟩
structure BoS (w W:World) (bx:Array Value) (s:SetT) (G:Nat) (v2 v3:Value) (ys:List LoadT):Prop where
 d0:Blk W w.heap.size 37 bx
 d1:Blk W (w.heap.size+1) 117 #[.string ⟨#[]⟩,.int .i64 0,.slice none 0 0,.slice none 0 0,.int .i64 0]
 d2:Blk W G 117 #[.string s.name,.int .i64 s.len,v2,v3,.int .i64 s.pipe]
 o2:W.ownsRow w.heap.size 3 1 v2 s.lines.length (s.lines.map (Value.int .i64))
 o3:W.ownsRow w.heap.size 115 2 v3 ys.length (ys.flatMap LoadT.cells)
 bel:Below w.heap.size w W
 far:w.heap.size+1<G
section
variable {w W W':World} {bx:Array Value} {s:SetT} {G:Nat} {v2 v3:Value} {ys:List LoadT}
theorem BoS.below (h:BoS w W bx s G v2 v3 ys) (hb:Below W.heap.size W W'):BoS w W' bx s G v2 v3 ys :=
 ⟨h.d0.below hb h.d0.lt,h.d1.below hb h.d1.lt,h.d2.below hb h.d2.lt,bR h.o2 hb,bR h.o3 hb,h.bel.trans (hb.mono h.bel.size),h.far⟩
theorem BoS.push (h:BoS w W bx s G v2 v3 ys) {v':Value} {w1:World} {y:LoadT} (bO:w1.ownsRow w.heap.size 115 2 v' (ys.length+1) (ys.flatMap LoadT.cells++[.int .i64 y.pos,.int .i64 y.wt])) (hg:W.grownBy w1 v3.ownBlock) :
  Blk w1 G 117 #[.string s.name,.int .i64 s.len,v2,v3,.int .i64 s.pipe]∧BoS w (w1.setCell ⟨G,3,none⟩ v') bx s G v2 v' (ys++[y]):=by
 have hr:=fun r (e:v3.ownBlock=some r)=>rW h.o3 e;have k:=fun {g:Nat} {t:TypeId} {c:Array Value} (hb:Blk W g t c) (ht:t≠115)=>hb.kept hg (fun e=>by
  obtain⟨c',hc⟩:=hr g e.symm;unfold Blk at hb;rw[hb] at hc;injection hc with hc;injection hc with _ hc _;exact ht hc)
 have e0:=k h.d0 (by decide);have e1:=k h.d1 (by decide);have e2:=k h.d2 (by decide);have e4:w1.ownsRow w.heap.size 3 1 v2 s.lines.length (s.lines.map (Value.int .i64)):=h.o2.kept hg (Zj h.o2 fun r e c f hh=>by
  obtain⟨c',hc⟩:=hr r e;rw[hh] at hc;injection hc with hc;injection hc with _ hc _;exact absurd hc (by decide))
 have hf:=h.far;have ak:Below w.heap.size w w1:=h.bel.grown hg h.bel.size (fun k e=>(h.o3.lt k e).1);refine⟨e2,e0.far (by show w.heap.size≠G;omega) _,e1.far (by show w.heap.size+1≠G;omega) _,e2.set_ 3 v',?_,?_,ak.setCell (by show w.heap.size≤G;omega) _,hf⟩
 ·exact e4.kept (e2.setGrown 3 v') (Zj e4 fun r e c f hh=>by
   obtain rfl:G=r:=by simpa using e
   unfold Blk at e2;rw[e2] at hh;injection hh with hh;injection hh with _ hh _;exact absurd hh (by decide))
 have:(w1.setCell ⟨G,3,none⟩ v').ownsRow w.heap.size 115 2 v' (ys.length+1) (ys.flatMap LoadT.cells++[.int .i64 y.pos,.int .i64 y.wt]):=bO.kept (e2.setGrown 3 v') (Zj bO fun r e c f hh=>by
  obtain rfl:G=r:=by simpa using e
  unfold Blk at e2;rw[e2] at hh;injection hh with hh;injection hh with _ hh _;exact absurd hh (by decide))
 rw[yR,List.flatMap_append];exact this
end
theorem ji (w:World) (g i:Nat) (u:Value):w.grownBy (w.setCell ⟨g,i,none⟩ u) (some g):=⟨rfl,rfl,rfl,by simp[World.setCell],fun k _ hk=>Below.heap_setCell w _ u k (fun e=>hk (by rw[e]))⟩
theorem kp (w:World) (g:Nat) (u0 u1 u2 u3 u4:Value):w.grownBy (((((w.setCell ⟨g,0,none⟩ u0).setCell ⟨g,1,none⟩ u1).setCell ⟨g,2,none⟩ u2).setCell ⟨g,3,none⟩ u3).setCell ⟨g,4,none⟩ u4) (some g) :=
 dX (dX (dX (dX (ji w g 0 u0) (ji _ g 1 u1)) (ji _ g 2 u2)) (ji _ g 3 u3)) (ji _ g 4 u4)
theorem Ks {ops:Array Oper} {o:Oper} {a:Act} {w:World} {K:Act→World→Prop} {Q:Exit→Act→World→Prop} {E:Prop} (oQ:o.guard=none) (s x:Operand)
  (ho:o.op=.call { callee:=.builtin .append,args:=#[s,x],argTypes:=#[66,66] }) {B m:Nat} {v:Value} {xs:List Value} (T:w.ownsRow B 115 2 v m xs) (hB:B≤w.heap.size) {y:LoadT} {a1:Nat} (N:Blk w a1 115 #[.int .i64 y.pos,.int .i64 y.wt])
  (hs:a.eval s=v) (hx:a.eval x=.slice (some ⟨a1,0,none⟩) 1 1) (dD:m≤1000)
  (h:∀g cap w',w'.ownsRow B 115 2 (.slice (some ⟨g,0,none⟩) (m+1) cap) (m+1) (xs++[.int .i64 y.pos,.int .i64 y.wt])→w.grownBy w' v.ownBlock→K (a.put o.dst (.slice (some ⟨g,0,none⟩) (m+1) cap)) w') :
  if Region.wanted o (yielded ops a.tmps)=true then Oper.wp Tryz.prog o a w K Q else E:=by
 obtain⟨i0,m9,kg,lP,mX⟩:=info_parts mw;refine step_append_lies w oQ s x 66 ho B 115 i0 _ 2 16 Tryz.underlying66 m9 kg lP mX rfl (by decide) v m xs hs T ⟨a1,0,none⟩ 1 1 [.int .i64 y.pos,.int .i64 y.wt] hx rfl
  (fun j u hu=>by rw[Addr.add_lit,yS];exact (N.cell j).trans (by simpa using hu)) (fun u hu=>by simp at hu;rcases hu with rfl|rfl <;> rfl) (by omega) (by unfold maxLen;omega) (by omega) hB _ rfl ?_
 intro g cap w' bO eO _ _;exact h g cap w' bO eO
def I6 (s:SetT) (w:World) (e:Ending) (w':World):Prop:=Below w.heap.size w w'∧∃v,e=.returned v∧BeamAt w' w'.heap.size v (fi s)
theorem LJ (v:Value) (s:SetT) (w:World) (hv:SetAt w w.heap.size v s) (bM:cA s=true):Calls Tryz.prog 106 #[v] w (I6 s w):=by
  have hk:=Zm bM;have HX:=zh fun x (hx:x∈s.items)=>si (hk.wts.2 x hx).2;have dD:=hk.len;have h40:=hk.wts.1;have Bg:s.lines.length≤1000:=by
    have:=(j9 (nZ bM)).sup1;exact yH this.2 (by decide)
  clear hk bM;obtain⟨Al,cl,Ai,ci,Ab,cb,rfl,hL,hI,-⟩:=hv;have HL:=zh hL;obtain⟨_,_,e,Ms,X3,Rh⟩:=hI.open_;injection e with e1 _ e2;subst e1 e2;have HI:=zh Rh;unfold maxLen at X3;clear hL hI Rh;unfold dO at*;go_enter Tryz.func106,Tryz.ntmps106;go_wp2_with (exact zX);have X6:=(Blk.new w 37 (zA s Al cl Ai ci Ab cb)).alloc (.cells #[.string ⟨#[]⟩,.int .i64 0,.slice none 0 0,.slice none 0 0,.int .i64 0] 117)
  have qo:=Blk.new (w.alloc (.cells (zA s Al cl Ai ci Ab cb) 37)) 117 #[.string ⟨#[]⟩,.int .i64 0,.slice none 0 0,.slice none 0 0,.int .i64 0];rw[yZ] at qo;have wT:=((yB _ w).alloc (yA _) (.cells (zA s Al cl Ai ci Ab cb) 37)).alloc (by simp) (.cells #[.string ⟨#[]⟩,.int .i64 0,.slice none 0 0,.slice none 0 0,.int .i64 0] 117);have lQ:((w.alloc (.cells (zA s Al cl Ai ci Ab cb) 37)).alloc (.cells #[.string ⟨#[]⟩,.int .i64 0,.slice none 0 0,.slice none 0 0,.int .i64 0] 117)).heap.size=w.heap.size+1+1:=by simp
  generalize (w.alloc (.cells (zA s Al cl Ai ci Ab cb) 37)).alloc (.cells #[.string ⟨#[]⟩,.int .i64 0,.slice none 0 0,.slice none 0 0,.int .i64 0] 117)=W2 at*;have tz:=zh X6;have rE:=zh qo;have dV:=zh wT;have gQ:=zh lQ;clear X6 qo wT lQ;have y0:=tz.o.cell 0;have y4:=tz.o.cell 4;have y5:=tz.o.cell 5;have y6:=tz.o.cell 6;simp only[aB,aD,aA] at y0 y4 y5 y6;have u0:=YL y0;have u4:=YL y4;have u5:=YL y5
  have u6:=YL y6;clear y0 y4 y5 y6;refine af 11 (fun jx=>if jx=6 then some (gO w.heap.size s.lines) else if jx=10 then some (qjT W2.heap.size) else none) (by kernel_rfl) (by kernel_rfl) ?_;simp only[aO,aR,aP,aQ];refine zw 6 ?_;simp only[aO,aR,aP,aQ]
  repeat (go_big_quiet_step (fail))
  refine YE ?_;refine ae rfl rfl ?_ ?_
  · intro w1 ak hk
    have hb:=dV.o.trans (ak.mono dV.o.size);have hC:=Vy (B:=w.heap.size) (RowAt.mono (RowAt.below HL.o hb (yA _)) hb.size) (by omega) hb.size;exact zc hC
  rintro _ ⟨A2,c2,rfl⟩;simp only[Act.put,aw,av,au];refine zw 3 ?_;simp only[aO,aR,aP,aQ]
  repeat (go_big_quiet_step (fail))
  refine YE ?_;refine aX rfl rfl (fun w1 ak _=>Dk ak.size (by go_simp)) ?_;rintro _ ⟨G,rfl⟩;simp only[Act.put,aw,av,au];refine Zc ?_;intro w8 aT hF;have tK:w8.ownsRow w.heap.size 3 1 (.slice A2 s.lines.length c2) s.lines.length (s.lines.map (Value.int .i64)):=hF 12;have h3:I7 W2.heap.size (.pointer (some ⟨G,0,none⟩)) w8:=hF 3;obtain⟨_,e3,Rk,b3⟩:=h3;injection e3 with e3;injection e3 with e3;injection e3 with e3 _ _
  subst e3;rw[gQ.o] at Rk;have Tl:=zh (tz.o.below aT tz.o.lt);have Tk:=zh (rE.o.below aT rE.o.lt);have eG:=zh (dV.o.trans (aT.mono dV.o.size));have f0:=b3.frozen 0;have f1:=b3.frozen 1;have f2:=b3.frozen 2;have f3:=b3.frozen 3;have f4:=b3.frozen 4;have c0:=b3.cell 0;have c1:=b3.cell 1;have cc2:=b3.cell 2;have c3:=b3.cell 3;have c4:=b3.cell 4;simp only[aB,aD,aA] at c0 c1 cc2 c3 c4;have h5:=((((b3.set_ 0 (.string s.name)).set_ 1 (.int .i64 s.len)).set_ 2 (.slice A2 s.lines.length c2)).set_ 3 (.slice none 0 0)).set_ 4 (.int .i64 s.pipe)
  have R3:=kp w8 G (.string s.name) (.int .i64 s.len) (.slice A2 s.lines.length c2) (.slice none 0 0) (.int .i64 s.pipe);have hBo:Y0 (BoS w (((((w8.setCell ⟨G,0,none⟩ (.string s.name)).setCell ⟨G,1,none⟩ (.int .i64 s.len)).setCell ⟨G,2,none⟩ (.slice A2 s.lines.length c2)).setCell ⟨G,3,none⟩ (.slice none 0 0)).setCell ⟨G,4,none⟩ (.int .i64 s.pipe)) (zA s Al cl Ai ci Ab cb) s G (.slice A2 s.lines.length c2) (.slice none 0 0) []):=by
    refine⟨Tl.o.kept R3 (by simp; omega),Tk.o.kept R3 (by simp; omega),h5,tK.kept R3 (Zj tK fun r e c f hh=>?_),yJ _ _ _ _,eG.o.grown R3 eG.o.size (fun k e=>by simp at e; omega),by omega⟩;obtain rfl:G=r:=by simpa using e
    have hb:=b3;unfold Blk at hb;rw[hb] at hh;injection hh with hh;injection hh with _ hh _;exact absurd hh (by decide)
  clear tK h5 R3 b3 Rk eG Tl Tk hF aT u0 u4 u5 u6 tz rE dV gQ;have dN:=hBo.o.d0.cell 11;simp only[aB,aD,aA] at dN;go_wp2_with (exact zX);clear f0 f1 f2 f3 f4 c0 c1 cc2 c3 c4;generalize (((((w8.setCell ⟨G,0,none⟩ (.string s.name)).setCell ⟨G,1,none⟩ (.int .i64 s.len)).setCell ⟨G,2,none⟩ (.slice A2 s.lines.length c2)).setCell ⟨G,3,none⟩ (.slice none 0 0)).setCell ⟨G,4,none⟩ (.int .i64 s.pipe))=W9 at*
  have tF:=fun (x:ItemT) (h:0≤x.pos∧x.pos≤1048576∧1≤x.width∧x.width≤1048576) W=>LG x W h;have qkj:=zh tF;clear tF;go_loopw [19] (fun ix wr=>∃k:Nat,k≤s.items.length∧ix=.int .i64 k∧Y0 (∃v3,BoS w wr (zA s Al cl Ai ci Ab cb) s G (.slice A2 s.lines.length c2) v3 ((s.items.map df).take k))) (fun ix _=>s.items.length-(intOf ix).toNat)
  case atStart=>exact⟨0,yI _,rfl,⟨_,hBo.o⟩⟩
  clear hBo dN;obtain⟨k,hk,rfl,XO⟩:=hrel;obtain⟨v3,hT⟩:=XO.o;have HT:=zh hT;clear hT XO;have k0:(0:Int)≤(k:Int):=yE _;by_cases aK:k<s.items.length
  · have k1:(k:Int)<(s.items.length:Int):=by omega
    obtain⟨b1,cQ,rfl,ak,hc⟩:=HI.o k aK;have aG:=HT.o.bel;have y0:=(aG.cell (p:=⟨b1,cQ+k*7,none⟩) ak).trans (hc k aK).1;have y1:=(aG.cell (p:=⟨b1,cQ+k*7+1,none⟩) ak).trans (hc k aK).2.1;have y2:=(aG.cell (p:=⟨b1,cQ+k*7+2,none⟩) ak).trans (hc k aK).2.2.1;have y3:=(aG.cell (p:=⟨b1,cQ+k*7+3,none⟩) ak).trans (hc k aK).2.2.2.1;have y4:=(aG.cell (p:=⟨b1,cQ+k*7+4,none⟩) ak).trans (hc k aK).2.2.2.2.1;have y5:=(aG.cell (p:=⟨b1,cQ+k*7+5,none⟩) ak).trans (hc k aK).2.2.2.2.2.1
    have y6:=(aG.cell (p:=⟨b1,cQ+k*7+6,none⟩) ak).trans (hc k aK).2.2.2.2.2.2;have hx:=HX.o _ (yV aK);have HY:Y0 ((s.items.map df).take (k+1)=(s.items.map df).take k++[df s.items[k]]):=by
      unfold Y0;rw[bF _ k (by simpa using aK)];simp
    have QQ:((s.items.map df).take k).length≤1000:=by
      rw[YA,yQ];omega
    have pu:Y0 (((s.items.map df).take k).length=k):=by
      unfold Y0;rw[YA,yQ];omega
    have tF:=qkj.o s.items[k] (by omega);clear hc aG hx;generalize s.items[k]=x at*;obtain⟨nm,pos,width,wt,hang,front,back⟩:=x;simp only at y0 y1 y2 y3 y4 y5 y6 tF;have T5:df ⟨nm,pos,width,wt,hang,front,back⟩=⟨zY ⟨nm,pos,width,wt,hang,front,back⟩,wt⟩:=rfl;rw[T5] at HY;clear T5;generalize zY ⟨nm,pos,width,wt,hang,front,back⟩=mid at*;go_wp2_with (exact zX);have UX:=Blk.new wr 125 #[.string nm,.int .i64 pos,.int .i64 width,.int .i64 wt,.int .i64 hang,.int .i64 front,.int .i64 back]
    have hT5:=HT.o.below ((yB _ wr).alloc (yA _) (.cells #[.string nm,.int .i64 pos,.int .i64 width,.int .i64 wt,.int .i64 hang,.int .i64 front,.int .i64 back] 125));clear HT y0 y1 y2 y3 y4 y5 y6;generalize wr.alloc (.cells #[.string nm,.int .i64 pos,.int .i64 width,.int .i64 wt,.int .i64 hang,.int .i64 front,.int .i64 back] 125)=w5 at*;generalize wr.heap.size=D5 at*;have HT:=zh hT5;have i0:=UX.cell 0
    have i1:=UX.cell 1;have i2:=UX.cell 2;have i3:=UX.cell 3;have i4:=UX.cell 4;have i5:=UX.cell 5;have i6:=UX.cell 6;have j3:=fun o=>(UX.alloc o).cell 3;have e3:=HT.o.d2.cell 3;have e3':=fun o=>(HT.o.d2.alloc o).cell 3;have qkV:=fun o o'=>((HT.o.d2.alloc o).alloc o').cell 3;simp only[aB,aD,aA] at i0 i1 i2 i3 i4 i5 i6 j3 e3 e3' qkV;have bZ:Below w5.heap.size w5 (((w5.alloc (.cells #[.string nm,.int .i64 pos,.int .i64 width,.int .i64 wt,.int .i64 hang,.int .i64 front,.int .i64 back] 125)).alloc (.cells #[.int .i64 mid,.int .i64 wt] 115)).drew):=(((yB _ w5).alloc (yA _) _).alloc (by simp) _).drew
    have hT6:=HT.o.below bZ;have hN:Blk (((w5.alloc (.cells #[.string nm,.int .i64 pos,.int .i64 width,.int .i64 wt,.int .i64 hang,.int .i64 front,.int .i64 back] 125)).alloc (.cells #[.int .i64 mid,.int .i64 wt] 115)).drew) (w5.heap.size+1) 115 #[.int .i64 mid,.int .i64 wt]:=by
      have h:=Blk.new (w5.alloc (.cells #[.string nm,.int .i64 pos,.int .i64 width,.int .i64 wt,.int .i64 hang,.int .i64 front,.int .i64 back] 125)) 115 #[.int .i64 mid,.int .i64 wt];rw[yZ] at h;exact h
    have M4:Y0 _:=And.intro hT6.o3 (And.intro hT6.bel.size hN);have XT:Y0 _:=fun wz v' (bO:_) (hg:_)=>hT6.push (v':=v') (w1:=wz) (y:=⟨mid,wt⟩) bO hg;have aW:Y0 _:=fun wz v' (bO:_) (hg:_)=>(hT6.push (v':=v') (w1:=wz) (y:=⟨mid,wt⟩) bO hg).1;clear hT5 hT6 UX hN bZ;go_region_law (first
      | (go_simp; go_at_call 147; refine (tF _).mono ?_; rintro e wz ⟨rfl,rfl⟩)
      | (refine Ks (y:=⟨mid,wt⟩) rfl (.tmp 24) (.tmp 30) rfl M4.o.1 M4.o.2.1 M4.o.2.2 (by go_simp) (by go_simp) QQ ?_; intro g3 kP wz Ld nK; have LY:=zh (XT.o wz _ Ld nK); have fz:=LY.o.1.frozen 3; have cz:=LY.o.1.cell 3; simp only[aB,aD,aA] at cz; clear Ld nK))
    all_goals
      clear i0 i1 i2 i3 i4 i5 i6 j3 e3 e3' qkV fz cz XT M4 aW;go_simp;go_wp2_with fail;go_roundw
      case rel=>exact⟨k+1,by omega,by go_num,⟨_,by have h:=LY.o.2; rw[pu.o] at h; rw[HY.o]; exact h⟩⟩
      simp[intOf]; omega
  obtain rfl:k=s.items.length:=by omega
  have hT:=HT.o;rw[List.take_of_length_le (by simp)] at hT;obtain⟨A3,c3,rfl⟩:=lx hT.o3;have y0:=hT.d2.cell 0;have y1:=hT.d2.cell 1;have y2:=hT.d2.cell 2;have y3:=hT.d2.cell 3;have y4:=hT.d2.cell 4;have z0:=hT.d1.cell 0;have z1:=hT.d1.cell 1;have z2:=hT.d1.cell 2;have z3:=hT.d1.cell 3;have z4:=hT.d1.cell 4;have f0:=hT.d1.frozen 0;have f1:=hT.d1.frozen 1;have f2:=hT.d1.frozen 2;have f3:=hT.d1.frozen 3
  have f4:=hT.d1.frozen 4;simp only[aB,aD,aA] at y0 y1 y2 y3 y4 z0 z1 z2 z3 z4;have HT:=zh hT;clear hT;have UY:Blk (((((wr.setCell ⟨w.heap.size+1,0,none⟩ (.string s.name)).setCell ⟨w.heap.size+1,1,none⟩ (.int .i64 s.len)).setCell ⟨w.heap.size+1,2,none⟩ (.slice A2 s.lines.length c2)).setCell ⟨w.heap.size+1,3,none⟩ (.slice A3 (s.items.map df).length c3)).setCell ⟨w.heap.size+1,4,none⟩ (.int .i64 s.pipe)) (w.heap.size+1) 117 #[.string s.name,.int .i64 s.len,.slice A2 s.lines.length c2,.slice A3 (s.items.map df).length c3,.int .i64 s.pipe]:=((((HT.o.d1.set_ 0 (.string s.name)).set_ 1 (.int .i64 s.len)).set_ 2 (.slice A2 s.lines.length c2)).set_ 3 (.slice A3 (s.items.map df).length c3)).set_ 4 (.int .i64 s.pipe)
  have J4:=kp wr (w.heap.size+1) (.string s.name) (.int .i64 s.len) (.slice A2 s.lines.length c2) (.slice A3 (s.items.map df).length c3) (.int .i64 s.pipe);have hB9 := HT.o.bel.grown J4 HT.o.bel.size (fun k e=>by
   obtain rfl:w.heap.size + 1=k := by simpa using e
   omega)
  have Ac:=HT.o.o2.kept J4 (Zj HT.o.o2 fun r e c f hh=>by
    obtain rfl:w.heap.size+1=r:=by simpa using e
    have h:=HT.o.d1;unfold Blk at h;rw[h] at hh;injection hh with hh;injection hh with _ hh _;exact absurd hh (by decide))
  have ho3:=HT.o.o3.kept J4 (Zj HT.o.o3 fun r e c f hh=>by
    obtain rfl:w.heap.size+1=r:=by simpa using e
    have h:=HT.o.d1;unfold Blk at h;rw[h] at hh;injection hh with hh;injection hh with _ hh _;exact absurd hh (by decide))
  have HO2:=zh Ac;have HO3:=zh ho3;have iW:=zh hB9;have fP:=zh UY;clear Ac ho3 hB9 UY J4;have p0:=fP.o.cell 0;have p1:=fP.o.cell 1;have p2:=fP.o.cell 2;have p3:=fP.o.cell 3;have p4:=fP.o.cell 4;simp only[aB,aD,aA] at p0 p1 p2 p3 p4;rw[yQ] at*;go_wp2_with fail;refine YF (v:=.agg #[.string s.name,.int .i64 s.len,.slice A2 s.lines.length c2,.slice A3 s.items.length c3,.int .i64 s.pipe]) (by simp[results,Tryz.results106,go_sem,p0,p1,p2,p3,p4]) rfl ?_
  exact⟨iW.o,_,rfl,A2,c2,A3,c3,by simp[fi],RowAt.of_own HO2.o,by
    have h:=Flat.of_own HO3.o;unfold LoadsAt;simpa[fi] using h⟩
def ax (s:SetT):List FrT:=(dP (fi s)).map dM
def Zs (s:SetT):Int:=if cA s then (if gb (dP (fi s)) then 0 else 5) else 1
def eF (s:SetT) (w:World) (e:Ending) (w':World):Prop :=
 Below w.heap.size w w'∧((Zs s=0∧∃v,e=.returned (.tuple #[v,.int .i64 0])∧FrsAt w' w'.heap.size v (ax s))∨(Zs s≠0∧e=.returned (.tuple #[.slice none 0 0,.int .i64 (Zs s)])))
theorem BH {b:BeamT} (h:2≤b.sup.length):cK b=true:=by unfold cK;rw[if_neg (by omega)]
theorem zt {s:SetT} (h:cA s=true):2≤s.lines.length∧s.lines.length≤10:=by
 have h1:=(Zm h).lines;unfold fH at h1;simp only[Bool.and_eq_true] at h1
 have:=Zh h1.1;omega
theorem tq {s:SetT} (h:cA s=true):eU (fi s)=0:=by
 unfold eU;rw[nZ h,BH (zt h).1];rfl
theorem GD {v:Value} {s:SetT} {w:World} (hv:BeamAt w w.heap.size v (fi s)) (hn:s.name.size≤maxLen) (bM:cA s=true) :
  Calls Tryz.prog 105 #[v] w (eF s w):=by
 refine (DO v (fi s) w hv hn).mono ?_;rintro e w' ⟨hb,⟨-,-,h3,v',rfl,h4⟩|⟨k,hk,h,rfl,h5⟩⟩
 ·exact⟨hb,.inl ⟨by unfold Zs;rw[bM,h3];rfl,v',rfl,h4⟩⟩
 obtain rfl:=h5 (tq bM);have h3:gb (dP (fi s))=false:=by
  rcases h with h|h
  ·exact absurd (tq bM) h
  exact h
 have hE:Zs s=5:=by unfold Zs;rw[bM,h3];rfl
 exact⟨hb,.inr ⟨by rw[hE];decide,by rw[hE]⟩⟩
theorem zd (v:Value) (s:SetT) (w:World) (hv:SetAt w w.heap.size v s) (hn:SetNames s):Calls Tryz.prog 66 #[v] w (eF s w):=by
 have JW:=fun W (hb:Below w.heap.size w W)=>DV v s W ((hv.below hb (yA _)).mono hb.size) hn;have HBo:=zh fun (bM:cA s=true) W (hb:Below w.heap.size w W)=>LJ v s W ((hv.below hb (yA _)).mono hb.size) bM;have tx:=zh fun (bM:cA s=true) v W (h:BeamAt W W.heap.size v (fi s))=>GD h hn.name bM;obtain⟨Al,cl,Ai,ci,Ab,cb,rfl,-,-,-⟩:=hv;have HD:=zh (Blk.new w 37 (zA s Al cl Ai ci Ab cb));have cw:=zh ((yB _ w).alloc (yA _) (.cells (zA s Al cl Ai ci Ab cb) 37))
 clear hn;have jA:=JW _ cw.o;clear JW;unfold dO at*;rcases yM (cA s) with bM|bM
 ·have He:=HBo.o bM;have hli:=tx.o bM;rw[bM] at jA;clear bM HBo tx;go_enter Tryz.func66,Tryz.ntmps66;go_wp2_with (first|(go_at_call 87;refine jA.mono ?_;rintro e w2 ⟨rfl,bg⟩;have tb:=cw.o.trans (bg.mono cw.o.size);have cP:=zh (HD.o.below bg HD.o.lt);have z0:=cP.o.cell 0;have z1:=cP.o.cell 1;have z2:=cP.o.cell 2;have z3:=cP.o.cell 3;have z4:=cP.o.cell 4;have z5:=cP.o.cell 5;have z6:=cP.o.cell 6;have z7:=cP.o.cell 7;have z8:=cP.o.cell 8;have z9:=cP.o.cell 9;have fD:=cP.o.cell 10;have dN:=cP.o.cell 11;have fa:=cP.o.cell 12;simp only[aB,aD,aA] at z0 z1 z2 z3 z4 z5 z6 z7 z8 z9 fD dN fa)|(go_at_call 106;refine (He _ tb).mono ?_;rintro e w3 ⟨bZ,v3,rfl,hB3⟩;have cY:=zh (tb.trans (bZ.mono tb.size));have vqH:=hli v3 w3 hB3)|(go_at_call 105;refine vqH.mono ?_;rintro e w4 ⟨bP,⟨hE,v4,rfl,h4⟩|⟨hE,rfl⟩⟩))
  ·go_ret2;exact⟨cY.o.trans (bP.mono cY.o.size),.inl ⟨hE,v4,rfl,h4⟩⟩
  go_ret2;exact⟨cY.o.trans (bP.mono cY.o.size),.inr ⟨hE,rfl⟩⟩
 have HE:Y0 (Zs s=1):=by unfold Y0 Zs;rw[bM];rfl
 rw[bM] at jA;clear bM HBo tx;go_enter Tryz.func66,Tryz.ntmps66;go_wp2_with (go_at_call 87;refine jA.mono ?_;rintro e w2 ⟨rfl,bg⟩);go_ret2;exact⟨cw.o.trans (bg.mono cw.o.size),.inr ⟨by rw[HE.o];decide,by rw[HE.o];rfl⟩⟩
