/- Lemmas. -/
import Derived.Deep.RegionLaw
import Derived.Test.YtfhmbechennkbaaGreatDoorC7
import Derived.Test.YtfhmbechennkbaaGreatDoorD3
namespace Go.Proofs.YtfhmbechennkbaaGreatDoor
set_option maxRecDepth 100000
set_option maxHeartbeats 40000000
def EG (x:ItemT):Int:=x.pos+x.width / 2
def dm (x:ItemT):LoadT:=⟨EG x,x.wt⟩
def fD (s:SetT):BeamT:=⟨s.name,s.len,s.lines,s.items.map dm,s.pipe⟩
theorem Bc {l:List Int} (h:je l l.length=true):∀ d i,i + d < l.length→jQ l i ≤ jQ l (i + d)
 | 0,i,_=>Int.le_refl _
 | d+1,i,hi=>by
  have h1:=Bc h d i (by omega)
  unfold je at h
  rw[yO] at h
  have h2:=h (i+d+1) (by omega) (by omega)
  rw[show i+d+1-1=i+d by omega] at h2
  rw[show i+(d+1)=i+d+1 by omega]
  omega
theorem pI {x:ItemT} {len:Int} (h:dy x len=true):0≤x.pos∧1≤x.width∧x.width≤1048576∧x.pos≤len-x.width:=by
 unfold dy at h
 simp only[Bool.and_eq_true,decide_eq_true_eq] at h
 have h1:=Zh h.2.1
 exact⟨h.1,h1.1,h1.2,h.2.2⟩
theorem oY {s:SetT} (h:bS s=true):dt (fD s)=true:=by
 have hn:da s.name=true:=by
  unfold bS at h
  simp only[Bool.and_eq_true] at h
  exact h.1
 have hk:=Zm h
 have hl:=hk.lines
 unfold fp at hl
 simp only[Bool.and_eq_true,Bool.not_eq_true',decide_eq_false_iff_not] at hl
 obtain⟨l1,l2,l3,l4⟩:=hl
 have hb:=Zh l1
 have h40:=hk.wts.1
 have bL:=hk.len
 have qkD:=hk.pipe
 have qzi:∀ i,i<s.lines.length→0≤jQ s.lines i∧jQ s.lines i≤s.len:=fun i hi=>by
  have e1:=Bc l4 i 0 (by omega)
  have e2:=Bc l4 (s.lines.length-1-i) i (by omega)
  rw[yR] at e1
  rw[show i+(s.lines.length-1-i)=s.lines.length-1 by omega] at e2
  omega
 unfold dt dj cR
 simp only[Bool.and_eq_true,Bool.not_eq_true',decide_eq_false_iff_not,decide_eq_true_eq,List.all_eq_true]
 refine⟨⟨⟨⟨⟨⟨⟨⟨⟨hn,?_⟩,?_⟩,?_⟩,?_⟩,?_⟩,?_⟩,?_⟩,fun i hi=>?_⟩,fun x hx=>?_⟩
 ·show ¬ s.len<1;omega
 ·show ¬ 1048576<s.len;omega
 ·show ¬ s.pipe<0;omega
 ·show ¬ 1048576<s.pipe;omega
 ·show ¬ (s.lines.length:Int)<1;omega
 ·show ¬ 10<(s.lines.length:Int);omega
 ·show ¬ 40<((s.items.map dm).length:Int);rw[yP];omega
 ·have hi':i<s.lines.length:=hi
  have e1:=qzi i hi'
  unfold eO
  have e0:∀ j,ak (fD s) j=jQ s.lines j:=fun j=>rfl
  rw[e0,e0]
  simp only[Bool.and_eq_true,Bool.or_eq_true,Bool.not_eq_true',decide_eq_false_iff_not,decide_eq_true_eq]
  refine⟨⟨by omega,show ¬ s.len<_ by omega⟩,?_⟩
  rcases Nat.eq_zero_or_pos i with h0 | h0
  ·exact .inl h0
  refine .inr ?_
  unfold je at l4
  rw[yO] at l4
  have:=l4 i hi' h0
  omega
 have hx':x∈s.items.map dm:=hx
 rw[List.mem_map] at hx'
 obtain⟨y,hy,rfl⟩:=hx'
 obtain⟨h1,h2⟩:=hk.wts.2 y hy
 have h3:=pI h2
 have h4:0≤y.wt∧y.wt≤1048576:=by
  unfold eZ at h1
  simp only[Bool.and_eq_true] at h1
  exact Zh h1.2.1
 unfold cK
 simp only[Bool.and_eq_true,Bool.not_eq_true',decide_eq_false_iff_not]
 show ((¬ y.pos+y.width / 2<0∧¬ s.len<y.pos+y.width / 2)∧¬ y.wt<0)∧¬ 67108864<y.wt
 omega
open Go.RowKit Go.Shelf
theorem Qm (x:ItemT) (w:World) (hx:0≤x.pos∧x.pos≤1048576∧1≤x.width∧x.width≤1048576) :
  Calls Tryz.prog 120 #[x.val] w fun e w'=>e = .returned (.int .i64 (EG x))∧w.alloc (.cells #[.string x.name,.int .i64 x.pos,.int .i64 x.width,.int .i64 x.wt,.int .i64 x.hang,.int .i64 x.front,.int .i64 x.back] 118)=w':=by
 have HV:Y0 (EG x=x.pos+x.width / 2):=rfl
 obtain⟨h1,h2,h3,h4⟩:=hx
 have v1:IntKind.i64.wrap (x.width / 2)=x.width / 2:=yF _ (by omega)
 have v2:IntKind.i64.wrap (x.pos+x.width / 2)=x.pos+x.width / 2:=yF _ (by omega)
 have v3:x.width.tdiv 2=x.width / 2:=Int.tdiv_eq_ediv_of_nonneg (by omega)
 clear h1 h2 h3 h4
 go_enter Tryz.func120,Tryz.ntmps120
 go_wp2
 go_ret
 exact⟨by rw[HV.o];rfl,rfl⟩
theorem kS {w w':World} {B e s n:Nat} {v:Value} {xs:List Value} (h:w.ownsRow B e s v n xs) (hb:Below w.heap.size w w'):w'.ownsRow B e s v n xs :=
 h.kept (lB (row:=none) hb) (by
  by_cases e:v.ownBlock=none
  ·exact .inl e
  exact .inr e)
def gO (B:Nat) (l:List Int):GPost:=⟨fun v=>∃ A c,v = .slice A l.length c,fun v w=>w.ownsRow B 3 1 v l.length (l.map (Value.int .i64)),⟨_,none,0,rfl⟩,fun _ _ _ hb h=>kS h hb,false⟩
theorem bD {w:World} {B e s n:Nat} {v:Value} {L:List Value} (h:w.ownsRow B e s v n L):∃ A c,v = .slice A n c:=by
 rcases h.2 with⟨rfl,rfl⟩ | ⟨g,cap,cur,rfl,_⟩
 ·exact⟨none,0,rfl⟩
 exact⟨_,cap,rfl⟩
theorem NV {v:Value} {l:List Int} {w:World} {B:Nat} (hl:bO w w.heap.size v l) (bL:l.length≤1000000) (hB:B≤w.heap.size) :
  Calls Tryz.prog 103 #[v] w fun e w'=>∃ u,e = .returned u∧Below w.heap.size w w'∧(gO B l).σ u∧(gO B l).φ u w' :=
 (X7 v l w hl bL).mono fun _ _ ⟨u,he,hO,hb⟩=>⟨u,he,hb,(by obtain⟨A,c,h⟩:=bD hO;exact⟨A,c,h⟩),bo hO hB⟩
def MJ (B:Nat) (v:Value) (w:World):Prop:=∃ g,v = .pointer (some ⟨g,0,none⟩)∧B≤g∧Blk w g 122 #[.string ⟨#[]⟩,.int .i64 0,.slice none 0 0,.slice none 0 0,.int .i64 0]
def qvR (B:Nat):GPost:=⟨fun v=>∃ g,v = .pointer (some ⟨g,0,none⟩),MJ B,⟨_,0,rfl⟩,fun _ _ _ hb h=>by
 obtain⟨g,h1,h2,h3⟩:=h
 exact⟨g,h1,h2,h3.below hb h3.lt⟩,false⟩
theorem Jl {P:Program} {o:Oper} {a:Act} {w:World} {B:Nat} (hB:B≤w.heap.size) (h:(execOp a.eval o).run P w = .ok (.value (.pointer (some ⟨w.heap.size,0,none⟩))) (w.alloc (.cells #[.string ⟨#[]⟩,.int .i64 0,.slice none 0 0,.slice none 0 0,.int .i64 0] 122))):o7 P o a (qvR B) w :=
 ⟨_,_,h,(yB _ _).alloc (yA _) _,⟨_,rfl⟩,⟨_,rfl,hB,Blk.new _ _ _⟩,fun h=>by cases h⟩
structure BoS (w W:World) (bx:Array Value) (s:SetT) (G:Nat) (v2 v3:Value) (ys:List LoadT):Prop where
 d0:Blk W w.heap.size 26 bx
 d1:Blk W (w.heap.size+1) 122 #[.string ⟨#[]⟩,.int .i64 0,.slice none 0 0,.slice none 0 0,.int .i64 0]
 d2:Blk W G 122 #[.string s.name,.int .i64 s.len,v2,v3,.int .i64 s.pipe]
 o2:W.ownsRow w.heap.size 3 1 v2 s.lines.length (s.lines.map (Value.int .i64))
 o3:W.ownsRow w.heap.size 162 2 v3 ys.length (ys.flatMap LoadT.cells)
 bel:Below w.heap.size w W
 far:w.heap.size+1<G
section
variable {w W W':World} {bx:Array Value} {s:SetT} {G:Nat} {v2 v3:Value} {ys:List LoadT}
theorem BoS.below (h:BoS w W bx s G v2 v3 ys) (hb:Below W.heap.size W W'):BoS w W' bx s G v2 v3 ys :=
 ⟨h.d0.below hb h.d0.lt,h.d1.below hb h.d1.lt,h.d2.below hb h.d2.lt,kS h.o2 hb,kS h.o3 hb,h.bel.trans (hb.mono h.bel.size),h.far⟩
theorem BoS.push (h:BoS w W bx s G v2 v3 ys) {v':Value} {w1:World} {y:LoadT} (az:w1.ownsRow w.heap.size 162 2 v' (ys.length+1) (ys.flatMap LoadT.cells++[.int .i64 y.pos,.int .i64 y.wt])) (hg:W.grownBy w1 v3.ownBlock) :
  Blk w1 G 122 #[.string s.name,.int .i64 s.len,v2,v3,.int .i64 s.pipe]∧BoS w (w1.setCell ⟨G,3,none⟩ v') bx s G v2 v' (ys++[y]):=by
 have hr:=fun r (e:v3.ownBlock=some r)=>qB h.o3 e
 have k:=fun {g:Nat} {t:TypeId} {c:Array Value} (hb:Blk W g t c) (ht:t≠162)=>hb.kept hg (fun e=>by
  obtain⟨c',hc⟩:=hr g e.symm
  unfold Blk at hb
  rw[hb] at hc
  injection hc with hc
  injection hc with _ hc _
  exact ht hc)
 have e0:=k h.d0 (by decide)
 have e1:=k h.d1 (by decide)
 have e2:=k h.d2 (by decide)
 have e4:w1.ownsRow w.heap.size 3 1 v2 s.lines.length (s.lines.map (Value.int .i64)):=h.o2.kept hg (Zj h.o2 fun r e c f hh=>by
  obtain⟨c',hc⟩:=hr r e
  rw[hh] at hc
  injection hc with hc
  injection hc with _ hc _
  exact absurd hc (by decide))
 have hf:=h.far
 have ao:Below w.heap.size w w1:=h.bel.grown hg h.bel.size (fun k e=>(h.o3.lt k e).1)
 refine⟨e2,e0.far (by show w.heap.size≠G;omega) _,e1.far (by show w.heap.size+1≠G;omega) _,e2.set_ 3 v',?_,?_,ao.setCell (by show w.heap.size≤G;omega) _,hf⟩
 ·exact e4.kept (e2.setGrown 3 v') (Zj e4 fun r e c f hh=>by
   obtain rfl:G=r:=by simpa using e
   unfold Blk at e2
   rw[e2] at hh
   injection hh with hh
   injection hh with _ hh _
   exact absurd hh (by decide))
 have:(w1.setCell ⟨G,3,none⟩ v').ownsRow w.heap.size 162 2 v' (ys.length+1) (ys.flatMap LoadT.cells++[.int .i64 y.pos,.int .i64 y.wt]):=az.kept (e2.setGrown 3 v') (Zj az fun r e c f hh=>by
  obtain rfl:G=r:=by simpa using e
  unfold Blk at e2
  rw[e2] at hh
  injection hh with hh
  injection hh with _ hh _
  exact absurd hh (by decide))
 rw[yQ,List.flatMap_append]
 exact this
end
theorem aY (w:World) (g i:Nat) (u:Value):w.grownBy (w.setCell ⟨g,i,none⟩ u) (some g):=⟨rfl,rfl,rfl,by simp[World.setCell],fun k _ hk=>YC w _ u k (fun e=>hk (by rw[e]))⟩
theorem lx (w:World) (g:Nat) (u0 u1 u2 u3 u4:Value):w.grownBy (((((w.setCell ⟨g,0,none⟩ u0).setCell ⟨g,1,none⟩ u1).setCell ⟨g,2,none⟩ u2).setCell ⟨g,3,none⟩ u3).setCell ⟨g,4,none⟩ u4) (some g) :=
 cg (cg (cg (cg (aY w g 0 u0) (aY _ g 1 u1)) (aY _ g 2 u2)) (aY _ g 3 u3)) (aY _ g 4 u4)
theorem O3 {ops:Array Oper} {o:Oper} {a:Act} {w:World} {K:Act→World→Prop} {Q:Exit→Act→World→Prop} {E:Prop} (EO:o.guard=none) (s x:Operand)
  (ho:o.op = .call { callee:=.builtin .append,args:=#[s,x],argTypes:=#[120,120] }) {B m:Nat} {v:Value} {xs:List Value} (T:w.ownsRow B 162 2 v m xs) (hB:B≤w.heap.size) {y:LoadT} {a1:Nat} (N:Blk w a1 162 #[.int .i64 y.pos,.int .i64 y.wt])
  (hs:a.eval s=v) (hx:a.eval x = .slice (some ⟨a1,0,none⟩) 1 1) (bL:m≤1000)
  (h:∀ g cap w',w'.ownsRow B 162 2 (.slice (some ⟨g,0,none⟩) (m+1) cap) (m+1) (xs++[.int .i64 y.pos,.int .i64 y.wt])→w.grownBy w' v.ownBlock→K (a.put o.dst (.slice (some ⟨g,0,none⟩) (m+1) cap)) w') :
  if Region.wanted o (yielded ops a.tmps)=true then Oper.wp Tryz.prog o a w K Q else E:=by
 obtain⟨i0,il,gu,iC,iN⟩:=info_parts mP
 refine step_append_lies w EO s x 120 ho B 162 i0 _ 2 16 Tryz.underlying120 il gu iC iN rfl (by decide) v m xs hs T ⟨a1,0,none⟩ 1 1 [.int .i64 y.pos,.int .i64 y.wt] hx rfl
  (fun j u hu=>by rw[Addr.add_lit,yR];exact (N.cell j).trans (by simpa using hu)) (fun u hu=>by simp at hu;rcases hu with rfl | rfl <;> rfl) (by omega) (by unfold maxLen;omega) (by omega) hB _ rfl ?_
 intro g cap w' az dL _ _
 exact h g cap w' az dL
def MI (s:SetT) (w:World) (e:Ending) (w':World):Prop:=Below w.heap.size w w'∧∃ v,e = .returned v∧BeamAt w' w'.heap.size v (fD s)
theorem Qq (v:Value) (s:SetT) (w:World) (hv:SetAt w w.heap.size v s) (aK:bS s=true):Calls Tryz.prog 76 #[v] w (MI s w):=by
  have hk:=Zm aK
  have HX:=zh fun x (hx:x∈s.items)=>pI (hk.wts.2 x hx).2
  have bL:=hk.len
  have h40:=hk.wts.1
  have vC:s.lines.length≤1000:=by
    have:=(kr (oY aK)).sup1
    exact yH this.2 (by decide)
  clear hk aK
  obtain⟨Al,cl,Ai,ci,Ab,cb,rfl,hL,hI,-⟩:=hv
  have HL:=zh hL
  obtain⟨_,_,e,N9,Wu,QG⟩:=hI.open_
  injection e with e1 _ e2
  subst e1 e2
  have HI:=zh QG
  unfold maxLen at Wu
  clear hL hI QG
  unfold aL at *
  go_enter Tryz.func76,Tryz.ntmps76
  go_wp2_with (exact Go.WalkKit.wp_stop)
  have IZ:=(Blk.new w 26 (zA s Al cl Ai ci Ab cb)).alloc (.cells #[.string ⟨#[]⟩,.int .i64 0,.slice none 0 0,.slice none 0 0,.int .i64 0] 122)
  have jo:=Blk.new (w.alloc (.cells (zA s Al cl Ai ci Ab cb) 26)) 122 #[.string ⟨#[]⟩,.int .i64 0,.slice none 0 0,.slice none 0 0,.int .i64 0]
  rw[yZ] at jo
  have nC:=((yB _ w).alloc (yA _) (.cells (zA s Al cl Ai ci Ab cb) 26)).alloc (by simp) (.cells #[.string ⟨#[]⟩,.int .i64 0,.slice none 0 0,.slice none 0 0,.int .i64 0] 122)
  have jU:((w.alloc (.cells (zA s Al cl Ai ci Ab cb) 26)).alloc (.cells #[.string ⟨#[]⟩,.int .i64 0,.slice none 0 0,.slice none 0 0,.int .i64 0] 122)).heap.size=w.heap.size+1+1:=by simp
  generalize (w.alloc (.cells (zA s Al cl Ai ci Ab cb) 26)).alloc (.cells #[.string ⟨#[]⟩,.int .i64 0,.slice none 0 0,.slice none 0 0,.int .i64 0] 122)=W2 at *
  have kA:=zh IZ
  have eK:=zh jo
  have bK:=zh nC
  have gx:=zh jU
  clear IZ jo nC jU
  have y0:=kA.o.cell 0
  have y4:=kA.o.cell 4
  have y5:=kA.o.cell 5
  have y6:=kA.o.cell 6
  simp only[aP,aQ,aO] at y0 y4 y5 y6
  have u0:=YL y0
  have u4:=YL y4
  have u5:=YL y5
  have u6:=YL y6
  clear y0 y4 y5 y6
  refine ag 11 (fun jx=>if jx=6 then some (gO w.heap.size s.lines) else if jx=10 then some (qvR W2.heap.size) else none) (by kernel_rfl) (by kernel_rfl) ?_
  simp only[aU,aT,aW,aX]
  refine ae 6 (by kernel_rfl) (by rfl) (by decide) ?_
  simp only[aU,aT,aW,aX]
  repeat (go_big_quiet_step (fail))
  refine YH ?_
  refine af rfl rfl ?_ ?_
  · intro w1 ao hk
    have hb:=bK.o.trans (ao.mono bK.o.size)
    have hC:=NV (B:=w.heap.size) (RowAt.mono (RowAt.below HL.o hb (yA _)) hb.size) (by omega) hb.size
    exact⟨103,#[.slice Al s.lines.length cl],by go_simp,hC⟩
  rintro _ ⟨A2,c2,rfl⟩
  simp only[Act.put,aJ,aI,aH]
  refine ae 3 (by kernel_rfl) (by rfl) (by decide) ?_
  simp only[aU,aT,aW,aX]
  repeat (go_big_quiet_step (fail))
  refine YH ?_
  refine br rfl rfl (fun w1 ao _=>Jl ao.size (by go_simp)) ?_
  rintro _ ⟨G,rfl⟩
  simp only[Act.put,aJ,aI,aH]
  refine Zc ?_
  intro w8 aM hF
  have m6:w8.ownsRow w.heap.size 3 1 (.slice A2 s.lines.length c2) s.lines.length (s.lines.map (Value.int .i64)):=hF 12
  have h3:MJ W2.heap.size (.pointer (some ⟨G,0,none⟩)) w8:=hF 3
  obtain⟨_,e3,Wx,b3⟩:=h3
  injection e3 with e3
  injection e3 with e3
  injection e3 with e3 _ _
  subst e3
  rw[gx.o] at Wx
  have Yy:=zh (kA.o.below aM kA.o.lt)
  have Yx:=zh (eK.o.below aM eK.o.lt)
  have dP:=zh (bK.o.trans (aM.mono bK.o.size))
  have f0:=b3.frozen 0
  have f1:=b3.frozen 1
  have f2:=b3.frozen 2
  have f3:=b3.frozen 3
  have f4:=b3.frozen 4
  have c0:=b3.cell 0
  have c1:=b3.cell 1
  have cc2:=b3.cell 2
  have c3:=b3.cell 3
  have c4:=b3.cell 4
  simp only[aP,aQ,aO] at c0 c1 cc2 c3 c4
  have h5:=((((b3.set_ 0 (.string s.name)).set_ 1 (.int .i64 s.len)).set_ 2 (.slice A2 s.lines.length c2)).set_ 3 (.slice none 0 0)).set_ 4 (.int .i64 s.pipe)
  have NG:=lx w8 G (.string s.name) (.int .i64 s.len) (.slice A2 s.lines.length c2) (.slice none 0 0) (.int .i64 s.pipe)
  have hBo:Y0 (BoS w (((((w8.setCell ⟨G,0,none⟩ (.string s.name)).setCell ⟨G,1,none⟩ (.int .i64 s.len)).setCell ⟨G,2,none⟩ (.slice A2 s.lines.length c2)).setCell ⟨G,3,none⟩ (.slice none 0 0)).setCell ⟨G,4,none⟩ (.int .i64 s.pipe)) (zA s Al cl Ai ci Ab cb) s G (.slice A2 s.lines.length c2) (.slice none 0 0) []):=by
    refine⟨Yy.o.kept NG (by simp; omega),Yx.o.kept NG (by simp; omega),h5,m6.kept NG (Zj m6 fun r e c f hh=>?_),yJ _ _ _ _,dP.o.grown NG dP.o.size (fun k e=>by simp at e; omega),by omega⟩
    obtain rfl:G=r:=by simpa using e
    have hb:=b3
    unfold Blk at hb
    rw[hb] at hh
    injection hh with hh
    injection hh with _ hh _
    exact absurd hh (by decide)
  clear m6 h5 NG b3 Wx dP Yy Yx hF aM u0 u4 u5 u6 kA eK bK gx
  have fc:=hBo.o.d0.cell 11
  simp only[aP,aQ,aO] at fc
  go_wp2_with (exact Go.WalkKit.wp_stop)
  clear f0 f1 f2 f3 f4 c0 c1 cc2 c3 c4
  generalize (((((w8.setCell ⟨G,0,none⟩ (.string s.name)).setCell ⟨G,1,none⟩ (.int .i64 s.len)).setCell ⟨G,2,none⟩ (.slice A2 s.lines.length c2)).setCell ⟨G,3,none⟩ (.slice none 0 0)).setCell ⟨G,4,none⟩ (.int .i64 s.pipe))=W9 at *
  have uT:=fun (x:ItemT) (h:0≤x.pos∧x.pos≤1048576∧1≤x.width∧x.width≤1048576) W=>Qm x W h
  have qjg:=zh uT
  clear uT
  go_loopw [19] (fun ix wr=>∃ k:Nat,k≤s.items.length∧ix = .int .i64 k∧Y0 (∃ v3,BoS w wr (zA s Al cl Ai ci Ab cb) s G (.slice A2 s.lines.length c2) v3 ((s.items.map dm).take k))) (fun ix _=>s.items.length-(intOf ix).toNat)
  case atStart=>exact⟨0,yI _,rfl,⟨_,hBo.o⟩⟩
  clear hBo fc
  obtain⟨k,hk,rfl,Oc⟩:=hrel
  obtain⟨v3,hT⟩:=Oc.o
  have HT:=zh hT
  clear hT Oc
  have k0:(0:Int)≤(k:Int):=yE _
  by_cases aB:k<s.items.length
  · have k1:(k:Int)<(s.items.length:Int):=by omega
    obtain⟨b1,ct,rfl,ao,hc⟩:=HI.o k aB
    have av:=HT.o.bel
    have y0:=(av.cell (p:=⟨b1,ct+k*7,none⟩) ao).trans (hc k aB).1
    have y1:=(av.cell (p:=⟨b1,ct+k*7+1,none⟩) ao).trans (hc k aB).2.1
    have y2:=(av.cell (p:=⟨b1,ct+k*7+2,none⟩) ao).trans (hc k aB).2.2.1
    have y3:=(av.cell (p:=⟨b1,ct+k*7+3,none⟩) ao).trans (hc k aB).2.2.2.1
    have y4:=(av.cell (p:=⟨b1,ct+k*7+4,none⟩) ao).trans (hc k aB).2.2.2.2.1
    have y5:=(av.cell (p:=⟨b1,ct+k*7+5,none⟩) ao).trans (hc k aB).2.2.2.2.2.1
    have y6:=(av.cell (p:=⟨b1,ct+k*7+6,none⟩) ao).trans (hc k aB).2.2.2.2.2.2
    have hx:=HX.o _ (yV aB)
    have HY:Y0 ((s.items.map dm).take (k+1)=(s.items.map dm).take k++[dm s.items[k]]):=by
      unfold Y0
      rw[aC _ k (by simpa using aB)]
      simp
    have VW:((s.items.map dm).take k).length≤1000:=by
      rw[YA,yP]
      omega
    have HLn:Y0 (((s.items.map dm).take k).length=k):=by
      unfold Y0
      rw[YA,yP]
      omega
    have uT:=qjg.o s.items[k] (by omega)
    clear hc av hx
    generalize s.items[k]=x at *
    obtain⟨nm,pos,width,wt,hang,front,back⟩:=x
    simp only at y0 y1 y2 y3 y4 y5 y6 uT
    have hml:dm ⟨nm,pos,width,wt,hang,front,back⟩=⟨EG ⟨nm,pos,width,wt,hang,front,back⟩,wt⟩:=rfl
    rw[hml] at HY
    clear hml
    generalize EG ⟨nm,pos,width,wt,hang,front,back⟩=mid at *
    go_wp2_with (exact Go.WalkKit.wp_stop)
    have hDi:=Blk.new wr 118 #[.string nm,.int .i64 pos,.int .i64 width,.int .i64 wt,.int .i64 hang,.int .i64 front,.int .i64 back]
    have hT5:=HT.o.below ((yB _ wr).alloc (yA _) (.cells #[.string nm,.int .i64 pos,.int .i64 width,.int .i64 wt,.int .i64 hang,.int .i64 front,.int .i64 back] 118))
    clear HT y0 y1 y2 y3 y4 y5 y6
    generalize wr.alloc (.cells #[.string nm,.int .i64 pos,.int .i64 width,.int .i64 wt,.int .i64 hang,.int .i64 front,.int .i64 back] 118)=w5 at *
    generalize wr.heap.size=D5 at *
    have HT:=zh hT5
    have i0:=hDi.cell 0
    have i1:=hDi.cell 1
    have i2:=hDi.cell 2
    have i3:=hDi.cell 3
    have i4:=hDi.cell 4
    have i5:=hDi.cell 5
    have i6:=hDi.cell 6
    have j3:=fun o=>(hDi.alloc o).cell 3
    have e3:=HT.o.d2.cell 3
    have e3':=fun o=>(HT.o.d2.alloc o).cell 3
    have qjW:=fun o o'=>((HT.o.d2.alloc o).alloc o').cell 3
    simp only[aP,aQ,aO] at i0 i1 i2 i3 i4 i5 i6 j3 e3 e3' qjW
    have cO:Below w5.heap.size w5 (((w5.alloc (.cells #[.string nm,.int .i64 pos,.int .i64 width,.int .i64 wt,.int .i64 hang,.int .i64 front,.int .i64 back] 118)).alloc (.cells #[.int .i64 mid,.int .i64 wt] 162)).drew):=(((yB _ w5).alloc (yA _) _).alloc (by simp) _).drew
    have hT6:=HT.o.below cO
    have hN:Blk (((w5.alloc (.cells #[.string nm,.int .i64 pos,.int .i64 width,.int .i64 wt,.int .i64 hang,.int .i64 front,.int .i64 back] 118)).alloc (.cells #[.int .i64 mid,.int .i64 wt] 162)).drew) (w5.heap.size+1) 162 #[.int .i64 mid,.int .i64 wt]:=by
      have h:=Blk.new (w5.alloc (.cells #[.string nm,.int .i64 pos,.int .i64 width,.int .i64 wt,.int .i64 hang,.int .i64 front,.int .i64 back] 118)) 162 #[.int .i64 mid,.int .i64 wt]
      rw[yZ] at h
      exact h
    have Kf:Y0 _:=And.intro hT6.o3 (And.intro hT6.bel.size hN)
    have qx6:Y0 _:=fun wz v' (az:_) (hg:_)=>hT6.push (v':=v') (w1:=wz) (y:=⟨mid,wt⟩) az hg
    have aS:Y0 _:=fun wz v' (az:_) (hg:_)=>(hT6.push (v':=v') (w1:=wz) (y:=⟨mid,wt⟩) az hg).1
    clear hT5 hT6 hDi hN cO
    go_region_law (first
      | (go_simp; go_at_call 120; refine (uT _).mono ?_; rintro e wz ⟨rfl,rfl⟩)
      | (refine O3 (y:=⟨mid,wt⟩) rfl (.tmp 24) (.tmp 30) rfl Kf.o.1 Kf.o.2.1 Kf.o.2.2 (by go_simp) (by go_simp) VW ?_; intro g3 bF wz sP m5; have Qw:=zh (qx6.o wz _ sP m5); have fz:=Qw.o.1.frozen 3; have cz:=Qw.o.1.cell 3; simp only[aP,aQ,aO] at cz; clear sP m5))
    all_goals
      clear i0 i1 i2 i3 i4 i5 i6 j3 e3 e3' qjW fz cz qx6 Kf aS
      go_simp
      go_wp2_with fail
      go_roundw
      case rel=>exact⟨k+1,by omega,by go_num,⟨_,by have h:=Qw.o.2; rw[HLn.o] at h; rw[HY.o]; exact h⟩⟩
      simp[intOf]; omega
  obtain rfl:k=s.items.length:=by omega
  have hT:=HT.o
  rw[List.take_of_length_le (by simp)] at hT
  obtain⟨A3,c3,rfl⟩:=bD hT.o3
  have y0:=hT.d2.cell 0
  have y1:=hT.d2.cell 1
  have y2:=hT.d2.cell 2
  have y3:=hT.d2.cell 3
  have y4:=hT.d2.cell 4
  have z0:=hT.d1.cell 0
  have z1:=hT.d1.cell 1
  have z2:=hT.d1.cell 2
  have z3:=hT.d1.cell 3
  have z4:=hT.d1.cell 4
  have f0:=hT.d1.frozen 0
  have f1:=hT.d1.frozen 1
  have f2:=hT.d1.frozen 2
  have f3:=hT.d1.frozen 3
  have f4:=hT.d1.frozen 4
  simp only[aP,aQ,aO] at y0 y1 y2 y3 y4 z0 z1 z2 z3 z4
  have HT:=zh hT
  clear hT
  have hD9:Blk (((((wr.setCell ⟨w.heap.size+1,0,none⟩ (.string s.name)).setCell ⟨w.heap.size+1,1,none⟩ (.int .i64 s.len)).setCell ⟨w.heap.size+1,2,none⟩ (.slice A2 s.lines.length c2)).setCell ⟨w.heap.size+1,3,none⟩ (.slice A3 (s.items.map dm).length c3)).setCell ⟨w.heap.size+1,4,none⟩ (.int .i64 s.pipe)) (w.heap.size+1) 122 #[.string s.name,.int .i64 s.len,.slice A2 s.lines.length c2,.slice A3 (s.items.map dm).length c3,.int .i64 s.pipe]:=((((HT.o.d1.set_ 0 (.string s.name)).set_ 1 (.int .i64 s.len)).set_ 2 (.slice A2 s.lines.length c2)).set_ 3 (.slice A3 (s.items.map dm).length c3)).set_ 4 (.int .i64 s.pipe)
  have jf:=lx wr (w.heap.size+1) (.string s.name) (.int .i64 s.len) (.slice A2 s.lines.length c2) (.slice A3 (s.items.map dm).length c3) (.int .i64 s.pipe)
  have uZ := HT.o.bel.grown jf HT.o.bel.size (fun k e=>by
   obtain rfl:w.heap.size + 1=k := by simpa using e
   omega)
  have EJ:=HT.o.o2.kept jf (Zj HT.o.o2 fun r e c f hh=>by
    obtain rfl:w.heap.size+1=r:=by simpa using e
    have h:=HT.o.d1
    unfold Blk at h
    rw[h] at hh
    injection hh with hh
    injection hh with _ hh _
    exact absurd hh (by decide))
  have Du:=HT.o.o3.kept jf (Zj HT.o.o3 fun r e c f hh=>by
    obtain rfl:w.heap.size+1=r:=by simpa using e
    have h:=HT.o.d1
    unfold Blk at h
    rw[h] at hh
    injection hh with hh
    injection hh with _ hh _
    exact absurd hh (by decide))
  have Fx:=zh EJ
  have Ec:=zh Du
  have lJ:=zh uZ
  have vN:=zh hD9
  clear EJ Du uZ hD9 jf
  have p0:=vN.o.cell 0
  have p1:=vN.o.cell 1
  have p2:=vN.o.cell 2
  have p3:=vN.o.cell 3
  have p4:=vN.o.cell 4
  simp only[aP,aQ,aO] at p0 p1 p2 p3 p4
  rw[yP] at *
  go_wp2_with fail
  refine YI (v:=.agg #[.string s.name,.int .i64 s.len,.slice A2 s.lines.length c2,.slice A3 s.items.length c3,.int .i64 s.pipe]) (by simp[results,Tryz.results76,go_sem,p0,p1,p2,p3,p4]) rfl ?_
  exact⟨lJ.o,_,rfl,A2,c2,A3,c3,by simp[fD],RowAt.of_own Fx.o,by
    have h:=Flat.of_own Ec.o
    unfold LoadsAt
    simpa[fD] using h⟩
def oA (s:SetT):List FrT:=(ef (fD s)).map B5
def Zs (s:SetT):Int:=if bS s then (if iU (ef (fD s)) then 0 else 5) else 1
def DX (s:SetT) (w:World) (e:Ending) (w':World):Prop :=
 Below w.heap.size w w'∧((Zs s=0∧∃ v,e = .returned (.tuple #[v,.int .i64 0])∧FrsAt w' w'.heap.size v (oA s))∨(Zs s≠0∧e = .returned (.tuple #[.slice none 0 0,.int .i64 (Zs s)])))
theorem Gb {b:BeamT} (h:2≤b.sup.length):cJ b=true:=by unfold cJ;rw[if_neg (by omega)]
theorem MQ {s:SetT} (h:bS s=true):2≤s.lines.length∧s.lines.length≤10:=by
 have h1:=(Zm h).lines
 unfold fp at h1
 simp only[Bool.and_eq_true] at h1
 have:=Zh h1.1
 omega
theorem uK {s:SetT} (h:bS s=true):eX (fD s)=0:=by
 unfold eX
 rw[oY h,Gb (MQ h).1]
 rfl
end Go.Proofs.YtfhmbechennkbaaGreatDoor
