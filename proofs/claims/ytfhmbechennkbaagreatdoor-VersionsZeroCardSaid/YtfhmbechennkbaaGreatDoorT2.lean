/- Lemmas. -/
import Derived.Test.YtfhmbechennkbaaGreatDoorI8
import Derived.Test.YtfhmbechennkbaaGreatDoorS2
import Derived.Test.YtfhmbechennkbaaGreatDoorT1
namespace Go.Proofs.YtfhmbechennkbaaGreatDoor
set_option maxRecDepth 100000
set_option maxHeartbeats 40000000
open Go.RowKit Go.Shelf
structure RefR where
 sv:Value
 L:List SetC
 pv:Value
 P:List (Value×List SetC)
 kv:Value
 K:List SetC
structure RefAt (w:World) (B D:Nat) (M:Nat→Prop) (st:St) (r:RefR):Prop where
 blk:Blk w D 49 #[r.sv,r.pv,r.kv,.int .i64 (st.work:Int)]
 base:B≤D
 notM:¬ M D
 lt:∀ g,M g→g<w.heap.size
 sets:SetsM w M r.sv r.L
 setsE:r.L.map SetC.s=st.sets
 own:w.ownsRow B 46 1 r.pv r.P.length (r.P.map Prod.fst)
 ownM:∀ g,r.pv.ownBlock=some g→¬ M g
 past:∀ q∈r.P,SetsM w M q.1 q.2
 pastE:r.P.map (fun q=>q.2.map SetC.s)=st.past
 kown:w.ownsRow B 26 13 r.kv r.K.length (r.K.flatMap SetC.cells)
 kownM:∀ g,r.kv.ownBlock=some g→¬ M g
 ksets:∀ c∈r.K,SetCM w M c
 kE:r.K.map SetC.s=st.known
def RefR.foot (r:RefR) (D:Nat) (M:Nat→Prop) (g:Nat):Prop:=M g∨g=D∨r.pv.ownBlock=some g∨r.kv.ownBlock=some g
section
variable {w w':World} {B D:Nat} {M M':Nat→Prop} {st:St} {r:RefR}
theorem RefAt.footLt (h:RefAt w B D M st r) {g:Nat} (hg:r.foot D M g):g<w.heap.size:=by
 rcases hg with hg | rfl | hg | hg
 ·exact h.lt g hg
 ·exact h.blk.lt
 ·exact (h.own.lt g hg).2
 exact (h.kown.lt g hg).2
theorem RefAt.kept (h:RefAt w B D M st r) (hs:w.heap.size≤w'.heap.size) (hk:∀ g,r.foot D M g→w'.heap[g]? = w.heap[g]?):RefAt w' B D M st r:=by
 have hM:KeepM M w w':=⟨hs,fun g hg _=>hk g (.inl hg)⟩
 exact⟨(hk D (.inr (.inl rfl))).trans h.blk,h.base,h.notM,fun g hg=>yK (h.lt g hg) hs,h.sets.kept hM,h.setsE,bX h.own fun g hg=>hk g (.inr (.inr (.inl hg))),h.ownM,fun q hq=>(h.past q hq).kept hM,h.pastE,
  bX h.kown fun g hg=>hk g (.inr (.inr (.inr hg))),h.kownM,fun c hc=>(h.ksets c hc).kept hM,h.kE⟩
theorem RefAt.below (h:RefAt w B D M st r) (hb:Below w.heap.size w w'):RefAt w' B D M st r:=h.kept hb.size fun g hg=>hb.block g (h.footLt hg)
theorem RefAt.ext (h:RefAt w B D M st r) (hs:∀ g,M g→M' g) (aw:∀ g,M' g→g<w.heap.size) (hD:¬ M' D) (hp:∀ g,r.pv.ownBlock=some g→¬ M' g) (hm:∀ g,r.kv.ownBlock=some g→¬ M' g):RefAt w B D M' st r :=
 ⟨h.blk,h.base,hD,aw,h.sets.sub hs,h.setsE,h.own,hp,fun q hq=>(h.past q hq).sub hs,h.pastE,h.kown,hm,fun c hc=>(h.ksets c hc).sub hs,h.kE⟩
theorem RefAt.since (h:RefAt w B D M st r) (hb:Below w.heap.size w w'):RefAt w' B D (dh M w.heap.size w'.heap.size) st r:=by
 have no:∀ g,g<w.heap.size→¬ M g→¬ dh M w.heap.size w'.heap.size g:=fun g hg hm YV=>by
  rcases YV with h1 | h1
  ·exact hm h1
  omega
 exact (h.below hb).ext (fun g hg=>.inl hg) (fun g hg=>hg.elim (fun h1=>yK (h.lt g h1) hb.size) fun h1=>h1.2) (no D h.blk.lt h.notM) (fun g hg=>no g (h.own.lt g hg).2 (h.ownM g hg)) fun g hg=>no g (h.kown.lt g hg).2 (h.kownM g hg)
theorem mU {t e:TypeId} {cs:Array Value} {b s n:Nat} {v:Value} {xs:List Value} (h:Blk w D t cs) (ho:w.ownsRow b e s v n xs) (ht:t≠e):∀ g,v.ownBlock=some g→g≠D:=fun g e1 e2=>by
 obtain⟨cs',hc⟩:=cm ho e1
 have:=h
 unfold Blk at this
 rw[e2,this] at hc
 injection hc with hc
 injection hc with _ hc _
 exact ht hc
theorem AF {b1 b2 s1 s2 n1 n2:Nat} {t1 t2:TypeId} {v1 v2:Value} {x1 x2:List Value} (h1:w.ownsRow b1 t1 s1 v1 n1 x1) (h2:w.ownsRow b2 t2 s2 v2 n2 x2) (ht:t1≠t2):∀ g,v1.ownBlock=some g→v2.ownBlock≠some g:=fun g e1 e2=>by
 obtain⟨c1,k1⟩:=cm h1 e1
 obtain⟨c2,k2⟩:=cm h2 e2
 rw[k1] at k2
 injection k2 with k2
 injection k2 with _ k2 _
 exact ht k2
theorem RefAt.pvD (h:RefAt w B D M st r):∀ g,r.pv.ownBlock=some g→g≠D:=mU h.blk h.own (by decide)
theorem RefAt.kvD (h:RefAt w B D M st r):∀ g,r.kv.ownBlock=some g→g≠D:=mU h.blk h.kown (by decide)
theorem RefAt.pvkv (h:RefAt w B D M st r):∀ g,r.pv.ownBlock=some g→r.kv.ownBlock≠some g:=AF h.own h.kown (by decide)
end
def KeepR (D:Nat) (w w':World):Prop :=
 ∀ sv pv kv wk,Blk w D 49 #[sv,pv,kv,wk]→w.heap.size≤w'.heap.size∧(∀ g,g<w.heap.size→g≠D→pv.ownBlock≠some g→kv.ownBlock≠some g→w'.heap[g]? = w.heap[g]?) ∧
  ∃ sv' pv' kv' wk',Blk w' D 49 #[sv',pv',kv',wk']∧(∀ g,pv'.ownBlock=some g→pv.ownBlock=some g∨w.heap.size≤g)∧∀ g,kv'.ownBlock=some g→kv.ownBlock=some g∨w.heap.size≤g
theorem KeepR.trans {D:Nat} {a b c:World} (h:KeepR D a b) (k:KeepR D b c):KeepR D a c:=by
 intro sv pv kv wk hb
 obtain⟨s1,e1,sv',pv',kv',wk',gZ,p1,m1⟩:=h sv pv kv wk hb
 obtain⟨s2,e2,sv2,pv2,kv2,wk2,bE,p2,m2⟩:=k _ _ _ _ gZ
 refine⟨yH s1 s2,fun g hg h1 h2 h3=>(e2 g (yK hg s1) h1 (fun e=>?_) (fun e=>?_)).trans (e1 g hg h1 h2 h3),sv2,pv2,kv2,wk2,bE,fun g e=>?_,fun g e=>?_⟩
 ·rcases p1 g e with h4 | h4
  ·exact h2 h4
  omega
 ·rcases m1 g e with h4 | h4
  ·exact h3 h4
  omega
 ·rcases p2 g e with h4 | h4
  ·exact p1 g h4
  exact .inr (yH s1 h4)
 rcases m2 g e with h4 | h4
 ·exact m1 g h4
 exact .inr (yH s1 h4)
theorem KeepR.of {D:Nat} {w w':World} {sv pv kv wk sv' pv' kv' wk':Value} (hb:Blk w D 49 #[sv,pv,kv,wk]) (hs:w.heap.size ≤ w'.heap.size)
  (he:∀ g,g<w.heap.size→g≠D→pv.ownBlock≠some g→kv.ownBlock≠some g→w'.heap[g]? = w.heap[g]?) (gZ:Blk w' D 49 #[sv',pv',kv',wk'])
  (hp:∀ g,pv'.ownBlock=some g→pv.ownBlock=some g∨w.heap.size≤g) (hm:∀ g,kv'.ownBlock=some g→kv.ownBlock=some g∨w.heap.size≤g):KeepR D w w':=by
 intro a b c d h2
 unfold Blk at hb h2
 rw[hb] at h2
 injection h2 with h2
 injection h2 with h2 _ _
 injection h2 with h2
 injection h2 with e1 h2
 injection h2 with e2 h2
 injection h2 with e3 h2
 injection h2 with e4 _
 subst e1 e2 e3 e4
 exact⟨hs,he,_,_,_,_,gZ,hp,hm⟩
theorem KeepR.of_below {D:Nat} {w w':World} (h:Below w.heap.size w w'):KeepR D w w':=fun _ _ _ _ hb=>
 ⟨h.size,fun g hg _ _ _=>h.block g hg,_,_,_,_,hb.below h hb.lt,fun _ e=>.inl e,fun _ e=>.inl e⟩
structure ChgR (B D:Nat) (w w':World):Prop where
 bel:Below B w w'
 keep:KeepR D w w'
theorem ChgR.of_below {B D:Nat} {w w':World} (h:Below w.heap.size w w') (hB:B≤w.heap.size):ChgR B D w w':=⟨h.mono hB,KeepR.of_below h⟩
theorem ChgR.trans {B D:Nat} {a b c:World} (h:ChgR B D a b) (k:ChgR B D b c):ChgR B D a c:=⟨h.bel.trans k.bel,h.keep.trans k.keep⟩
theorem ChgR.refl (B D:Nat) (w:World):ChgR B D w w:=⟨yB _ _,KeepR.of_below (yB _ _)⟩
section
variable {w w3:World} {B D:Nat} {M:Nat→Prop} {st:St} {r:RefR}
theorem oX {i:Nat} {u:Value} {t:TypeId} {cs:Array Value} (hb:Blk w D t cs) (hB:B≤D):Below B w (w.setCell ⟨D,i,none⟩ u) :=
 (yB B w).grown (aY w D i u) (yH hB (YJ hb.lt)) (fun k e=>by have e1:D=k:=(by simpa using e);omega)
theorem dR {i:Nat} {u:Value}:w.heap.size≤(w.setCell ⟨D,i,none⟩ u).heap.size:=(aY w D i u).size
theorem wm {pv':Value} (h:RefAt w B D M st r) (az:w3.ownsRow B 46 1 pv' (r.P.length+1) (r.P.map Prod.fst++[r.sv])) (hg:w.grownBy w3 r.pv.ownBlock) (jA:∀ g,pv'.ownBlock=some g→r.pv.ownBlock=some g∨w.heap.size≤g) :
  RefAt (w3.setCell ⟨D,1,none⟩ pv') B D M { st with past:=st.past++[st.sets] } { r with pv:=pv',P:=r.P++[(r.sv,r.L)] }∧ChgR B D w (w3.setCell ⟨D,1,none⟩ pv'):=by
 have WN:some D≠r.pv.ownBlock:=fun e=>h.pvD D e.symm rfl
 have b3:Blk w3 D 49 #[r.sv,r.pv,r.kv,.int .i64 (st.work:Int)]:=h.blk.kept hg WN
 have b4:=b3.set_ 1 pv'
 have P5:=mU b3 az (by decide)
 have dK:w.heap.size≤(w3.setCell ⟨D,1,none⟩ pv').heap.size:=yH hg.size dR
 have same:∀ g,g<w.heap.size→g≠D→r.pv.ownBlock≠some g→(w3.setCell ⟨D,1,none⟩ pv').heap[g]? = w.heap[g]?:=fun g aw h1 h2=>
  (YC _ _ _ _ (by exact h1)).trans (hg.block g aw (fun e=>h2 e.symm))
 have hk:KeepM M w (w3.setCell ⟨D,1,none⟩ pv'):=⟨dK,fun g hm aw=>same g aw (fun e=>h.notM (e▸hm)) (fun e=>h.ownM g e hm)⟩
 refine⟨⟨b4,h.base,h.notM,fun g hm=>yK (h.lt g hm) dK,h.sets.kept hk,h.setsE,?_,?_,?_,?_,?_,h.kownM,fun c hc=>(h.ksets c hc).kept hk,h.kE⟩,?_,?_⟩
 ·show World.ownsRow _ B _ 1 pv' (r.P++[(r.sv,r.L)]).length ((r.P++[(r.sv,r.L)]).map Prod.fst)
  rw[yQ,yS]
  exact bX az fun g e=>YC _ _ _ _ (by exact P5 g e)
 ·intro g e hm
  rcases jA g e with h1 | h1
  ·exact h.ownM g h1 hm
  have:=h.lt g hm
  omega
 ·intro q hq
  rcases List.mem_append.1 hq with hq | hq
  ·exact (h.past q hq).kept hk
  rw[List.mem_singleton] at hq
  subst hq
  exact h.sets.kept hk
 ·show (r.P++[(r.sv,r.L)]).map (fun q=>q.2.map SetC.s)=st.past++[st.sets]
  rw[yS,h.pastE,List.map_cons,List.map_nil,h.setsE]
 ·exact bX h.kown fun g e=>same g (h.kown.lt g e).2 (h.kvD g e) (fun e'=>h.pvkv g e' e)
 ·exact ((yB B w).grown hg (yH h.base (YJ h.blk.lt)) (fun k e=>(h.own.lt k e).1)).trans (oX b3 h.base)
 exact KeepR.of h.blk dK (fun g aw h1 h2 _=>same g aw h1 h2) b4 jA (fun _ e=>.inl e)
theorem rG {lv:Value} {L2:List SetC} (h:RefAt w B D M st r) (hl:SetsM w M lv L2) :
  RefAt (w.setCell ⟨D,0,none⟩ lv) B D M { st with sets:=L2.map SetC.s } { r with sv:=lv,L:=L2 }∧ChgR B D w (w.setCell ⟨D,0,none⟩ lv):=by
 have b4:=h.blk.set_ 0 lv
 have same:∀ g,g≠D→(w.setCell ⟨D,0,none⟩ lv).heap[g]? = w.heap[g]?:=fun g h1=>YC _ _ _ _ (by exact h1)
 have hk:KeepM M w (w.setCell ⟨D,0,none⟩ lv):=⟨dR,fun g hm _=>same g (fun e=>h.notM (e▸hm))⟩
 exact⟨⟨b4,h.base,h.notM,fun g hm=>yK (h.lt g hm) dR,hl.kept hk,rfl,bX h.own fun g e=>same g (h.pvD g e),h.ownM,fun q hq=>(h.past q hq).kept hk,h.pastE,bX h.kown fun g e=>same g (h.kvD g e),h.kownM,fun c hc=>(h.ksets c hc).kept hk,h.kE⟩,
  oX h.blk h.base,KeepR.of h.blk dR (fun g _ h1 _ _=>same g h1) b4 (fun _ e=>.inl e) (fun _ e=>.inl e)⟩
theorem ZO {P':List (Value×List SetC)} {q:Value×List SetC} {g c:Nat} (h:RefAt w B D M st r) (hP:r.P=P'++[q]) (hv:r.pv = .slice (some ⟨g,0,none⟩) (P'.length+1) c) :
  RefAt (w.setCell ⟨D,1,none⟩ (.slice (some ⟨g,0,none⟩) P'.length c)) B D M { st with past:=P'.map fun q=>q.2.map SetC.s } { r with pv:=.slice (some ⟨g,0,none⟩) P'.length c,P:=P' }∧ChgR B D w (w.setCell ⟨D,1,none⟩ (.slice (some ⟨g,0,none⟩) P'.length c)):=by
 have b4:=h.blk.set_ 1 (.slice (some ⟨g,0,none⟩) P'.length c)
 have same:∀ g',g'≠D→(w.setCell ⟨D,1,none⟩ (.slice (some ⟨g,0,none⟩) P'.length c)).heap[g']? = w.heap[g']?:=fun g' h1=>YC _ _ _ _ (by exact h1)
 have hk:KeepM M w (w.setCell ⟨D,1,none⟩ (.slice (some ⟨g,0,none⟩) P'.length c)):=⟨dR,fun g' hm _=>same g' (fun e=>h.notM (e▸hm))⟩
 have az:=h.own
 rw[hP,hv,yS,yQ] at az
 refine⟨⟨b4,h.base,h.notM,fun g' hm=>yK (h.lt g' hm) dR,h.sets.kept hk,h.setsE,?_,?_,fun q' hq'=>(h.past q' (by rw[hP];simp[hq'])).kept hk,rfl,bX h.kown fun g e=>same g (h.kvD g e),h.kownM,fun c hc=>(h.ksets c hc).kept hk,h.kE⟩,
  oX h.blk h.base,KeepR.of h.blk dR (fun g' _ h1 _ _=>same g' h1) b4 (fun g' e=>.inl (by rw[hv];simpa[Value.ownBlock] using e)) (fun _ e=>.inl e)⟩
 ·exact bX (Nn (by rw[yP]) az) fun g' e=>same g' (h.pvD g' (by rw[hv];simpa[Value.ownBlock] using e))
 intro g' e
 exact h.ownM g' (by rw[hv];simpa[Value.ownBlock] using e)
theorem OE {kv':Value} {x:SetC} (h:RefAt w B D M st r) (hx:SetCM w M x) (az:w3.ownsRow B 26 13 kv' (r.K.length+1) (r.K.flatMap SetC.cells++x.cells)) (hg:w.grownBy w3 r.kv.ownBlock) (jA:∀ g,kv'.ownBlock=some g→r.kv.ownBlock=some g∨w.heap.size≤g) :
  RefAt (w3.setCell ⟨D,2,none⟩ kv') B D M { st with known:=st.known++[x.s] } { r with kv:=kv',K:=r.K++[x] }∧ChgR B D w (w3.setCell ⟨D,2,none⟩ kv'):=by
 have WN:some D≠r.kv.ownBlock:=fun e=>h.kvD D e.symm rfl
 have b3:Blk w3 D 49 #[r.sv,r.pv,r.kv,.int .i64 (st.work:Int)]:=h.blk.kept hg WN
 have b4:=b3.set_ 2 kv'
 have P5:=mU b3 az (by decide)
 have dK:w.heap.size≤(w3.setCell ⟨D,2,none⟩ kv').heap.size:=yH hg.size dR
 have same:∀ g,g<w.heap.size→g≠D→r.kv.ownBlock≠some g→(w3.setCell ⟨D,2,none⟩ kv').heap[g]? = w.heap[g]?:=fun g aw h1 h2=>
  (YC _ _ _ _ (by exact h1)).trans (hg.block g aw (fun e=>h2 e.symm))
 have hk:KeepM M w (w3.setCell ⟨D,2,none⟩ kv'):=⟨dK,fun g hm aw=>same g aw (fun e=>h.notM (e▸hm)) (fun e=>h.kownM g e hm)⟩
 refine⟨⟨b4,h.base,h.notM,fun g hm=>yK (h.lt g hm) dK,h.sets.kept hk,h.setsE,?_,h.ownM,fun q hq=>(h.past q hq).kept hk,h.pastE,?_,?_,?_,?_⟩,?_,?_⟩
 ·exact bX h.own fun g e=>same g (h.own.lt g e).2 (h.pvD g e) (h.pvkv g e)
 ·show World.ownsRow _ B _ 13 kv' (r.K++[x]).length ((r.K++[x]).flatMap SetC.cells)
  rw[yQ,List.flatMap_append,List.flatMap_cons,List.flatMap_nil,List.append_nil]
  exact bX az fun g e=>YC _ _ _ _ (by exact P5 g e)
 ·intro g e hm
  rcases jA g e with h1 | h1
  ·exact h.kownM g h1 hm
  have:=h.lt g hm
  omega
 ·intro c hc
  rcases List.mem_append.1 hc with hc | hc
  ·exact (h.ksets c hc).kept hk
  rw[List.mem_singleton] at hc
  subst hc
  exact hx.kept hk
 ·show (r.K++[x]).map SetC.s=st.known++[x.s]
  rw[yS,h.kE,List.map_cons,List.map_nil]
 ·exact ((yB B w).grown hg (yH h.base (YJ h.blk.lt)) (fun k e=>(h.kown.lt k e).1)).trans (oX b3 h.base)
 exact KeepR.of h.blk dK (fun g aw h1 _ h3=>same g aw h1 h3) b4 (fun _ e=>.inl e) jA
theorem R5 (n:Nat) (h:RefAt w B D M st r):RefAt (w.setCell ⟨D,3,none⟩ (.int .i64 (n:Int))) B D M { st with work:=n } r∧ChgR B D w (w.setCell ⟨D,3,none⟩ (.int .i64 (n:Int))):=by
 have b4:=h.blk.set_ 3 (.int .i64 (n:Int))
 have same:∀ g,g≠D→(w.setCell ⟨D,3,none⟩ (.int .i64 (n:Int))).heap[g]? = w.heap[g]?:=fun g h1=>YC _ _ _ _ (by exact h1)
 have hk:KeepM M w (w.setCell ⟨D,3,none⟩ (.int .i64 (n:Int))):=⟨dR,fun g hm _=>same g (fun e=>h.notM (e▸hm))⟩
 exact⟨⟨b4,h.base,h.notM,fun g hm=>yK (h.lt g hm) dR,h.sets.kept hk,h.setsE,bX h.own fun g e=>same g (h.pvD g e),h.ownM,fun q hq=>(h.past q hq).kept hk,h.pastE,bX h.kown fun g e=>same g (h.kvD g e),h.kownM,fun c hc=>(h.ksets c hc).kept hk,h.kE⟩,
  oX h.blk h.base,KeepR.of h.blk dR (fun g _ h1 _ _=>same g h1) b4 (fun _ e=>.inl e) (fun _ e=>.inl e)⟩
end
section
variable {P:Program} {ops:Array Oper} {W:World} {Φ:Nat→Option GPost}
theorem qs {K:Act→aV→Prop} {k:Nat} {o:Oper} {r:List Oper} {a:Act} {F:aV} (v:Value) (hw:Region.wanted o (yielded ops a.tmps)=true) (hΦ:Φ k=none) (fh:∀ w,(execOp a.eval o).run P w = .ok (.value v) w)
  (h:vU P ops W Φ K (k+1) r (a.put o.dst v) (jc F o.dst (known ops o F))):vU P ops W Φ K k (o::r) a F:=by
 show bU P ops W o (Φ k) _ a F
 unfold bU
 rw[if_pos hw,hΦ]
 refine⟨v,fun w hb=>?_,h⟩
 rw[fh w]
 exact⟨rfl,rfl⟩
end
def qxW (x:Value):GPost:=⟨fun v=>v=x,fun _ _=>True,⟨_,rfl⟩,fun _ _ _ _ h=>h,false⟩
theorem sY (v:Value) (l:List SetC) (nm:ByteArray) (w:World) (hl:SetsAt w w.heap.size v l) :
  Calls Tryz.prog 100 #[v,.string nm] w fun e w'=>e = .returned (.int .i64 (ff (l.findIdx? fun c=>decide (c.s.name=nm))))∧Below w.heap.size w w':=by
 obtain⟨A,c,rfl,gC,dr,ah⟩:=hl.open_
 unfold maxLen at dr
 have HC:=zh ah
 clear ah
 go_enter Tryz.func100,Tryz.ntmps100
 go_wp2_with fail
 go_loopw [5] (fun x wr=>∃ j:Nat,j≤l.length∧x = .int .i64 j∧(l.take j).findIdx? (fun c=>decide (c.s.name=nm))=none∧Below w.heap.size w wr) (fun x _=>l.length-(intOf x).toNat)
 case atStart=>exact⟨0,yI _,rfl,by simp,yB _ _⟩
 obtain⟨j,hj,rfl,gg,av⟩:=hrel
 have k0:(0:Int)≤(j:Int):=yE _
 have lp:=zh gg
 clear gg
 by_cases aw:j<l.length
 ·have k1:(j:Int)<(l.length:Int):=by omega
  obtain⟨b,off,rfl,hb,ah⟩:=HC.o j aw
  have y0:=(av.cell (p:=⟨b,off+j*13,none⟩) hb).trans (ah j aw 0 _ rfl)
  clear ah
  have BV:=zh (su (p:=fun c:SetC=>decide (c.s.name=nm)) lp.o aw)
  have pe:=zh (pN (p:=fun c:SetC=>decide (c.s.name=nm)) lp.o aw)
  generalize l[j]=t at *
  by_cases hq:t.s.name=nm
  ·have d0:(t.s.name.toList==nm.toList)=true:=by rw[dc];exact yD hq
   have HE:=zh (BV.o (yD hq))
   clear BV pe hq
   go_wp2_with fail
   go_ret
   exact⟨by rw[HE.o];rfl,av⟩
  have d0:(t.s.name.toList==nm.toList)=false:=by rw[dc];exact yC hq
  have HE:=zh (pe.o (yC hq))
  clear BV pe hq
  go_wp2_with fail
  go_roundw
  case rel=>exact⟨j+1,by omega,by go_num,HE.o,av⟩
  simp[intOf];omega
 have mQ:j=l.length:=by omega
 subst mQ
 go_wp2_with fail
 go_ret
 exact⟨by rw[← yT (l:=l),lp.o];rfl,av⟩
theorem Pr {L:List SetC} {K:List SetT} (h:L.map SetC.s=K) (x:SetT):(L.any fun c=>decide (c.s=x))=decide (x∈K):=by
 subst h
 rw[Bool.eq_iff_iff,List.any_eq_true,decide_eq_true_eq,List.mem_map]
 constructor
 ·rintro⟨c,hc,h⟩
  exact⟨c,hc,yG h⟩
 rintro⟨c,hc,h⟩
 exact⟨c,hc,yD h⟩
theorem qqw {l:List SetC} {p:SetC→Bool} {j:Nat} (hj:j<l.length) (h:p l[j]=true):l.any p=true:=List.any_eq_true.2 ⟨_,yV hj,h⟩
theorem XX {l:List SetC} {p:SetC→Bool} {j:Nat} (h0:(l.take j).any p=false) (hj:j<l.length) (h:p l[j]=false):(l.take (j+1)).any p=false:=by
 rw[aC _ j hj,List.any_append,h0]
 simp[h]
theorem RefAt.kat {w:World} {B D:Nat} {M:Nat→Prop} {st:St} {r:RefR} (h:RefAt w B D M st r):SetsAt w w.heap.size r.kv r.K:=Flat.of_own h.kown
theorem RefAt.sat {w:World} {B D:Nat} {M:Nat→Prop} {st:St} {r:RefR} (h:RefAt w B D M st r):SetsAt w w.heap.size r.sv r.L:=h.sets.at
theorem wu (B D:Nat) (M:Nat→Prop) (st:St) (r:RefR) (v:Value) (x:SetT) (w:World) (h:RefAt w B D M st r) (hv:SetAt w w.heap.size v x) :
  Calls Tryz.prog 102 #[.pointer (some ⟨D,0,none⟩),v] w fun e w'=>e = .returned (.bool (decide (x∈st.known)))∧Below w.heap.size w w':=by
 have HK:=zh (Pr h.kE x)
 obtain⟨A,cc,eA,gC,dr,ah⟩:=h.kat.open_
 have HC:=zh ah
 have HKs:=zh fun c (hc:c∈r.K) W (hb:Below w.heap.size w W)=>((h.ksets c hc).kept (KeepM.of_below hb)).set
 have HX:=zh fun W (hb:Below w.heap.size w W)=>(hv.below hb (yA _)).mono hb.size
 have Bv:=zh fun u1 u2 s t W h1 h2=>pB u1 u2 s t W h1 h2
 unfold maxLen at dr
 have hd:=h.blk.cell 2
 simp only[aP,aQ,aO] at hd
 rw[eA] at hd
 have Kc:=h.blk.lt
 obtain⟨Al,cl,Ai,ci,Ab,cb,rfl,-,-,-⟩:=hv
 clear h eA ah
 generalize r.K=L at *
 unfold aL at *
 have HB:=zh ((yB _ w).alloc (yA _) (.cells (zA x Al cl Ai ci Ab cb) 26))
 have HD:=zh (Blk.new w 26 (zA x Al cl Ai ci Ab cb))
 have Hd:=zh hd
 clear hd
 go_enter Tryz.func102,Tryz.ntmps102
 go_wp2_with fail
 generalize w.alloc (.cells (zA x Al cl Ai ci Ab cb) 26)=W1 at *
 go_loopw [5] (fun y wr=>∃ j:Nat,j≤L.length∧y = .int .i64 j∧Y0 ((L.take j).any (fun c=>decide (c.s=x))=false)∧Y0 (Below w.heap.size w wr)∧Y0 (Blk wr w.heap.size 26 (zA x Al cl Ai ci Ab cb))) (fun y _=>L.length-(intOf y).toNat)
 case atStart=>exact⟨0,yI _,rfl,rfl,HB,HD⟩
 clear HB HD
 obtain⟨j,hj,rfl,Hno,HB,HD⟩:=hrel
 have k0:(0:Int)≤(j:Int):=yE _
 have hd:=(HB.o.cell (p:=⟨D,2,none⟩) Kc).trans Hd.o
 by_cases aw:j<L.length
 ·have k1:(j:Int)<(L.length:Int):=by omega
  have Cz:(j:Int).toNat<L.length:=by omega
  obtain⟨b,off,rfl,hb,ah⟩:=HC.o j aw
  have y0:=(HB.o.cell (p:=⟨b,off+j*13,none⟩) hb).trans (ah j aw 0 _ rfl)
  have y1:=(HB.o.cell (p:=⟨b,off+j*13+1,none⟩) hb).trans (ah j aw 1 _ rfl)
  have y2:=(HB.o.cell (p:=⟨b,off+j*13+2,none⟩) hb).trans (ah j aw 2 _ rfl)
  have y3:=(HB.o.cell (p:=⟨b,off+j*13+3,none⟩) hb).trans (ah j aw 3 _ rfl)
  have y4:=(HB.o.cell (p:=⟨b,off+j*13+4,none⟩) hb).trans (ah j aw 4 _ rfl)
  have y5:=(HB.o.cell (p:=⟨b,off+j*13+5,none⟩) hb).trans (ah j aw 5 _ rfl)
  have y6:=(HB.o.cell (p:=⟨b,off+j*13+6,none⟩) hb).trans (ah j aw 6 _ rfl)
  have y7:=(HB.o.cell (p:=⟨b,off+j*13+7,none⟩) hb).trans (ah j aw 7 _ rfl)
  have y8:=(HB.o.cell (p:=⟨b,off+j*13+8,none⟩) hb).trans (ah j aw 8 _ rfl)
  have y9:=(HB.o.cell (p:=⟨b,off+j*13+9,none⟩) hb).trans (ah j aw 9 _ rfl)
  have lM:=(HB.o.cell (p:=⟨b,off+j*13+10,none⟩) hb).trans (ah j aw 10 _ rfl)
  have iY:=(HB.o.cell (p:=⟨b,off+j*13+11,none⟩) hb).trans (ah j aw 11 _ rfl)
  have iG:=(HB.o.cell (p:=⟨b,off+j*13+12,none⟩) hb).trans (ah j aw 12 _ rfl)
  have HKj:=zh fun W hb=>HKs.o L[j] (yV aw) W hb
  have BV:=zh (qqw (p:=fun c:SetC=>decide (c.s=x)) aw)
  have pe:=zh (XX (p:=fun c:SetC=>decide (c.s=x)) Hno.o aw)
  clear ah
  generalize L[j]=c at *
  obtain⟨z0,z1,z2,z3,z4,z5,z6,z7,z8,z9,jg,fc,gU⟩:=HD.o.c13
  have rj:=YL y0
  have ri:=YL y1
  have rh:=YL y2
  have rf:=YL y3
  have YP:=YL y4
  have uy5:=YL y5
  have uy6:=YL y6
  have uy7:=YL y7
  have uy8:=YL y8
  have uy9:=YL y9
  have qzF:=YL lM
  have qzE:=YL iY
  have qzD:=YL iG
  have MN:=YL z0
  have uz1:=YL z1
  have uz2:=YL z2
  have uz3:=YL z3
  have uz4:=YL z4
  have uz5:=YL z5
  have uz6:=YL z6
  have uz7:=YL z7
  have uz8:=YL z8
  have uz9:=YL z9
  have qzC:=YL jg
  have qzB:=YL fc
  have qzA:=YL gU
  clear y0 y1 y2 y3 y4 y5 y6 y7 y8 y9 lM iY iG z0 z1 z2 z3 z4 z5 z6 z7 z8 z9 jg fc gU
  have ud:=YL hd
  go_upto_region 4 with fail
  clear hd
  refine ag 8 (fun _=>none) (by kernel_rfl) (by kernel_rfl) ?_
  simp only[aU,aT,aW,aX]
  refine ae 1 (by kernel_rfl) (by rfl) (by decide) ?_
  simp only[aU,aT,aW,aX]
  repeat (go_big_quiet_step (fail))
  refine YH ?_
  refine qs (.pointer (some ⟨D,0,none⟩)) rfl rfl (fun w=>by go_simp) ?_
  simp only[Act.put,aJ,aI,aH]
  refine ae 6 (by kernel_rfl) (by rfl) (by decide) ?_
  simp only[aU,aT,aW,aX]
  repeat (go_big_quiet_step (fail))
  refine YH ?_
  refine Zc ?_
  intro w8 aM _
  have dP:=zh (HB.o.trans (aM.mono HB.o.size))
  have bj:=zh (HD.o.below aM HD.o.lt)
  have eo:=Bv.o _ _ c.s x w8 (HKj.o w8 dP.o) (HX.o w8 dP.o)
  unfold SetC.val aL at eo
  clear aM rj ri rh rf YP uy5 uy6 uy7 uy8 uy9 qzF qzE qzD MN uz1 uz2 uz3 uz4 uz5 uz6 uz7 uz8 uz9 qzC qzB qzA ud
  go_wp2_with fail
  refine eo.mono ?_
  rintro e w9 ⟨rfl,ja⟩
  have lJ:=zh (dP.o.trans (ja.mono dP.o.size))
  have vN:=zh (bj.o.below ja bj.o.lt)
  clear eo ja dP bj HB HD HKj
  cases hq:decide (c.s=x)
  case true=>
   have HE:=zh (BV.o hq)
   clear BV pe hq
   go_wp2_with fail
   go_ret
   exact⟨Ze (by rw[← HK.o,HE.o]),lJ.o⟩
  have HE:=zh (pe.o hq)
  clear BV pe hq
  go_wp2_with fail
  go_roundw
  case rel=>exact⟨j+1,by omega,by go_num,HE,lJ,vN⟩
  simp[intOf];omega
 have mQ:j=L.length:=by omega
 subst mQ
 rw[yT] at Hno
 go_wp2_with fail
 go_ret
 exact⟨Ze (by rw[← HK.o,Hno.o]),HB.o⟩
theorem K6 (B D:Nat) (M:Nat→Prop) (st:St) (r:RefR) (w:World) (h:RefAt w B D M st r) (aK:StOk st) :
  Calls Tryz.prog 62 #[.pointer (some ⟨D,0,none⟩)] w (DW st w):=by
 obtain⟨A,cc,eA,gC,dr,ah⟩:=h.sat.open_
 unfold maxLen at dr
 have hd:=h.blk.cell 0
 simp only[aP,aO] at hd
 rw[eA] at hd
 have hl:=h.blk.lt
 have HC:=zh ah
 have bL:st.sets.length=r.L.length:=by rw[← h.setsE,yP]
 have PN:=aK.len
 have tU:=zh bL
 have HNL:Y0 (st.sets.map SetT.name=r.L.map fun c=>c.s.name):=by unfold Y0;rw[← h.setsE,List.map_map];rfl
 clear ah h aK eA
 have qkT:r.L.length≤60:=by omega
 clear bL PN
 generalize r.L=L at *
 have Hd:=zh hd
 clear hd
 go_enter Tryz.func62,Tryz.ntmps62
 go_wp2_with fail
 go_loopw [3,4] (fun o ix wr=>∃ k:Nat,k≤L.length∧ix = .int .i64 k∧Below w.heap.size w wr∧wr.ownsRow w.heap.size 9 1 o k (((L.take k).map fun c=>c.s.name).map Value.string)) (fun _ ix _=>L.length-(intOf ix).toNat)
 case atStart=>exact⟨0,yI _,rfl,yB _ _,yJ _ _ _ _⟩
 obtain⟨k,hk,rfl,av,az⟩:=hrel
 have k0:(0:Int)≤(k:Int):=yE _
 have hd:=(av.cell (p:=⟨D,0,none⟩) hl).trans Hd.o
 by_cases aB:k<L.length
 ·have k1:(k:Int)<(L.length:Int):=by omega
  obtain⟨b1,o1,rfl,ao,hx⟩:=HC.o k aB
  have hy:=hx k aB
  have y0:=(av.cell (p:=⟨b1,o1+k*13,none⟩) ao).trans (hy 0 _ rfl)
  have HN:Y0 ((L.take (k+1)).map (fun c=>c.s.name)=(L.take k).map (fun c=>c.s.name)++[L[k].s.name]):=by unfold Y0;rw[aC _ k aB,List.map_append];rfl
  have dK:=av.size
  clear hx hy
  generalize L[k]=c at *
  go_wp2_with (at_builtin;refine cA _ rfl (.tmp 14) (.tmp 23) 68 rfl w.heap.size 9 mc Tryz.underlying68 rfl _ k _ rfl az (.string c.s.name) rfl rfl (by unfold maxLen;omega) (by omega) (by omega) ?_;intro g3 bF w3 jN fW vB jA)
  have bh:w3.ownsRow w.heap.size 9 1 (.slice (some ⟨g3,0,none⟩) (k+1) bF) (k+1) (((L.take (k+1)).map fun c=>c.s.name).map Value.string):=by rw[HN.o,yS];exact jN
  have cO:=av.grown fW av.size (fun k hk=>(az.lt k hk).1)
  clear jN fW jA az HN y0 av
  go_roundw
  case rel=>exact⟨k+1,by omega,by go_num,cO,bh⟩
  simp[intOf];omega
 obtain rfl:k=L.length:=by omega
 rw[yT] at az
 go_wp2_with fail
 go_ret
 exact⟨av,_,rfl,by rw[HNL.o,tU.o];exact az⟩
theorem wy (B D:Nat) (M:Nat→Prop) (st:St) (r:RefR) (nm:ByteArray) (w:World) (h:RefAt w B D M st r) (aK:StOk st) :
  Calls Tryz.prog 63 #[.pointer (some ⟨D,0,none⟩),.string nm] w (vO st nm w):=by
 have bZ:=zh ((yB _ w).alloc (yA _) (.cells zE 26))
 have h1:=h.below bZ.o
 have hF:=sY r.sv r.L nm _ h1.sat
 rw[me,h1.setsE] at hF
 obtain⟨A,cc,eA,gC,dr,ah⟩:=h1.sat.open_
 unfold maxLen at dr
 have hd:=h1.blk.cell 0
 simp only[aP,aO] at hd
 rw[eA] at hd hF
 have Kc:=h1.blk.lt
 have HC:=zh ah
 have nw:=zh (Blk.new w 26 zE)
 have Yn:=zh h1.setsE
 have HCM:=zh fun c (hc:c∈r.L) W (hb:Below (w.alloc (.cells zE 26)).heap.size (w.alloc (.cells zE 26)) W)=>((h1.sets.2 c hc).kept (KeepM.of_below hb)).set
 have Fw:=zh aK
 clear h h1 aK eA ah
 generalize r.L=L at *
 go_enter Tryz.func63,Tryz.ntmps63
 go_wp2_with fail
 generalize w.alloc (.cells zE 26)=W1 at *
 refine hF.mono ?_
 rintro e w2 ⟨rfl,bE⟩
 have ia:=zh (nw.o.below bE nw.o.lt)
 have bK:=zh (bZ.o.trans (bE.mono bZ.o.size))
 have hwl:=bZ.o.size
 have Hd:=zh ((bE.cell (p:=⟨D,0,none⟩) Kc).trans hd)
 have sQ:=zh bE
 clear hF nw bZ hd bE
 cases hi:fG st.sets nm with
 | none=>
  have HG:Y0 (qa st nm=(dV,9)):=by unfold Y0 qa;rw[hi]
  clear hi Hd HC Yn HCM Fw sQ
  have HT:=zh ia.o
  have HB:=zh bK.o
  simp only[ff]
  go_upto_region 3 with fail
  iterate 4 (first | go_values | go_skip | go_guarded | go_step | go_upon)
  have oH:World.there w2 (w.heap.size) 0 13:=fk HT.o rfl
  have ql:=zh oH
  have HR:=zh (World.rangeAt_setCells_same w2 (w.heap.size) 0 zF oH)
  have jf:=bI (w.heap.size) zF 0 w2
  have uZ:=zh (HB.o.grown jf HB.o.size (fun k e=>by have e1:w.heap.size=k:=(by simpa using e);omega))
  clear oH jf
  refine wpList_store_mid rfl 26 (.tmp 4) (.tmp 15) rfl (w.heap.size) 0 zE rfl rfl ql.o (by kernel_rfl) (by simp[Value.oneCell']) ?_
  simp only[Act.put]
  clear ql
  have p0:=HR.o 0 _ rfl
  have p1:=HR.o 1 _ rfl
  have p2:=HR.o 2 _ rfl
  have p3:=HR.o 3 _ rfl
  have p4:=HR.o 4 _ rfl
  have p5:=HR.o 5 _ rfl
  have p6:=HR.o 6 _ rfl
  have p7:=HR.o 7 _ rfl
  have p8:=HR.o 8 _ rfl
  have p9:=HR.o 9 _ rfl
  have rO:=HR.o 10 _ rfl
  have rN:=HR.o 11 _ rfl
  have uv:=HR.o 12 _ rfl
  simp only[Nat.zero_add] at p0 p1 p2 p3 p4 p5 p6 p7 p8 p9 rO rN uv
  generalize World.setCells w2 (w.heap.size) 0 zF=W9 at *
  clear HR
  go_wp2_with fail
  refine YI (v:=.tuple #[.agg zE,.int .i64 9]) (by simp[results,Tryz.results63,go_sem,p0,p1,p2,p3,p4,p5,p6,p7,p8,p9,rO,rN,uv]) rfl ?_
  exact⟨uZ.o,nE,by rw[HG.o];rfl,by rw[HG.o];rfl,by unfold nE;exact⟨World.ownsRow_nil _ _ _ _,World.ownsRow_nil _ _ _ _,World.ownsRow_nil _ _ _ _⟩⟩
 | some k=>
  obtain⟨hks,-,-⟩:=mf hi
  have hk:k<L.length:=by rw[← Yn.o,yP] at hks;exact hks
  have e1:st.sets[k]? = some L[k].s:=by rw[← Yn.o,YD,yM hk];rfl
  have HG:Y0 (qa st nm=(L[k].s,0)):=by unfold Y0 qa;rw[hi];simp[e1]
  have hv:=Fw.o.sets _ (List.mem_of_getElem? e1)
  have LM:=kU hv
  have Ja:=HCM.o L[k] (yV hk) w2 sQ.o
  have k0:(0:Int)≤(k:Int):=yE _
  have k1:(k:Int)<(L.length:Int):=by omega
  have d0:decide ((k:Int)<0)=false:=yC (by omega)
  obtain⟨b1,o1,rfl,ao,hx⟩:=HC.o k hk
  have hy:=hx k hk
  have y0:=(sQ.o.cell (p:=⟨b1,o1+k*13,none⟩) ao).trans (hy 0 _ rfl)
  have y1:=(sQ.o.cell (p:=⟨b1,o1+k*13+1,none⟩) ao).trans (hy 1 _ rfl)
  have y2:=(sQ.o.cell (p:=⟨b1,o1+k*13+2,none⟩) ao).trans (hy 2 _ rfl)
  have y3:=(sQ.o.cell (p:=⟨b1,o1+k*13+3,none⟩) ao).trans (hy 3 _ rfl)
  have y4:=(sQ.o.cell (p:=⟨b1,o1+k*13+4,none⟩) ao).trans (hy 4 _ rfl)
  have y5:=(sQ.o.cell (p:=⟨b1,o1+k*13+5,none⟩) ao).trans (hy 5 _ rfl)
  have y6:=(sQ.o.cell (p:=⟨b1,o1+k*13+6,none⟩) ao).trans (hy 6 _ rfl)
  have y7:=(sQ.o.cell (p:=⟨b1,o1+k*13+7,none⟩) ao).trans (hy 7 _ rfl)
  have y8:=(sQ.o.cell (p:=⟨b1,o1+k*13+8,none⟩) ao).trans (hy 8 _ rfl)
  have y9:=(sQ.o.cell (p:=⟨b1,o1+k*13+9,none⟩) ao).trans (hy 9 _ rfl)
  have lM:=(sQ.o.cell (p:=⟨b1,o1+k*13+10,none⟩) ao).trans (hy 10 _ rfl)
  have iY:=(sQ.o.cell (p:=⟨b1,o1+k*13+11,none⟩) ao).trans (hy 11 _ rfl)
  have iG:=(sQ.o.cell (p:=⟨b1,o1+k*13+12,none⟩) ao).trans (hy 12 _ rfl)
  clear hx hy hv HC Yn HCM Fw sQ hks e1 hi
  have hd:=Hd.o
  generalize L[k]=c at *
  obtain⟨x,al,cl,ai,ci,ab,cb⟩:=c
  simp only at LM HG y0 y1 y2 y3 y4 y5 y6 y7 y8 y9 lM iY iG
  change SetAt w2 w2.heap.size (aL x al cl ai ci ab cb) x at Ja
  have hCo:=sZ _ x w2 Ja LM.1 LM.2.1 LM.2.2
  simp only[ff]
  unfold aL at *
  clear Ja LM
  go_wp2_with fail
  refine hCo.mono ?_
  rintro e w4 ⟨cD,A1,k3,A2,k4,A3,k5,rfl,o1,o2,o3⟩
  have HT:=zh (ia.o.below cD ia.o.lt)
  have HB:=zh (bK.o.trans (cD.mono bK.o.size))
  have dK:=bK.o.size
  clear ia bK cD hCo hd Hd y0 y1 y2 y3 y4 y5 y6 y7 y8 y9 lM iY iG
  unfold aL
  dsimp only
  iterate 1 (first | go_values | go_skip | go_guarded | go_step | go_upon)
  have oH:World.there w4 (w.heap.size) 0 13:=fk HT.o rfl
  have ql:=zh oH
  have HR:=zh (World.rangeAt_setCells_same w4 (w.heap.size) 0 (zB x A1 k3 A2 k4 A3 k5) oH)
  have jf:=bI (w.heap.size) (zB x A1 k3 A2 k4 A3 k5) 0 w4
  have uZ:=zh (HB.o.grown jf HB.o.size (fun k e=>by have e1:w.heap.size=k:=(by simpa using e);omega))
  have R1:=zh (o1.kept jf (cQ o1 HT.o (by decide)))
  have R2:=zh (o2.kept jf (cQ o2 HT.o (by decide)))
  have R3:=zh (o3.kept jf (cQ o3 HT.o (by decide)))
  clear o1 o2 o3
  clear oH jf
  refine wpList_store_mid rfl 26 (.tmp 4) (.tmp 23) rfl (w.heap.size) 0 (zA x A1 k3 A2 k4 A3 k5) rfl rfl ql.o (by kernel_rfl) (by simp[Value.oneCell']) ?_
  simp only[Act.put]
  clear ql
  have p0:=HR.o 0 _ rfl
  have p1:=HR.o 1 _ rfl
  have p2:=HR.o 2 _ rfl
  have p3:=HR.o 3 _ rfl
  have p4:=HR.o 4 _ rfl
  have p5:=HR.o 5 _ rfl
  have p6:=HR.o 6 _ rfl
  have p7:=HR.o 7 _ rfl
  have p8:=HR.o 8 _ rfl
  have p9:=HR.o 9 _ rfl
  have rO:=HR.o 10 _ rfl
  have rN:=HR.o 11 _ rfl
  have uv:=HR.o 12 _ rfl
  simp only[Nat.zero_add] at p0 p1 p2 p3 p4 p5 p6 p7 p8 p9 rO rN uv
  generalize World.setCells w4 (w.heap.size) 0 (zB x A1 k3 A2 k4 A3 k5)=W9 at *
  clear HR
  go_wp2_with fail
  refine YI (v:=.tuple #[.agg (zA x A1 k3 A2 k4 A3 k5),.int .i64 0]) (by simp[results,Tryz.results63,go_sem,p0,p1,p2,p3,p4,p5,p6,p7,p8,p9,rO,rN,uv]) rfl ?_
  exact⟨uZ.o,⟨x,A1,k3,A2,k4,A3,k5⟩,by rw[HG.o];rfl,by rw[HG.o],bo R1.o dK,bo R2.o dK,bo R3.o dK⟩
end Go.Proofs.YtfhmbechennkbaaGreatDoor
