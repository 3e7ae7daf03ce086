/- Lemmas. -/
import Derived.Deep.Cut
import Derived.Test.YtfhmbechennkbaaGreatDoorD4
namespace Go.Proofs.YtfhmbechennkbaaGreatDoor
set_option maxRecDepth 100000
set_option maxHeartbeats 40000000
open Go.RowKit Go.Shelf
theorem d9 {α:Type} (f:α→List Value) (k:Nat) (hf:∀ x,(f x).length=k) (l:List α):(l.flatMap f).length=l.length*k:=by
 induction l with
 | nil=>simp
 | cons t l ih=>rw[List.flatMap_cons,yQ,ih,hf,List.length_cons,Nat.succ_mul];omega
theorem uG (l:List ItemT):∀ u∈l.flatMap ItemT.cells,u.oneCell'=true:=fun u hu=>by
 obtain⟨x,_,hx⟩:=List.mem_flatMap.1 hu
 simp only[ItemT.cells,List.mem_cons,List.not_mem_nil,or_false] at hx
 rcases hx with rfl | rfl | rfl | rfl | rfl | rfl | rfl <;> rfl
theorem sj (l:List BrickT):∀ u∈l.flatMap BrickT.cells,u.oneCell'=true:=fun u hu=>by
 obtain⟨x,_,hx⟩:=List.mem_flatMap.1 hu
 simp only[BrickT.cells,List.mem_cons,List.not_mem_nil,or_false] at hx
 rcases hx with rfl | rfl | rfl <;> rfl
theorem Dq:(Tryz.prog.info? 118).map (fun i=>(i.zero,i.size,i.bytes))=some (some (.agg #[.string ⟨#[]⟩,.int .i64 0,.int .i64 0,.int .i64 0,.int .i64 0,.int .i64 0,.int .i64 0]),7,64):=by kernel_rfl
theorem Bb:(Tryz.prog.info? 87).map (fun i=>(i.zero,i.size,i.bytes))=some (some (.agg #[.string ⟨#[]⟩,.int .i64 0,.int .i64 0]),3,32):=by kernel_rfl
theorem Qa (v:Value) (l:List ItemT) (w:World) (hl:ItemsAt w w.heap.size v l) (bL:l.length≤1000000) :
  Calls Tryz.prog 104 #[v] w fun e w'=>∃ v',e = .returned v'∧w'.ownsRow w.heap.size 118 7 v' l.length (l.flatMap ItemT.cells)∧Below w.heap.size w w':=by
 have HL:=zh hl
 obtain⟨A,c,rfl,gC,dr,ah⟩:=hl.open_
 clear hl
 cases A with
 | none=>
  have Dw:l=[]:=by
   cases l with
   | nil=>rfl
   | cons x r=>obtain⟨b,off,e,_⟩:=ah 0 (by simp);cases e
  subst Dw
  have heq:=fun W=>Lib.run_eql_slice_nil (P:=Tryz.prog) W 23 118 none 0 c 0 0 Tryz.underlying23
  clear ah
  go_enter Tryz.func104,Tryz.ntmps104
  go_wp2
  go_ret
  exact⟨_,rfl,yJ _ _ _ _,yB _ _⟩
 | some ad=>
  have heq:=fun W=>Lib.run_eql_slice_nil (P:=Tryz.prog) W 23 118 (some ad) l.length c 0 0 Tryz.underlying23
  clear ah
  go_enter Tryz.func104,Tryz.ntmps104
  go_wp2_with (at_builtin;refine bJ _ rfl (.tmp 5) (.tmp 6) 23 rfl w.heap.size 118 Dq Tryz.underlying23 rfl (by decide) (.slice (some ⟨w.heap.size,0,none⟩) 0 0) 0 [] rfl (World.ownsRow_made w #[] 0 (yA _) (yI _) rfl) w.heap.size l.length (.slice (some ad) l.length c) (l.flatMap ItemT.cells) rfl (ItemsAt.below HL.o ((yB _ _).alloc (yA _) _) (yA _)) (d9 ItemT.cells 7 (fun _=>rfl) l) (uG l) (by unfold maxLen;omega) (by omega) (by simp) ?_;intro v1 w1 dG Bm Cy)
  go_ret
  refine⟨_,rfl,by simpa using dG,?_⟩
  exact ((yB w.heap.size w).alloc (yA _) _).grown Bm (by simp) (fun k hk=>by simp[Value.ownBlock] at hk;omega)
theorem Ml (v:Value) (l:List BrickT) (w:World) (hl:BricksAt w w.heap.size v l) (bL:l.length≤1000000) :
  Calls Tryz.prog 105 #[v] w fun e w'=>∃ v',e = .returned v'∧w'.ownsRow w.heap.size 87 3 v' l.length (l.flatMap BrickT.cells)∧Below w.heap.size w w':=by
 have HL:=zh hl
 obtain⟨A,c,rfl,gC,dr,ah⟩:=hl.open_
 clear hl
 cases A with
 | none=>
  have Dw:l=[]:=by
   cases l with
   | nil=>rfl
   | cons x r=>obtain⟨b,off,e,_⟩:=ah 0 (by simp);cases e
  subst Dw
  have heq:=fun W=>Lib.run_eql_slice_nil (P:=Tryz.prog) W 24 87 none 0 c 0 0 Tryz.underlying24
  clear ah
  go_enter Tryz.func105,Tryz.ntmps105
  go_wp2
  go_ret
  exact⟨_,rfl,yJ _ _ _ _,yB _ _⟩
 | some ad=>
  have heq:=fun W=>Lib.run_eql_slice_nil (P:=Tryz.prog) W 24 87 (some ad) l.length c 0 0 Tryz.underlying24
  clear ah
  go_enter Tryz.func105,Tryz.ntmps105
  go_wp2_with (at_builtin;refine bJ _ rfl (.tmp 5) (.tmp 6) 24 rfl w.heap.size 87 Bb Tryz.underlying24 rfl (by decide) (.slice (some ⟨w.heap.size,0,none⟩) 0 0) 0 [] rfl (World.ownsRow_made w #[] 0 (yA _) (yI _) rfl) w.heap.size l.length (.slice (some ad) l.length c) (l.flatMap BrickT.cells) rfl (BricksAt.below HL.o ((yB _ _).alloc (yA _) _) (yA _)) (d9 BrickT.cells 3 (fun _=>rfl) l) (sj l) (by unfold maxLen;omega) (by omega) (by simp) ?_;intro v1 w1 dG Bm Cy)
  go_ret
  refine⟨_,rfl,by simpa using dG,?_⟩
  exact ((yB w.heap.size w).alloc (yA _) _).grown Bm (by simp) (fun k hk=>by simp[Value.ownBlock] at hk;omega)
def vd (B:Nat) (t:TypeId) (k n:Nat) (xs:List Value):GPost:=⟨fun v=>∃ A c,v = .slice A n c,fun v w=>w.ownsRow B t k v n xs,⟨_,none,0,rfl⟩,fun _ _ _ hb h=>kS h hb,false⟩
theorem CP {f:FuncId} {args:Array Value} {w:World} {t:TypeId} {k n B:Nat} {xs:List Value} (h:Calls Tryz.prog f args w fun e w'=>∃ v',e = .returned v'∧w'.ownsRow w.heap.size t k v' n xs∧Below w.heap.size w w') (hB:B≤w.heap.size) :
  Calls Tryz.prog f args w fun e w'=>∃ u,e = .returned u∧Below w.heap.size w w'∧(vd B t k n xs).σ u∧(vd B t k n xs).φ u w' :=
 h.mono fun _ _ ⟨u,he,hO,hb⟩=>⟨u,he,hb,(by obtain⟨A,c,h⟩:=bD hO;exact⟨A,c,h⟩),bo hO hB⟩
theorem bI (g:Nat):∀ (vs:List Value) (o:Nat) (w:World),w.grownBy (w.setCells g o vs) (some g)
 | [],_,w=>World.grownBy.refl w _
 | v::vs,o,w=>cg (aY w g o v) (bI g vs (o+1) _)
theorem DO {w:World} {g:Nat} {t:TypeId} {cs:List Value} (h:Blk w g t cs.toArray):w.rangeAt g 0 cs:=fun j v hv=>by
 rw[yR,h.cell,List.getElem?_toArray]
 exact hv
theorem fk {w:World} {g n:Nat} {t:TypeId} {cs:Array Value} (h:Blk w g t cs) (hn:cs.size=n):w.there g 0 n:=fun j hj=>by
 rw[yR]
 refine⟨?_,h.frozen j⟩
 rw[h.cell,Array.getElem?_eq_getElem (by omega)]
 rfl
def JV (s:SetT) (w:World) (e:Ending) (w':World):Prop :=
 Below w.heap.size w w'∧∃ Al cl Ai ci Ab cb,e = .returned (aL s Al cl Ai ci Ab cb)∧w'.ownsRow w.heap.size 3 1 (.slice Al s.lines.length cl) s.lines.length (s.lines.map (Value.int .i64)) ∧
  w'.ownsRow w.heap.size 118 7 (.slice Ai s.items.length ci) s.items.length (s.items.flatMap ItemT.cells)∧w'.ownsRow w.heap.size 87 3 (.slice Ab s.bricks.length cb) s.bricks.length (s.bricks.flatMap BrickT.cells)
theorem cQ {w:World} {B e s n g:Nat} {v:Value} {L:List Value} {t:TypeId} {cs:Array Value} (h:w.ownsRow B e s v n L) (hb:Blk w g t cs) (ht:t≠e):v.ownBlock=none∨v.ownBlock≠some g:=by
 rcases h.2 with⟨rfl,_⟩ | ⟨g',cap,cur,rfl,_,hg,_⟩
 ·exact .inl rfl
 refine .inr fun e'=>?_
 obtain rfl:g'=g:=by simpa[Value.ownBlock] using e'
 unfold Blk at hb
 rw[hg] at hb
 injection hb with hb
 injection hb with _ hb _
 exact ht hb.symm
end Go.Proofs.YtfhmbechennkbaaGreatDoor
