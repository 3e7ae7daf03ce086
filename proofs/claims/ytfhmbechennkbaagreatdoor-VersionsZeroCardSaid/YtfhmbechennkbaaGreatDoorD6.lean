/- Lemmas. -/
import Derived.Test.YtfhmbechennkbaaGreatDoorD5
namespace Go.Proofs.YtfhmbechennkbaaGreatDoor
open Go.RowKit Go.Shelf
theorem Xk (l:List FindT) (j i:Nat) (hj:j<l.length) (hi:i<2):(l.flatMap FindT.cells)[j*2+i]? = l[j].cells[i]?:=fC FindT.cells 2 (fun _=>rfl) l j i hj hi
theorem FindsAt.open_ {w:World} {B:Nat} {v:Value} {l:List FindT} (h:FindsAt w B v l) :
  ∃ A c,v = .slice A l.length c∧l.length≤c∧c≤maxLen∧∀ k (_:k<l.length),∃ b off,A=some ⟨b,off,none⟩∧b<B∧∀ j (hj:j<l.length),w.cell? ⟨b,off+j*2,none⟩=some (.int .i64 l[j].kind)∧w.cell? ⟨b,off+j*2+1,none⟩=some (.string l[j].name):=by
 obtain⟨A,c,h1,h2,h3,h4⟩:=h
 refine⟨A,c,h1,h2,h3,fun k hk=>?_⟩
 obtain⟨b,off,e,aw,hc⟩:=h4 (by omega)
 refine⟨b,off,e,aw,fun j hj=>?_⟩
 have f:=fun (i:Nat) (hi:i<2) u (hu:l[j].cells[i]? = some u)=>hc (j*2+i) u ((Xk l j i hj hi).trans hu)
 have g:=fun (i:Nat) (hi:i<2) u (hu:l[j].cells[i]? = some u)=>(congrArg (fun o=>w.cell? ⟨b,o,none⟩) (Nat.add_assoc off (j*2) i)).trans (f i hi u hu)
 exact⟨g 0 (by omega) _ rfl,g 1 (by omega) _ rfl⟩
theorem FindsAt.below {w w':World} {B B':Nat} {v:Value} {l:List FindT} (h:FindsAt w B v l) (hb:Below B' w w') (hB:B≤B'):FindsAt w' B v l:=Flat.below h hb hB
theorem FindsAt.mono {w:World} {B B':Nat} {v:Value} {l:List FindT} (h:FindsAt w B v l) (hB:B≤B'):FindsAt w B' v l:=Flat.mono h hB
end Go.Proofs.YtfhmbechennkbaaGreatDoor
