/- Parts of the proof, laid into one text: BestN. -/
import Derived.Test.YtfhmbechennkbaaGreatG3
namespace Go.Proofs.YtfhmbechennkbaaGreat
open Go.RowKit Go.Shelf
noncomputable def pathN (l:List Task):Int:=Classical.epsilon fun L => ∃ y,Covers l [l.length] L y
noncomputable def cliqueN (l:List Task) (c p:Int):Int:=Classical.epsilon fun L => ∃ s,Heavy l c p (2 ^ l.length) L s
noncomputable def bestN (l:List Task) (c p:Int):Int:=max3 (workN l c p) (pathN l) (cliqueN l c p)
theorem pathN_eq {l:List Task} {L:Int} {y:List Nat} (h:Covers l [l.length] L y):pathN l=L:=by
 obtain ⟨y',h'⟩:=Classical.epsilon_spec (p:=fun L => ∃ y,Covers l [l.length] L y) ⟨L,y,h⟩
 exact (h'.uniq h).1
theorem cliqueN_eq {l:List Task} {c p L:Int} {s:Nat} (h:Heavy l c p (2 ^ l.length) L s):cliqueN l c p=L:=by
 obtain ⟨s',h'⟩:=Classical.epsilon_spec (p:=fun L => ∃ s,Heavy l c p (2 ^ l.length) L s) ⟨L,s,h⟩
 exact (h'.uniq h).1
theorem bestCall (v:Value) (l:List Task) (c p:Int) (w:World) (hl:TasksAt w w.heap.size v l) :
  Calls Tryz.prog 23 #[v,.int .i64 c,.int .i64 p] w fun e w' => e = .returned (.tuple #[.int .i64 (if givenN l c p=0 then bestN l c p else 0),.int .i64 (givenN l c p)])∧Below w.heap.size w w' :=
 (boundsBest v l c p w hl).mono fun e w' h => by
  obtain ⟨hb,⟨hno,rfl⟩ | ⟨hz,L,K,y,s,hc,hh,rfl⟩⟩:=h
  ·rw [if_neg hno]
   exact ⟨rfl,hb⟩
  ·rw [if_pos hz,hz]
   unfold bestN
   rw [pathN_eq hc,cliqueN_eq hh]
   exact ⟨rfl,hb⟩
theorem bestNo (v:Value) (l:List Task) (c p:Int) (w:World) (hl:TasksAt w w.heap.size v l) (hg:givenN l c p≠0) :
  Calls Tryz.prog 23 #[v,.int .i64 c,.int .i64 p] w fun e w' => e = .returned (.tuple #[.int .i64 0,.int .i64 (givenN l c p)])∧Below w.heap.size w w':=by
 have:=bestCall v l c p w hl
 rw [if_neg hg] at this
 exact this
end Go.Proofs.YtfhmbechennkbaaGreat
