/- Lemmas. -/
import Derived.Test.YtknkhnahflmjiaaGreatDoorV5
namespace Go.Proofs.YtknkhnahflmjiaaGreatDoor
open Go.RowKit Go.Shelf
def fw (a:FrT) (m:Int):Int:=if aj a=true then (if 1≤m∧m≤67108864∧0≤a.num then (if a.num=0 then 16 else 0) else 2) else 1
def fu (a:FrT) (m:Int):Value:=if fw a m=0 then bQ (aU ⟨m,1⟩/aU a) else .tuple #[.agg #[.int .i64 0,.int .i64 0],.int .i64 (fw a m)]
theorem Aw {a:FrT} {m:Int} (h:fw a m=0):aj a=true∧0<a.num∧1≤m∧m≤67108864:=by
 unfold fw at h;split at h
 ·rename_i h1
  split at h
  ·rename_i h2
   split at h
   ·cases h
   rename_i h3
   exact⟨h1,by omega,h2.1,h2.2.1⟩
  cases h
 cases h
