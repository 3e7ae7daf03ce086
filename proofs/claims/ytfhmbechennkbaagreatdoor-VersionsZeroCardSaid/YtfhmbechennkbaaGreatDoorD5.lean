/- Lemmas. -/
import Derived.Shelf.Bits.Mul64
import Derived.Shelf.Strconv.Itoa3
import Derived.Test.YtfhmbechennkbaaGreatDoorD4
namespace Go.Proofs.YtfhmbechennkbaaGreatDoor
open Go.RowKit Go.Shelf
def Nz:Ren:=⟨fun | 129=>199 | 171=>37 | 243=>78 | 246=>123 | 283=>163 | 284=>164 | 285=>165 | 286=>166 | 317=>198 | 318=>200 | 319=>201 | 320=>202 | 337=>221 | 338=>222 | n=>n,fun | 0=>0 | 2=>2 | 3=>3 | 4=>4 | 5=>5 | 9=>9 | 20=>20 | 37=>206 | 46=>181 | 51=>233 | 53=>124 | 171=>203 | 173=>207 | 212=>244 | 213=>245 | 232=>262 | 233=>263 | n=>n,fun | 17=>0 | 18=>1 | 19=>2 | n=>n⟩
theorem VO:Lays.n171 Tryz.prog Nz:={
 mixed:=by kernel_rfl
 f129:=Tryz.func199.trans (congrArg some (by kernel_rfl))
 f171:=Tryz.func37.trans (congrArg some (by kernel_rfl))
 f243:=Tryz.func78.trans (congrArg some (by kernel_rfl))
 f246:=Tryz.func123.trans (congrArg some (by kernel_rfl))
 f283:=Tryz.func163.trans (congrArg some (by kernel_rfl))
 f284:=Tryz.func164.trans (congrArg some (by kernel_rfl))
 f285:=Tryz.func165.trans (congrArg some (by kernel_rfl))
 f286:=Tryz.func166.trans (congrArg some (by kernel_rfl))
 f317:=Tryz.func198.trans (congrArg some (by kernel_rfl))
 f318:=Tryz.func200.trans (congrArg some (by kernel_rfl))
 f319:=Tryz.func201.trans (congrArg some (by kernel_rfl))
 f320:=Tryz.func202.trans (congrArg some (by kernel_rfl))
 f337:=Tryz.func221.trans (congrArg some (by kernel_rfl))
 f338:=Tryz.func222.trans (congrArg some (by kernel_rfl))
 t0:=Tryz.underlying0
 a0:=Tryz.isAgg0
 z0:=Tryz.sizeOf0
 v0:=Tryz.zeroValue0
 t2:=Tryz.underlying2
 a2:=Tryz.isAgg2
 z2:=Tryz.sizeOf2
 v2:=Tryz.zeroValue2
 t3:=Tryz.underlying3
 a3:=Tryz.isAgg3
 z3:=Tryz.sizeOf3
 v3:=Tryz.zeroValue3
 t4:=Tryz.underlying4
 a4:=Tryz.isAgg4
 z4:=Tryz.sizeOf4
 v4:=Tryz.zeroValue4
 t5:=Tryz.underlying5
 a5:=Tryz.isAgg5
 z5:=Tryz.sizeOf5
 v5:=Tryz.zeroValue5
 t9:=Tryz.underlying9
 a9:=Tryz.isAgg9
 z9:=Tryz.sizeOf9
 v9:=Tryz.zeroValue9
 t20:=Tryz.underlying20
 a20:=Tryz.isAgg20
 z20:=Tryz.sizeOf20
 v20:=Tryz.zeroValue20
 t37:=Tryz.underlying206
 a37:=Tryz.isAgg206
 z37:=Tryz.sizeOf206
 v37:=Tryz.zeroValue206
 t46:=Tryz.underlying181
 a46:=Tryz.isAgg181
 z46:=Tryz.sizeOf181
 v46:=Tryz.zeroValue181
 t51:=Tryz.underlying233
 a51:=Tryz.isAgg233
 z51:=Tryz.sizeOf233
 v51:=Tryz.zeroValue233
 t53:=Tryz.underlying124
 a53:=Tryz.isAgg124
 z53:=Tryz.sizeOf124
 v53:=Tryz.zeroValue124
 t171:=Tryz.underlying203
 a171:=Tryz.isAgg203
 z171:=Tryz.sizeOf203
 v171:=Tryz.zeroValue203
 t173:=Tryz.underlying207
 a173:=Tryz.isAgg207
 z173:=Tryz.sizeOf207
 v173:=Tryz.zeroValue207
 t212:=Tryz.underlying244
 a212:=Tryz.isAgg244
 z212:=Tryz.sizeOf244
 v212:=Tryz.zeroValue244
 t213:=Tryz.underlying245
 a213:=Tryz.isAgg245
 z213:=Tryz.sizeOf245
 t232:=Tryz.underlying262
 a232:=Tryz.isAgg262
 z232:=Tryz.sizeOf262
 v232:=Tryz.zeroValue262
 t233:=Tryz.underlying263
 a233:=Tryz.isAgg263
 z233:=Tryz.sizeOf263
 v233:=Tryz.zeroValue263
 g17:=by kernel_rfl
 g18:=by kernel_rfl
 g19:=by kernel_rfl }
structure FindT where
 kind:Int
 name:ByteArray
deriving DecidableEq
def FindT.cells (x:FindT):List Value:=[.int .i64 x.kind,.string x.name]
def FindsAt (w:World) (B:Nat) (v:Value) (l:List FindT):Prop:=Flat w B v l.length (l.flatMap FindT.cells)
structure FdS (W0 W:World) (ov:Value) (fs:List FindT):Prop where
 bel:Below W0.heap.size W0 W
 box:Blk W W0.heap.size 29 #[ov]
 own:W.ownsRow W0.heap.size 39 2 ov fs.length (fs.flatMap FindT.cells)
section
variable {W0 W W':World} {ov:Value} {fs:List FindT}
theorem FdS.below (h:FdS W0 W ov fs) (hb:Below W.heap.size W W'):FdS W0 W' ov fs :=
 ⟨h.bel.trans (hb.mono h.bel.size),h.box.below hb h.box.lt,kS h.own hb⟩
theorem FdS.push (h:FdS W0 W ov fs) {v':Value} {w1:World} {y:FindT} (az:w1.ownsRow W0.heap.size 39 2 v' (fs.length+1) (fs.flatMap FindT.cells++[.int .i64 y.kind,.string y.name])) (hg:W.grownBy w1 ov.ownBlock) :
  Blk w1 W0.heap.size 29 #[ov]∧FdS W0 (w1.setCell ⟨W0.heap.size,0,none⟩ v') v' (fs++[y]):=by
 have hr:=fun r (e:ov.ownBlock=some r)=>qB h.own e
 have e1:Blk w1 W0.heap.size 29 #[ov]:=h.box.kept hg (fun e=>by
  obtain⟨c',hc⟩:=hr _ e.symm
  have hb:=h.box
  unfold Blk at hb
  rw[hb] at hc
  injection hc with hc
  injection hc with _ hc _
  exact absurd hc (by decide))
 have ao:Below W0.heap.size W0 w1:=h.bel.grown hg h.bel.size (fun k e=>(h.own.lt k e).1)
 refine⟨e1,ao.setCell (yA _) _,e1.set_ 0 v',?_⟩
 have:(w1.setCell ⟨W0.heap.size,0,none⟩ v').ownsRow W0.heap.size 39 2 v' (fs.length+1) (fs.flatMap FindT.cells++[.int .i64 y.kind,.string y.name]):=az.kept (e1.setGrown 0 v') (Zj az fun r e c f hh=>by
  obtain rfl:W0.heap.size=r:=by simpa using e
  unfold Blk at e1
  rw[e1] at hh
  injection hh with hh
  injection hh with _ hh _
  exact absurd hh (by decide))
 rw[yQ,List.flatMap_append]
 exact this
end
end Go.Proofs.YtfhmbechennkbaaGreatDoor
