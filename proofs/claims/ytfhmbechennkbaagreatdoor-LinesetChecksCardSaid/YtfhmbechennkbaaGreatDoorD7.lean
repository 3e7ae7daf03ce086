/- Parts of the proof, laid into one text: SlF, Acc. -/
import Derived.Test.YtfhmbechennkbaaGreatDoorD6
namespace Go.Proofs.YtfhmbechennkbaaGreatDoor
set_option maxRecDepth 100000
set_option maxHeartbeats 40000000
open Go.RowKit Go.Shelf
abbrev FindT.val (x:FindT):Value:=.agg #[.int .i64 x.kind,.string x.name]
def accB (s:SetT):Bool:=(Zs s == 0) && (((findsL s).length:Int) == 0)
theorem lsAccepted (v:Value) (s:SetT) (w:World) (hv:SetAt w w.heap.size v s) (hn:SetNames s):Calls Tryz.prog 12 #[v] w fun e w' => e = .returned (.bool (accB s))∧Below w.heap.size w w':=by
 have HCh:=fun W (hb:Below w.heap.size w W) => lsCheck v s W ((hv.below hb (Nat.le_refl _)).mono hb.size) hn
 obtain ⟨Al,cl,Ai,ci,Ab,cb,rfl,-,-,-⟩:=hv
 have HB1:=zh ((Below.refl _ w).alloc (Nat.le_refl _) (.cells #[.string s.name,.int .i64 s.depth,.int .i64 s.low,.int .i64 s.high,.int .i64 s.len,.slice Al s.lines.length cl,.int .i64 s.pipe,.int .i64 s.arbor,.int .i64 s.purch,.int .i64 s.most,.int .i64 s.brake,.slice Ai s.items.length ci,.slice Ab s.bricks.length cb] 26))
 have HV:Hid (accB s=((Zs s == 0) && (((findsL s).length:Int) == 0))):=rfl
 have hch:=HCh _ HB1.out
 clear HCh hn
 unfold setVal at *
 go_enter Tryz.func12,Tryz.ntmps12
 go_wp2_with fail
 refine hch.mono ?_
 rintro e w2 ⟨hb2,⟨hE,u,rfl,h⟩ | ⟨hE,rfl⟩⟩
 ·obtain ⟨A,c,rfl,-⟩:=h.open_
  have hb:=HB1.out.trans (hb2.mono HB1.out.size)
  have hv:=HV.out
  rw [hE] at hv
  have HV2:=zh hv
  clear hE h hb2 hch HV hv
  generalize (findsL s).length=n at *
  go_wp2_with fail
  go_ret
  exact ⟨Ze (by rw [HV2.out];rfl),hb⟩
 ·have hb:=HB1.out.trans (hb2.mono HB1.out.size)
  have hk1:(Zs s == 0)=false:=beq_eq_false_iff_ne.2 hE
  have hv:=HV.out
  rw [hk1] at hv
  have HV2:=zh hv
  clear hE hb2 hch HV hv
  generalize Zs s=k at *
  go_wp2_with fail
  go_ret
  exact ⟨Ze (by rw [HV2.out];rfl),hb⟩
end Go.Proofs.YtfhmbechennkbaaGreatDoor
