/- Parts of the proof, laid into one text: RefWt, TextP, TxtA, Digs01, RefChk, RefBm21, RefLn. -/
import Derived.Lib.AppendIntMem
import Derived.Lib.ItoaLen
import Derived.Lib.SmallJoins
import Derived.Shelf.Strings.Count
import Derived.Shelf.Strings.OnBuilder
import Derived.Shelf.Strings.Prefix
import Derived.Test.YtfhmbechennkbaaGreatDoorD5
import Derived.Test.YtfhmbechennkbaaGreatDoorR6
import Derived.Test.YtfhmbechennkbaaGreatDoorR9
namespace Go.Proofs.YtfhmbechennkbaaGreatDoor
set_option maxRecDepth 100000
set_option maxHeartbeats 40000000
open Go.RowKit Go.Shelf
theorem refPipe21 (v:Value) (s:SetT) (B:Nat) (w:World) (hv:SetAt w B v s) (hp:0≤s.pipe∧s.pipe≤1048576) (hl:1000≤s.len∧s.len≤1048576) :
  Calls Tryz.prog 98 #[v] w fun e w' => e = .returned (.int .i64 (pipeN s))∧Below w.heap.size w w':=by
 obtain ⟨Al,cl,Ai,ci,Ab,cb,rfl,-,-,-⟩:=hv
 have hb:=pipe_bd hp hl
 have HE:Hid (pipeN s=s.pipe*(s.len / 1000)):=rfl
 have v1:IntKind.i64.wrap (s.pipe*(s.len / 1000))=s.pipe*(s.len / 1000):=IntWalk.i64_in _ (by omega)
 have v2:IntKind.i64.wrap (s.len / 1000)=s.len / 1000:=IntWalk.i64_in _ (by omega)
 have v3:s.len.tdiv 1000=s.len / 1000:=Int.tdiv_eq_ediv_of_nonneg (by omega)
 clear hp hl hb
 unfold setVal
 go_enter Tryz.func98,Tryz.ntmps98
 go_wp2
 go_ret
 exact ⟨by rw [HE.out];rfl,(Below.refl _ _).alloc (Nat.le_refl _) _⟩
theorem refWeight21 (v:Value) (s:SetT) (w:World) (hv:SetAt w w.heap.size v s) (hp:0≤s.pipe∧s.pipe≤1048576) (hl:1000≤s.len∧s.len≤1048576) (hi:∀ x ∈ s.items,0≤x.wt∧x.wt≤1048576) (h40:s.items.length≤40) :
  Calls Tryz.prog 51 #[v] w fun e w' => e = .returned (.int .i64 (weightN s))∧Below w.heap.size w w':=by
 have hP:=fun W (hb:Below w.heap.size w W) => refPipe21 v s W.heap.size W ((hv.below hb (Nat.le_refl _)).mono hb.size) hp hl
 have HBd:=zh (wtTo_bd (s:=s) (pipe_bd hp hl) hi)
 obtain ⟨Al,cl,Ai,ci,Ab,cb,rfl,hL,hI,hB⟩:=hv
 obtain ⟨_,_,e,hi1,hi2,hic⟩:=hI.open_
 injection e with e1 _ e2
 subst e1 e2
 have HI:=zh hic
 have HD:=zh (Blk.new w 26 #[.string s.name,.int .i64 s.depth,.int .i64 s.low,.int .i64 s.high,.int .i64 s.len,.slice Al s.lines.length cl,.int .i64 s.pipe,.int .i64 s.arbor,.int .i64 s.purch,.int .i64 s.most,.int .i64 s.brake,.slice Ai s.items.length ci,.slice Ab s.bricks.length cb])
 have HB1:=zh ((Below.refl _ w).alloc (Nat.le_refl _) (.cells #[.string s.name,.int .i64 s.depth,.int .i64 s.low,.int .i64 s.high,.int .i64 s.len,.slice Al s.lines.length cl,.int .i64 s.pipe,.int .i64 s.arbor,.int .i64 s.purch,.int .i64 s.most,.int .i64 s.brake,.slice Ai s.items.length ci,.slice Ab s.bricks.length cb] 26))
 unfold maxLen at hi2
 clear hL hI hB hic hp hl hi
 unfold setVal at *
 go_enter Tryz.func51,Tryz.ntmps51
 go_wp2_with (go_at_call 98;refine (hP _ HB1.out).mono ?_;rintro e w2 ⟨rfl,hb2⟩;have HB2:=zh (HB1.out.trans (hb2.mono HB1.out.size));have HD2:=zh (HD.out.below hb2 HD.out.lt);clear hb2)
 go_loopw [4,3] (fun x t wr => ∃ k:Nat,k≤s.items.length∧x = .int .i64 k∧t = .int .i64 (wtTo s k)∧Below w.heap.size w wr∧Hid (Blk wr w.heap.size 26 #[.string s.name,.int .i64 s.depth,.int .i64 s.low,.int .i64 s.high,.int .i64 s.len,.slice Al s.lines.length cl,.int .i64 s.pipe,.int .i64 s.arbor,.int .i64 s.purch,.int .i64 s.most,.int .i64 s.brake,.slice Ai s.items.length ci,.slice Ab s.bricks.length cb])) (fun x _ _ => s.items.length-(intOf x).toNat)
 case atStart => exact ⟨0,Nat.zero_le _,rfl,by simp [wtTo],HB2.out,HD2⟩
 case round =>
  clear HD2 HB2 HD HB1
  obtain ⟨k,hk,rfl,rfl,hbel,HD⟩:=hrel
  have z11:=HD.out.cell 11
  simp only [zq1,zq2,zq3] at z11
  by_cases hkl:k<s.items.length
  ·obtain ⟨b1,off1,rfl,hb1,hc⟩:=HI.out k hkl
   have y3:=(hbel.cell (p:=⟨b1,off1+k*7+3,none⟩) hb1).trans (hc k hkl).2.2.2.1
   have h3:=HBd.out (k+1) hkl
   have hs:=wtTo_succ s k hkl
   have v1:IntKind.i64.wrap (wtTo s k+s.items[k].wt)=wtTo s k+s.items[k].wt:=IntWalk.i64_in _ (by rw [← hs];omega)
   have HS:=zh hs
   have i1:(0:Int)≤(k:Int):=Int.natCast_nonneg _
   have i2:(k:Int)<(s.items.length:Int):=by omega
   clear hc hs h3
   go_wp2
   go_roundw
   case rel => exact ⟨k+1,by omega,by go_num,by rw [HS.out],hbel,HD⟩
   case measure => simp [intOf];omega
  ·obtain rfl:k=s.items.length:=by omega
   go_wp2
   go_ret
   exact ⟨rfl,hbel⟩
abbrev cntV (l:List BrickT) (k:Nat):List Value:=((l.take k).map BrickT.cnt).map (Value.int .i64)
theorem cntV_succ (l:List BrickT) {k:Nat} (hk:k<l.length):cntV l (k+1)=cntV l k ++ [.int .i64 l[k].cnt]:=by
 unfold cntV
 rw [take_snoc l k hk,List.map_append,List.map_append]
 rfl
theorem refCounts (v:Value) (l:List BrickT) (w:World) (hl:BricksAt w w.heap.size v l) (h8:l.length≤8) :
  Calls Tryz.prog 53 #[v] w fun e w' => ∃ r,e = .returned r∧IntsAt w' w'.heap.size r (l.map BrickT.cnt)∧Below w.heap.size w w':=by
 obtain ⟨A,c,rfl,hc1,hc2,hcell⟩:=hl.open_
 unfold maxLen at hc2
 have HC:=zh hcell
 clear hl hcell
 go_enter Tryz.func53,Tryz.ntmps53
 go_wp2
 go_loopw [4,3] (fun x t wr => ∃ (k:Nat) (A3:Option Addr) (c3:Nat),k≤l.length∧x = .int .i64 k∧t = .slice A3 k c3∧Hid (wr.ownsRow w.heap.size 3 1 (.slice A3 k c3) k (cntV l k))∧Hid (Below w.heap.size w wr)) (fun x _ _ => l.length-(intOf x).toNat)
 case atStart => exact ⟨0,none,0,Nat.zero_le _,rfl,rfl,World.ownsRow_nil _ _ _ _,Below.refl _ _⟩
 case round =>
  obtain ⟨k,A3,c3,hk,rfl,rfl,HO,HB⟩:=hrel
  by_cases hkl:k<l.length
  ·obtain ⟨b1,off1,rfl,hb1,hc⟩:=HC.out k hkl
   have y2:=(HB.out.cell (p:=⟨b1,off1+k*3+2,none⟩) hb1).trans (hc k hkl).2.2
   have HSu:=zh (cntV_succ l hkl)
   have i1:(0:Int)≤(k:Int):=Int.natCast_nonneg _
   have i2:(k:Int)<(l.length:Int):=by omega
   clear hc
   go_wp2_with (at_builtin;refine wpList_push _ rfl (.tmp 11) (.tmp 17) 22 rfl w.heap.size 3 info_int Tryz.underlying22 rfl _ k _ rfl HO.out (.int .i64 l[k].cnt) rfl rfl (by unfold maxLen;omega) (by omega) HB.out.size ?_;intro g3 cap3 w7 hown7 hgrow7 hbg hgg;have HB7:=zh (HB.out.grown hgrow7 HB.out.size (fun k hk => (HO.out.lt k hk).1));rw [← HSu.out] at hown7;have HO7:=zh hown7;clear hown7 hgrow7)
   go_roundw
   case rel => exact ⟨k+1,_,_,by omega,by go_num,rfl,HO7,HB7⟩
   case measure => simp [intOf];omega
  ·obtain rfl:k=l.length:=by omega
   go_wp2_with fail
   go_ret
   have hrow:wr.ownsRow w.heap.size 3 1 (.slice A3 l.length c3) (l.map BrickT.cnt).length ((l.map BrickT.cnt).map (Value.int .i64)):=by
    have:=HO.out
    unfold cntV at this
    rw [List.take_length] at this
    rw [List.length_map]
    exact this
   exact ⟨_,rfl,RowAt.of_own hrow,HB.out⟩
theorem refSum25 (v u:Value) (l:List BrickT) (B:Nat) (w:World) (hl:BricksAt w B v l) (hu:IntsAt w B u (l.map BrickT.cnt)) (h8:l.length≤8) (hi:∀ x ∈ l,(1≤x.wt∧x.wt≤1048576)∧(0≤x.cnt∧x.cnt≤60)) :
  Calls Tryz.prog 52 #[v,u] w fun e w' => e = .returned (.int .i64 (brickW l l.length))∧∃ q,w.drewN q=w':=by
 have HBd:=zh (brickW_bd hi)
 have HOne:=zh fun k (hk:k<l.length) => one_bd (hi _ (List.getElem_mem hk)).1 (hi _ (List.getElem_mem hk)).2
 obtain ⟨A,c,rfl,hc1,hc2,hcell⟩:=hl.open_
 obtain ⟨Ao,co,rfl,ho1,ho2,hoc⟩:=RowAt.open_ hu
 rw [List.length_map] at *
 unfold maxLen at hc2 ho2
 have HC:=zh hcell
 have HO:=zh hoc
 clear hl hu hcell hoc hi
 go_enter Tryz.func52,Tryz.ntmps52
 go_wp2
 go_loopw [6,5] (fun x t wr => ∃ k:Nat,k≤l.length∧x = .int .i64 k∧t = .int .i64 (brickW l k)∧∃ q,wr=w.drewN q) (fun x _ _ => l.length-(intOf x).toNat)
 case atStart => exact ⟨0,Nat.zero_le _,rfl,rfl,0,rfl⟩
 case round =>
  obtain ⟨k,hk,rfl,rfl,q,rfl⟩:=hrel
  by_cases hkl:k<l.length
  ·obtain ⟨b1,off1,rfl,hb1,hc⟩:=HC.out k hkl
   obtain ⟨b2,off2,rfl,hb2,hoc⟩:=HO.out k (by rw [List.length_map];exact hkl)
   have y1:=(hc k hkl).2.1
   have x0:=hoc k (by rw [List.length_map];exact hkl)
   rw [List.getElem_map] at x0
   have h3:=HBd.out (k+1) hkl
   have h4:=HOne.out k hkl
   have hs:=brickW_succ l k hkl
   have v0:IntKind.i64.wrap (l[k].wt*l[k].cnt)=l[k].wt*l[k].cnt:=IntWalk.i64_in _ (by omega)
   have v1:IntKind.i64.wrap (brickW l k+l[k].wt*l[k].cnt)=brickW l k+l[k].wt*l[k].cnt:=IntWalk.i64_in _ (by rw [← hs];omega)
   have HS:=zh hs
   have i1:(0:Int)≤(k:Int):=Int.natCast_nonneg _
   have i2:(k:Int)<(l.length:Int):=by omega
   clear hc hoc hs h3 h4
   go_wp2
   go_quiet (fail)
   go_wp2
   go_roundw
   case rel => exact ⟨k+1,by omega,by go_num,by rw [HS.out],_,rfl⟩
   case measure => simp [intOf];omega
  ·obtain rfl:k=l.length:=by omega
   go_wp2
   go_ret
   exact ⟨rfl,_,rfl⟩
theorem refNeeded25 (v:Value) (s:SetT) (w:World) (hv:SetAt w w.heap.size v s) (hs:setB s=true) :
  Calls Tryz.prog 138 #[v] w fun e w' => e = .returned (.int .i64 (neededN s))∧Below w.heap.size w w':=by
 have HWe:=fun W (hb:Below w.heap.size w W) => refWeight21 v s W ((hv.below hb (Nat.le_refl _)).mono hb.size) (Zm hs).pipe (Zm hs).len (fun x hx => alone_wt ((Zm hs).wts.2 x hx).1) (Zm hs).wts.1
 have hb:=weight_bd hs
 have hp:=needed_bd hb (Zm hs).purch
 have ha:=(Zm hs).arbor
 obtain ⟨Al,cl,Ai,ci,Ab,cb,rfl,-,-,-⟩:=hv
 have HD:=zh (Blk.new w 26 #[.string s.name,.int .i64 s.depth,.int .i64 s.low,.int .i64 s.high,.int .i64 s.len,.slice Al s.lines.length cl,.int .i64 s.pipe,.int .i64 s.arbor,.int .i64 s.purch,.int .i64 s.most,.int .i64 s.brake,.slice Ai s.items.length ci,.slice Ab s.bricks.length cb])
 have HB1:=zh ((Below.refl _ w).alloc (Nat.le_refl _) (.cells #[.string s.name,.int .i64 s.depth,.int .i64 s.low,.int .i64 s.high,.int .i64 s.len,.slice Al s.lines.length cl,.int .i64 s.pipe,.int .i64 s.arbor,.int .i64 s.purch,.int .i64 s.most,.int .i64 s.brake,.slice Ai s.items.length ci,.slice Ab s.bricks.length cb] 26))
 have v1:IntKind.i64.wrap (s.purch*weightN s)=s.purch*weightN s:=IntWalk.i64_in _ (by rw [Int.mul_comm];omega)
 have v2:IntKind.i64.wrap (s.purch*weightN s-s.arbor)=s.purch*weightN s-s.arbor:=IntWalk.i64_in _ (by rw [Int.mul_comm];omega)
 have HE:Hid (neededN s=s.purch*weightN s-s.arbor):=by unfold Hid neededN;rw [Int.mul_comm]
 clear hs hb hp ha
 unfold setVal at *
 go_enter Tryz.func138,Tryz.ntmps138
 go_wp2_with fail
 generalize w.alloc (.cells #[.string s.name,.int .i64 s.depth,.int .i64 s.low,.int .i64 s.high,.int .i64 s.len,.slice Al s.lines.length cl,.int .i64 s.pipe,.int .i64 s.arbor,.int .i64 s.purch,.int .i64 s.most,.int .i64 s.brake,.slice Ai s.items.length ci,.slice Ab s.bricks.length cb] 26)=W1 at *
 have z0:=HD.out.cell 0;have z1:=HD.out.cell 1;have z2:=HD.out.cell 2;have z3:=HD.out.cell 3;have z4:=HD.out.cell 4;have z5:=HD.out.cell 5;have z6:=HD.out.cell 6;have z7:=HD.out.cell 7;have z8:=HD.out.cell 8;have z9:=HD.out.cell 9;have z10:=HD.out.cell 10;have z11:=HD.out.cell 11;have z12:=HD.out.cell 12
 simp only [zq1,zq2,zq3] at z0 z1 z2 z3 z4 z5 z6 z7 z8 z9 z10 z11 z12
 have u0:=HeldB.cell z0
 have u1:=HeldB.cell z1
 have u2:=HeldB.cell z2
 have u3:=HeldB.cell z3
 have u4:=HeldB.cell z4
 have u5:=HeldB.cell z5
 have u6:=HeldB.cell z6
 have u7:=HeldB.cell z7
 have u8:=HeldB.cell z8
 have u9:=HeldB.cell z9
 have u10:=HeldB.cell z10
 have u11:=HeldB.cell z11
 have u12:=HeldB.cell z12
 have hap0:=fun (w':World) (hb:Below W1.heap.size W1 w') => HWe w' (HB1.out.trans (hb.mono HB1.out.size))
 have hap:=HeldB.call hap0
 clear hap0 HWe HD z0 z1 z2 z3 z4 z5 z6 z7 z8 z9 z10 z11 z12
 refine wp_region_heldb (by kernel_rfl) (by kernel_rfl) ?_
 repeat (go_big_quiet_step ((go_at_call 51;exact hap _)))
 refine wpQuiet_nil ?_
 rintro w7 ⟨⟨w8,hb7⟩,rfl⟩
 clear hap u0 u1 u2 u3 u4 u5 u6 u7 u8 u9 u10 u11 u12
 go_wp2_with fail
 go_ret
 exact ⟨ret_int HE.out.symm,HB1.out.trans (hb7.mono HB1.out.size)⟩
def gOne (v0:Value):GPost:=⟨fun v => v=v0,fun _ _ => True,⟨_,rfl⟩,fun _ _ _ _ _ => trivial,false⟩
def gInts (l:List Int):GPost:=⟨fun v => ∃ A c,v = .slice A l.length c,fun v w => IntsAt w w.heap.size v l,⟨_,none,0,rfl⟩,fun _ _ _ hb h => (RowAt.below h hb (Nat.le_refl _)).mono hb.size,false⟩
theorem refBalance25 (v:Value) (s:SetT) (w:World) (hv:SetAt w w.heap.size v s) (hs:setB s=true) :
  Calls Tryz.prog 89 #[v] w fun e w' => e = .returned (.int .i64 (Zt s))∧Below w.heap.size w w':=by
 have HNe:=fun W (hb:Below w.heap.size w W) => refNeeded25 v s W ((hv.below hb (Nat.le_refl _)).mono hb.size) hs
 have hbk:=(Zm hs).brk
 have hb:=weight_bd hs
 have hp:=needed_bd hb (Zm hs).purch
 have ha:=(Zm hs).arbor
 have hw:=(brickW_bd hbk.2 _ (Nat.le_refl _)).1
 have h8:=hbk.1
 have v2:IntKind.i64.wrap (neededN s-brickW s.bricks s.bricks.length)=neededN s-brickW s.bricks s.bricks.length:=IntWalk.i64_in _ (by unfold neededN;omega)
 obtain ⟨Al,cl,Ai,ci,Ab,cb,rfl,-,-,hB⟩:=hv
 have HBr:=zh fun W (hb:Below w.heap.size w W) => (BricksAt.below hB hb (Nat.le_refl _)).mono hb.size
 have HD:=zh (Blk.new w 26 #[.string s.name,.int .i64 s.depth,.int .i64 s.low,.int .i64 s.high,.int .i64 s.len,.slice Al s.lines.length cl,.int .i64 s.pipe,.int .i64 s.arbor,.int .i64 s.purch,.int .i64 s.most,.int .i64 s.brake,.slice Ai s.items.length ci,.slice Ab s.bricks.length cb])
 have HB1:=zh ((Below.refl _ w).alloc (Nat.le_refl _) (.cells #[.string s.name,.int .i64 s.depth,.int .i64 s.low,.int .i64 s.high,.int .i64 s.len,.slice Al s.lines.length cl,.int .i64 s.pipe,.int .i64 s.arbor,.int .i64 s.purch,.int .i64 s.most,.int .i64 s.brake,.slice Ai s.items.length ci,.slice Ab s.bricks.length cb] 26))
 have HNe2:=zh HNe
 have HBk:=zh hbk
 have HE:Hid (Zt s=neededN s-brickW s.bricks s.bricks.length):=rfl
 clear hs hb hp ha HNe hB hw h8 hbk
 unfold setVal at *
 go_enter Tryz.func89,Tryz.ntmps89
 go_wp2_with fail
 generalize w.alloc (.cells #[.string s.name,.int .i64 s.depth,.int .i64 s.low,.int .i64 s.high,.int .i64 s.len,.slice Al s.lines.length cl,.int .i64 s.pipe,.int .i64 s.arbor,.int .i64 s.purch,.int .i64 s.most,.int .i64 s.brake,.slice Ai s.items.length ci,.slice Ab s.bricks.length cb] 26)=W1 at *
 have z0:=HD.out.cell 0;have z1:=HD.out.cell 1;have z2:=HD.out.cell 2;have z3:=HD.out.cell 3;have z4:=HD.out.cell 4;have z5:=HD.out.cell 5;have z6:=HD.out.cell 6;have z7:=HD.out.cell 7;have z8:=HD.out.cell 8;have z9:=HD.out.cell 9;have z10:=HD.out.cell 10;have z11:=HD.out.cell 11;have z12:=HD.out.cell 12
 simp only [zq1,zq2,zq3] at z0 z1 z2 z3 z4 z5 z6 z7 z8 z9 z10 z11 z12
 have u0:=HeldB.cell z0
 have u1:=HeldB.cell z1
 have u2:=HeldB.cell z2
 have u3:=HeldB.cell z3
 have u4:=HeldB.cell z4
 have u5:=HeldB.cell z5
 have u6:=HeldB.cell z6
 have u7:=HeldB.cell z7
 have u8:=HeldB.cell z8
 have u9:=HeldB.cell z9
 have u10:=HeldB.cell z10
 have u11:=HeldB.cell z11
 have u12:=HeldB.cell z12
 clear HD z0 z1 z2 z3 z4 z5 z6 z7 z8 z9 z10 z11 z12
 refine wp_region_grow 9 (fun jx => if jx=1 then some (gOne (.int .i64 (neededN s))) else if jx=6 then some (gInts (s.bricks.map BrickT.cnt)) else if jx=7 then some (gOne (.int .i64 (brickW s.bricks s.bricks.length))) else none) (by kernel_rfl) (by kernel_rfl) ?_
 simp only [zt1,zt2,zt3,zt4]
 refine wpG_quiet 1 (by kernel_rfl) (by rfl) (by decide) ?_
 simp only [zt1,zt2,zt3,zt4]
 repeat (go_big_quiet_step (fail))
 refine wpQuiet_nil ?_
 refine wpG_call rfl rfl (fun w1 hb1 _ => ⟨138,#[.agg #[.string s.name,.int .i64 s.depth,.int .i64 s.low,.int .i64 s.high,.int .i64 s.len,.slice Al s.lines.length cl,.int .i64 s.pipe,.int .i64 s.arbor,.int .i64 s.purch,.int .i64 s.most,.int .i64 s.brake,.slice Ai s.items.length ci,.slice Ab s.bricks.length cb]],by go_simp,(HNe2.out w1 (HB1.out.trans (hb1.mono HB1.out.size))).mono fun e w'' ⟨he,hb⟩ => ⟨_,he,hb,rfl,trivial⟩⟩) ?_
 rintro _ rfl
 simp only [Act.put,zs1,zs2,zs3]
 refine wpG_quiet 4 (by kernel_rfl) (by rfl) (by decide) ?_
 simp only [zt1,zt2,zt3,zt4]
 repeat (go_big_quiet_step (fail))
 refine wpQuiet_nil ?_
 refine wpG_call rfl rfl (fun w1 hb1 _ => ⟨53,#[.slice Ab s.bricks.length cb],by go_simp,(refCounts _ s.bricks w1 (HBr.out w1 (HB1.out.trans (hb1.mono HB1.out.size))) HBk.out.1).mono fun e w'' ⟨r,he,hI,hb⟩ => ⟨_,he,hb,(by obtain ⟨A9,c9,e9,-⟩:=RowAt.open_ hI;exact ⟨A9,c9,e9⟩),hI⟩⟩) ?_
 rintro _ ⟨A9,c9,rfl⟩
 simp only [Act.put,zs1,zs2,zs3]
 refine wpG_call rfl rfl ?_ ?_
 ·intro w1 hb1 hk
  have hI:IntsAt w1 w1.heap.size (.slice A9 (s.bricks.map BrickT.cnt).length c9) (s.bricks.map BrickT.cnt):=hk 9 (of_decide_eq_true (by kernel_rfl))
  exact ⟨52,#[.slice Ab s.bricks.length cb,.slice A9 (s.bricks.map BrickT.cnt).length c9],by go_simp,(refSum25 _ _ s.bricks w1.heap.size w1 (HBr.out w1 (HB1.out.trans (hb1.mono HB1.out.size))) hI HBk.out.1 HBk.out.2).mono fun e w'' ⟨he,q,hq⟩ => ⟨_,he,by rw [← hq];exact Zf (Below.refl _ _) q,rfl,trivial⟩⟩
 rintro _ rfl
 simp only [Act.put,zs1,zs2,zs3]
 refine wpG_quiet 1 (by kernel_rfl) (by rfl) (by decide) ?_
 simp only [zt1,zt2,zt3,zt4]
 repeat (go_big_quiet_step (fail))
 refine wpQuiet_nil ?_
 refine Zc ?_
 intro w10 hb10 _
 clear u0 u1 u2 u3 u4 u5 u6 u7 u8 u9 u10 u11 u12
 go_wp2_with fail
 go_ret
 exact ⟨ret_int HE.out.symm,HB1.out.trans (hb10.mono HB1.out.size)⟩
inductive Wd where
 | s (b:ByteArray)
 | n (i:Int)
theorem itoaLaysM:LaysM.n171 Tryz.prog itoaRen:={ itoaLays with
 i0:=by kernel_rfl
 i2:=by kernel_rfl
 i3:=by kernel_rfl
 i4:=by kernel_rfl
 i5:=by kernel_rfl
 i9:=by kernel_rfl
 i20:=by kernel_rfl
 i37:=by kernel_rfl
 i46:=by kernel_rfl
 i51:=by kernel_rfl
 i53:=by kernel_rfl
 i171:=by kernel_rfl
 i173:=by kernel_rfl
 i212:=by kernel_rfl
 i232:=by kernel_rfl
 i233:=by kernel_rfl
 m17:=by kernel_rfl
 m18:=by kernel_rfl
 m19:=by kernel_rfl }
def Tab (w:World):Prop:=Lib.TabIs Tryz.prog w "internal/strconv.uint64pow10" .u64 Lib.pow10Tab
theorem Tab.below {w w':World} (h:Tab w) (hb:Below w.heap.size w w'):Tab w':=Joins.tab_stays itoaLaysM.m17 h hb (Nat.le_refl _)
def itoaA (n:Int):ByteArray:=⟨(Lib.itoa n).toArray⟩
def DigSt (n0 n:Nat) (ds:List UInt8):Prop:=(ds=[]∧n=n0)∨(ds≠[]∧n=0∧ds=Lib.decDigits n0)∨(ds≠[]∧0<n∧Lib.decDigits n ++ ds=Lib.decDigits n0)
theorem digSt_step {n0 n:Nat} {ds:List UInt8} (h:DigSt n0 n ds) (hc:0<n∨ds=[]):DigSt n0 (n / 10) (UInt8.ofNat (48+n % 10) :: ds):=by
  have key:Lib.decDigits n ++ ds=Lib.decDigits n0:=by
    rcases h with ⟨h1, h2⟩ | ⟨h1, h2, h3⟩ | ⟨h1, h2, h3⟩
    · rw [h1, h2, List.append_nil]
    · exact absurd hc (by rintro (h | h); · omega
                          · exact h1 h)
    · exact h3
  by_cases hn:n<10
  · refine .inr (.inl ⟨by simp, by omega, ?_⟩)
    rw [← key, Lib.decDigits_one hn, Nat.mod_eq_of_lt hn]
    rfl
  · refine .inr (.inr ⟨by simp, by omega, ?_⟩)
    rw [← key]
    conv => rhs; rw [Lib.decDigits, dif_neg hn]
    rw [List.append_assoc]
    rfl
theorem digSt_end {n0 n:Nat} {ds:List UInt8} (h:DigSt n0 n ds) (h1:n=0) (h2:ds≠[]):ds=Lib.decDigits n0:=by
 rcases h with ⟨h3,_⟩ | ⟨_,_,h3⟩ | ⟨_,h3,_⟩
 ·exact absurd h3 h2
 ·exact h3
 ·omega
theorem conv_digit (m:Nat) (W:World):(convert 206 9 (.slice (some ⟨W.heap.size,0,none⟩) 1 1)).run Tryz.prog (W.alloc (.cells #[.int .u8 (48+(m:Int) % 10)] 5)) = .ok (.string ⟨#[UInt8.ofNat (48+m % 10)]⟩) (W.alloc (.cells #[.int .u8 (48+(m:Int) % 10)] 5)):=by
 refine run_convert_bytes_back (P:=Tryz.prog) _ 206 9 5 ⟨W.heap.size,0,none⟩ 1 [UInt8.ofNat (48+m % 10)] Tryz.underlying206 Tryz.underlying5 Tryz.underlying9 ?_
 intro j hj
 obtain rfl:j=0:=by simp at hj;omega
 rw [Addr.add_lit,(Blk.new W 5 #[.int .u8 (48+(m:Int) % 10)]).cell]
 have:(UInt8.ofNat (48+m % 10)).toNat=48+m % 10:=by
  rw [UInt8.toNat_ofNat']
  omega
 simp only [List.getElem_cons_zero,this]
 simp
def DigLen (m:Nat) (ds:List UInt8):Prop:=ds.length≤13∧(0<m→m*10 ^ ds.length≤10 ^ 12)
theorem digLen_step {m:Nat} {ds:List UInt8} {c:UInt8} (h:DigLen m ds) (hc:0<m∨ds=[]):DigLen (m / 10) (c :: ds):=by
 have hl:ds.length≤12:=by
  rcases hc with hc | hc
  ·have h1:=h.2 hc
   rcases Nat.lt_or_ge 12 ds.length with h2 | h2
   ·have h3:10 ^ 13≤10 ^ ds.length:=Nat.pow_le_pow_right (by decide) h2
    have h4:10 ^ ds.length≤m*10 ^ ds.length:=Nat.le_mul_of_pos_left _ hc
    have h5:(10:Nat) ^ 12<10 ^ 13:=by decide
    omega
   ·exact h2
  ·rw [hc];exact Nat.zero_le _
 refine ⟨by rw [List.length_cons];omega,fun hm => ?_⟩
 have h1:=h.2 (by omega)
 have h2:m / 10*10≤m:=Nat.div_mul_le_self m 10
 have h3:=Nat.mul_le_mul_right (10 ^ ds.length) h2
 rw [List.length_cons,Nat.pow_succ,Nat.mul_comm (10 ^ ds.length) 10,← Nat.mul_assoc]
 exact Nat.le_trans h3 h1
theorem refDigits (n:Nat) (w:World) (hn:n≤10 ^ 12):Calls Tryz.prog 179 #[.int .i64 n,.int .i64 1] w fun e w' => e = .returned (.string ⟨(Lib.decDigits n).toArray⟩)∧Below w.heap.size w w':=by
 have HN:=zh hn
 clear hn
 go_enter Tryz.func179,Tryz.ntmps179
 go_wp2_with fail
 go_loopw [0,5] (fun x y wr => ∃ (m:Nat) (ds:List UInt8),m≤n∧x = .int .i64 m∧y = .string ⟨ds.toArray⟩∧DigSt n m ds∧DigLen m ds∧Below w.heap.size w wr) (fun x y _ => (intOf x).toNat+(match y with | .string s => if s.size=0 then 1 else 0 | _ => 0))
 case atStart => exact ⟨n,[],Nat.le_refl _,rfl,rfl,.inl ⟨rfl,rfl⟩,⟨Nat.zero_le _,fun _ => by simpa using HN.out⟩,Below.refl _ _⟩
 case round =>
  obtain ⟨m,ds,hm,rfl,rfl,hd,hg,hb⟩:=hrel
  have hm12:(m:Int)≤1000000000000:=by have:=HN.out;omega
  by_cases hc:0<m∨ds=[]
  ·have HD:=zh (digSt_step hd hc)
   have HG:=zh (digLen_step (c:=UInt8.ofNat (48+m % 10)) hg hc)
   have hl:ds.length≤13:=hg.1
   obtain ⟨c,hc0⟩:∃ c,UInt8.ofNat (48+m % 10)=c:=⟨_,rfl⟩
   rw [hc0] at HD HG
   have hcv:=fun W => conv_digit m W
   rw [hc0] at hcv
   have hcc:∀ W,(Op.stringOp .add ⟨#[c]⟩ ⟨ds.toArray⟩).run Tryz.prog W = .ok (.string ⟨(c :: ds).toArray⟩) W:=fun W => run_string_add_lists W [c] ds (by simp) (by omega)
   have hdm:m / 10≤n:=Nat.le_trans (Nat.div_le_self _ _) hm
   have HB:=zh (hb.alloc hb.size (.cells #[.int .u8 (48+(m:Int) % 10)] 5))
   clear hd hg hb hc0
   rcases Nat.eq_zero_or_pos m with h0 | h0
   ·have hds:ds=[]:=hc.elim (fun h => absurd h (by omega)) id
    have hls:(ds.length:Int)<1:=by rw [hds];simp
    have hl0:ds.length=0:=by rw [hds];rfl
    have HL0:=zh hl0
    subst h0
    rw [show (48:Int)+((0:Nat):Int) % 10=48 by decide] at hcv HB
    rw [Nat.zero_div] at HD HG
    clear hc hds hl0 hl
    go_wp2_with fail
    go_roundw
    case rel => exact ⟨0,_,Nat.zero_le _,rfl,rfl,HD.out,HG.out,HB.out⟩
    case measure => simp [intOf,ByteArray.size,HL0.out]
   ·have d0:decide (0<m)=true:=decide_eq_true h0
    clear hc
    go_wp2_with fail
    go_roundw
    case rel => exact ⟨m / 10,_,hdm,by go_num,rfl,HD.out,HG.out,HB.out⟩
    case measure => simp [intOf,ByteArray.size];omega
  ·have h0:m=0:=by omega
   have hds:ds≠[]:=fun h => hc (.inr h)
   subst h0
   have HE:=zh (digSt_end hd rfl hds)
   have HB:=zh hb
   have hlp:0<ds.length:=List.length_pos_iff.2 hds
   have hls:¬ ((ds.length:Int)<1):=by omega
   clear hd hg hb hc hds
   go_wp2_with fail
   go_ret
   refine ⟨?_,HB.out⟩
   rw [← HE.out]
   rfl
theorem dec_len {n:Nat} (hn:n≤10 ^ 12):(Lib.decDigits n).length≤14:=by
 have:∀ k m:Nat,m≤10 ^ k→(Lib.decDigits m).length≤k+2:=fun k => by
  induction k with
  | zero =>
   intro m hm
   rw [Lib.decDigits_one (by simp at hm;omega)]
   simp
  | succ k ih =>
   intro m hm
   by_cases h:m<10
   ·rw [Lib.decDigits_one h];simp
   ·rw [Lib.decDigits,dif_neg h,List.length_append]
    have:=ih (m / 10) (by rw [Nat.pow_succ] at hm;omega)
    simp only [List.length_singleton]
    omega
 exact this 12 n hn
theorem refFormat0 (n:Nat) (w:World) (hn:n≤10 ^ 12):Calls Tryz.prog 139 #[.int .i64 n,.int .i64 0] w fun e w' => e = .returned (.string ⟨(Lib.decDigits n).toArray⟩)∧Below w.heap.size w w':=by
 have hD:=refDigits n w hn
 have hz:∀ W,(Op.stringOp .add ⟨#[]⟩ ⟨(Lib.decDigits n).toArray⟩).run Tryz.prog W = .ok (.string ⟨(Lib.decDigits n).toArray⟩) W:=fun W => by
  have h1:=dec_len hn
  simpa using run_string_add_lists (P:=Tryz.prog) W [] (Lib.decDigits n) (by simp) (by omega)
 have d0:¬ ((n:Int)<0):=by omega
 clear hn
 go_enter Tryz.func139,Tryz.ntmps139
 go_wp2_with fail
 refine hD.mono ?_
 rintro e w2 ⟨rfl,hb2⟩
 go_wp2_with fail
 go_ret
 exact ⟨rfl,hb2⟩
theorem refNumber (n:Int) (w:World) (h0:0≤n) (hn:n≤1000000000000):Calls Tryz.prog 90 #[.int .i64 n] w fun e w' => e = .returned (.string (itoaA n))∧Below w.heap.size w w':=by
  obtain ⟨m, rfl⟩:∃ m:Nat, n=m:=⟨n.toNat, by omega⟩
  have hF := refFormat0 m w (by have : (10 : Nat) ^ 12 = 1000000000000 := by decide
                                omega)
  have e1:itoaA (m:Int)=⟨(Lib.decDigits m).toArray⟩:=by
    unfold itoaA Lib.itoa
    rw [if_neg (by omega)]
    rfl
  rw [e1]
  clear h0 hn e1
  go_enter Tryz.func90, Tryz.ntmps90
  go_wp2_with fail
  refine hF.mono ?_
  rintro e w2 ⟨rfl, hb2⟩
  go_wp2_with fail
  go_ret
  exact ⟨rfl, hb2⟩
theorem itoa_ab (i:Nat):itoaA (((i+1:Nat):Int))=itoaB (i+1):=rfl
theorem refLine29 (i:Nat) (hi:i<99) (w:World):Calls Tryz.prog 44 #[.int .i64 i] w fun e w' => e = .returned (.string (lineB i))∧Below w.heap.size w w':=by
 have v1:IntKind.i64.wrap ((i:Int)+1)=((i+1:Nat):Int):=(IntWalk.i64_in _ (by omega)).trans (by omega)
 have HNu:=zh (fun W => refNumber ((i+1:Nat):Int) W (by omega) (by omega))
 have hsz:=itoa_size (i+1) (by omega)
 have HL:Hid (lineB i=⟨#[108,105,110,101]⟩ ++ itoaB (i+1)):=rfl
 clear hi
 go_enter Tryz.func44,Tryz.ntmps44
 go_wp2_with fail
 refine (HNu.out w).mono ?_
 rintro e w2 ⟨rfl,hb2⟩
 rw [itoa_ab]
 generalize itoaB (i+1)=ib at *
 have hcc:=fun W => run_string_add_sum (P:=Tryz.prog) W ⟨#[108,105,110,101]⟩ ib (by show 4+ib.size≤_;omega)
 have HB:=zh hb2
 clear hsz hb2 v1 HNu
 go_wp2_with fail
 go_ret
 exact ⟨by rw [HL.out];rfl,HB.out⟩
theorem refOf02 (m:Int) (w:World):Calls Tryz.prog 46 #[.int .i64 m] w fun e w' => e = .returned (.agg #[.int .i64 m,.int .i64 1])∧Below w.heap.size w w':=by
 go_enter Tryz.func46,Tryz.ntmps46
 go_wp2_with fail
 refine bodyPost_ret (v:=.agg #[.int .i64 m,.int .i64 1]) (by simp [results,Tryz.results46,go_sem]) rfl ?_
 exact ⟨rfl,(Below.refl _ _).alloc (Nat.le_refl _) _⟩
theorem holds_is (s:SetT):holdsB s=(decide (-s.brake≤Zt s) && decide (Zt s≤s.brake)):=by
 unfold holdsB
 rw [Bool.eq_iff_iff,Bool.and_eq_true,decide_eq_true_eq,decide_eq_true_eq,decide_eq_true_eq]
 omega
theorem refWithin25 (v:Value) (s:SetT) (z:Int) (w:World) (hv:SetAt w w.heap.size v s) (hbr:0≤s.brake∧s.brake≤67108864) :
  Calls Tryz.prog 88 #[v,.int .i64 z] w fun e w' => e = .returned (.bool (decide (-s.brake≤z) && decide (z≤s.brake)))∧Below w.heap.size w w':=by
 obtain ⟨Al,cl,Ai,ci,Ab,cb,rfl,-,-,-⟩:=hv
 unfold setVal at *
 have HD:=zh (Blk.new w 26 #[.string s.name,.int .i64 s.depth,.int .i64 s.low,.int .i64 s.high,.int .i64 s.len,.slice Al s.lines.length cl,.int .i64 s.pipe,.int .i64 s.arbor,.int .i64 s.purch,.int .i64 s.most,.int .i64 s.brake,.slice Ai s.items.length ci,.slice Ab s.bricks.length cb])
 have HB:=zh ((Below.refl _ w).alloc (Nat.le_refl _) (.cells #[.string s.name,.int .i64 s.depth,.int .i64 s.low,.int .i64 s.high,.int .i64 s.len,.slice Al s.lines.length cl,.int .i64 s.pipe,.int .i64 s.arbor,.int .i64 s.purch,.int .i64 s.most,.int .i64 s.brake,.slice Ai s.items.length ci,.slice Ab s.bricks.length cb] 26))
 have v1:IntKind.i64.wrap (-s.brake) = -s.brake:=IntWalk.i64_in _ (by omega)
 clear hbr
 go_enter Tryz.func88,Tryz.ntmps88
 go_upto_region 1 with fail
 generalize w.alloc (.cells #[.string s.name,.int .i64 s.depth,.int .i64 s.low,.int .i64 s.high,.int .i64 s.len,.slice Al s.lines.length cl,.int .i64 s.pipe,.int .i64 s.arbor,.int .i64 s.purch,.int .i64 s.most,.int .i64 s.brake,.slice Ai s.items.length ci,.slice Ab s.bricks.length cb] 26)=W1 at *
 have z10:=HD.out.cell 10
 simp only [zq1,zq2,zq3] at z10
 by_cases h1 : -s.brake≤z
 ·have d1:decide (-s.brake≤z)=true:=decide_eq_true h1
  clear h1
  obtain ⟨q,hq⟩:∃ q,decide (z≤s.brake)=q:=⟨_,rfl⟩
  have HV:Hid ((decide (-s.brake≤z) && decide (z≤s.brake))=q):=by unfold Hid;rw [d1,hq];rfl
  go_wp2_with fail
  go_ret
  exact ⟨Ze HV.out.symm,HB.out⟩
 ·have d1:decide (-s.brake≤z)=false:=decide_eq_false h1
  have HV:Hid ((decide (-s.brake≤z) && decide (z≤s.brake))=false):=by unfold Hid;rw [d1];rfl
  clear h1
  go_wp2_with fail
  go_ret
  exact ⟨Ze HV.out.symm,HB.out⟩
theorem refHolds25 (v:Value) (s:SetT) (w:World) (hv:SetAt w w.heap.size v s) (hs:setB s=true) :
  Calls Tryz.prog 43 #[v] w fun e w' => e = .returned (.bool (holdsB s))∧Below w.heap.size w w':=by
 have HSA:=zh fun W (hb:Below w.heap.size w W) => (hv.below hb (Nat.le_refl _)).mono hb.size
 have hbr:=(Zm hs).brake
 have HBa:=zh fun u W (h:SetAt W W.heap.size u s) => refBalance25 u s W h hs
 have HWi:=zh fun u W (h:SetAt W W.heap.size u s) => refWithin25 u s (Zt s) W h hbr
 have HH:Hid (holdsB s=(decide (-s.brake≤Zt s) && decide (Zt s≤s.brake))):=holds_is s
 clear hbr hs
 obtain ⟨Al,cl,Ai,ci,Ab,cb,rfl,-,-,-⟩:=hv
 unfold setVal at *
 have HD:=zh (Blk.new w 26 #[.string s.name,.int .i64 s.depth,.int .i64 s.low,.int .i64 s.high,.int .i64 s.len,.slice Al s.lines.length cl,.int .i64 s.pipe,.int .i64 s.arbor,.int .i64 s.purch,.int .i64 s.most,.int .i64 s.brake,.slice Ai s.items.length ci,.slice Ab s.bricks.length cb])
 have HB:=zh ((Below.refl _ w).alloc (Nat.le_refl _) (.cells #[.string s.name,.int .i64 s.depth,.int .i64 s.low,.int .i64 s.high,.int .i64 s.len,.slice Al s.lines.length cl,.int .i64 s.pipe,.int .i64 s.arbor,.int .i64 s.purch,.int .i64 s.most,.int .i64 s.brake,.slice Ai s.items.length ci,.slice Ab s.bricks.length cb] 26))
 go_enter Tryz.func43,Tryz.ntmps43
 go_upto_region 1 with fail
 generalize w.alloc (.cells #[.string s.name,.int .i64 s.depth,.int .i64 s.low,.int .i64 s.high,.int .i64 s.len,.slice Al s.lines.length cl,.int .i64 s.pipe,.int .i64 s.arbor,.int .i64 s.purch,.int .i64 s.most,.int .i64 s.brake,.slice Ai s.items.length ci,.slice Ab s.bricks.length cb] 26)=W1 at *
 have z0:=HD.out.cell 0
 have z1:=HD.out.cell 1
 have z2:=HD.out.cell 2
 have z3:=HD.out.cell 3
 have z4:=HD.out.cell 4
 have z5:=HD.out.cell 5
 have z6:=HD.out.cell 6
 have z7:=HD.out.cell 7
 have z8:=HD.out.cell 8
 have z9:=HD.out.cell 9
 have z10:=HD.out.cell 10
 have z11:=HD.out.cell 11
 have z12:=HD.out.cell 12
 simp only [zq1,zq2,zq3] at z0 z1 z2 z3 z4 z5 z6 z7 z8 z9 z10 z11 z12
 have uz0:=HeldB.cell z0
 have uz1:=HeldB.cell z1
 have uz2:=HeldB.cell z2
 have uz3:=HeldB.cell z3
 have uz4:=HeldB.cell z4
 have uz5:=HeldB.cell z5
 have uz6:=HeldB.cell z6
 have uz7:=HeldB.cell z7
 have uz8:=HeldB.cell z8
 have uz9:=HeldB.cell z9
 have uz10:=HeldB.cell z10
 have uz11:=HeldB.cell z11
 have uz12:=HeldB.cell z12
 clear z0 z1 z2 z3 z4 z5 z6 z7 z8 z9 z10 z11 z12
 refine wp_region_grow 4 (fun jx => if jx=2 then some (gOne (.int .i64 (Zt s))) else if jx=3 then some (gOne (.bool (decide (-s.brake≤Zt s) && decide (Zt s≤s.brake)))) else none) (by kernel_rfl) (by kernel_rfl) ?_
 simp only [zt1,zt2,zt3,zt4]
 refine wpG_quiet 2 (by kernel_rfl) (by rfl) (by decide) ?_
 simp only [zt1,zt2,zt3,zt4]
 repeat (go_big_quiet_step (fail))
 refine wpQuiet_nil ?_
 refine wpG_call rfl rfl ?_ ?_
 ·intro w1 hb1 hk
  have hC:=Calls.mono (R':=fun e wx => ∃ v,e = .returned v∧Below w1.heap.size w1 wx∧(gOne (.int .i64 (Zt s))).σ v∧(gOne (.int .i64 (Zt s))).φ v wx) (HBa.out _ w1 (HSA.out _ (HB.out.trans (hb1.mono HB.out.size)))) fun _ _ hp => ⟨_,hp.1,hp.2,rfl,trivial⟩
  exact ⟨89,#[.agg #[.string s.name,.int .i64 s.depth,.int .i64 s.low,.int .i64 s.high,.int .i64 s.len,.slice Al s.lines.length cl,.int .i64 s.pipe,.int .i64 s.arbor,.int .i64 s.purch,.int .i64 s.most,.int .i64 s.brake,.slice Ai s.items.length ci,.slice Ab s.bricks.length cb]],by go_simp,hC⟩
 rintro _ rfl
 simp only [Act.put,zs1,zs2,zs3]
 refine wpG_call rfl rfl ?_ ?_
 ·intro w1 hb1 hk
  have hC:=Calls.mono (R':=fun e wx => ∃ v,e = .returned v∧Below w1.heap.size w1 wx∧(gOne (.bool (decide (-s.brake≤Zt s) && decide (Zt s≤s.brake)))).σ v∧(gOne (.bool (decide (-s.brake≤Zt s) && decide (Zt s≤s.brake)))).φ v wx) (HWi.out _ w1 (HSA.out _ (HB.out.trans (hb1.mono HB.out.size)))) fun _ _ hp => ⟨_,hp.1,hp.2,rfl,trivial⟩
  exact ⟨88,#[.agg #[.string s.name,.int .i64 s.depth,.int .i64 s.low,.int .i64 s.high,.int .i64 s.len,.slice Al s.lines.length cl,.int .i64 s.pipe,.int .i64 s.arbor,.int .i64 s.purch,.int .i64 s.most,.int .i64 s.brake,.slice Ai s.items.length ci,.slice Ab s.bricks.length cb],.int .i64 (Zt s)],by go_simp,hC⟩
 rintro _ rfl
 simp only [Act.put,zs1,zs2,zs3]
 refine Zc ?_
 intro w8 hb8 hF
 have HB8:=zh (HB.out.trans (hb8.mono HB.out.size))
 clear hF hb8 uz0 uz1 uz2 uz3 uz4 uz5 uz6 uz7 uz8 uz9 uz10 uz11 uz12 HD
 rw [← HH.out]
 go_wp2_with fail
 go_ret
 exact ⟨rfl,HB8.out⟩
theorem refMiddle21 (x:ItemT) (w:World) (hx:0≤x.pos∧x.pos≤1048576∧1≤x.width∧x.width≤1048576) :
  Calls Tryz.prog 127 #[x.val] w fun e w' => e = .returned (.int .i64 (midL x))∧w.alloc (.cells #[.string x.name,.int .i64 x.pos,.int .i64 x.width,.int .i64 x.wt,.int .i64 x.hang,.int .i64 x.front,.int .i64 x.back] 118)=w':=by
 have HV:Hid (midL x=x.pos+x.width / 2):=rfl
 obtain ⟨h1,h2,h3,h4⟩:=hx
 have v1:IntKind.i64.wrap (x.width / 2)=x.width / 2:=IntWalk.i64_in _ (by omega)
 have v2:IntKind.i64.wrap (x.pos+x.width / 2)=x.pos+x.width / 2:=IntWalk.i64_in _ (by omega)
 have v3:x.width.tdiv 2=x.width / 2:=Int.tdiv_eq_ediv_of_nonneg (by omega)
 clear h1 h2 h3 h4
 go_enter Tryz.func127,Tryz.ntmps127
 go_wp2
 go_ret
 exact ⟨by rw [HV.out];rfl,rfl⟩
def gNl:GPost:=⟨fun v => ∃ g,v = .slice (some ⟨g,0,none⟩) 0 0,fun _ _ => True,⟨_,0,rfl⟩,fun _ _ _ _ _ => trivial,false⟩
theorem gNl_new {P:Program} {o:Oper} {a:Act} {w:World} {T:TypeId} {fz:Nat × Nat} (h:(execOp a.eval o).run P w = .ok (.value (.slice (some ⟨w.heap.size,0,none⟩) 0 0)) (w.alloc (.cells #[] T fz))):newAt P o a gNl w :=
 ⟨_,_,h,(Below.refl _ _).alloc (Nat.le_refl _) _,⟨_,rfl⟩,trivial,fun h => by cases h⟩
theorem clone_new {o : Oper} {a : Act} {w : World} {B g : Nat} {s x : Operand} {v : Value} {l : List Int} (ho : o.op = .call { callee := .builtin .append,args := #[s,x],argTypes := #[22,22] }) (hs : a.eval s = .slice (some ⟨g,0,none⟩) 0 0) (hx : a.eval x = v)
  (hl:IntsAt w w.heap.size v l) (h0:0<l.length) (hlen:l.length≤1000000) (hB:B≤w.heap.size):newAt Tryz.prog o a (gO B l) w:=by
 obtain ⟨A,c,rfl,hc1,hc2,hcell⟩:=hl.open_
 obtain ⟨b,off,rfl,hb,hcs⟩:=hcell 0 h0
 obtain ⟨i0,hi0,hz0,hz1,hz2⟩:=info_parts info_int3
 obtain ⟨v',w',hr,hown,hg⟩ := run_append_arg_grows (P := Tryz.prog) w 22 o.type 3 i0 _ 1 8 Tryz.underlying22 hi0 hz0 hz1 hz2 rfl (by decide) ⟨g,0,none⟩ 0 0 [] rfl (fun j u hu => by simp at hu)
  ⟨b,off,none⟩ l.length c (l.map (Value.int .i64)) (by simp) (fun j u hu => by
   rw [List.getElem?_map,Option.map_eq_some_iff] at hu
   obtain ⟨z,hz,rfl⟩:=hu
   obtain ⟨hj,rfl⟩:=List.getElem?_eq_some_iff.1 hz
   rw [Addr.add_lit]
   exact hcs j hj) (by omega) (by unfold maxLen;omega) (by omega)
 rw [Nat.zero_add,List.nil_append] at hown
 exact ⟨v',w',chain_append ho hs hx hr,below_grown hg,own_formB hown,own_mono hown hB,fun h => by cases h⟩
def BeamPost21 (s:SetT) (w:World) (e:Ending) (w':World):Prop:=Below w.heap.size w w'∧∃ v,e = .returned v∧BeamAt w' w'.heap.size v (beamS s)
theorem refBeam21 (v:Value) (s:SetT) (w:World) (hv:SetAt w w.heap.size v s) (hok:setB s=true):Calls Tryz.prog 84 #[v] w (BeamPost21 s w):=by
  have hk:=Zm hok
  have HX:=zh fun x (hx:x ∈ s.items) => inside_ok (hk.wts.2 x hx).2
  have hlen:=hk.len
  have h40:=hk.wts.1
  have h2:0<s.lines.length:=(okBm_ok (beamS_ok hok)).sup1.1
  have h10:s.lines.length≤1000:=by
    have:=(okBm_ok (beamS_ok hok)).sup1
    exact Nat.le_trans this.2 (by decide)
  clear hk hok
  obtain ⟨Al, cl, Ai, ci, Ab, cb, rfl, hL, hI, -⟩:=hv
  have HL:=zh hL
  obtain ⟨_, _, e, hi1, hi2, hic⟩:=hI.open_
  injection e with e1 _ e2
  subst e1 e2
  have HI:=zh hic
  unfold maxLen at hi2
  clear hL hI hic
  unfold setVal at *
  go_enter Tryz.func84, Tryz.ntmps84
  go_wp2_with (exact Go.WalkKit.wp_stop)
  have hd0:=(Blk.new w 26 #[.string s.name, .int .i64 s.depth, .int .i64 s.low, .int .i64 s.high, .int .i64 s.len, .slice Al s.lines.length cl, .int .i64 s.pipe, .int .i64 s.arbor, .int .i64 s.purch, .int .i64 s.most, .int .i64 s.brake, .slice Ai s.items.length ci, .slice Ab s.bricks.length cb]).alloc (.cells #[.string ⟨#[]⟩, .int .i64 0, .slice none 0 0, .slice none 0 0, .int .i64 0] 122)
  have hd1:=Blk.new (w.alloc (.cells #[.string s.name, .int .i64 s.depth, .int .i64 s.low, .int .i64 s.high, .int .i64 s.len, .slice Al s.lines.length cl, .int .i64 s.pipe, .int .i64 s.arbor, .int .i64 s.purch, .int .i64 s.most, .int .i64 s.brake, .slice Ai s.items.length ci, .slice Ab s.bricks.length cb] 26)) 122 #[.string ⟨#[]⟩, .int .i64 0, .slice none 0 0, .slice none 0 0, .int .i64 0]
  rw [World.size_alloc] at hd1
  have hB2:=((Below.refl _ w).alloc (Nat.le_refl _) (.cells #[.string s.name, .int .i64 s.depth, .int .i64 s.low, .int .i64 s.high, .int .i64 s.len, .slice Al s.lines.length cl, .int .i64 s.pipe, .int .i64 s.arbor, .int .i64 s.purch, .int .i64 s.most, .int .i64 s.brake, .slice Ai s.items.length ci, .slice Ab s.bricks.length cb] 26)).alloc (by simp) (.cells #[.string ⟨#[]⟩, .int .i64 0, .slice none 0 0, .slice none 0 0, .int .i64 0] 122)
  have hs2:((w.alloc (.cells #[.string s.name, .int .i64 s.depth, .int .i64 s.low, .int .i64 s.high, .int .i64 s.len, .slice Al s.lines.length cl, .int .i64 s.pipe, .int .i64 s.arbor, .int .i64 s.purch, .int .i64 s.most, .int .i64 s.brake, .slice Ai s.items.length ci, .slice Ab s.bricks.length cb] 26)).alloc (.cells #[.string ⟨#[]⟩, .int .i64 0, .slice none 0 0, .slice none 0 0, .int .i64 0] 122)).heap.size=w.heap.size+1+1:=by simp
  generalize (w.alloc (.cells #[.string s.name, .int .i64 s.depth, .int .i64 s.low, .int .i64 s.high, .int .i64 s.len, .slice Al s.lines.length cl, .int .i64 s.pipe, .int .i64 s.arbor, .int .i64 s.purch, .int .i64 s.most, .int .i64 s.brake, .slice Ai s.items.length ci, .slice Ab s.bricks.length cb] 26)).alloc (.cells #[.string ⟨#[]⟩, .int .i64 0, .slice none 0 0, .slice none 0 0, .int .i64 0] 122)=W2 at *
  have HD0:=zh hd0
  have HD1:=zh hd1
  have HB2:=zh hB2
  have HS2:=zh hs2
  clear hd0 hd1 hB2 hs2
  have y0:=HD0.out.cell 0
  have y4:=HD0.out.cell 4
  have y5:=HD0.out.cell 5
  have y6:=HD0.out.cell 6
  simp only [zq1, zq2, zq3] at y0 y4 y5 y6
  have u0:=HeldB.cell y0
  have u4:=HeldB.cell y4
  have u5:=HeldB.cell y5
  have u6:=HeldB.cell y6
  clear y0 y4 y5 y6
  refine wp_region_grow 12 (fun jx => if jx=4 then some gNl else if jx=7 then some (gO w.heap.size s.lines) else if jx=11 then some (gBox W2.heap.size) else none) (by kernel_rfl) (by kernel_rfl) ?_
  simp only [zt1, zt2, zt3, zt4]
  refine wpG_quiet 4 (by kernel_rfl) (by rfl) (by decide) ?_
  simp only [zt1, zt2, zt3, zt4]
  repeat (go_big_quiet_step (fail))
  refine wpQuiet_nil ?_
  refine wpG_new rfl rfl (fun w1 hb1 _ => gNl_new (T:=3) (fz:=(0, 0)) (by go_simp)) ?_
  rintro _ ⟨g9, rfl⟩
  simp only [Act.put, zs1, zs2, zs3]
  refine wpG_quiet 2 (by kernel_rfl) (by rfl) (by decide) ?_
  simp only [zt1, zt2, zt3, zt4]
  repeat (go_big_quiet_step (fail))
  refine wpQuiet_nil ?_
  refine wpG_new rfl rfl ?_ ?_
  · intro w1 hb1 hk
    have hb:=HB2.out.trans (hb1.mono HB2.out.size)
    exact clone_new (s:=.tmp 9) (x:=.tmp 11) (g:=g9) (B:=w.heap.size) rfl (by go_simp) (by go_simp) (RowAt.mono (RowAt.below HL.out hb (Nat.le_refl _)) hb.size) (by omega) (by omega) hb.size
  rintro _ ⟨A2, c2, rfl⟩
  simp only [Act.put, zs1, zs2, zs3]
  refine wpG_quiet 3 (by kernel_rfl) (by rfl) (by decide) ?_
  simp only [zt1, zt2, zt3, zt4]
  repeat (go_big_quiet_step (fail))
  refine wpQuiet_nil ?_
  refine wpG_new rfl rfl (fun w1 hb1 _ => gBox_new hb1.size (by go_simp)) ?_
  rintro _ ⟨G, rfl⟩
  simp only [Act.put, zs1, zs2, zs3]
  refine Zc ?_
  intro w8 hb8 hF
  have h12:w8.ownsRow w.heap.size 3 1 (.slice A2 s.lines.length c2) s.lines.length (s.lines.map (Value.int .i64)):=hF 12
  have h3:AtBeam W2.heap.size (.pointer (some ⟨G, 0, none⟩)) w8:=hF 3
  obtain ⟨_, e3, hfar, b3⟩:=h3
  injection e3 with e3
  injection e3 with e3
  injection e3 with e3 _ _
  subst e3
  rw [HS2.out] at hfar
  have HD08:=zh (HD0.out.below hb8 HD0.out.lt)
  have HD18:=zh (HD1.out.below hb8 HD1.out.lt)
  have HB8:=zh (HB2.out.trans (hb8.mono HB2.out.size))
  have f0:=b3.frozen 0
  have f1:=b3.frozen 1
  have f2:=b3.frozen 2
  have f3:=b3.frozen 3
  have f4:=b3.frozen 4
  have c0:=b3.cell 0
  have c1:=b3.cell 1
  have cc2:=b3.cell 2
  have c3:=b3.cell 3
  have c4:=b3.cell 4
  simp only [zq1, zq2, zq3] at c0 c1 cc2 c3 c4
  have h5:=((((b3.set_ 0 (.string s.name)).set_ 1 (.int .i64 s.len)).set_ 2 (.slice A2 s.lines.length c2)).set_ 3 (.slice none 0 0)).set_ 4 (.int .i64 s.pipe)
  have hGr:=set5_grownB w8 G (.string s.name) (.int .i64 s.len) (.slice A2 s.lines.length c2) (.slice none 0 0) (.int .i64 s.pipe)
  have hBo:Hid (BoS w (((((w8.setCell ⟨G, 0, none⟩ (.string s.name)).setCell ⟨G, 1, none⟩ (.int .i64 s.len)).setCell ⟨G, 2, none⟩ (.slice A2 s.lines.length c2)).setCell ⟨G, 3, none⟩ (.slice none 0 0)).setCell ⟨G, 4, none⟩ (.int .i64 s.pipe)) #[.string s.name, .int .i64 s.depth, .int .i64 s.low, .int .i64 s.high, .int .i64 s.len, .slice Al s.lines.length cl, .int .i64 s.pipe, .int .i64 s.arbor, .int .i64 s.purch, .int .i64 s.most, .int .i64 s.brake, .slice Ai s.items.length ci, .slice Ab s.bricks.length cb] s G (.slice A2 s.lines.length c2) (.slice none 0 0) []):=by
    refine ⟨HD08.out.kept hGr (by simp; omega), HD18.out.kept hGr (by simp; omega), h5, h12.kept hGr (Zj h12 fun r e c f hh => ?_), World.ownsRow_nil _ _ _ _, HB8.out.grown hGr HB8.out.size (fun k e => by simp at e; omega), by omega⟩
    obtain rfl:G=r:=by simpa using e
    have hb:=b3
    unfold Blk at hb
    rw [hb] at hh
    injection hh with hh
    injection hh with _ hh _
    exact absurd hh (by decide)
  clear h12 h5 hGr b3 hfar HB8 HD08 HD18 hF hb8 u0 u4 u5 u6 HD0 HD1 HB2 HS2
  have z11:=hBo.out.d0.cell 11
  simp only [zq1, zq2, zq3] at z11
  go_wp2_with (exact Go.WalkKit.wp_stop)
  clear f0 f1 f2 f3 f4 c0 c1 cc2 c3 c4
  generalize (((((w8.setCell ⟨G, 0, none⟩ (.string s.name)).setCell ⟨G, 1, none⟩ (.int .i64 s.len)).setCell ⟨G, 2, none⟩ (.slice A2 s.lines.length c2)).setCell ⟨G, 3, none⟩ (.slice none 0 0)).setCell ⟨G, 4, none⟩ (.int .i64 s.pipe))=W9 at *
  have hmid:=fun (x:ItemT) (h:0≤x.pos∧x.pos≤1048576∧1≤x.width∧x.width≤1048576) W => refMiddle21 x W h
  have HMid:=zh hmid
  clear hmid
  go_loopw [4] (fun ix wr => ∃ k:Nat, k≤s.items.length∧ix = .int .i64 k∧Hid (∃ v3, BoS w wr #[.string s.name, .int .i64 s.depth, .int .i64 s.low, .int .i64 s.high, .int .i64 s.len, .slice Al s.lines.length cl, .int .i64 s.pipe, .int .i64 s.arbor, .int .i64 s.purch, .int .i64 s.most, .int .i64 s.brake, .slice Ai s.items.length ci, .slice Ab s.bricks.length cb] s G (.slice A2 s.lines.length c2) v3 ((s.items.map loadOf).take k))) (fun ix _ => s.items.length-(intOf ix).toNat)
  case atStart => exact ⟨0, Nat.zero_le _, rfl, ⟨_, hBo.out⟩⟩
  case round =>
    clear hBo z11
    obtain ⟨k, hk, rfl, HTx⟩:=hrel
    obtain ⟨v3, hT⟩:=HTx.out
    have HT:=zh hT
    clear hT HTx
    have k0:(0:Int)≤(k:Int):=Int.natCast_nonneg _
    by_cases hkl:k<s.items.length
    · have k1:(k:Int)<(s.items.length:Int):=by omega
      obtain ⟨b1, off1, rfl, hb1, hc⟩:=HI.out k hkl
      have hbel:=HT.out.bel
      have y0:=(hc k hkl).1
      have y1:=(hc k hkl).2.1
      have y2:=(hc k hkl).2.2.1
      have y3:=(hc k hkl).2.2.2.1
      have y4:=(hc k hkl).2.2.2.2.1
      have y5:=(hc k hkl).2.2.2.2.2.1
      have y6:=(hc k hkl).2.2.2.2.2.2
      have hx:=HX.out _ (List.getElem_mem hkl)
      have HY:Hid ((s.items.map loadOf).take (k+1)=(s.items.map loadOf).take k ++ [loadOf s.items[k]]):=by
        unfold Hid
        rw [take_snoc _ k (by simpa using hkl)]
        simp
      have hyl:((s.items.map loadOf).take k).length≤1000:=by
        rw [List.length_take, List.length_map]
        omega
      have HLn:Hid (((s.items.map loadOf).take k).length=k):=by
        unfold Hid
        rw [List.length_take, List.length_map]
        omega
      have hmid:=HMid.out s.items[k] (by omega)
      generalize s.items[k]=x at *
      obtain ⟨nm, pos, width, wt, hang, front, back⟩:=x
      simp only at y0 y1 y2 y3 y4 y5 y6 hmid
      have hml:loadOf ⟨nm, pos, width, wt, hang, front, back⟩=⟨midL ⟨nm, pos, width, wt, hang, front, back⟩, wt⟩:=rfl
      rw [hml] at HY
      clear hml
      generalize midL ⟨nm, pos, width, wt, hang, front, back⟩=mid at *
      obtain ⟨A3, k3, hv3⟩:=own_formB HT.out.o3
      rw [HLn.out] at hv3
      generalize hys:(s.items.map loadOf).take k=ys at *
      have T0:BoS w wr.drew #[.string s.name, .int .i64 s.depth, .int .i64 s.low, .int .i64 s.high, .int .i64 s.len, .slice Al s.lines.length cl, .int .i64 s.pipe, .int .i64 s.arbor, .int .i64 s.purch, .int .i64 s.most, .int .i64 s.brake, .slice (some ⟨b1, off1, none⟩) s.items.length ci, .slice Ab s.bricks.length cb] s G (.slice A2 s.lines.length c2) v3 ys:=HT.out.below ((Below.refl _ _).drew)
      have T1:=T0.below ((Below.refl _ _).alloc (Nat.le_refl _) (.cells #[.string nm, .int .i64 pos, .int .i64 width, .int .i64 wt, .int .i64 hang, .int .i64 front, .int .i64 back] 118))
      have T2:=T1.below ((Below.refl _ _).alloc (Nat.le_refl _) (.cells #[.int .i64 mid, .int .i64 wt] 162))
      obtain ⟨w2, hw2⟩:∃ w2, (wr.drew.alloc (.cells #[.string nm, .int .i64 pos, .int .i64 width, .int .i64 wt, .int .i64 hang, .int .i64 front, .int .i64 back] 118)).alloc (.cells #[.int .i64 mid, .int .i64 wt] 162)=w2:=⟨_, rfl⟩
      have hN:Blk w2 (wr.heap.size+1) 162 #[.int .i64 mid, .int .i64 wt]:=by
        have h:=Blk.new (wr.drew.alloc (.cells #[.string nm, .int .i64 pos, .int .i64 width, .int .i64 wt, .int .i64 hang, .int .i64 front, .int .i64 back] 118)) 162 #[.int .i64 mid, .int .i64 wt]
        rw [World.size_alloc, hw2] at h
        exact h
      rw [hw2] at T2
      obtain ⟨i0, hi0, hz0, hz1, hz2⟩:=info_parts info_load3
      have hown:w2.ownsRow w.heap.size 162 2 v3 k (ys.flatMap LoadT.cells):=by have h:=T2.o3; rw [HLn.out] at h; exact h
      obtain ⟨g3, cap3, wz, hrun, hoz, hgz, -, -⟩ := run_append_lies (P := Tryz.prog) (w := w2) 120 120 w.heap.size 162 i0 _ 2 16 Tryz.underlying120 hi0 hz0 hz1 hz2 rfl (by decide)
        v3 k (ys.flatMap LoadT.cells) hown ⟨wr.heap.size+1, 0, none⟩ 1 1 [.int .i64 mid, .int .i64 wt] rfl
        (fun j u hu => by rw [Addr.add_lit, Nat.zero_add]; exact (hN.cell j).trans (by simpa using hu)) (fun u hu => by simp at hu; rcases hu with rfl | rfl <;> rfl) (by omega) (by unfold maxLen; omega) (by omega) T2.bel.size _ rfl
      have T4:=T2.push (v':=.slice (some ⟨g3, 0, none⟩) (k+1) cap3) (w1:=wz) (y:=⟨mid, wt⟩) (by rw [HLn.out]; exact hoz) hgz
      have hZ2:=T4.1
      have hbZ:Below w.heap.size w wz:=T2.bel.grown hgz T2.bel.size (fun k e => (hown.lt k e).1)
      have hZ0:=T2.d0.kept hgz (T2.d0.ne_own hown (by decide))
      rw [hv3] at hrun T0 T1 T2 hZ2
      obtain ⟨Wd, hW0, hW1, hW2, hW3, hW4⟩:∃ Wd:Nat→World, Wd 0=wr.drew∧Wd 1=wr.drew.alloc (.cells #[.string nm, .int .i64 pos, .int .i64 width, .int .i64 wt, .int .i64 hang, .int .i64 front, .int .i64 back] 118)∧Wd 2=w2∧Wd 3=wz∧Wd 4=wz.setCell ⟨G, 3, none⟩ (.slice (some ⟨g3, 0, none⟩) (k+1) cap3) :=
        ⟨fun m => if m=0 then wr.drew else if m=1 then wr.drew.alloc (.cells #[.string nm, .int .i64 pos, .int .i64 width, .int .i64 wt, .int .i64 hang, .int .i64 front, .int .i64 back] 118) else if m=2 then w2 else if m=3 then wz else wz.setCell ⟨G, 3, none⟩ (.slice (some ⟨g3, 0, none⟩) (k+1) cap3), rfl, rfl, rfl, rfl, rfl⟩
      have hWB:∀ m, m≤4→Below w.heap.size w (Wd m)∧Blk (Wd m) w.heap.size 26 #[.string s.name, .int .i64 s.depth, .int .i64 s.low, .int .i64 s.high, .int .i64 s.len, .slice Al s.lines.length cl, .int .i64 s.pipe, .int .i64 s.arbor, .int .i64 s.purch, .int .i64 s.most, .int .i64 s.brake, .slice (some ⟨b1, off1, none⟩) s.items.length ci, .slice Ab s.bricks.length cb]:=fun m hm => by
        rcases m with _ | _ | _ | _ | _ | m
        · rw [hW0]; exact ⟨T0.bel, T0.d0⟩
        · rw [hW1]; exact ⟨T1.bel, T1.d0⟩
        · rw [hW2]; exact ⟨T2.bel, T2.d0⟩
        · rw [hW3]; exact ⟨hbZ, hZ0⟩
        · rw [hW4]; exact ⟨T4.2.bel, T4.2.d0⟩
        · omega
      have c11:∀ m, m≤4→(Wd m).cell? ⟨w.heap.size, 11, none⟩=some (.slice (some ⟨b1, off1, none⟩) s.items.length ci):=fun m hm => ((hWB m hm).2.cell 11).trans rfl
      have x0:∀ m, m≤4→(Wd m).cell? ⟨b1, off1+k*7, none⟩=some (.string nm):=fun m hm => ((hWB m hm).1.cell (p:=⟨b1, off1+k*7, none⟩) hb1).trans y0
      have x1:∀ m, m≤4→(Wd m).cell? ⟨b1, off1+k*7+1, none⟩=some (.int .i64 pos):=fun m hm => ((hWB m hm).1.cell (p:=⟨b1, off1+k*7+1, none⟩) hb1).trans y1
      have x2:∀ m, m≤4→(Wd m).cell? ⟨b1, off1+k*7+2, none⟩=some (.int .i64 width):=fun m hm => ((hWB m hm).1.cell (p:=⟨b1, off1+k*7+2, none⟩) hb1).trans y2
      have x3:∀ m, m≤4→(Wd m).cell? ⟨b1, off1+k*7+3, none⟩=some (.int .i64 wt):=fun m hm => ((hWB m hm).1.cell (p:=⟨b1, off1+k*7+3, none⟩) hb1).trans y3
      have x4:∀ m, m≤4→(Wd m).cell? ⟨b1, off1+k*7+4, none⟩=some (.int .i64 hang):=fun m hm => ((hWB m hm).1.cell (p:=⟨b1, off1+k*7+4, none⟩) hb1).trans y4
      have x5:∀ m, m≤4→(Wd m).cell? ⟨b1, off1+k*7+5, none⟩=some (.int .i64 front):=fun m hm => ((hWB m hm).1.cell (p:=⟨b1, off1+k*7+5, none⟩) hb1).trans y5
      have x6:∀ m, m≤4→(Wd m).cell? ⟨b1, off1+k*7+6, none⟩=some (.int .i64 back):=fun m hm => ((hWB m hm).1.cell (p:=⟨b1, off1+k*7+6, none⟩) hb1).trans y6
      have d3:∀ m, m≤2→(Wd m).cell? ⟨G, 3, none⟩=some (.slice A3 k k3):=fun m hm => by
        rcases m with _ | _ | _ | m
        · rw [hW0]; exact (T0.d2.cell 3).trans rfl
        · rw [hW1]; exact (T1.d2.cell 3).trans rfl
        · rw [hW2]; exact (T2.d2.cell 3).trans rfl
        · omega
      have hz3:wz.cell? ⟨G, 3, none⟩=some (.slice A3 k k3):=(hZ2.cell 3).trans rfl
      have hf3:=hZ2.frozen 3
      have W0:=zh hW0
      have W4:=zh hW4
      have HT4:=zh T4.2
      have H2:=zh hw2
      have HO0:=zh HT.out.d0
      have z11:=HT.out.d0.cell 11
      simp only [zq1, zq2, zq3] at z11
      clear T0 T1 T2 T4 hWB hZ0 hZ2 hbZ hoz hgz hN hi0 hz0 hz1 hz2 hown HT hw2 hys hv3 hc hbel hx
      go_upto_region 5 with fail
      clear z11
      refine wp_region_chainL [.pointer (some ⟨G, 3, none⟩), .slice A3 k k3, .pointer (some ⟨w.heap.size, 11, none⟩), .slice (some ⟨b1, off1, none⟩) s.items.length ci, .int .i64 k, .pointer (some ⟨b1, off1+k*7, none⟩), .agg #[.string nm, .int .i64 pos, .int .i64 width, .int .i64 wt, .int .i64 hang, .int .i64 front, .int .i64 back], .int .i64 mid,
        .pointer (some ⟨w.heap.size, 11, none⟩), .slice (some ⟨b1, off1, none⟩) s.items.length ci, .int .i64 k, .pointer (some ⟨b1, off1+k*7, none⟩), .pointer (some ⟨b1, off1+k*7+3, none⟩), .int .i64 wt, .agg #[.int .i64 mid, .int .i64 wt], .slice (some ⟨wr.heap.size+1, 0, none⟩) 1 1, .slice (some ⟨g3, 0, none⟩) (k+1) cap3, .pointer (some ⟨G, 3, none⟩), undef] Wd [7, 15, 16, 18] (by kernel_rfl) (by kernel_rfl) (by kernel_rfl) (by decide) (by rfl) W0.out ?_ ?_
      · simp only [putAll, Act.put, zs1, zs2, zs3]
        simp only [chainAll]
        refine ⟨?_, ?_, ?_, ?_, ?_, ?_, ?_, ?_, ?_, ?_, ?_, ?_, ?_, ?_, ?_, ?_, ?_, ?_, ?_, trivial⟩
        · exact .inl ⟨by decide, fun m hm hok => by go_simp⟩
        · exact .inl ⟨by decide, fun m hm hok => by
            have hm1:m≤2:=by
              rcases m with _ | _ | _ | _ | _ | m
              · omega
              · omega
              · omega
              · exact absurd (Eq.trans (a:=false) (by kernel_rfl) hok) Bool.false_ne_true
              · exact absurd (Eq.trans (a:=false) (by kernel_rfl) hok) Bool.false_ne_true
              · exact absurd hm (by show ¬ m+5≤4; omega)
            have h:=d3 m hm1
            go_simp⟩
        · exact .inl ⟨by decide, fun m hm hok => by go_simp⟩
        · exact .inl ⟨by decide, fun m hm hok => by have h:=c11 m hm; go_simp⟩
        · exact .inl ⟨by decide, fun m hm hok => by go_simp⟩
        · exact .inl ⟨by decide, fun m hm hok => by go_simp⟩
        · exact .inl ⟨by decide, fun m hm hok => by have h0:=x0 m hm; have h1:=x1 m hm; have h2:=x2 m hm; have h3:=x3 m hm; have h4:=x4 m hm; have h5:=x5 m hm; have h6:=x6 m hm; go_simp⟩
        · exact .inr ⟨0, rfl, .inr (.inr ⟨127, #[.agg #[.string nm, .int .i64 pos, .int .i64 width, .int .i64 wt, .int .i64 hang, .int .i64 front, .int .i64 back]], by rw [W0.out]; go_simp, (hmid (Wd 0)).mono fun e w' hp => ⟨hp.1, by rw [← hp.2, W0.out]; exact hW1.symm⟩⟩)⟩
        · exact .inl ⟨by decide, fun m hm hok => by go_simp⟩
        · exact .inl ⟨by decide, fun m hm hok => by have h:=c11 m hm; go_simp⟩
        · exact .inl ⟨by decide, fun m hm hok => by go_simp⟩
        · exact .inl ⟨by decide, fun m hm hok => by go_simp⟩
        · exact .inl ⟨by decide, fun m hm hok => by go_simp⟩
        · exact .inl ⟨by decide, fun m hm hok => by have h:=x3 m hm; go_simp⟩
        · exact .inl ⟨by decide, fun m hm hok => by go_simp⟩
        · exact .inr ⟨1, rfl, .inr (.inl (by rw [hW1, hW2, ← H2.out]; go_simp))⟩
        · exact .inr ⟨2, rfl, .inr (.inl (by rw [hW2, hW3]; exact chain_append rfl (by go_simp) (by go_simp) hrun))⟩
        · exact .inl ⟨by decide, fun m hm hok => by go_simp⟩
        · exact .inr ⟨3, rfl, .inl ⟨rfl, by rw [hW3, W4.out]; go_simp⟩⟩
      · simp only [putAll, Act.put, zs1, zs2, zs3]
        have eW:Wd (List.length [7, 15, 16, 18])=wz.setCell ⟨G, 3, none⟩ (.slice (some ⟨g3, 0, none⟩) (k+1) cap3):=W4.out
        rw [eW]
        clear eW W4 W0 hW1 hW2 hW3 c11 x0 x1 x2 x3 x4 x5 x6 d3 hz3 hf3 hrun H2 HO0 hmid
        generalize wz.setCell ⟨G, 3, none⟩ (.slice (some ⟨g3, 0, none⟩) (k+1) cap3)=W9 at *
        go_wp2_with fail
        go_roundw
        case rel => exact ⟨k+1, by omega, by go_num, ⟨_, by rw [HY.out]; exact HT4.out⟩⟩
        case measure => simp [intOf]; omega
    · obtain rfl:k=s.items.length:=by omega
      have hT:=HT.out
      rw [List.take_of_length_le (by simp)] at hT
      obtain ⟨A3, c3, rfl⟩:=own_formB hT.o3
      have y0:=hT.d2.cell 0
      have y1:=hT.d2.cell 1
      have y2:=hT.d2.cell 2
      have y3:=hT.d2.cell 3
      have y4:=hT.d2.cell 4
      have x11:=hT.d0.cell 11
      simp only [zq1, zq2, zq3] at x11
      have z0:=hT.d1.cell 0
      have z1:=hT.d1.cell 1
      have z2:=hT.d1.cell 2
      have z3:=hT.d1.cell 3
      have z4:=hT.d1.cell 4
      have f0:=hT.d1.frozen 0
      have f1:=hT.d1.frozen 1
      have f2:=hT.d1.frozen 2
      have f3:=hT.d1.frozen 3
      have f4:=hT.d1.frozen 4
      simp only [zq1, zq2, zq3] at y0 y1 y2 y3 y4 z0 z1 z2 z3 z4
      have HT:=zh hT
      clear hT
      have hD9:Blk (((((wr.setCell ⟨w.heap.size+1, 0, none⟩ (.string s.name)).setCell ⟨w.heap.size+1, 1, none⟩ (.int .i64 s.len)).setCell ⟨w.heap.size+1, 2, none⟩ (.slice A2 s.lines.length c2)).setCell ⟨w.heap.size+1, 3, none⟩ (.slice A3 (s.items.map loadOf).length c3)).setCell ⟨w.heap.size+1, 4, none⟩ (.int .i64 s.pipe)) (w.heap.size+1) 122 #[.string s.name, .int .i64 s.len, .slice A2 s.lines.length c2, .slice A3 (s.items.map loadOf).length c3, .int .i64 s.pipe]:=((((HT.out.d1.set_ 0 (.string s.name)).set_ 1 (.int .i64 s.len)).set_ 2 (.slice A2 s.lines.length c2)).set_ 3 (.slice A3 (s.items.map loadOf).length c3)).set_ 4 (.int .i64 s.pipe)
      have hG9:=set5_grownB wr (w.heap.size+1) (.string s.name) (.int .i64 s.len) (.slice A2 s.lines.length c2) (.slice A3 (s.items.map loadOf).length c3) (.int .i64 s.pipe)
      have hB9 := HT.out.bel.grown hG9 HT.out.bel.size (fun k e => by obtain rfl : w.heap.size + 1 = k := by simpa using e
                                                                      omega)
      have ho2:=HT.out.o2.kept hG9 (Zj HT.out.o2 fun r e c f hh => by
        obtain rfl:w.heap.size+1=r:=by simpa using e
        have h:=HT.out.d1
        unfold Blk at h
        rw [h] at hh
        injection hh with hh
        injection hh with _ hh _
        exact absurd hh (by decide))
      have ho3:=HT.out.o3.kept hG9 (Zj HT.out.o3 fun r e c f hh => by
        obtain rfl:w.heap.size+1=r:=by simpa using e
        have h:=HT.out.d1
        unfold Blk at h
        rw [h] at hh
        injection hh with hh
        injection hh with _ hh _
        exact absurd hh (by decide))
      have HO2:=zh ho2
      have HO3:=zh ho3
      have HB9:=zh hB9
      have HD9:=zh hD9
      clear ho2 ho3 hB9 hD9 hG9
      have p0:=HD9.out.cell 0
      have p1:=HD9.out.cell 1
      have p2:=HD9.out.cell 2
      have p3:=HD9.out.cell 3
      have p4:=HD9.out.cell 4
      simp only [zq1, zq2, zq3] at p0 p1 p2 p3 p4
      rw [List.length_map] at *
      go_wp2_with fail
      refine bodyPost_ret (v:=.agg #[.string s.name, .int .i64 s.len, .slice A2 s.lines.length c2, .slice A3 s.items.length c3, .int .i64 s.pipe]) (by simp [results, Tryz.results84, go_sem, p0, p1, p2, p3, p4]) rfl ?_
      exact ⟨HB9.out, _, rfl, A2, c2, A3, c3, by simp [beamS], RowAt.of_own HO2.out, by
        have h:=Flat.of_own HO3.out
        unfold LoadsAt
        simpa [beamS] using h⟩
theorem FracsPost.one {l:List Rat} {w w':World} {e:Ending} (h:FracsPost l w e w'):∃ A n c e1,e = .returned (.tuple #[.slice A n c,.int .i64 e1])∧Below w.heap.size w w'∧((allOk l=true∧e1=0∧FrsAt w' w'.heap.size (.slice A n c) (l.map frOf))∨(allOk l=false∧e1=5∧A=none∧n=0∧c=0)):=by
 obtain ⟨hb,⟨h1,v,rfl,h2⟩ | ⟨h1,rfl⟩⟩:=h
 ·have h3:FrsAt w' w'.heap.size v (l.map frOf):=by
   have:=Flat.of_own h2
   unfold FrsAt
   rw [List.length_map]
   exact this
  have h4:=h3
  obtain ⟨A,c,rfl,-⟩:=h4
  exact ⟨A,_,c,0,rfl,hb,.inl ⟨h1,rfl,h3⟩⟩
 ·exact ⟨none,0,0,5,rfl,hb,.inr ⟨h1,rfl,rfl,rfl,rfl⟩⟩
theorem refLines21 (v:Value) (s:SetT) (w:World) (hv:SetAt w w.heap.size v s) (hn:SetNames s) (hok:setB s=true):Calls Tryz.prog 42 #[v] w (LinesPost s w):=by
 have hob:=beamS_ok hok
 have hb:=okBm_ok hob
 have hti:tiltOk (beamS s)=true:=tilt_two (set_two hok).1
 have HT:=zh (fun (u:Value) (w1:World) (h:BeamAt w1 w1.heap.size u (beamS s)) => rgTurned u (beamS s) w1 h hb)
 have HBm:=zh (fun W (h:Below w.heap.size w W) => refBeam21 v s W ((hv.below h (Nat.le_refl _)).mono h.size) hok)
 have HGi:=zh (fun u W h => rgGiven u (beamS s) W h hn.name (fun _ => HT.out))
 have Hb:=zh hb
 have HTi:=zh hti
 have HG0:Hid (givenR (beamS s)=0):=by
  unfold Hid givenR
  rw [if_neg (by rw [hob];decide),if_neg (by rw [hti];decide)]
 have Hok:=zh hok
 have hl10:=hb.sup1.2
 have HL:Hid ((reactL (beamS s)).length≤100):=by
  unfold Hid reactL
  simp
  omega
 obtain ⟨Al,cl,Ai,ci,Ab,cb,rfl,-,-,-⟩:=hv
 unfold setVal at *
 have HD1:=zh (Blk.new w 26 #[.string s.name,.int .i64 s.depth,.int .i64 s.low,.int .i64 s.high,.int .i64 s.len,.slice Al s.lines.length cl,.int .i64 s.pipe,.int .i64 s.arbor,.int .i64 s.purch,.int .i64 s.most,.int .i64 s.brake,.slice Ai s.items.length ci,.slice Ab s.bricks.length cb])
 have HB1:=zh ((Below.refl _ w).alloc (Nat.le_refl _) (.cells #[.string s.name,.int .i64 s.depth,.int .i64 s.low,.int .i64 s.high,.int .i64 s.len,.slice Al s.lines.length cl,.int .i64 s.pipe,.int .i64 s.arbor,.int .i64 s.purch,.int .i64 s.most,.int .i64 s.brake,.slice Ai s.items.length ci,.slice Ab s.bricks.length cb] 26))
 clear hob hb hti hn hok hl10
 go_enter Tryz.func42,Tryz.ntmps42
 go_upto_region 1 with fail
 generalize w.alloc (.cells #[.string s.name,.int .i64 s.depth,.int .i64 s.low,.int .i64 s.high,.int .i64 s.len,.slice Al s.lines.length cl,.int .i64 s.pipe,.int .i64 s.arbor,.int .i64 s.purch,.int .i64 s.most,.int .i64 s.brake,.slice Ai s.items.length ci,.slice Ab s.bricks.length cb] 26)=W1 at *
 have z0:=HD1.out.cell 0
 have z1:=HD1.out.cell 1
 have z2:=HD1.out.cell 2
 have z3:=HD1.out.cell 3
 have z4:=HD1.out.cell 4
 have z5:=HD1.out.cell 5
 have z6:=HD1.out.cell 6
 have z7:=HD1.out.cell 7
 have z8:=HD1.out.cell 8
 have z9:=HD1.out.cell 9
 have z10:=HD1.out.cell 10
 have z11:=HD1.out.cell 11
 have z12:=HD1.out.cell 12
 simp only [zq1,zq2,zq3] at z0 z1 z2 z3 z4 z5 z6 z7 z8 z9 z10 z11 z12
 go_wp2_with fail
 refine (HBm.out W1 HB1.out).mono ?_
 rintro e w2 ⟨hb2,v2,rfl,hV2⟩
 have hV3:=hV2
 obtain ⟨As,cs,A3,c3,rfl,-⟩:=hV3
 have HB2:=zh (HB1.out.trans (hb2.mono HB1.out.size))
 have hba:Below w2.heap.size w2 (w2.alloc (.cells #[.string (beamS s).name,.int .i64 (beamS s).len,.slice As (beamS s).sup.length cs,.slice A3 (beamS s).loads.length c3,.int .i64 (beamS s).even] 122)):=(Below.refl _ _).alloc (Nat.le_refl _) _
 have HV3:=zh (hV2.grow hba)
 have HB3:=zh (HB2.out.trans (hba.mono HB2.out.size))
 have HD3:=zh (Blk.new w2 122 #[.string (beamS s).name,.int .i64 (beamS s).len,.slice As (beamS s).sup.length cs,.slice A3 (beamS s).loads.length c3,.int .i64 (beamS s).even])
 clear hb2 hV2 hba HBm HB1 HD1 HB2 z0 z1 z2 z3 z4 z5 z6 z7 z8 z9 z10 z11 z12
 generalize hbs:beamS s=b at *
 have Hbs:=zh hbs
 clear hbs
 go_upto_region 2 with fail
 generalize w2.alloc (.cells #[.string b.name,.int .i64 b.len,.slice As b.sup.length cs,.slice A3 b.loads.length c3,.int .i64 b.even] 122)=W3 at *
 have y0:=HD3.out.cell 0
 have y1:=HD3.out.cell 1
 have y2:=HD3.out.cell 2
 have y3:=HD3.out.cell 3
 have y4:=HD3.out.cell 4
 simp only [zq1,zq2,zq3] at y0 y1 y2 y3 y4
 go_wp2_with fail
 refine (HGi.out _ W3 HV3.out).mono ?_
 rintro e w4 ⟨rfl,hb4⟩
 rw [HG0.out]
 have HV4:=zh (HV3.out.grow hb4)
 have HB4:=zh (HB3.out.trans (hb4.mono HB3.out.size))
 have hd4:=HD3.out.below hb4 HD3.out.lt
 clear y0 y1 y2 y3 y4
 have y0:=hd4.cell 0
 have y1:=hd4.cell 1
 have y2:=hd4.cell 2
 have y3:=hd4.cell 3
 have y4:=hd4.cell 4
 simp only [zq1,zq2,zq3] at y0 y1 y2 y3 y4
 clear hb4 hd4 HV3 HB3 HD3 HGi HG0
 go_wp2_with fail
 refine (rgReactions _ b w4 HV4.out Hb.out HTi.out HT.out).mono ?_
 rintro e w5 ⟨hb5,v5,rfl,hE5⟩
 have hE5':=hE5
 obtain ⟨A5,c5,e5,-⟩:=hE5'
 have HE5:=zh hE5
 rw [e5] at HE5 ⊢
 have HB5:=zh (HB4.out.trans (hb5.mono HB4.out.size))
 clear hb5 hE5 e5 y0 y1 y2 y3 y4 HB4 HV4
 go_wp2_with fail
 refine (rgTold _ (reactL b) 280000 w5 HE5.out (by decide) HL.out).mono ?_
 rintro e w6 hF6
 obtain ⟨A6,n6,c6,e6,rfl,hb6,hf6⟩:=hF6.one
 have HF6:=zh hf6
 have HB6:=zh (HB5.out.trans (hb6.mono HB5.out.size))
 clear hb6 hf6 hF6 HB5 HE5
 have HEr:Hid (Zs s=if allOk (reactL b) then 0 else 5):=by
  unfold Hid Zs
  rw [if_pos Hok.out,Hbs.out]
 have HLl:Hid (linesL s=(reactL b).map frOf):=by
  unfold Hid linesL
  rw [Hbs.out]
 go_wp2_with fail
 refine bodyPost_ret (results_tmp2 rfl _ _ _) (by rfl) ?_
 refine ⟨HB6.out,?_⟩
 rcases HF6.out with ⟨h1,rfl,h3⟩ | ⟨h1,rfl,rfl,rfl,rfl⟩
 ·exact .inl ⟨by rw [HEr.out,h1];rfl,_,rfl,by rw [HLl.out];exact h3⟩
 ·exact .inr ⟨by rw [HEr.out,h1];decide,by rw [HEr.out,h1];rfl⟩
end Go.Proofs.YtfhmbechennkbaaGreatDoor
