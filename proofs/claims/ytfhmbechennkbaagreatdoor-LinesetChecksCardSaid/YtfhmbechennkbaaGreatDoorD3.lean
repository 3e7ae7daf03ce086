/- Parts of the proof, laid into one text: SetF, BatW, BatX, ArbA, ArbB, ArbC, ArbD, LsT, LsE, Small. -/
import Derived.Test.YtfhmbechennkbaaGreatDoorC2
import Derived.Test.YtfhmbechennkbaaGreatDoorD2
import Derived.Test.YtfhmbechennkbaaGreatDoorR0
namespace Go.Proofs.YtfhmbechennkbaaGreatDoor
set_option maxRecDepth 100000
set_option maxHeartbeats 40000000
structure SetOk (s:SetT):Prop where
 len:1000≤s.len∧s.len≤1048576
 pipe:0≤s.pipe∧s.pipe≤1048576
 arbor:0≤s.arbor∧s.arbor≤1048576
 purch:1≤s.purch∧s.purch≤2
 most:1≤s.most∧s.most≤67108864
 brake:0≤s.brake∧s.brake≤67108864
 depth:0≤s.depth∧s.depth≤1048576
 low:0≤s.low∧s.low≤s.high∧s.high≤1048576
 lines:linesB s.lines s.len=true
 items:itemsB s.items s.len=true
 bricks:bricksB s.bricks=true
theorem Zm {s:SetT} (h:setB s=true):SetOk s:=by
 unfold setB at h
 simp only [Bool.and_eq_true,decide_eq_true_eq] at h
 obtain ⟨-,h1,h2,h3,h4,h5,-,h7,h8,h9,h10,h11,h12,h13,h14⟩:=h
 exact ⟨Zh h5,Zh h8,Zh h9,Zh h10,Zh h11,Zh h12,Zh h1,⟨h2,h3,h4⟩,h7,h13,h14⟩
theorem SetOk.wts {s:SetT} (h:SetOk s):s.items.length≤40∧∀ x ∈ s.items,alone1 x=true∧inside1 x s.len=true:=by
 have h1:=h.items
 unfold itemsB at h1
 simp only [Bool.and_eq_true,decide_eq_true_eq] at h1
 refine ⟨h1.1,fun x hx => ?_⟩
 obtain ⟨i,hi,rfl⟩:=List.getElem_of_mem hx
 have h2:=h1.2.2
 unfold itTo at h2
 rw [decide_eq_true_iff] at h2
 have h3:=h2 i hi
 rw [itGood_eq hi] at h3
 simp only [Bool.and_eq_true] at h3
 exact ⟨h3.1,h3.2.1⟩
open Go.RowKit Go.Shelf
def pipeN (s:SetT):Int:=s.pipe*(s.len / 1000)
theorem pipe_bd {p n:Int} (hp:0≤p∧p≤1048576) (hl:1000≤n∧n≤1048576):0≤p*(n / 1000)∧p*(n / 1000)≤1098907648:=by
 have h1:0≤n / 1000:=by omega
 have h2:n / 1000≤1048:=by omega
 have h3:=Int.mul_le_mul hp.2 h2 h1 (by decide)
 have h4:=Int.mul_nonneg hp.1 h1
 omega
theorem batPipe (v:Value) (s:SetT) (B:Nat) (w:World) (hv:SetAt w B v s) (hp:0≤s.pipe∧s.pipe≤1048576) (hl:1000≤s.len∧s.len≤1048576) :
  Calls Tryz.prog 126 #[v] w fun e w' => e = .returned (.int .i64 (pipeN s))∧Below w.heap.size w w':=by
 obtain ⟨Al,cl,Ai,ci,Ab,cb,rfl,-,-,-⟩:=hv
 have hb:=pipe_bd hp hl
 have HE:Hid (pipeN s=s.pipe*(s.len / 1000)):=rfl
 have v1:IntKind.i64.wrap (s.pipe*(s.len / 1000))=s.pipe*(s.len / 1000):=IntWalk.i64_in _ (by omega)
 have v2:IntKind.i64.wrap (s.len / 1000)=s.len / 1000:=IntWalk.i64_in _ (by omega)
 have v3:s.len.tdiv 1000=s.len / 1000:=Int.tdiv_eq_ediv_of_nonneg (by omega)
 clear hp hl hb
 unfold setVal
 go_enter Tryz.func126,Tryz.ntmps126
 go_wp2
 go_ret
 exact ⟨by rw [HE.out];rfl,(Below.refl _ _).alloc (Nat.le_refl _) _⟩
def wtTo (s:SetT) (k:Nat):Int:=pipeN s+((s.items.take k).map ItemT.wt).sum
def weightN (s:SetT):Int:=wtTo s s.items.length
theorem wtTo_succ (s:SetT) (k:Nat) (hk:k<s.items.length):wtTo s (k+1)=wtTo s k+s.items[k].wt:=by
 unfold wtTo
 rw [take_snoc s.items k hk,List.map_append,List.sum_append]
 simp [Int.add_assoc]
theorem wtTo_bd {s : SetT} (hp : 0 ≤ pipeN s ∧ pipeN s ≤ 1098907648) (hi : ∀ x ∈ s.items,0 ≤ x.wt ∧ x.wt ≤ 1048576) : ∀ k,k ≤ s.items.length → 0 ≤ wtTo s k ∧ wtTo s k ≤ 1098907648 + 1048576 * k
 | 0,_ => by simp [wtTo];omega
 | k+1,hk => by
  have h1:=wtTo_bd hp hi k (by omega)
  have h2:=hi _ (List.getElem_mem (show k<s.items.length by omega))
  rw [wtTo_succ s k (by omega)]
  omega
theorem batWeight1 (v:Value) (s:SetT) (w:World) (hv:SetAt w w.heap.size v s) (hp:0≤s.pipe∧s.pipe≤1048576) (hl:1000≤s.len∧s.len≤1048576) (hi:∀ x ∈ s.items,0≤x.wt∧x.wt≤1048576) (h40:s.items.length≤40) :
  Calls Tryz.prog 83 #[v] w fun e w' => e = .returned (.int .i64 (weightN s))∧Below w.heap.size w w':=by
 have hP:=fun W (hb:Below w.heap.size w W) => batPipe v s W.heap.size W ((hv.below hb (Nat.le_refl _)).mono hb.size) hp hl
 have HBd:=zh (wtTo_bd (s:=s) (pipe_bd hp hl) hi)
 obtain ⟨Al,cl,Ai,ci,Ab,cb,rfl,hL,hI,hB⟩:=hv
 obtain ⟨_,_,e,hi1,hi2,hic⟩:=hI.open_
 injection e with e1 _ e2
 subst e1 e2
 have HI:=zh hic
 have HD:=zh (Blk.new w 26 #[.string s.name,.int .i64 s.depth,.int .i64 s.low,.int .i64 s.high,.int .i64 s.len,.slice Al s.lines.length cl,.int .i64 s.pipe,.int .i64 s.arbor,.int .i64 s.purch,.int .i64 s.most,.int .i64 s.brake,.slice Ai s.items.length ci,.slice Ab s.bricks.length cb])
 have HB1:=zh ((Below.refl _ w).alloc (Nat.le_refl _) (.cells #[.string s.name,.int .i64 s.depth,.int .i64 s.low,.int .i64 s.high,.int .i64 s.len,.slice Al s.lines.length cl,.int .i64 s.pipe,.int .i64 s.arbor,.int .i64 s.purch,.int .i64 s.most,.int .i64 s.brake,.slice Ai s.items.length ci,.slice Ab s.bricks.length cb] 26))
 unfold maxLen at hi2
 clear hL hI hB hic hp hl hi
 unfold setVal at *
 go_enter Tryz.func83,Tryz.ntmps83
 go_wp2_with (go_at_call 126;refine (hP _ HB1.out).mono ?_;rintro e w2 ⟨rfl,hb2⟩;have HB2:=zh (HB1.out.trans (hb2.mono HB1.out.size));have HD2:=zh (HD.out.below hb2 HD.out.lt);have z11:=HD2.out.cell 11;simp only [zq1,zq2,zq3] at z11;clear hb2)
 go_loopw [11,3] (fun x t wr => ∃ k:Nat,k≤s.items.length∧x = .int .i64 k∧t = .int .i64 (wtTo s k)∧Below w.heap.size w wr) (fun x _ _ => s.items.length-(intOf x).toNat)
 case atStart => exact ⟨0,Nat.zero_le _,rfl,by simp [wtTo],HB2.out⟩
 case round =>
  obtain ⟨k,hk,rfl,rfl,hbel⟩:=hrel
  by_cases hkl:k<s.items.length
  ·obtain ⟨b1,off1,rfl,hb1,hc⟩:=HI.out k hkl
   have y0:=(hbel.cell (p:=⟨b1,off1+k*7,none⟩) hb1).trans (hc k hkl).1
   have y1:=(hbel.cell (p:=⟨b1,off1+k*7+1,none⟩) hb1).trans (hc k hkl).2.1
   have y2:=(hbel.cell (p:=⟨b1,off1+k*7+2,none⟩) hb1).trans (hc k hkl).2.2.1
   have y3:=(hbel.cell (p:=⟨b1,off1+k*7+3,none⟩) hb1).trans (hc k hkl).2.2.2.1
   have y4:=(hbel.cell (p:=⟨b1,off1+k*7+4,none⟩) hb1).trans (hc k hkl).2.2.2.2.1
   have y5:=(hbel.cell (p:=⟨b1,off1+k*7+5,none⟩) hb1).trans (hc k hkl).2.2.2.2.2.1
   have y6:=(hbel.cell (p:=⟨b1,off1+k*7+6,none⟩) hb1).trans (hc k hkl).2.2.2.2.2.2
   have h3:=HBd.out (k+1) hkl
   have hs:=wtTo_succ s k hkl
   have v1:IntKind.i64.wrap (wtTo s k+s.items[k].wt)=wtTo s k+s.items[k].wt:=IntWalk.i64_in _ (by rw [← hs];omega)
   have HS:=zh hs
   have hba:Below w.heap.size w (wr.alloc (.cells #[.string s.items[k].name,.int .i64 s.items[k].pos,.int .i64 s.items[k].width,.int .i64 s.items[k].wt,.int .i64 s.items[k].hang,.int .i64 s.items[k].front,.int .i64 s.items[k].back] 118)):=hbel.alloc hbel.size _
   have i1:(0:Int)≤(k:Int):=Int.natCast_nonneg _
   have i2:(k:Int)<(s.items.length:Int):=by omega
   clear hc hs h3
   go_wp2
   go_roundw
   case rel => exact ⟨k+1,by omega,by go_num,by rw [HS.out],hba⟩
   case measure => simp [intOf];omega
  ·obtain rfl:k=s.items.length:=by omega
   go_wp2
   go_ret
   exact ⟨rfl,hbel⟩
theorem alone_wt {x:ItemT} (h:alone1 x=true):0≤x.wt∧x.wt≤1048576:=by
 unfold alone1 at h
 simp only [Bool.and_eq_true] at h
 exact Zh h.2.1
theorem batWeight (v:Value) (s:SetT) (w:World) (hv:SetAt w w.heap.size v s) (hn:SetNames s) :
  Calls Tryz.prog 41 #[v] w fun e w' => e = .returned (if setB s=true then .tuple #[.int .i64 (weightN s),.int .i64 0] else .tuple #[.int .i64 0,.int .i64 1])∧Below w.heap.size w w':=by
 have HVa:=fun W (hb:Below w.heap.size w W) => batValid v s W ((hv.below hb (Nat.le_refl _)).mono hb.size) hn
 have HWe:=zh fun (hok:setB s=true) W (hb:Below w.heap.size w W) => batWeight1 v s W ((hv.below hb (Nat.le_refl _)).mono hb.size) (Zm hok).pipe (Zm hok).len (fun x hx => alone_wt ((Zm hok).wts.2 x hx).1) (Zm hok).wts.1
 obtain ⟨Al,cl,Ai,ci,Ab,cb,rfl,-,-,-⟩:=hv
 have HD:=zh (Blk.new w 26 #[.string s.name,.int .i64 s.depth,.int .i64 s.low,.int .i64 s.high,.int .i64 s.len,.slice Al s.lines.length cl,.int .i64 s.pipe,.int .i64 s.arbor,.int .i64 s.purch,.int .i64 s.most,.int .i64 s.brake,.slice Ai s.items.length ci,.slice Ab s.bricks.length cb])
 have HB1:=zh ((Below.refl _ w).alloc (Nat.le_refl _) (.cells #[.string s.name,.int .i64 s.depth,.int .i64 s.low,.int .i64 s.high,.int .i64 s.len,.slice Al s.lines.length cl,.int .i64 s.pipe,.int .i64 s.arbor,.int .i64 s.purch,.int .i64 s.most,.int .i64 s.brake,.slice Ai s.items.length ci,.slice Ab s.bricks.length cb] 26))
 clear hn
 have hva:=HVa _ HB1.out
 clear HVa
 unfold setVal at *
 rcases Bool.eq_false_or_eq_true (setB s) with hok | hok
 ·have hwe:=HWe.out hok
  rw [hok] at hva
  rw [if_pos hok]
  clear hok HWe
  go_enter Tryz.func41,Tryz.ntmps41
  go_wp2_with (first | (go_at_call 69;refine hva.mono ?_;rintro e w2 ⟨rfl,hb2⟩;have hbx:=HB1.out.trans (hb2.mono HB1.out.size);have HD2:=zh (HD.out.below hb2 HD.out.lt);have z0:=HD2.out.cell 0;have z1:=HD2.out.cell 1;have z2:=HD2.out.cell 2;have z3:=HD2.out.cell 3;have z4:=HD2.out.cell 4;have z5:=HD2.out.cell 5;have z6:=HD2.out.cell 6;have z7:=HD2.out.cell 7;have z8:=HD2.out.cell 8;have z9:=HD2.out.cell 9;have z10:=HD2.out.cell 10;have z11:=HD2.out.cell 11;have z12:=HD2.out.cell 12;simp only [zq1,zq2,zq3] at z0 z1 z2 z3 z4 z5 z6 z7 z8 z9 z10 z11 z12) | (go_at_call 83;refine (hwe _ hbx).mono ?_;rintro e w3 ⟨rfl,hb3⟩))
  go_ret2
  exact ⟨rfl,hbx.trans (hb3.mono hbx.size)⟩
 ·rw [hok] at hva
  rw [if_neg (by rw [hok];simp)]
  clear hok HWe
  go_enter Tryz.func41,Tryz.ntmps41
  go_wp2_with (go_at_call 69;refine hva.mono ?_;rintro e w2 ⟨rfl,hb2⟩)
  go_ret2
  exact ⟨rfl,HB1.out.trans (hb2.mono HB1.out.size)⟩
def brickW (l:List BrickT) (k:Nat):Int:=((l.take k).map fun x => x.wt*x.cnt).sum
theorem brickW_succ (l:List BrickT) (k:Nat) (hk:k<l.length):brickW l (k+1)=brickW l k+l[k].wt*l[k].cnt:=by
 unfold brickW
 rw [take_snoc l k hk,List.map_append,List.sum_append]
 simp
theorem one_bd {a b:Int} (ha:1≤a∧a≤1048576) (hb:0≤b∧b≤60):0≤a*b∧a*b≤62914560:=by
 have h1:=Int.mul_le_mul ha.2 hb.2 hb.1 (by decide)
 have h2:=Int.mul_nonneg (show 0≤a by omega) hb.1
 omega
theorem brickW_bd {l : List BrickT} (h : ∀ x ∈ l,(1 ≤ x.wt ∧ x.wt ≤ 1048576) ∧ (0 ≤ x.cnt ∧ x.cnt ≤ 60)) : ∀ k,k ≤ l.length → (0 ≤ brickW l k ∧ brickW l k ≤ 62914560 * k) ∧ (0 ≤ cntTo l k ∧ cntTo l k ≤ 60 * k)
 | 0,_ => by simp [brickW,cntTo]
 | k+1,hk => by
  have h1:=brickW_bd h k (by omega)
  have h2:=h _ (List.getElem_mem (show k<l.length by omega))
  have h3:=one_bd h2.1 h2.2
  rw [brickW_succ l k (by omega),cntTo_succ l k (by omega)]
  omega
theorem arbThere (v:Value) (s:SetT) (w:World) (hv:SetAt w w.heap.size v s) (hi:∀ x ∈ s.bricks,(1≤x.wt∧x.wt≤1048576)∧(0≤x.cnt∧x.cnt≤60)) (h8:s.bricks.length≤8) :
  Calls Tryz.prog 122 #[v] w fun e w' => e = .returned (.tuple #[.int .i64 (brickW s.bricks s.bricks.length),.int .i64 (cntTo s.bricks s.bricks.length)])∧Below w.heap.size w w':=by
 have HBd:=zh (brickW_bd hi)
 have HOne:=zh fun k (hk:k<s.bricks.length) => one_bd (hi _ (List.getElem_mem hk)).1 (hi _ (List.getElem_mem hk)).2
 obtain ⟨Al,cl,Ai,ci,Ab,cb,rfl,hL,hI,hB⟩:=hv
 obtain ⟨_,_,e,hi1,hi2,hic⟩:=hB.open_
 injection e with e1 _ e2
 subst e1 e2
 have HI:=zh hic
 have HD:=zh (Blk.new w 26 #[.string s.name,.int .i64 s.depth,.int .i64 s.low,.int .i64 s.high,.int .i64 s.len,.slice Al s.lines.length cl,.int .i64 s.pipe,.int .i64 s.arbor,.int .i64 s.purch,.int .i64 s.most,.int .i64 s.brake,.slice Ai s.items.length ci,.slice Ab s.bricks.length cb])
 have HB1:=zh ((Below.refl _ w).alloc (Nat.le_refl _) (.cells #[.string s.name,.int .i64 s.depth,.int .i64 s.low,.int .i64 s.high,.int .i64 s.len,.slice Al s.lines.length cl,.int .i64 s.pipe,.int .i64 s.arbor,.int .i64 s.purch,.int .i64 s.most,.int .i64 s.brake,.slice Ai s.items.length ci,.slice Ab s.bricks.length cb] 26))
 unfold maxLen at hi2
 clear hL hI hB hic hi
 unfold setVal at *
 go_enter Tryz.func122,Tryz.ntmps122
 go_wp2
 go_loopw [9,2,3] (fun x t u wr => ∃ k:Nat,k≤s.bricks.length∧x = .int .i64 k∧t = .int .i64 (brickW s.bricks k)∧u = .int .i64 (cntTo s.bricks k)∧Below w.heap.size w wr) (fun x _ _ _ => s.bricks.length-(intOf x).toNat)
 case atStart => exact ⟨0,Nat.zero_le _,rfl,rfl,rfl,HB1.out⟩
 case round =>
  obtain ⟨k,hk,rfl,rfl,rfl,hbel⟩:=hrel
  by_cases hkl:k<s.bricks.length
  ·obtain ⟨b1,off1,rfl,hb1,hc⟩:=HI.out k hkl
   have y0:=(hbel.cell (p:=⟨b1,off1+k*3,none⟩) hb1).trans (hc k hkl).1
   have y1:=(hbel.cell (p:=⟨b1,off1+k*3+1,none⟩) hb1).trans (hc k hkl).2.1
   have y2:=(hbel.cell (p:=⟨b1,off1+k*3+2,none⟩) hb1).trans (hc k hkl).2.2
   have h3:=HBd.out (k+1) hkl
   have h4:=HOne.out k hkl
   have hs:=brickW_succ s.bricks k hkl
   have ht:=cntTo_succ s.bricks k hkl
   have v0:IntKind.i64.wrap (s.bricks[k].wt*s.bricks[k].cnt)=s.bricks[k].wt*s.bricks[k].cnt:=IntWalk.i64_in _ (by omega)
   have v1:IntKind.i64.wrap (brickW s.bricks k+s.bricks[k].wt*s.bricks[k].cnt)=brickW s.bricks k+s.bricks[k].wt*s.bricks[k].cnt:=IntWalk.i64_in _ (by rw [← hs];omega)
   have v2:IntKind.i64.wrap (cntTo s.bricks k+s.bricks[k].cnt)=cntTo s.bricks k+s.bricks[k].cnt:=IntWalk.i64_in _ (by rw [← ht];omega)
   have HS:=zh hs
   have HT:=zh ht
   have hba:Below w.heap.size w (wr.alloc (.cells #[.string s.bricks[k].name,.int .i64 s.bricks[k].wt,.int .i64 s.bricks[k].cnt] 87)):=hbel.alloc hbel.size _
   have i1:(0:Int)≤(k:Int):=Int.natCast_nonneg _
   have i2:(k:Int)<(s.bricks.length:Int):=by omega
   clear hc hs ht h3 h4
   go_wp2
   go_roundw
   case rel => exact ⟨k+1,by omega,by go_num,by rw [HS.out],by rw [HT.out],hba⟩
   case measure => simp [intOf];omega
  ·obtain rfl:k=s.bricks.length:=by omega
   go_wp2
   go_ret2
   exact ⟨rfl,hbel⟩
def neededN (s:SetT):Int:=weightN s*s.purch-s.arbor
theorem weight_bd {s:SetT} (h:setB s=true):0≤weightN s∧weightN s≤1140850688:=by
 have h1:=Zm h
 have h2:=wtTo_bd (s:=s) (pipe_bd h1.pipe h1.len) (fun x hx => alone_wt (h1.wts.2 x hx).1) s.items.length (Nat.le_refl _)
 have:=h1.wts.1
 unfold weightN
 omega
theorem needed_bd {n p:Int} (hn:0≤n∧n≤1140850688) (hp:1≤p∧p≤2):0≤n*p∧n*p≤2281701376:=by
 rcases (show p=1∨p=2 by omega) with rfl | rfl <;> omega
theorem arbNeeded (v:Value) (s:SetT) (w:World) (hv:SetAt w w.heap.size v s) (hn:SetNames s) :
  Calls Tryz.prog 121 #[v] w fun e w' => e = .returned (if setB s=true then .tuple #[.int .i64 (neededN s),.int .i64 0] else .tuple #[.int .i64 0,.int .i64 1])∧Below w.heap.size w w':=by
 have HWe:=fun W (hb:Below w.heap.size w W) => batWeight v s W ((hv.below hb (Nat.le_refl _)).mono hb.size) hn
 obtain ⟨Al,cl,Ai,ci,Ab,cb,rfl,-,-,-⟩:=hv
 have HD:=zh (Blk.new w 26 #[.string s.name,.int .i64 s.depth,.int .i64 s.low,.int .i64 s.high,.int .i64 s.len,.slice Al s.lines.length cl,.int .i64 s.pipe,.int .i64 s.arbor,.int .i64 s.purch,.int .i64 s.most,.int .i64 s.brake,.slice Ai s.items.length ci,.slice Ab s.bricks.length cb])
 have HB1:=zh ((Below.refl _ w).alloc (Nat.le_refl _) (.cells #[.string s.name,.int .i64 s.depth,.int .i64 s.low,.int .i64 s.high,.int .i64 s.len,.slice Al s.lines.length cl,.int .i64 s.pipe,.int .i64 s.arbor,.int .i64 s.purch,.int .i64 s.most,.int .i64 s.brake,.slice Ai s.items.length ci,.slice Ab s.bricks.length cb] 26))
 have hwe:=HWe _ HB1.out
 clear HWe hn
 unfold setVal at *
 rcases Bool.eq_false_or_eq_true (setB s) with hok | hok
 ·have hb:=weight_bd hok
  have hok':=Zm hok
  have hp:=needed_bd hb hok'.purch
  have ha:=hok'.arbor
  have v1:IntKind.i64.wrap (weightN s*s.purch)=weightN s*s.purch:=IntWalk.i64_in _ (by omega)
  have v2:IntKind.i64.wrap (weightN s*s.purch-s.arbor)=weightN s*s.purch-s.arbor:=IntWalk.i64_in _ (by omega)
  rw [if_pos hok] at hwe ⊢
  clear hok hok' hp ha hb
  go_enter Tryz.func121,Tryz.ntmps121
  go_wp2_with (go_at_call 41;refine hwe.mono ?_;rintro e w2 ⟨rfl,hb2⟩;have hbx:=HB1.out.trans (hb2.mono HB1.out.size);have HD2:=zh (HD.out.below hb2 HD.out.lt);have z7:=HD2.out.cell 7;have z8:=HD2.out.cell 8;simp only [zq1,zq2,zq3] at z7 z8)
  go_ret2
  exact ⟨rfl,hbx⟩
 ·rw [if_neg (by rw [hok];simp)] at hwe ⊢
  clear hok
  go_enter Tryz.func121,Tryz.ntmps121
  go_wp2_with (go_at_call 41;refine hwe.mono ?_;rintro e w2 ⟨rfl,hb2⟩)
  go_ret2
  exact ⟨rfl,HB1.out.trans (hb2.mono HB1.out.size)⟩
def Zt (s:SetT):Int:=neededN s-brickW s.bricks s.bricks.length
theorem SetOk.brk {s:SetT} (h:SetOk s):s.bricks.length≤8∧∀ x ∈ s.bricks,(1≤x.wt∧x.wt≤1048576)∧(0≤x.cnt∧x.cnt≤60):=by
 have h1:=h.bricks
 unfold bricksB at h1
 simp only [Bool.and_eq_true,decide_eq_true_eq,List.all_eq_true] at h1
 refine ⟨h1.1,fun x hx => ?_⟩
 have h2:=h1.2.2.1 x hx
 unfold brickB at h2
 simp only [Bool.and_eq_true] at h2
 exact ⟨Zh h2.2.1,Zh h2.2.2⟩
theorem arbBalance (v:Value) (s:SetT) (w:World) (hv:SetAt w w.heap.size v s) (hn:SetNames s) :
  Calls Tryz.prog 77 #[v] w fun e w' => e = .returned (if setB s=true then .tuple #[.int .i64 (Zt s),.int .i64 0] else .tuple #[.int .i64 0,.int .i64 1])∧Below w.heap.size w w':=by
 have HNe:=fun W (hb:Below w.heap.size w W) => arbNeeded v s W ((hv.below hb (Nat.le_refl _)).mono hb.size) hn
 have HTh:=zh fun (hok:setB s=true) W (hb:Below w.heap.size w W) => arbThere v s W ((hv.below hb (Nat.le_refl _)).mono hb.size) (Zm hok).brk.2 (Zm hok).brk.1
 obtain ⟨Al,cl,Ai,ci,Ab,cb,rfl,-,-,-⟩:=hv
 have HD:=zh (Blk.new w 26 #[.string s.name,.int .i64 s.depth,.int .i64 s.low,.int .i64 s.high,.int .i64 s.len,.slice Al s.lines.length cl,.int .i64 s.pipe,.int .i64 s.arbor,.int .i64 s.purch,.int .i64 s.most,.int .i64 s.brake,.slice Ai s.items.length ci,.slice Ab s.bricks.length cb])
 have HB1:=zh ((Below.refl _ w).alloc (Nat.le_refl _) (.cells #[.string s.name,.int .i64 s.depth,.int .i64 s.low,.int .i64 s.high,.int .i64 s.len,.slice Al s.lines.length cl,.int .i64 s.pipe,.int .i64 s.arbor,.int .i64 s.purch,.int .i64 s.most,.int .i64 s.brake,.slice Ai s.items.length ci,.slice Ab s.bricks.length cb] 26))
 have hwe:=HNe _ HB1.out
 clear HNe hn
 unfold setVal at *
 rcases Bool.eq_false_or_eq_true (setB s) with hok | hok
 ·have hth:=HTh.out hok
  have hb:=weight_bd hok
  have hok':=Zm hok
  have hp:=needed_bd hb hok'.purch
  have ha:=hok'.arbor
  have hw:=(brickW_bd hok'.brk.2 _ (Nat.le_refl _)).1
  have h8:=hok'.brk.1
  have v2:IntKind.i64.wrap (neededN s-brickW s.bricks s.bricks.length)=neededN s-brickW s.bricks s.bricks.length:=IntWalk.i64_in _ (by unfold neededN;omega)
  rw [if_pos hok] at hwe ⊢
  clear hok hok' hp ha hb hw h8 HTh
  go_enter Tryz.func77,Tryz.ntmps77
  go_wp2_with (first | (go_at_call 121;refine hwe.mono ?_;rintro e w2 ⟨rfl,hb2⟩;have hbx:=HB1.out.trans (hb2.mono HB1.out.size);have HD2:=zh (HD.out.below hb2 HD.out.lt);have z0:=HD2.out.cell 0;have z1:=HD2.out.cell 1;have z2:=HD2.out.cell 2;have z3:=HD2.out.cell 3;have z4:=HD2.out.cell 4;have z5:=HD2.out.cell 5;have z6:=HD2.out.cell 6;have z7:=HD2.out.cell 7;have z8:=HD2.out.cell 8;have z9:=HD2.out.cell 9;have z10:=HD2.out.cell 10;have z11:=HD2.out.cell 11;have z12:=HD2.out.cell 12;simp only [zq1,zq2,zq3] at z0 z1 z2 z3 z4 z5 z6 z7 z8 z9 z10 z11 z12) | (go_at_call 122;refine (hth _ hbx).mono ?_;rintro e w3 ⟨rfl,hb3⟩))
  go_ret2
  exact ⟨rfl,hbx.trans (hb3.mono hbx.size)⟩
 ·rw [if_neg (by rw [hok];simp)] at hwe ⊢
  clear hok HTh
  go_enter Tryz.func77,Tryz.ntmps77
  go_wp2_with (go_at_call 121;refine hwe.mono ?_;rintro e w2 ⟨rfl,hb2⟩)
  go_ret2
  exact ⟨rfl,HB1.out.trans (hb2.mono HB1.out.size)⟩
def holdsB (s:SetT):Bool:=decide (max (Zt s) (-Zt s)≤s.brake)
theorem balance_bd {s:SetT} (h:setB s=true) : -604045312≤Zt s∧Zt s≤2281701376:=by
 have hb:=weight_bd h
 have hok':=Zm h
 have hp:=needed_bd hb hok'.purch
 have ha:=hok'.arbor
 have hw:=(brickW_bd hok'.brk.2 _ (Nat.le_refl _)).1
 have h8:=hok'.brk.1
 unfold Zt neededN
 omega
theorem arbHolds (v:Value) (s:SetT) (w:World) (hv:SetAt w w.heap.size v s) (hn:SetNames s) :
    Calls Tryz.prog 35 #[v] w fun e w' => e = .returned (if setB s=true then .tuple #[.bool (holdsB s),.int .i64 0] else .tuple #[.bool false,.int .i64 1])∧Below w.heap.size w w':=by
  have HBa:=fun W (hb:Below w.heap.size w W) => arbBalance v s W ((hv.below hb (Nat.le_refl _)).mono hb.size) hn
  obtain ⟨Al,cl,Ai,ci,Ab,cb,rfl,-,-,-⟩:=hv
  have HD:=zh (Blk.new w 26 #[.string s.name,.int .i64 s.depth,.int .i64 s.low,.int .i64 s.high,.int .i64 s.len,.slice Al s.lines.length cl,.int .i64 s.pipe,.int .i64 s.arbor,.int .i64 s.purch,.int .i64 s.most,.int .i64 s.brake,.slice Ai s.items.length ci,.slice Ab s.bricks.length cb])
  have HB1:=zh ((Below.refl _ w).alloc (Nat.le_refl _) (.cells #[.string s.name,.int .i64 s.depth,.int .i64 s.low,.int .i64 s.high,.int .i64 s.len,.slice Al s.lines.length cl,.int .i64 s.pipe,.int .i64 s.arbor,.int .i64 s.purch,.int .i64 s.most,.int .i64 s.brake,.slice Ai s.items.length ci,.slice Ab s.bricks.length cb] 26))
  have hba:=HBa _ HB1.out
  clear HBa hn
  unfold setVal at *
  rcases Bool.eq_false_or_eq_true (setB s) with hok | hok
  · have hb:=balance_bd hok
    have v1:IntKind.i64.wrap (-Zt s) = -Zt s:=IntWalk.i64_in _ (by omega)
    have HV:Hid (holdsB s=decide (max (Zt s) (-Zt s)≤s.brake)):=rfl
    rw [if_pos hok] at hba ⊢
    clear hok hb
    generalize Zt s=bn at *
    go_enter Tryz.func35,Tryz.ntmps35
    go_wp2_with (go_at_call 77;refine hba.mono ?_;rintro e w2 ⟨rfl,hb2⟩;have hbx:=HB1.out.trans (hb2.mono HB1.out.size);have HD2:=zh (HD.out.below hb2 HD.out.lt);have z10:=HD2.out.cell 10;simp only [zq1,zq2,zq3] at z10)
    all_goals
      have hv:=HV.out
      first
        | (have hmx : max bn (-bn) = bn := by omega
           rw [hmx] at hv)
        | (have hmx : max bn (-bn) = -bn := by omega
           rw [hmx] at hv)
      go_ret2
      exact ⟨by rw [hv];rfl,hbx⟩
  · rw [if_neg (by rw [hok];simp)] at hba ⊢
    clear hok
    go_enter Tryz.func35,Tryz.ntmps35
    go_wp2_with (go_at_call 77;refine hba.mono ?_;rintro e w2 ⟨rfl,hb2⟩)
    go_ret2
    exact ⟨rfl,HB1.out.trans (hb2.mono HB1.out.size)⟩
def totalTo (s:SetT) (k:Nat):Int:=weightN s+s.arbor+brickW s.bricks k
def totalN (s:SetT):Int:=totalTo s s.bricks.length
theorem lsTotal (v:Value) (s:SetT) (w:World) (hv:SetAt w w.heap.size v s) (hn:SetNames s) :
  Calls Tryz.prog 9 #[v] w fun e w' => e = .returned (if setB s=true then .tuple #[.int .i64 (totalN s),.int .i64 0] else .tuple #[.int .i64 0,.int .i64 1])∧Below w.heap.size w w':=by
 have HWe:=fun W (hb:Below w.heap.size w W) => batWeight v s W ((hv.below hb (Nat.le_refl _)).mono hb.size) hn
 obtain ⟨Al,cl,Ai,ci,Ab,cb,rfl,-,-,hB⟩:=hv
 obtain ⟨_,_,e,hi1,hi2,hic⟩:=hB.open_
 injection e with e1 _ e2
 subst e1 e2
 have HI:=zh hic
 have HD:=zh (Blk.new w 26 #[.string s.name,.int .i64 s.depth,.int .i64 s.low,.int .i64 s.high,.int .i64 s.len,.slice Al s.lines.length cl,.int .i64 s.pipe,.int .i64 s.arbor,.int .i64 s.purch,.int .i64 s.most,.int .i64 s.brake,.slice Ai s.items.length ci,.slice Ab s.bricks.length cb])
 have HB1:=zh ((Below.refl _ w).alloc (Nat.le_refl _) (.cells #[.string s.name,.int .i64 s.depth,.int .i64 s.low,.int .i64 s.high,.int .i64 s.len,.slice Al s.lines.length cl,.int .i64 s.pipe,.int .i64 s.arbor,.int .i64 s.purch,.int .i64 s.most,.int .i64 s.brake,.slice Ai s.items.length ci,.slice Ab s.bricks.length cb] 26))
 have hwe:=HWe _ HB1.out
 unfold maxLen at hi2
 clear HWe hn hB hic
 unfold setVal at *
 rcases Bool.eq_false_or_eq_true (setB s) with hok | hok
 ·have hb:=weight_bd hok
  have hok':=Zm hok
  have hbr:=hok'.brk
  have ha:=hok'.arbor
  have HBd:=zh (brickW_bd hbr.2)
  have HOne:=zh fun k (hk:k<s.bricks.length) => one_bd (hbr.2 _ (List.getElem_mem hk)).1 (hbr.2 _ (List.getElem_mem hk)).2
  have h8:=hbr.1
  have v1:IntKind.i64.wrap (weightN s+s.arbor)=weightN s+s.arbor:=IntWalk.i64_in _ (by omega)
  have HZ:Hid (totalTo s 0=weightN s+s.arbor):=by unfold Hid totalTo brickW;simp
  have Hb:=zh hb
  have Ha:=zh ha
  rw [if_pos hok] at hwe ⊢
  clear hok hok' hb ha hbr
  go_enter Tryz.func9,Tryz.ntmps9
  go_wp2_with (go_at_call 41;refine hwe.mono ?_;rintro e w2 ⟨rfl,hb2⟩;have HB2:=zh (HB1.out.trans (hb2.mono HB1.out.size));have HD2:=zh (HD.out.below hb2 HD.out.lt);have z7:=HD2.out.cell 7;have z12:=HD2.out.cell 12;simp only [zq1,zq2,zq3] at z7 z12;clear hb2)
  go_loopw [23,4] (fun x t wr => ∃ k:Nat,k≤s.bricks.length∧x = .int .i64 k∧t = .int .i64 (totalTo s k)∧Below w.heap.size w wr) (fun x _ _ => s.bricks.length-(intOf x).toNat)
  case atStart => exact ⟨0,Nat.zero_le _,rfl,by rw [HZ.out],HB2.out⟩
  case round =>
   obtain ⟨k,hk,rfl,rfl,hbel⟩:=hrel
   by_cases hkl:k<s.bricks.length
   ·obtain ⟨b1,off1,rfl,hb1,hc⟩:=HI.out k hkl
    have y0:=(hbel.cell (p:=⟨b1,off1+k*3,none⟩) hb1).trans (hc k hkl).1
    have y1:=(hbel.cell (p:=⟨b1,off1+k*3+1,none⟩) hb1).trans (hc k hkl).2.1
    have y2:=(hbel.cell (p:=⟨b1,off1+k*3+2,none⟩) hb1).trans (hc k hkl).2.2
    have h3:=HBd.out (k+1) hkl
    have h4:=HOne.out k hkl
    have hs0:=brickW_succ s.bricks k hkl
    have hs:totalTo s (k+1)=totalTo s k+s.bricks[k].wt*s.bricks[k].cnt:=by unfold totalTo;rw [hs0];omega
    have h5:=Hb.out
    have h6:=Ha.out
    have v0:IntKind.i64.wrap (s.bricks[k].wt*s.bricks[k].cnt)=s.bricks[k].wt*s.bricks[k].cnt:=IntWalk.i64_in _ (by omega)
    have v1:IntKind.i64.wrap (totalTo s k+s.bricks[k].wt*s.bricks[k].cnt)=totalTo s k+s.bricks[k].wt*s.bricks[k].cnt:=IntWalk.i64_in _ (by rw [← hs];unfold totalTo;omega)
    have HS:=zh hs
    have hba:Below w.heap.size w (wr.alloc (.cells #[.string s.bricks[k].name,.int .i64 s.bricks[k].wt,.int .i64 s.bricks[k].cnt] 87)):=hbel.alloc hbel.size _
    have i1:(0:Int)≤(k:Int):=Int.natCast_nonneg _
    have i2:(k:Int)<(s.bricks.length:Int):=by omega
    clear hc hs hs0 h3 h4 h5 h6
    go_wp2
    go_roundw
    case rel => exact ⟨k+1,by omega,by go_num,by rw [HS.out],hba⟩
    case measure => simp [intOf];omega
   ·obtain rfl:k=s.bricks.length:=by omega
    go_wp2
    go_ret2
    exact ⟨rfl,hbel⟩
 ·rw [if_neg (by rw [hok];simp)] at hwe ⊢
  clear hok
  go_enter Tryz.func9,Tryz.ntmps9
  go_wp2_with (go_at_call 41;refine hwe.mono ?_;rintro e w2 ⟨rfl,hb2⟩)
  go_ret2
  exact ⟨rfl,HB1.out.trans (hb2.mono HB1.out.size)⟩
def mxTo (f:ItemT→Int) (l:List ItemT) (k:Nat):Int:=(l.take k).foldl (fun a x => max a (f x)) 0
def mxN (f:ItemT→Int) (l:List ItemT):Int:=mxTo f l l.length
theorem mxTo_succ (f:ItemT→Int) (l:List ItemT) (k:Nat) (hk:k<l.length):mxTo f l (k+1)=max (mxTo f l k) (f l[k]):=by
 unfold mxTo
 rw [take_snoc l k hk,List.foldl_append]
 rfl
theorem mxTo_bd {f : ItemT → Int} {l : List ItemT} (h : ∀ x ∈ l,0 ≤ f x ∧ f x ≤ 1048576) : ∀ k,k ≤ l.length → 0 ≤ mxTo f l k ∧ mxTo f l k ≤ 1048576
 | 0,_ => by simp [mxTo]
 | k+1,hk => by
  have h1:=mxTo_bd h k (by omega)
  have h2:=h _ (List.getElem_mem (show k<l.length by omega))
  rw [mxTo_succ f l k (by omega)]
  omega
def trimB (s:SetT) (trim:Int):Bool:=decide (trim<s.low) || decide (s.high<trim)
abbrev spanV (a b:Int):Value:=.agg #[.int .i64 a,.int .i64 b]
def extV (s:SetT) (trim:Int):Value :=
 if setB s then (if trimB s trim then .tuple #[spanV 0 0,spanV 0 0,.int .i64 2] else .tuple #[spanV (trim-mxN ItemT.hang s.items) trim,spanV (s.depth-mxN ItemT.back s.items) (s.depth+mxN ItemT.front s.items),.int .i64 0]) else .tuple #[spanV 0 0,spanV 0 0,.int .i64 1]
theorem ext_no {s:SetT} {trim:Int} (h:setB s=false):extV s trim = .tuple #[spanV 0 0,spanV 0 0,.int .i64 1]:=by unfold extV;rw [h];rfl
theorem ext_out {s:SetT} {trim:Int} (h:setB s=true) (h2:trimB s trim=true):extV s trim = .tuple #[spanV 0 0,spanV 0 0,.int .i64 2]:=by unfold extV;rw [h,h2];rfl
theorem ext_in {s:SetT} {trim:Int} (h:setB s=true) (h2:trimB s trim=false):extV s trim = .tuple #[spanV (trim-mxN ItemT.hang s.items) trim,spanV (s.depth-mxN ItemT.back s.items) (s.depth+mxN ItemT.front s.items),.int .i64 0]:=by unfold extV;rw [h,h2];rfl
theorem alone_all {x:ItemT} (h:alone1 x=true):(0≤x.hang∧x.hang≤1048576)∧(0≤x.front∧x.front≤1048576)∧(0≤x.back∧x.back≤1048576):=by
 unfold alone1 at h
 simp only [Bool.and_eq_true] at h
 exact ⟨Zh h.2.2.1,Zh h.2.2.2.1,Zh h.2.2.2.2⟩
structure ExSt (w W:World) (bx:Array Value) (l:List ItemT) (D k:Nat):Prop where
 d0:Blk W w.heap.size 26 bx
 d1:Blk W (w.heap.size+1) 74 #[.int .i64 0,.int .i64 0]
 d2:Blk W (w.heap.size+1+1) 74 #[.int .i64 0,.int .i64 0]
 d3:Blk W D 118 #[.string ⟨#[]⟩,.int .i64 0,.int .i64 0,.int .i64 0,.int .i64 (mxTo ItemT.hang l k),.int .i64 (mxTo ItemT.front l k),.int .i64 (mxTo ItemT.back l k)]
 bel:Below w.heap.size w W
 far:w.heap.size+1+1<D
section
variable {w W W':World} {bx:Array Value} {l:List ItemT} {D k:Nat}
theorem ExSt.below (h:ExSt w W bx l D k) (hb:Below W.heap.size W W'):ExSt w W' bx l D k :=
 ⟨h.d0.below hb h.d0.lt,h.d1.below hb h.d1.lt,h.d2.below hb h.d2.lt,h.d3.below hb h.d3.lt,h.bel.trans (hb.mono h.bel.size),h.far⟩
theorem ExSt.step (h:ExSt w W bx l D k) {a b c:Int} (ha:mxTo ItemT.hang l (k+1)=a) (hb:mxTo ItemT.front l (k+1)=b) (hc:mxTo ItemT.back l (k+1)=c) :
  ExSt w (((W.setCell ⟨D,4,none⟩ (.int .i64 a)).setCell ⟨D,5,none⟩ (.int .i64 b)).setCell ⟨D,6,none⟩ (.int .i64 c)) bx l D (k+1):=by
 have hf:=h.far
 subst ha hb hc
 have k3:=fun {g:Nat} {t:TypeId} {c:Array Value} (hb:Blk W g t c) (hg:g≠D) (x0 x1 x2:Value) => ((hb.far (p:=⟨D,4,none⟩) hg x0).far (p:=⟨D,5,none⟩) hg x1).far (p:=⟨D,6,none⟩) hg x2
 refine ⟨k3 h.d0 (by omega) _ _ _,k3 h.d1 (by omega) _ _ _,k3 h.d2 (by omega) _ _ _,((h.d3.set_ 4 _).set_ 5 _).set_ 6 _,((h.bel.setCell (by show w.heap.size≤D;omega) _).setCell (by show w.heap.size≤D;omega) _).setCell (by show w.heap.size≤D;omega) _,h.far⟩
end
theorem spans_stored {W:World} {B g:Nat} {o:World} (hB:Below B o W) (hg:B≤g) (b1:Blk W g 74 #[.int .i64 0,.int .i64 0]) (b2:Blk W (g+1) 74 #[.int .i64 0,.int .i64 0]) (x0 x1 y0 y1:Value) :
  Below B o ((((W.setCell ⟨g,0,none⟩ x0).setCell ⟨g,1,none⟩ x1).setCell ⟨g+1,0,none⟩ y0).setCell ⟨g+1,1,none⟩ y1) ∧
  ((((W.setCell ⟨g,0,none⟩ x0).setCell ⟨g,1,none⟩ x1).setCell ⟨g+1,0,none⟩ y0).setCell ⟨g+1,1,none⟩ y1).cell? ⟨g,0,none⟩=some x0 ∧
  ((((W.setCell ⟨g,0,none⟩ x0).setCell ⟨g,1,none⟩ x1).setCell ⟨g+1,0,none⟩ y0).setCell ⟨g+1,1,none⟩ y1).cell? ⟨g,1,none⟩=some x1 ∧
  ((((W.setCell ⟨g,0,none⟩ x0).setCell ⟨g,1,none⟩ x1).setCell ⟨g+1,0,none⟩ y0).setCell ⟨g+1,1,none⟩ y1).cell? ⟨g+1,0,none⟩=some y0 ∧
  ((((W.setCell ⟨g,0,none⟩ x0).setCell ⟨g,1,none⟩ x1).setCell ⟨g+1,0,none⟩ y0).setCell ⟨g+1,1,none⟩ y1).cell? ⟨g+1,1,none⟩=some y1:=by
 have h1:Blk ((((W.setCell ⟨g,0,none⟩ x0).setCell ⟨g,1,none⟩ x1).setCell ⟨g+1,0,none⟩ y0).setCell ⟨g+1,1,none⟩ y1) g 74 #[x0,x1]:=(((b1.set_ 0 x0).set_ 1 x1).far (p:=⟨g+1,0,none⟩) (by show g≠g+1;omega) y0).far (p:=⟨g+1,1,none⟩) (by show g≠g+1;omega) y1
 have h2:Blk ((((W.setCell ⟨g,0,none⟩ x0).setCell ⟨g,1,none⟩ x1).setCell ⟨g+1,0,none⟩ y0).setCell ⟨g+1,1,none⟩ y1) (g+1) 74 #[y0,y1]:=(((b2.far (p:=⟨g,0,none⟩) (by show g+1≠g;omega) x0).far (p:=⟨g,1,none⟩) (by show g+1≠g;omega) x1).set_ 0 y0).set_ 1 y1
 exact ⟨(((hB.setCell (by show B≤g;omega) _).setCell (by show B≤g;omega) _).setCell (by show B≤g+1;omega) _).setCell (by show B≤g+1;omega) _,h1.cell 0,h1.cell 1,h2.cell 0,h2.cell 1⟩
theorem lsExtent (v:Value) (s:SetT) (trim:Int) (w:World) (hv:SetAt w w.heap.size v s) (hn:SetNames s) :
  Calls Tryz.prog 32 #[v,.int .i64 trim] w fun e w' => e = .returned (extV s trim)∧Below w.heap.size w w':=by
 have HVa:=fun W (hb:Below w.heap.size w W) => batValid v s W ((hv.below hb (Nat.le_refl _)).mono hb.size) hn
 obtain ⟨Al,cl,Ai,ci,Ab,cb,rfl,-,hI,-⟩:=hv
 obtain ⟨_,_,e,hi1,hi2,hic⟩:=hI.open_
 injection e with e1 _ e2
 subst e1 e2
 have HI:=zh hic
 unfold maxLen at hi2
 clear hI hic hn
 unfold setVal at *
 go_enter Tryz.func32,Tryz.ntmps32
 go_wp2_with (exact Go.WalkKit.wp_stop)
 obtain ⟨B1,B2,B3,HbW⟩:=three_boxes w 26 74 74 #[.string s.name,.int .i64 s.depth,.int .i64 s.low,.int .i64 s.high,.int .i64 s.len,.slice Al s.lines.length cl,.int .i64 s.pipe,.int .i64 s.arbor,.int .i64 s.purch,.int .i64 s.most,.int .i64 s.brake,.slice Ai s.items.length ci,.slice Ab s.bricks.length cb] #[.int .i64 0,.int .i64 0] #[.int .i64 0,.int .i64 0]
 have hs3:(((w.alloc (.cells #[.string s.name,.int .i64 s.depth,.int .i64 s.low,.int .i64 s.high,.int .i64 s.len,.slice Al s.lines.length cl,.int .i64 s.pipe,.int .i64 s.arbor,.int .i64 s.purch,.int .i64 s.most,.int .i64 s.brake,.slice Ai s.items.length ci,.slice Ab s.bricks.length cb] 26)).alloc (.cells #[.int .i64 0,.int .i64 0] 74)).alloc (.cells #[.int .i64 0,.int .i64 0] 74)).heap.size=w.heap.size+1+1+1:=by simp
 generalize ((w.alloc (.cells #[.string s.name,.int .i64 s.depth,.int .i64 s.low,.int .i64 s.high,.int .i64 s.len,.slice Al s.lines.length cl,.int .i64 s.pipe,.int .i64 s.arbor,.int .i64 s.purch,.int .i64 s.most,.int .i64 s.brake,.slice Ai s.items.length ci,.slice Ab s.bricks.length cb] 26)).alloc (.cells #[.int .i64 0,.int .i64 0] 74)).alloc (.cells #[.int .i64 0,.int .i64 0] 74)=W3 at *
 have hva:=HVa W3 HbW
 have hA:Hid (∀ w2,Below W3.heap.size W3 w2→Blk w2 w.heap.size 26 #[.string s.name,.int .i64 s.depth,.int .i64 s.low,.int .i64 s.high,.int .i64 s.len,.slice Al s.lines.length cl,.int .i64 s.pipe,.int .i64 s.arbor,.int .i64 s.purch,.int .i64 s.most,.int .i64 s.brake,.slice Ai s.items.length ci,.slice Ab s.bricks.length cb]∧Blk w2 (w.heap.size+1) 74 #[.int .i64 0,.int .i64 0]∧Blk w2 (w.heap.size+1+1) 74 #[.int .i64 0,.int .i64 0]∧Below w.heap.size w w2∧w.heap.size+1+1<w2.heap.size):=fun w2 hb => ⟨B1.below hb B1.lt,B2.below hb B2.lt,B3.below hb B3.lt,HbW.trans (hb.mono HbW.size),by have:=hb.size;omega⟩
 have z0:=B1.cell 0
 have z1:=B1.cell 1
 have z2:=B1.cell 2
 have z3:=B1.cell 3
 have z4:=B1.cell 4
 have z5:=B1.cell 5
 have z6:=B1.cell 6
 have z7:=B1.cell 7
 have z8:=B1.cell 8
 have z9:=B1.cell 9
 have z10:=B1.cell 10
 have z11:=B1.cell 11
 have z12:=B1.cell 12
 simp only [zq1,zq2,zq3] at z0 z1 z2 z3 z4 z5 z6 z7 z8 z9 z10 z11 z12
 clear HVa hs3 B1 B2 B3 HbW
 rcases Bool.eq_false_or_eq_true (setB s) with hok | hok
 rotate_left
 ·rw [hok] at hva
  have HV:=zh (ext_no (trim:=trim) hok)
  clear hok z0 z1 z2 z3 z4 z5 z6 z7 z8 z9 z10 z11 z12
  refine hva.mono ?_
  rintro e w2 ⟨rfl,hb2⟩
  obtain ⟨b1,b2,b3,hbx,-⟩:=hA.out w2 hb2
  have y0:=b2.cell 0
  have y1:=b2.cell 1
  have y2:=b3.cell 0
  have y3:=b3.cell 1
  have f0:=b2.frozen 0
  have f1:=b2.frozen 1
  have f2:=b3.frozen 0
  have f3:=b3.frozen 1
  simp only [zq1,zq2,zq3] at y0 y1 y2 y3
  obtain ⟨hB,p0,p1,p2,p3⟩:=spans_stored hbx (by omega) b2 b3 (.int .i64 0) (.int .i64 0) (.int .i64 0) (.int .i64 0)
  have HB:=zh hB
  clear hB
  clear b1 b2 b3 hbx hva
  go_wp2_with fail
  refine bodyPost_ret (v:=.tuple #[spanV 0 0,spanV 0 0,.int .i64 1]) (by simp [results,Tryz.results32,go_sem,p0,p1,p2,p3]) rfl ?_
  exact ⟨by rw [HV.out],HB.out⟩
 have hk:=Zm hok
 rcases Bool.eq_false_or_eq_true (trimB s trim) with ht | ht
 ·have HV:=zh (ext_out hok ht)
  rw [hok] at hva
  have hcs:decide (trim<s.low)=true∨(decide (trim<s.low)=false∧decide (s.high<trim)=true):=by
   unfold trimB at ht
   cases h:decide (trim<s.low)
   ·rw [h,Bool.false_or] at ht
    exact .inr ⟨rfl,ht⟩
   ·exact .inl rfl
  clear hok ht hk
  rcases hcs with d1 | ⟨d1,d2⟩
  all_goals
   refine hva.mono ?_
   rintro e w2 ⟨rfl,hb2⟩
   obtain ⟨b1,b2,b3,hbx,-⟩:=hA.out w2 hb2
   have y0:=b2.cell 0
   have y1:=b2.cell 1
   have y2:=b3.cell 0
   have y3:=b3.cell 1
   have f0:=b2.frozen 0
   have f1:=b2.frozen 1
   have f2:=b3.frozen 0
   have f3:=b3.frozen 1
   have q2:=b1.cell 2
   have q3:=b1.cell 3
   simp only [zq1,zq2,zq3] at y0 y1 y2 y3 q2 q3
   obtain ⟨hB,p0,p1,p2,p3⟩:=spans_stored hbx (by omega) b2 b3 (.int .i64 0) (.int .i64 0) (.int .i64 0) (.int .i64 0)
   have HB:=zh hB
   clear hB b1 b2 b3 hbx hva z0 z1 z2 z3 z4 z5 z6 z7 z8 z9 z10 z11 z12
   go_wp2_with fail
   refine bodyPost_ret (v:=.tuple #[spanV 0 0,spanV 0 0,.int .i64 2]) (by simp [results,Tryz.results32,go_sem,p0,p1,p2,p3]) rfl ?_
   exact ⟨by rw [HV.out],HB.out⟩
 ·have HV:=zh (ext_in hok ht)
  rw [hok] at hva
  have hcs:decide (trim<s.low)=false∧decide (s.high<trim)=false:=by
   unfold trimB at ht
   simpa only [Bool.or_eq_false_iff] using ht
  have htr:0≤trim∧trim≤1048576:=by
   have h1:=of_decide_eq_false hcs.1
   have h2:=of_decide_eq_false hcs.2
   have h3:=hk.low
   omega
  have hdp:=hk.depth
  have hal:=fun x (hx:x ∈ s.items) => alone_all (hk.wts.2 x hx).1
  have HB1:=zh (mxTo_bd (f:=ItemT.hang) (l:=s.items) fun x hx => (hal x hx).1)
  have HB2:=zh (mxTo_bd (f:=ItemT.front) (l:=s.items) fun x hx => (hal x hx).2.1)
  have HB3:=zh (mxTo_bd (f:=ItemT.back) (l:=s.items) fun x hx => (hal x hx).2.2)
  have h40:=hk.wts.1
  obtain ⟨d1,d2⟩:=hcs
  clear hok ht hk hal
  refine hva.mono ?_
  rintro e w2 ⟨rfl,hb2⟩
  obtain ⟨b1,b2,b3,hbx,hfar⟩:=hA.out w2 hb2
  have q2:=b1.cell 2
  have q3:=b1.cell 3
  have q11:=fun o => (b1.alloc o).cell 11
  simp only [zq1,zq2,zq3] at q2 q3 q11
  have hEx:ExSt w (w2.alloc (.cells #[.string ⟨#[]⟩,.int .i64 0,.int .i64 0,.int .i64 0,.int .i64 0,.int .i64 0,.int .i64 0] 118)) #[.string s.name,.int .i64 s.depth,.int .i64 s.low,.int .i64 s.high,.int .i64 s.len,.slice Al s.lines.length cl,.int .i64 s.pipe,.int .i64 s.arbor,.int .i64 s.purch,.int .i64 s.most,.int .i64 s.brake,.slice Ai s.items.length ci,.slice Ab s.bricks.length cb] s.items w2.heap.size 0:=⟨b1.alloc _,b2.alloc _,b3.alloc _,Blk.new _ _ _,hbx.alloc hbx.size _,hfar⟩
  have HEx:=zh hEx
  clear hEx b1 b2 b3 hbx hva hfar z0 z1 z2 z3 z4 z5 z6 z7 z8 z9 z10 z11 z12
  go_wp2_with (exact Go.WalkKit.wp_stop)
  generalize w2.alloc (.cells #[.string ⟨#[]⟩,.int .i64 0,.int .i64 0,.int .i64 0,.int .i64 0,.int .i64 0,.int .i64 0] 118)=w4 at *
  generalize w2.heap.size=D at *
  clear q2 q3 q11
  go_loopw [32] (fun ix wr => ∃ k:Nat,k≤s.items.length∧ix = .int .i64 k∧Hid (ExSt w wr #[.string s.name,.int .i64 s.depth,.int .i64 s.low,.int .i64 s.high,.int .i64 s.len,.slice Al s.lines.length cl,.int .i64 s.pipe,.int .i64 s.arbor,.int .i64 s.purch,.int .i64 s.most,.int .i64 s.brake,.slice Ai s.items.length ci,.slice Ab s.bricks.length cb] s.items D k)) (fun ix _ => s.items.length-(intOf ix).toNat)
  case atStart => exact ⟨0,Nat.zero_le _,rfl,HEx⟩
  case round =>
   clear HEx
   obtain ⟨k,hk,rfl,HT⟩:=hrel
   have k0:(0:Int)≤(k:Int):=Int.natCast_nonneg _
   by_cases hkl:k<s.items.length
   ·have k1:(k:Int)<(s.items.length:Int):=by omega
    obtain ⟨b1,off1,rfl,hb1,hc⟩:=HI.out k hkl
    have hbel:=HT.out.bel
    have y0:=(hbel.cell (p:=⟨b1,off1+k*7,none⟩) hb1).trans (hc k hkl).1
    have y1:=(hbel.cell (p:=⟨b1,off1+k*7+1,none⟩) hb1).trans (hc k hkl).2.1
    have y2:=(hbel.cell (p:=⟨b1,off1+k*7+2,none⟩) hb1).trans (hc k hkl).2.2.1
    have y3:=(hbel.cell (p:=⟨b1,off1+k*7+3,none⟩) hb1).trans (hc k hkl).2.2.2.1
    have y4:=(hbel.cell (p:=⟨b1,off1+k*7+4,none⟩) hb1).trans (hc k hkl).2.2.2.2.1
    have y5:=(hbel.cell (p:=⟨b1,off1+k*7+5,none⟩) hb1).trans (hc k hkl).2.2.2.2.2.1
    have y6:=(hbel.cell (p:=⟨b1,off1+k*7+6,none⟩) hb1).trans (hc k hkl).2.2.2.2.2.2
    have HM1:=zh (mxTo_succ ItemT.hang s.items k hkl)
    have HM2:=zh (mxTo_succ ItemT.front s.items k hkl)
    have HM3:=zh (mxTo_succ ItemT.back s.items k hkl)
    clear hc hbel
    generalize s.items[k]=x at *
    obtain ⟨nm,pos,width,wt,hang,front,back⟩:=x
    simp only at y0 y1 y2 y3 y4 y5 y6 HM1 HM2 HM3
    go_wp2_with (exact Go.WalkKit.wp_stop)
    have hDi:=Blk.new wr 118 #[.string nm,.int .i64 pos,.int .i64 width,.int .i64 wt,.int .i64 hang,.int .i64 front,.int .i64 back]
    have hT5:=HT.out.below ((Below.refl _ wr).alloc (Nat.le_refl _) (.cells #[.string nm,.int .i64 pos,.int .i64 width,.int .i64 wt,.int .i64 hang,.int .i64 front,.int .i64 back] 118))
    have hne:wr.heap.size≠D:=by
     have:=HT.out.d3.lt
     omega
    clear HT y0 y1 y2 y3 y4 y5 y6
    generalize wr.alloc (.cells #[.string nm,.int .i64 pos,.int .i64 width,.int .i64 wt,.int .i64 hang,.int .i64 front,.int .i64 back] 118)=w5 at *
    generalize wr.heap.size=D5 at *
    have HT:=zh hT5
    have i4:=hDi.cell 4
    have i5:=hDi.cell 5
    have i6:=hDi.cell 6
    have m4:=hT5.d3.cell 4
    have m5:=hT5.d3.cell 5
    have m6:=hT5.d3.cell 6
    have f4:=hT5.d3.frozen 4
    have f5:=hT5.d3.frozen 5
    have f6:=hT5.d3.frozen 6
    simp only [zq1,zq2,zq3] at i4 i5 i6 m4 m5 m6
    have HDi:=zh hDi
    have HDm:=zh hT5.d3
    clear hDi hT5
    generalize mxTo ItemT.hang s.items k=a1 at *
    generalize mxTo ItemT.front s.items k=a2 at *
    generalize mxTo ItemT.back s.items k=a3 at *
    obtain ⟨c1,hc1⟩:∃ c1,(if a1<hang then hang else a1)=c1:=⟨_,rfl⟩
    obtain ⟨c2,hc2⟩:∃ c2,(if a2<front then front else a2)=c2:=⟨_,rfl⟩
    obtain ⟨c3,hc3⟩:∃ c3,(if a3<back then back else a3)=c3:=⟨_,rfl⟩
    obtain ⟨Wd,w0,w1,w2',w3⟩:∃ Wd:Nat→World,Wd 0=w5.drew∧(Wd 0).setCell ⟨D,4,none⟩ (.int .i64 c1)=Wd 1∧(Wd 1).setCell ⟨D,5,none⟩ (.int .i64 c2)=Wd 2∧(Wd 2).setCell ⟨D,6,none⟩ (.int .i64 c3)=Wd 3 :=
     ⟨fun | 0 => w5.drew | 1 => w5.drew.setCell ⟨D,4,none⟩ (.int .i64 c1) | 2 => (w5.drew.setCell ⟨D,4,none⟩ (.int .i64 c1)).setCell ⟨D,5,none⟩ (.int .i64 c2) | _ => ((w5.drew.setCell ⟨D,4,none⟩ (.int .i64 c1)).setCell ⟨D,5,none⟩ (.int .i64 c2)).setCell ⟨D,6,none⟩ (.int .i64 c3),rfl,rfl,rfl,rfl⟩
    have k0:Blk (Wd 0) D5 118 #[.string nm,.int .i64 pos,.int .i64 width,.int .i64 wt,.int .i64 hang,.int .i64 front,.int .i64 back]:=by rw [w0];exact HDi.out
    have k1:=k0.far (p:=⟨D,4,none⟩) hne (.int .i64 c1)
    rw [w1] at k1
    have k2:=k1.far (p:=⟨D,5,none⟩) hne (.int .i64 c2)
    rw [w2'] at k2
    have k3:=k2.far (p:=⟨D,6,none⟩) hne (.int .i64 c3)
    rw [w3] at k3
    have e0:Blk (Wd 0) D 118 #[.string ⟨#[]⟩,.int .i64 0,.int .i64 0,.int .i64 0,.int .i64 a1,.int .i64 a2,.int .i64 a3]:=by rw [w0];exact HDm.out
    have e1:=e0.set_ 4 (.int .i64 c1)
    rw [w1] at e1
    have e2:=e1.set_ 5 (.int .i64 c2)
    rw [w2'] at e2
    have hK:∀ m,m≤3→Blk (Wd m) D5 118 #[.string nm,.int .i64 pos,.int .i64 width,.int .i64 wt,.int .i64 hang,.int .i64 front,.int .i64 back]:=fun m hm => by
     rcases (show m=0∨m=1∨m=2∨m=3 by omega) with rfl | rfl | rfl | rfl
     ·exact k0
     ·exact k1
     ·exact k2
     ·exact k3
    have i4':∀ m,m≤3→(Wd m).cell? ⟨D5,4,none⟩=some (.int .i64 hang):=fun m hm => (hK m hm).cell 4
    have i5':∀ m,m≤3→(Wd m).cell? ⟨D5,5,none⟩=some (.int .i64 front):=fun m hm => (hK m hm).cell 5
    have i6':∀ m,m≤3→(Wd m).cell? ⟨D5,6,none⟩=some (.int .i64 back):=fun m hm => (hK m hm).cell 6
    have m4':(Wd 0).cell? ⟨D,4,none⟩=some (.int .i64 a1):=e0.cell 4
    have m5':(Wd 0).cell? ⟨D,5,none⟩=some (.int .i64 a2):=e0.cell 5
    have m6':(Wd 0).cell? ⟨D,6,none⟩=some (.int .i64 a3):=e0.cell 6
    have n5':(Wd 1).cell? ⟨D,5,none⟩=some (.int .i64 a2):=e1.cell 5
    have n6':(Wd 2).cell? ⟨D,6,none⟩=some (.int .i64 a3):=e2.cell 6
    have f4':(Wd 0).frozen? ⟨D,4,none⟩=false:=e0.frozen 4
    have f5':(Wd 1).frozen? ⟨D,5,none⟩=false:=e1.frozen 5
    have f6':(Wd 2).frozen? ⟨D,6,none⟩=false:=e2.frozen 6
    have HE:Hid (ExSt w (Wd 3) #[.string s.name,.int .i64 s.depth,.int .i64 s.low,.int .i64 s.high,.int .i64 s.len,.slice Al s.lines.length cl,.int .i64 s.pipe,.int .i64 s.arbor,.int .i64 s.purch,.int .i64 s.most,.int .i64 s.brake,.slice (some ⟨b1,off1,none⟩) s.items.length ci,.slice Ab s.bricks.length cb] s.items D (k+1)):=by
     have h:=(HT.out.below ((Below.refl _ w5).drew)).step (a:=c1) (b:=c2) (c:=c3) (by rw [HM1.out,← hc1];split <;> omega) (by rw [HM2.out,← hc2];split <;> omega) (by rw [HM3.out,← hc3];split <;> omega)
     rw [← w0,w1,w2',w3] at h
     exact h
    have W0:=zh w0
    clear w0 k0 k1 k2 k3 e0 e1 e2 hK HT HDi HDm HM1 HM2 HM3 hne
    refine wp_region_freeL [.pointer (some ⟨D,4,none⟩),.int .i64 a1,.pointer (some ⟨D5,4,none⟩),.int .i64 hang,.int .i64 c1,.pointer (some ⟨D,5,none⟩),.int .i64 a2,.pointer (some ⟨D5,5,none⟩),.int .i64 front,.int .i64 c2,.pointer (some ⟨D,6,none⟩),.int .i64 a3,.pointer (some ⟨D5,6,none⟩),.int .i64 back,.int .i64 c3,.pointer (some ⟨D,4,none⟩),undef,.pointer (some ⟨D,5,none⟩),undef,.pointer (some ⟨D,6,none⟩),undef] Wd [16,18,20] (by kernel_rfl) (by kernel_rfl) (by kernel_rfl) (by decide) (by rfl) W0.out ?_ ?_
    ·simp only [putAll,Act.put,zs1,zs2,zs3]
     simp only [freeAll]
     refine ⟨?_,?_,?_,?_,?_,?_,?_,?_,?_,?_,?_,?_,?_,?_,?_,?_,?_,?_,?_,?_,?_,trivial⟩
     ·exact .inl ⟨by decide,fun m hm hok => by go_simp⟩
     ·exact .inl ⟨by decide,fun m hm hok => by
      have hm0:m=0:=by
       rcases m with _ | _ | _ | _ | m
       ·rfl
       ·exact absurd (Eq.trans (a:=false) (by kernel_rfl) hok) Bool.false_ne_true
       ·exact absurd (Eq.trans (a:=false) (by kernel_rfl) hok) Bool.false_ne_true
       ·exact absurd (Eq.trans (a:=false) (by kernel_rfl) hok) Bool.false_ne_true
       ·exact absurd hm (by show ¬ m+4≤3;omega)
      subst hm0
      go_simp⟩
     ·exact .inl ⟨by decide,fun m hm hok => by go_simp⟩
     ·exact .inl ⟨by decide,fun m hm hok => by have h:=i4' m hm;go_simp⟩
     ·exact .inl ⟨by decide,fun m hm hok => by go_simp⟩
     ·exact .inl ⟨by decide,fun m hm hok => by go_simp⟩
     ·exact .inl ⟨by decide,fun m hm hok => by
      have hm0:m=0:=by
       rcases m with _ | _ | _ | _ | m
       ·rfl
       ·exact absurd (Eq.trans (a:=false) (by kernel_rfl) hok) Bool.false_ne_true
       ·exact absurd (Eq.trans (a:=false) (by kernel_rfl) hok) Bool.false_ne_true
       ·exact absurd (Eq.trans (a:=false) (by kernel_rfl) hok) Bool.false_ne_true
       ·exact absurd hm (by show ¬ m+4≤3;omega)
      subst hm0
      go_simp⟩
     ·exact .inl ⟨by decide,fun m hm hok => by go_simp⟩
     ·exact .inl ⟨by decide,fun m hm hok => by have h:=i5' m hm;go_simp⟩
     ·exact .inl ⟨by decide,fun m hm hok => by go_simp⟩
     ·exact .inl ⟨by decide,fun m hm hok => by go_simp⟩
     ·exact .inl ⟨by decide,fun m hm hok => by
      have hm0:m=0:=by
       rcases m with _ | _ | _ | _ | m
       ·rfl
       ·exact absurd (Eq.trans (a:=false) (by kernel_rfl) hok) Bool.false_ne_true
       ·exact absurd (Eq.trans (a:=false) (by kernel_rfl) hok) Bool.false_ne_true
       ·exact absurd (Eq.trans (a:=false) (by kernel_rfl) hok) Bool.false_ne_true
       ·exact absurd hm (by show ¬ m+4≤3;omega)
      subst hm0
      go_simp⟩
     ·exact .inl ⟨by decide,fun m hm hok => by go_simp⟩
     ·exact .inl ⟨by decide,fun m hm hok => by have h:=i6' m hm;go_simp⟩
     ·exact .inl ⟨by decide,fun m hm hok => by go_simp⟩
     ·exact .inl ⟨by decide,fun m hm hok => by go_simp⟩
     ·exact .inr ⟨0,rfl,by go_simp⟩
     ·exact .inl ⟨by decide,fun m hm hok => by go_simp⟩
     ·exact .inr ⟨1,rfl,by go_simp⟩
     ·exact .inl ⟨by decide,fun m hm hok => by go_simp⟩
     ·exact .inr ⟨2,rfl,by go_simp⟩
    ·simp only [putAll,Act.put,zs1,zs2,zs3]
     clear i4' i5' i6' m4' m5' m6' n5' n6' f4' f5' f6' w1 w2' w3 hc1 hc2 hc3
     go_wp2_with fail
     refine ⟨⟨k+1,by omega,by go_num,HE⟩,?_⟩
     simp [intOf]
     omega
   ·obtain rfl:k=s.items.length:=by omega
    have bd1:=HB1.out s.items.length (Nat.le_refl _)
    have bd2:=HB2.out s.items.length (Nat.le_refl _)
    have bd3:=HB3.out s.items.length (Nat.le_refl _)
    unfold mxN at HV
    have HD0:=zh HT.out.d0
    have HD1:=zh HT.out.d1
    have HD2:=zh HT.out.d2
    have HD3:=zh HT.out.d3
    have HBel:=zh HT.out.bel
    have hfar:=HT.out.far
    clear HT HB1 HB2 HB3
    generalize mxTo ItemT.hang s.items s.items.length=hg at *
    generalize mxTo ItemT.front s.items s.items.length=fr at *
    generalize mxTo ItemT.back s.items s.items.length=bk at *
    have v1:IntKind.i64.wrap (trim-hg)=trim-hg:=IntWalk.i64_in _ (by omega)
    have v2:IntKind.i64.wrap (s.depth-bk)=s.depth-bk:=IntWalk.i64_in _ (by omega)
    have v3:IntKind.i64.wrap (s.depth+fr)=s.depth+fr:=IntWalk.i64_in _ (by omega)
    have hne0:w.heap.size≠w.heap.size+1:=by omega
    have hne1:w.heap.size≠w.heap.size+1+1:=by omega
    have hne2:D≠w.heap.size+1:=by omega
    have hne3:D≠w.heap.size+1+1:=by omega
    go_wp2_with (exact Go.WalkKit.wp_stop)
    obtain ⟨Wd,w0,w1,w2'⟩:∃ Wd:Nat→World,Wd 0=wr.drew∧((Wd 0).setCell ⟨w.heap.size+1,0,none⟩ (.int .i64 (trim-hg))).setCell ⟨w.heap.size+1,1,none⟩ (.int .i64 trim)=Wd 1∧((Wd 1).setCell ⟨w.heap.size+1+1,0,none⟩ (.int .i64 (s.depth-bk))).setCell ⟨w.heap.size+1+1,1,none⟩ (.int .i64 (s.depth+fr))=Wd 2 :=
     ⟨fun | 0 => wr.drew | 1 => (wr.drew.setCell ⟨w.heap.size+1,0,none⟩ (.int .i64 (trim-hg))).setCell ⟨w.heap.size+1,1,none⟩ (.int .i64 trim) | _ => (((wr.drew.setCell ⟨w.heap.size+1,0,none⟩ (.int .i64 (trim-hg))).setCell ⟨w.heap.size+1,1,none⟩ (.int .i64 trim)).setCell ⟨w.heap.size+1+1,0,none⟩ (.int .i64 (s.depth-bk))).setCell ⟨w.heap.size+1+1,1,none⟩ (.int .i64 (s.depth+fr)),rfl,rfl,rfl⟩
    have far2:=fun {W:World} {g:Nat} {t:TypeId} {c:Array Value} (h:Blk W g t c) (x:Nat) (hx:g≠x) (u0 u1:Value) => (h.far (p:=⟨x,0,none⟩) hx u0).far (p:=⟨x,1,none⟩) hx u1
    have s0:Blk (Wd 0) w.heap.size 26 #[.string s.name,.int .i64 s.depth,.int .i64 s.low,.int .i64 s.high,.int .i64 s.len,.slice Al s.lines.length cl,.int .i64 s.pipe,.int .i64 s.arbor,.int .i64 s.purch,.int .i64 s.most,.int .i64 s.brake,.slice Ai s.items.length ci,.slice Ab s.bricks.length cb]:=by rw [w0];exact HD0.out
    have s1:=far2 s0 _ hne0 (.int .i64 (trim-hg)) (.int .i64 trim)
    rw [w1] at s1
    have s2:=far2 s1 _ hne1 (.int .i64 (s.depth-bk)) (.int .i64 (s.depth+fr))
    rw [w2'] at s2
    have d0:Blk (Wd 0) D 118 #[.string ⟨#[]⟩,.int .i64 0,.int .i64 0,.int .i64 0,.int .i64 hg,.int .i64 fr,.int .i64 bk]:=by rw [w0];exact HD3.out
    have d1':=far2 d0 _ hne2 (.int .i64 (trim-hg)) (.int .i64 trim)
    rw [w1] at d1'
    have d2':=far2 d1' _ hne3 (.int .i64 (s.depth-bk)) (.int .i64 (s.depth+fr))
    rw [w2'] at d2'
    have a0:Blk (Wd 0) (w.heap.size+1) 74 #[.int .i64 0,.int .i64 0]:=by rw [w0];exact HD1.out
    have a0':=a0.set_ 0 (.int .i64 (trim-hg))
    have b0:Blk (Wd 0) (w.heap.size+1+1) 74 #[.int .i64 0,.int .i64 0]:=by rw [w0];exact HD2.out
    have b1':=far2 b0 (w.heap.size+1) (by omega) (.int .i64 (trim-hg)) (.int .i64 trim)
    rw [w1] at b1'
    have b1'':=b1'.set_ 0 (.int .i64 (s.depth-bk))
    have hK:∀ m,m≤2→Blk (Wd m) D 118 #[.string ⟨#[]⟩,.int .i64 0,.int .i64 0,.int .i64 0,.int .i64 hg,.int .i64 fr,.int .i64 bk]∧Blk (Wd m) w.heap.size 26 #[.string s.name,.int .i64 s.depth,.int .i64 s.low,.int .i64 s.high,.int .i64 s.len,.slice Al s.lines.length cl,.int .i64 s.pipe,.int .i64 s.arbor,.int .i64 s.purch,.int .i64 s.most,.int .i64 s.brake,.slice Ai s.items.length ci,.slice Ab s.bricks.length cb]:=fun m hm => by
     rcases (show m=0∨m=1∨m=2 by omega) with rfl | rfl | rfl
     ·exact ⟨d0,s0⟩
     ·exact ⟨d1',s1⟩
     ·exact ⟨d2',s2⟩
    have g4:∀ m,m≤2→(Wd m).cell? ⟨D,4,none⟩=some (.int .i64 hg):=fun m hm => (hK m hm).1.cell 4
    have g5:∀ m,m≤2→(Wd m).cell? ⟨D,5,none⟩=some (.int .i64 fr):=fun m hm => (hK m hm).1.cell 5
    have g6:∀ m,m≤2→(Wd m).cell? ⟨D,6,none⟩=some (.int .i64 bk):=fun m hm => (hK m hm).1.cell 6
    have q1:∀ m,m≤2→(Wd m).cell? ⟨w.heap.size,1,none⟩=some (.int .i64 s.depth):=fun m hm => (hK m hm).2.cell 1
    have ca0:(Wd 0).cell? ⟨w.heap.size+1,0,none⟩=some (.int .i64 0):=a0.cell 0
    have fa0:(Wd 0).frozen? ⟨w.heap.size+1,0,none⟩=false:=a0.frozen 0
    have ca1:((Wd 0).setCell ⟨w.heap.size+1,0,none⟩ (.int .i64 (trim-hg))).cell? ⟨w.heap.size+1,1,none⟩=some (.int .i64 0):=a0'.cell 1
    have fa1:((Wd 0).setCell ⟨w.heap.size+1,0,none⟩ (.int .i64 (trim-hg))).frozen? ⟨w.heap.size+1,1,none⟩=false:=a0'.frozen 1
    have cb0:(Wd 1).cell? ⟨w.heap.size+1+1,0,none⟩=some (.int .i64 0):=b1'.cell 0
    have fb0:(Wd 1).frozen? ⟨w.heap.size+1+1,0,none⟩=false:=b1'.frozen 0
    have cb1:((Wd 1).setCell ⟨w.heap.size+1+1,0,none⟩ (.int .i64 (s.depth-bk))).cell? ⟨w.heap.size+1+1,1,none⟩=some (.int .i64 0):=b1''.cell 1
    have fb1:((Wd 1).setCell ⟨w.heap.size+1+1,0,none⟩ (.int .i64 (s.depth-bk))).frozen? ⟨w.heap.size+1+1,1,none⟩=false:=b1''.frozen 1
    obtain ⟨hBe,z0,z1,z2,z3⟩:=spans_stored (HBel.out.drew) (by omega) (show Blk wr.drew (w.heap.size+1) 74 #[.int .i64 0,.int .i64 0] from HD1.out) (show Blk wr.drew (w.heap.size+1+1) 74 #[.int .i64 0,.int .i64 0] from HD2.out) (.int .i64 (trim-hg)) (.int .i64 trim) (.int .i64 (s.depth-bk)) (.int .i64 (s.depth+fr))
    rw [← w0,w1,w2'] at hBe z0 z1 z2 z3
    have HBe:=zh hBe
    have W0:=zh w0
    have Z0:=zh z0
    have Z1:=zh z1
    have Z2:=zh z2
    have Z3:=zh z3
    clear far2 hBe w0 z0 z1 z2 z3 s0 s1 s2 d0 d1' d2' a0 a0' b0 b1' b1'' hK HD0 HD1 HD2 HD3 HBel hne0 hne1 hne2 hne3 hfar bd1 bd2 bd3
    refine wp_region_freeL [.int .i64 trim,.pointer (some ⟨D,4,none⟩),.int .i64 hg,.int .i64 (trim-hg),.int .i64 trim,spanV (trim-hg) trim,.pointer (some ⟨w.heap.size,1,none⟩),.int .i64 s.depth,.pointer (some ⟨D,6,none⟩),.int .i64 bk,.int .i64 (s.depth-bk),.pointer (some ⟨w.heap.size,1,none⟩),.int .i64 s.depth,.pointer (some ⟨D,5,none⟩),.int .i64 fr,.int .i64 (s.depth+fr),spanV (s.depth-bk) (s.depth+fr),undef,undef,.int .i64 0] Wd [17,18] (by kernel_rfl) (by kernel_rfl) (by kernel_rfl) (by decide) (by rfl) W0.out ?_ ?_
    ·simp only [putAll,Act.put,zs1,zs2,zs3]
     simp only [freeAll]
     refine ⟨?_,?_,?_,?_,?_,?_,?_,?_,?_,?_,?_,?_,?_,?_,?_,?_,?_,?_,?_,?_,trivial⟩
     ·exact .inl ⟨by decide,fun m hm hok => by go_simp⟩
     ·exact .inl ⟨by decide,fun m hm hok => by go_simp⟩
     ·exact .inl ⟨by decide,fun m hm hok => by have h:=g4 m hm;go_simp⟩
     ·exact .inl ⟨by decide,fun m hm hok => by go_simp⟩
     ·exact .inl ⟨by decide,fun m hm hok => by go_simp⟩
     ·exact .inl ⟨by decide,fun m hm hok => by go_simp⟩
     ·exact .inl ⟨by decide,fun m hm hok => by go_simp⟩
     ·exact .inl ⟨by decide,fun m hm hok => by have h:=q1 m hm;go_simp⟩
     ·exact .inl ⟨by decide,fun m hm hok => by go_simp⟩
     ·exact .inl ⟨by decide,fun m hm hok => by have h:=g6 m hm;go_simp⟩
     ·exact .inl ⟨by decide,fun m hm hok => by go_simp⟩
     ·exact .inl ⟨by decide,fun m hm hok => by go_simp⟩
     ·exact .inl ⟨by decide,fun m hm hok => by have h:=q1 m hm;go_simp⟩
     ·exact .inl ⟨by decide,fun m hm hok => by go_simp⟩
     ·exact .inl ⟨by decide,fun m hm hok => by have h:=g5 m hm;go_simp⟩
     ·exact .inl ⟨by decide,fun m hm hok => by go_simp⟩
     ·exact .inl ⟨by decide,fun m hm hok => by go_simp⟩
     ·exact .inr ⟨0,rfl,by go_simp⟩
     ·exact .inr ⟨1,rfl,by go_simp⟩
     ·exact .inl ⟨by decide,fun m hm hok => by go_simp⟩
    ·simp only [putAll,Act.put,zs1,zs2,zs3]
     have z0:=Z0.out
     have z1:=Z1.out
     have z2:=Z2.out
     have z3:=Z3.out
     clear g4 g5 g6 q1 ca0 fa0 ca1 fa1 cb0 fb0 cb1 fb1 w1 w2'
     go_wp2_with fail
     refine bodyPost_ret (v:=.tuple #[spanV (trim-hg) trim,spanV (s.depth-bk) (s.depth+fr),.int .i64 0]) (by simp [results,Tryz.results32,go_sem,z0,z1,z2,z3]) rfl ?_
     exact ⟨by rw [HV.out],HBe.out⟩
def AnsB (w:World) (e:Ending) (w':World):Prop:=∃ q:Bool,e = .returned (.bool q)∧Below w.heap.size w w'
theorem refSmall (v:Value) (s:SetT) (n:Int) (w:World) (hv:SetAt w w.heap.size v s) (_hsz:s.name.size≤maxLen) (hnm:∀ x ∈ s.items,x.name.size≤maxLen) (hbm:∀ x ∈ s.bricks,x.name.size≤maxLen) :
  Calls Tryz.prog 33 #[v,.int .i64 n] w (AnsB w):=by
 obtain ⟨Al,cl,Ai,ci,Ab,cb,rfl,hL,hI,hB⟩:=hv
 obtain ⟨_,_,e,hl1,hl2,-⟩:=hL.open_
 injection e with e1 _ e2
 subst e1 e2
 obtain ⟨_,_,e,hi1,hi2,hic⟩:=hI.open_
 injection e with e1 _ e2
 subst e1 e2
 obtain ⟨_,_,e,hk1,hk2,hkc⟩:=hB.open_
 injection e with e1 _ e2
 subst e1 e2
 have HI:=zh hic
 have HK:=zh hkc
 have HN:=zh hnm
 have HM:=zh hbm
 have HD:=zh (Blk.new w 26 #[.string s.name,.int .i64 s.depth,.int .i64 s.low,.int .i64 s.high,.int .i64 s.len,.slice Al s.lines.length cl,.int .i64 s.pipe,.int .i64 s.arbor,.int .i64 s.purch,.int .i64 s.most,.int .i64 s.brake,.slice Ai s.items.length ci,.slice Ab s.bricks.length cb])
 have HB1:=zh ((Below.refl _ w).alloc (Nat.le_refl _) (.cells #[.string s.name,.int .i64 s.depth,.int .i64 s.low,.int .i64 s.high,.int .i64 s.len,.slice Al s.lines.length cl,.int .i64 s.pipe,.int .i64 s.arbor,.int .i64 s.purch,.int .i64 s.most,.int .i64 s.brake,.slice Ai s.items.length ci,.slice Ab s.bricks.length cb] 26))
 unfold maxLen at hl2 hi2 hk2
 unfold setVal
 clear hL hI hB hic hkc hnm hbm
 by_cases c0:60<(s.name.size:Int)
 ·have d0:decide (60<(s.name.size:Int))=true:=decide_eq_true c0
  go_enter Tryz.func33,Tryz.ntmps33
  go_wp2
  go_ret
  exact ⟨_,rfl,HB1.out⟩
 have d0:decide (60<(s.name.size:Int))=false:=decide_eq_false c0
 by_cases c1:12<(s.lines.length:Int)
 ·have d1:decide (12<(s.lines.length:Int))=true:=decide_eq_true c1
  go_enter Tryz.func33,Tryz.ntmps33
  go_wp2
  go_ret
  exact ⟨_,rfl,HB1.out⟩
 have d1:decide (12<(s.lines.length:Int))=false:=decide_eq_false c1
 by_cases c2:n<(s.items.length:Int)
 ·have d2:decide (n<(s.items.length:Int))=true:=decide_eq_true c2
  by_cases c3:(s.items.length:Int)≤40
  ·have d3:decide ((s.items.length:Int)≤40)=true:=decide_eq_true c3
   go_enter Tryz.func33,Tryz.ntmps33
   go_wp2
   go_ret
   exact ⟨_,rfl,HB1.out⟩
  have d3:decide ((s.items.length:Int)≤40)=false:=decide_eq_false c3
  by_cases c4:45<(s.items.length:Int)
  ·have d4:decide (45<(s.items.length:Int))=true:=decide_eq_true c4
   go_enter Tryz.func33,Tryz.ntmps33
   go_wp2
   go_ret
   exact ⟨_,rfl,HB1.out⟩
  have d4:decide (45<(s.items.length:Int))=false:=decide_eq_false c4
  by_cases c5:10<(s.bricks.length:Int)
  ·have d5:decide (10<(s.bricks.length:Int))=true:=decide_eq_true c5
   go_enter Tryz.func33,Tryz.ntmps33
   go_wp2
   go_ret
   exact ⟨_,rfl,HB1.out⟩
  have d5:decide (10<(s.bricks.length:Int))=false:=decide_eq_false c5
  go_enter Tryz.func33,Tryz.ntmps33
  go_wp2
  generalize w.alloc (.cells #[.string s.name,.int .i64 s.depth,.int .i64 s.low,.int .i64 s.high,.int .i64 s.len,.slice Al s.lines.length cl,.int .i64 s.pipe,.int .i64 s.arbor,.int .i64 s.purch,.int .i64 s.most,.int .i64 s.brake,.slice Ai s.items.length ci,.slice Ab s.bricks.length cb] 26)=W1 at *
  have z11:=HD.out.cell 11
  have z12:=HD.out.cell 12
  simp only [zq1,zq2,zq3] at z11 z12
  go_loopw [5] (fun x wr => ∃ k:Nat,k≤s.items.length∧x = .int .i64 k∧W1=wr) (fun x _ => s.items.length-(intOf x).toNat)
  case atStart => exact ⟨0,Nat.zero_le _,rfl,rfl⟩
  case round =>
   obtain ⟨k,hk,rfl,rfl⟩:=hrel
   by_cases hkl:k<s.items.length
   ·obtain ⟨b,off,rfl,hb,hc⟩:=HI.out k hkl
    have y0:=(HB1.out.cell (p:=⟨b,off+k*7,none⟩) hb).trans (hc k hkl).1
    have hz:=HN.out _ (List.getElem_mem hkl)
    unfold maxLen at hz
    have i1:(0:Int)≤(k:Int):=Int.natCast_nonneg _
    have i2:(k:Int)<(s.items.length:Int):=by omega
    clear hc
    by_cases g:60<(s.items[k].name.size:Int)
    ·have gd:=decide_eq_true g
     go_wp2
     go_ret
     exact ⟨_,rfl,HB1.out⟩
    ·have gd:=decide_eq_false g
     go_wp2
     go_roundw
     case rel => exact ⟨k+1,by omega,by go_num,by trivial⟩
     case measure => simp [intOf];omega
   ·obtain rfl:k=s.items.length:=by omega
    go_wp2
    go_loopw [6] (fun x wr => ∃ k:Nat,k≤s.bricks.length∧x = .int .i64 k∧W1=wr) (fun x _ => s.bricks.length-(intOf x).toNat)
    case atStart => exact ⟨0,Nat.zero_le _,rfl,rfl⟩
    case round =>
     obtain ⟨k,hk,rfl,rfl⟩:=hrel
     by_cases hkl:k<s.bricks.length
     ·obtain ⟨b,off,rfl,hb,hc⟩:=HK.out k hkl
      have y0:=(HB1.out.cell (p:=⟨b,off+k*3,none⟩) hb).trans (hc k hkl).1
      have hz:=HM.out _ (List.getElem_mem hkl)
      unfold maxLen at hz
      have i1:(0:Int)≤(k:Int):=Int.natCast_nonneg _
      have i2:(k:Int)<(s.bricks.length:Int):=by omega
      clear hc
      by_cases g:60<(s.bricks[k].name.size:Int)
      ·have gd:=decide_eq_true g
       go_wp2
       go_ret
       exact ⟨_,rfl,HB1.out⟩
      ·have gd:=decide_eq_false g
       go_wp2
       go_roundw
       case rel => exact ⟨k+1,by omega,by go_num,by trivial⟩
       case measure => simp [intOf];omega
     ·obtain rfl:k=s.bricks.length:=by omega
      go_wp2
      go_ret
      exact ⟨_,rfl,HB1.out⟩
 have d2:decide (n<(s.items.length:Int))=false:=decide_eq_false c2
 by_cases c4:45<(s.items.length:Int)
 ·have d4:decide (45<(s.items.length:Int))=true:=decide_eq_true c4
  go_enter Tryz.func33,Tryz.ntmps33
  go_wp2
  go_ret
  exact ⟨_,rfl,HB1.out⟩
 have d4:decide (45<(s.items.length:Int))=false:=decide_eq_false c4
 by_cases c5:10<(s.bricks.length:Int)
 ·have d5:decide (10<(s.bricks.length:Int))=true:=decide_eq_true c5
  go_enter Tryz.func33,Tryz.ntmps33
  go_wp2
  go_ret
  exact ⟨_,rfl,HB1.out⟩
 have d5:decide (10<(s.bricks.length:Int))=false:=decide_eq_false c5
 go_enter Tryz.func33,Tryz.ntmps33
 go_wp2
 generalize w.alloc (.cells #[.string s.name,.int .i64 s.depth,.int .i64 s.low,.int .i64 s.high,.int .i64 s.len,.slice Al s.lines.length cl,.int .i64 s.pipe,.int .i64 s.arbor,.int .i64 s.purch,.int .i64 s.most,.int .i64 s.brake,.slice Ai s.items.length ci,.slice Ab s.bricks.length cb] 26)=W1 at *
 have z11:=HD.out.cell 11
 have z12:=HD.out.cell 12
 simp only [zq1,zq2,zq3] at z11 z12
 go_loopw [5] (fun x wr => ∃ k:Nat,k≤s.items.length∧x = .int .i64 k∧W1=wr) (fun x _ => s.items.length-(intOf x).toNat)
 case atStart => exact ⟨0,Nat.zero_le _,rfl,rfl⟩
 case round =>
  obtain ⟨k,hk,rfl,rfl⟩:=hrel
  by_cases hkl:k<s.items.length
  ·obtain ⟨b,off,rfl,hb,hc⟩:=HI.out k hkl
   have y0:=(HB1.out.cell (p:=⟨b,off+k*7,none⟩) hb).trans (hc k hkl).1
   have hz:=HN.out _ (List.getElem_mem hkl)
   unfold maxLen at hz
   have i1:(0:Int)≤(k:Int):=Int.natCast_nonneg _
   have i2:(k:Int)<(s.items.length:Int):=by omega
   clear hc
   by_cases g:60<(s.items[k].name.size:Int)
   ·have gd:=decide_eq_true g
    go_wp2
    go_ret
    exact ⟨_,rfl,HB1.out⟩
   ·have gd:=decide_eq_false g
    go_wp2
    go_roundw
    case rel => exact ⟨k+1,by omega,by go_num,by trivial⟩
    case measure => simp [intOf];omega
  ·obtain rfl:k=s.items.length:=by omega
   go_wp2
   go_loopw [6] (fun x wr => ∃ k:Nat,k≤s.bricks.length∧x = .int .i64 k∧W1=wr) (fun x _ => s.bricks.length-(intOf x).toNat)
   case atStart => exact ⟨0,Nat.zero_le _,rfl,rfl⟩
   case round =>
    obtain ⟨k,hk,rfl,rfl⟩:=hrel
    by_cases hkl:k<s.bricks.length
    ·obtain ⟨b,off,rfl,hb,hc⟩:=HK.out k hkl
     have y0:=(HB1.out.cell (p:=⟨b,off+k*3,none⟩) hb).trans (hc k hkl).1
     have hz:=HM.out _ (List.getElem_mem hkl)
     unfold maxLen at hz
     have i1:(0:Int)≤(k:Int):=Int.natCast_nonneg _
     have i2:(k:Int)<(s.bricks.length:Int):=by omega
     clear hc
     by_cases g:60<(s.bricks[k].name.size:Int)
     ·have gd:=decide_eq_true g
      go_wp2
      go_ret
      exact ⟨_,rfl,HB1.out⟩
     ·have gd:=decide_eq_false g
      go_wp2
      go_roundw
      case rel => exact ⟨k+1,by omega,by go_num,by trivial⟩
      case measure => simp [intOf];omega
    ·obtain rfl:k=s.bricks.length:=by omega
     go_wp2
     go_ret
     exact ⟨_,rfl,HB1.out⟩
end Go.Proofs.YtfhmbechennkbaaGreatDoor
