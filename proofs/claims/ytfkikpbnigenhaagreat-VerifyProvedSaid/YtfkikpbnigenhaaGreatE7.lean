/- Parts of the proof, laid into one text: ProvedP, BrkX, LawProved. -/
import Derived.Below
import Derived.BigQuiet
import Derived.Carry
import Derived.ChangeSame
import Derived.Deep.AppendLies
import Derived.Deep.Draws
import Derived.Deep.Fields
import Derived.Deep.LoopGhost
import Derived.Deep.QuietTactic
import Derived.Deep.RegionHeld3
import Derived.Deep.RegionLaw
import Derived.Deep.Slices
import Derived.IntWalk
import Derived.Laws.Bits64b
import Derived.Laws.BitsLemmas
import Derived.Laws.CopyOwn
import Derived.Laws.EntriesVeiled
import Derived.Lib.Hide
import Derived.LoopIn
import Derived.LoopNIn
import Derived.Maps.AppendAt
import Derived.Maps.Own
import Derived.Maps.OwnOps
import Derived.Maps.OwnSet
import Derived.Maps.Views
import Derived.Outline
import Derived.OwnWalkIn
import Derived.PlainAid
import Derived.ProofKit
import Derived.RangeFuncBox
import Derived.RangeFuncLeaves
import Derived.Shelf.Abstract
import Derived.Shelf.Sort.Plain
import Derived.SliceStrings
import Derived.Sort.OwnSortedInts
import Derived.StillTail
import Derived.StillTailTactics
import Derived.TacticsInMore
import Derived.Test.YtfkikpbnigenhaaGreatC1
import Derived.Test.YtfkikpbnigenhaaGreatC2
import Derived.Test.YtfkikpbnigenhaaGreatC3
import Derived.Test.YtfkikpbnigenhaaGreatC4
import Derived.Test.YtfkikpbnigenhaaGreatC5
import Derived.Test.YtfkikpbnigenhaaGreatC6
import Derived.Test.YtfkikpbnigenhaaGreatC7
import Derived.Test.YtfkikpbnigenhaaGreatD1
import Derived.Test.YtfkikpbnigenhaaGreatD2
import Derived.Test.YtfkikpbnigenhaaGreatD3
import Derived.Test.YtfkikpbnigenhaaGreatE1
import Derived.Test.YtfkikpbnigenhaaGreatE2
import Derived.Test.YtfkikpbnigenhaaGreatE3
import Derived.Test.YtfkikpbnigenhaaGreatE4
import Derived.Test.YtfkikpbnigenhaaGreatE5
import Derived.Test.YtfkikpbnigenhaaGreatE6
import Derived.Test.YtfkikpbnigenhaaGreatG1
import Derived.Test.YtfkikpbnigenhaaGreatG11
import Derived.Test.YtfkikpbnigenhaaGreatG2
import Derived.Test.YtfkikpbnigenhaaGreatG3
import Derived.Test.YtfkikpbnigenhaaGreatG4
import Derived.Test.YtfkikpbnigenhaaGreatG6
import Derived.Test.YtfkikpbnigenhaaGreatG8
import Derived.Test.YtfkikpbnigenhaaGreatG9
import Derived.Test.YtfkikpbnigenhaaGreatProg
import Derived.Test.YtfkikpbnigenhaaGreatRows
import Derived.WalkKit
import Derived.WalkLawsBesides
import Derived.WalkMore
import Derived.WalkSpells

namespace Go.Proofs.YtfkikpbnigenhaaGreat
open Go.RowKit Go.Shelf
structure BalOk (s : SetT) (l : List JobT) (o p : List Int) : Prop where
 ord : OrderOk l.length o
 len : p.length = l.length + 1
 path : pathL s (turnedL l o) = p
 held : ∀ k (hk : k < p.length),heldB s p[k] = true
 step : ∀ k (hk : k < p.length) (h1 : 1 ≤ k) (j : Nat) (ho : k - 1 < o.length) (hj : j < l.length),o[k - 1] = (j : Int) → p[k] = p[k - 1] + chgN s l[j]
 bd : setB s = true → JobsOk l → ∀ k (hk : k < p.length),-900000000 ≤ p[k] ∧ p[k] ≤ 2600000000
theorem balIs_yes {s : SetT} {l : List JobT} {o p : List Int} (h : balIs s l o p = true) : BalOk s l o p := by
 unfold balIs at h
 rw [Bool.and_eq_true,Bool.and_eq_true,decide_eq_true_iff,upto_iff] at h
 obtain ⟨h1,h2,h3⟩ := h
 have ho := wholeO_iff.1 h1
 have hl : (turnedL l o).length = l.length := by rw [turned_len,ho.len]
 subst h2
 have hg : ∀ k (hk : k < (pathL s (turnedL l o)).length),(pathL s (turnedL l o))[k] = pathTo s (turnedL l o) k := fun k hk => pathL_get hk
 have hpl : (pathL s (turnedL l o)).length = l.length + 1 := by rw [pathL_len,hl]
 refine ⟨ho,hpl,rfl,fun k hk => ?_,fun k hk h1 j hk1 hj e => ?_,fun hs hok k hk => ?_⟩
 ·rw [hg]
  exact h3 k (by omega)
 ·rw [hg,hg]
  obtain ⟨m,rfl⟩ : ∃ m,k = m + 1 := ⟨k - 1,by omega⟩
  rw [Nat.add_sub_cancel] at *
  rw [pathTo_succ s _ (show m < (turnedL l o).length by omega)]
  congr 2
  simp only [Nat.add_sub_cancel] at e
  unfold turnedL
  rw [List.getElem_map,e,Int.toNat_natCast,List.getD_eq_getElem?_getD,List.getElem?_eq_getElem hj]
  rfl
 ·rw [hg]
  exact pathTo_bd2 hs (turnedJ_ok hok ho) (by omega)
theorem bal_wrong {s : SetT} {l : List JobT} {o p : List Int} (h : BalOk s l o p) {k : Nat} (hk : k < p.length) {x : Int} (hx : x ≠ p[k]) : balIs s l o (p.set k x) = false := by
 unfold balIs
 rw [h.path,decide_eq_false,Bool.false_and,Bool.and_false]
 intro e
 have h2 := congrArg (fun q => q[k]?) e
 simp only [List.getElem?_set_self hk,List.getElem?_eq_getElem hk,Option.some.injEq] at h2
 exact hx h2.symm
theorem sched_yes {l : List Task} {c p : Int} {s : List Int} {n : Int} (hg : givenN l c p = 0) (h : schedIs l c p s n = true) (hL : ∃ L y,Covers l [l.length] L y) (hK : ∃ K z,Heavy l c p (2 ^ l.length) K z) : (leastN l c p).1 = n ∧ checkE l c p s = 0 ∧ checkB l c p s = true := by
 unfold schedIs at h
 simp only [Bool.and_eq_true,beq_iff_eq] at h
 obtain ⟨h1,h2,h3,h4⟩ := h
 obtain ⟨L,y,hc⟩ := hL
 obtain ⟨K,z,hh⟩ := hK
 have hv := given_valid hg
 obtain ⟨hR,hc0⟩ := given_lims hg
 have hfit : l.any (tooMuch c p) = false := by
  have := givenN_no hv
  rw [hg] at this
  cases hq : l.any (tooMuch c p) with
  | false => rfl
  | true => rw [hq] at this;simp at this
 obtain ⟨s1,s2⟩ := startsN_zero h1
 have hs : ∀ i,i < l.length → 0 ≤ atI s i := fun i hi => by rw [atI_get (by omega)];exact (s2 _ (List.getElem_mem _)).1
 have o1 := least_opt hR hc0 hfit s1 hs h2
 obtain ⟨k1,k2,k3,k4⟩ := least_keeps hR hc0 hfit
 have o2 := best_le hg hc hh k2 (fun i hi => by rw [atI_get (by omega)];exact (k3 _ (List.getElem_mem _)).1) k1
 exact ⟨by omega,by rw [checkE_yes hv,h1],h2⟩
theorem sched_other {l : List Task} {c p : Int} {s : List Int} {n m : Int} (h : schedIs l c p s n = true) (hm : m ≠ n) : schedIs l c p s m = false := by
 unfold schedIs at h ⊢
 simp only [Bool.and_eq_true,beq_iff_eq] at h
 obtain ⟨h1,h2,h3,h4⟩ := h
 rw [h3,show (n == m) = false from beq_eq_false_iff_ne.2 (fun e => hm e.symm),Bool.false_and,Bool.and_false,Bool.and_false]
theorem given_much_no {l : List Task} {c p : Int} (hg : givenN l c p = 0) : l.any (tooMuch c p) = false := by
 have := givenN_no (given_valid hg)
 rw [hg] at this
 cases hq : l.any (tooMuch c p) with
 | false => rfl
 | true => rw [hq] at this;simp at this
theorem wrap_next (n : Int) : IntKind.i64.wrap (n + 1) ≠ n := by rw [IntKind.wrap_i64];omega
end Go.Proofs.YtfkikpbnigenhaaGreat

namespace Go.Proofs.YtfkikpbnigenhaaGreat
open Go.RowKit Go.Shelf
set_option maxRecDepth 100000 in
set_option maxHeartbeats 2000000 in
theorem brkHolds (v : Value) (s : SetT) (n : Int) (w : World) (hv : SetAt w w.heap.size v s) (hn : SetNames s) (hs : setB s = true) :
  Calls Tryz.prog 13 #[v,.int .i64 n] w fun e w' => e = .returned (.tuple #[.bool (heldB s n),.int .i64 0]) ∧ Below w.heap.size w w' := by
 have HSet := Lib.hid fun W (hb : Below w.heap.size w W) => hv.grow hb
 have HVs := fun W (hb : Below w.heap.size w W) => by have := batValid v s W (HSet.out W hb) hn;rw [hs] at this;exact this
 have HHe := Lib.hid fun W (hb : Below w.heap.size w W) => brkHeld v s n W.heap.size W (HSet.out W hb) (setB_ok hs).brake
 obtain ⟨Al,cl,Ai,ci,Ab,cb,rfl,-,-,-⟩ := hv
 have HD := Lib.hid (Blk.new w 26 #[.string s.name,.int .i64 s.depth,.int .i64 s.low,.int .i64 s.high,.int .i64 s.len,.slice Al s.lines.length cl,.int .i64 s.pipe,.int .i64 s.arbor,.int .i64 s.purch,.int .i64 s.most,.int .i64 s.brake,.slice Ai s.items.length ci,.slice Ab s.bricks.length cb])
 have HB1 := Lib.hid ((Below.refl _ w).alloc (Nat.le_refl _) (.cells #[.string s.name,.int .i64 s.depth,.int .i64 s.low,.int .i64 s.high,.int .i64 s.len,.slice Al s.lines.length cl,.int .i64 s.pipe,.int .i64 s.arbor,.int .i64 s.purch,.int .i64 s.most,.int .i64 s.brake,.slice Ai s.items.length ci,.slice Ab s.bricks.length cb] 26))
 have hvs := HVs _ HB1.out
 clear hn hs HSet HVs
 generalize heldB s n = hbl at *
 unfold setVal at *
 go_enter Tryz.func13,Tryz.ntmps13
 go_wp2_with (go_at_call 21;fail)
 generalize w.alloc (.cells #[.string s.name,.int .i64 s.depth,.int .i64 s.low,.int .i64 s.high,.int .i64 s.len,.slice Al s.lines.length cl,.int .i64 s.pipe,.int .i64 s.arbor,.int .i64 s.purch,.int .i64 s.most,.int .i64 s.brake,.slice Ai s.items.length ci,.slice Ab s.bricks.length cb] 26) = W1 at *
 go_at_call 21
 refine hvs.mono ?_
 rintro e w2 ⟨rfl,hb2⟩
 have HB2 := Lib.hid (HB1.out.trans (hb2.mono HB1.out.size))
 have HD2 := Lib.hid (HD.out.below hb2 HD.out.lt)
 clear hvs hb2 HB1 HD
 have z0 := HD2.out.cell 0;have z1 := HD2.out.cell 1;have z2 := HD2.out.cell 2;have z3 := HD2.out.cell 3;have z4 := HD2.out.cell 4;have z5 := HD2.out.cell 5;have z6 := HD2.out.cell 6;have z7 := HD2.out.cell 7;have z8 := HD2.out.cell 8;have z9 := HD2.out.cell 9;have z10 := HD2.out.cell 10;have z11 := HD2.out.cell 11;have z12 := HD2.out.cell 12
 simp only [List.getElem?_toArray,List.getElem?_cons_succ,List.getElem?_cons_zero] at z0 z1 z2 z3 z4 z5 z6 z7 z8 z9 z10 z11 z12
 have hhe := HHe.out _ HB2.out
 go_wp2_with (go_at_call 38;refine hhe.mono ?_;rintro e w3 ⟨rfl,hb3⟩)
 refine bodyPost_ret (results_tmp2 rfl _ _ _) (by rfl) ?_
 exact ⟨rfl,HB2.out.trans (hb3.mono HB2.out.size)⟩
theorem jobs_one {x : JobT} {l : List JobT} (hl : JobsOk l) (hx : x ∈ l) : JobsOk [x] :=
 ⟨by simp,fun y hy => by rw [List.mem_singleton.1 hy];exact hl.wt _ hx,fun y hy => by rw [List.mem_singleton.1 hy];exact hl.name _ hx,fun i j hi hj hij => by simp only [List.length_singleton] at hi hj;omega⟩
theorem jobs_new (w : World) (x : JobT) : JobsAt (w.alloc (.cells #[.string x.name,.bool x.pipe,.int .i64 x.wt] 43)) (w.alloc (.cells #[.string x.name,.bool x.pipe,.int .i64 x.wt] 43)).heap.size (.slice (some ⟨w.heap.size,0,none⟩) 1 1) [x] := by
 refine ⟨some ⟨w.heap.size,0,none⟩,1,rfl,Nat.le_refl _,by unfold maxLen;omega,fun _ => ⟨w.heap.size,0,rfl,by simp,fun j u hu => ?_⟩⟩
 rw [Nat.zero_add,(Blk.new w 43 #[.string x.name,.bool x.pipe,.int .i64 x.wt]).cell]
 rw [List.getElem?_toArray]
 exact hu
set_option maxRecDepth 100000 in
set_option maxHeartbeats 2000000 in
theorem brkChangeX (v : Value) (s : SetT) (x : JobT) (w : World) (hv : SetAt w w.heap.size v s) (hn : SetNames s) (hs : setB s = true) (hx : JobsOk [x]) (hxn : x.name.size ≤ maxLen) :
  Calls Tryz.prog 14 #[v,x.val] w fun e w' => e = .returned (.tuple #[.int .i64 (chgN s x),.int .i64 0]) ∧ Below w.heap.size w w' := by
 have HSet := Lib.hid fun W (hb : Below w.heap.size w W) => hv.grow hb
 have HVs := fun W (hb : Below w.heap.size w W) => by have := batValid v s W (HSet.out W hb) hn;rw [hs] at this;exact this
 have HVj := Lib.hid fun W => by have := brkValid _ [x] _ (jobs_new W x) (fun y hy => by rw [List.mem_singleton.1 hy];exact hxn);rw [jobsB_iff.2 hx] at this;exact this
 have HCh := Lib.hid fun W (hb : Below w.heap.size w W) => brkChange v s x _ W (HSet.out W hb) (setB_ok hs).purch (hx.wt x (List.mem_singleton.2 rfl))
 obtain ⟨Al,cl,Ai,ci,Ab,cb,rfl,-,-,-⟩ := hv
 have HD := Lib.hid (Blk.new w 26 #[.string s.name,.int .i64 s.depth,.int .i64 s.low,.int .i64 s.high,.int .i64 s.len,.slice Al s.lines.length cl,.int .i64 s.pipe,.int .i64 s.arbor,.int .i64 s.purch,.int .i64 s.most,.int .i64 s.brake,.slice Ai s.items.length ci,.slice Ab s.bricks.length cb])
 have HB1 := Lib.hid ((Below.refl _ w).alloc (Nat.le_refl _) (.cells #[.string s.name,.int .i64 s.depth,.int .i64 s.low,.int .i64 s.high,.int .i64 s.len,.slice Al s.lines.length cl,.int .i64 s.pipe,.int .i64 s.arbor,.int .i64 s.purch,.int .i64 s.most,.int .i64 s.brake,.slice Ai s.items.length ci,.slice Ab s.bricks.length cb] 26))
 have HDa := Lib.hid (HD.out.below ((Below.refl (w.alloc (.cells #[.string s.name,.int .i64 s.depth,.int .i64 s.low,.int .i64 s.high,.int .i64 s.len,.slice Al s.lines.length cl,.int .i64 s.pipe,.int .i64 s.arbor,.int .i64 s.purch,.int .i64 s.most,.int .i64 s.brake,.slice Ai s.items.length ci,.slice Ab s.bricks.length cb] 26)).heap.size (w.alloc (.cells #[.string s.name,.int .i64 s.depth,.int .i64 s.low,.int .i64 s.high,.int .i64 s.len,.slice Al s.lines.length cl,.int .i64 s.pipe,.int .i64 s.arbor,.int .i64 s.purch,.int .i64 s.most,.int .i64 s.brake,.slice Ai s.items.length ci,.slice Ab s.bricks.length cb] 26))).alloc (Nat.le_refl _) (.cells #[.string x.name,.bool x.pipe,.int .i64 x.wt] 43)) HD.out.lt)
 have HJ := Lib.hid (Blk.new (w.alloc (.cells #[.string s.name,.int .i64 s.depth,.int .i64 s.low,.int .i64 s.high,.int .i64 s.len,.slice Al s.lines.length cl,.int .i64 s.pipe,.int .i64 s.arbor,.int .i64 s.purch,.int .i64 s.most,.int .i64 s.brake,.slice Ai s.items.length ci,.slice Ab s.bricks.length cb] 26)) 43 #[.string x.name,.bool x.pipe,.int .i64 x.wt])
 have HBa := Lib.hid (HB1.out.alloc HB1.out.size (.cells #[.string x.name,.bool x.pipe,.int .i64 x.wt] 43))
 have hsz : (w.alloc (.cells #[.string s.name,.int .i64 s.depth,.int .i64 s.low,.int .i64 s.high,.int .i64 s.len,.slice Al s.lines.length cl,.int .i64 s.pipe,.int .i64 s.arbor,.int .i64 s.purch,.int .i64 s.most,.int .i64 s.brake,.slice Ai s.items.length ci,.slice Ab s.bricks.length cb] 26)).heap.size = w.heap.size + 1 := by simp
 rw [hsz] at HJ
 have hvs := HVs _ HBa.out
 clear hn hs HSet HVs hx hxn HB1 HD hsz
 unfold setVal JobT.val at *
 go_enter Tryz.func14,Tryz.ntmps14
 go_wp2_with (go_at_call 21;fail)
 generalize (w.alloc (.cells #[.string s.name,.int .i64 s.depth,.int .i64 s.low,.int .i64 s.high,.int .i64 s.len,.slice Al s.lines.length cl,.int .i64 s.pipe,.int .i64 s.arbor,.int .i64 s.purch,.int .i64 s.most,.int .i64 s.brake,.slice Ai s.items.length ci,.slice Ab s.bricks.length cb] 26)).alloc (.cells #[.string x.name,.bool x.pipe,.int .i64 x.wt] 43) = W1 at *
 go_at_call 21
 refine hvs.mono ?_
 rintro e w2 ⟨rfl,hb2⟩
 have HB2 := Lib.hid (HBa.out.trans (hb2.mono HBa.out.size))
 have HD2 := Lib.hid (HDa.out.below hb2 HDa.out.lt)
 have HJ2 := Lib.hid (HJ.out.below hb2 HJ.out.lt)
 clear hvs hb2 HBa HDa HJ
 have j0 := HJ2.out.cell 0
 have j1 := HJ2.out.cell 1
 have j2 := HJ2.out.cell 2
 simp only [List.getElem?_toArray,List.getElem?_cons_succ,List.getElem?_cons_zero] at j0 j1 j2
 have HB3 := Lib.hid (HB2.out.alloc HB2.out.size (.cells #[.string x.name,.bool x.pipe,.int .i64 x.wt] 43))
 have HD3 := Lib.hid (HD2.out.below ((Below.refl w2.heap.size w2).alloc (Nat.le_refl _) (.cells #[.string x.name,.bool x.pipe,.int .i64 x.wt] 43)) HD2.out.lt)
 have HJ3 := Lib.hid (HJ2.out.below ((Below.refl w2.heap.size w2).alloc (Nat.le_refl _) (.cells #[.string x.name,.bool x.pipe,.int .i64 x.wt] 43)) HJ2.out.lt)
 have hvj := HVj.out w2
 clear HVj HD2 HJ2 HB2
 go_wp2_with (go_at_call 22;fail)
 generalize w2.alloc (.cells #[.string x.name,.bool x.pipe,.int .i64 x.wt] 43) = W3 at *
 go_at_call 22
 refine hvj.mono ?_
 rintro e w4 ⟨rfl,hb4⟩
 have HB4 := Lib.hid (HB3.out.trans (hb4.mono HB3.out.size))
 have HD4 := Lib.hid (HD3.out.below hb4 HD3.out.lt)
 have HJ4 := Lib.hid (HJ3.out.below hb4 HJ3.out.lt)
 clear hvj hb4 HB3 HD3 HJ3 j0 j1 j2
 have j0 := HJ4.out.cell 0
 have j1 := HJ4.out.cell 1
 have j2 := HJ4.out.cell 2
 simp only [List.getElem?_toArray,List.getElem?_cons_succ,List.getElem?_cons_zero] at j0 j1 j2
 have z0 := HD4.out.cell 0;have z1 := HD4.out.cell 1;have z2 := HD4.out.cell 2;have z3 := HD4.out.cell 3;have z4 := HD4.out.cell 4;have z5 := HD4.out.cell 5;have z6 := HD4.out.cell 6;have z7 := HD4.out.cell 7;have z8 := HD4.out.cell 8;have z9 := HD4.out.cell 9;have z10 := HD4.out.cell 10;have z11 := HD4.out.cell 11;have z12 := HD4.out.cell 12
 simp only [List.getElem?_toArray,List.getElem?_cons_succ,List.getElem?_cons_zero] at z0 z1 z2 z3 z4 z5 z6 z7 z8 z9 z10 z11 z12
 have hch := HCh.out _ HB4.out
 go_wp2_with (go_at_call 39;refine hch.mono ?_;rintro e w5 ⟨rfl,hb5⟩)
 refine bodyPost_ret (results_tmp2 rfl _ _ _) (by rfl) ?_
 exact ⟨rfl,HB4.out.trans (hb5.mono HB4.out.size)⟩
end Go.Proofs.YtfkikpbnigenhaaGreat

namespace Go.Proofs.YtfkikpbnigenhaaGreat
open Go.RowKit Go.Shelf
set_option maxRecDepth 100000 in
set_option maxHeartbeats 16000000 in
theorem lawVerifyProved (v u o p tv sv : Value) (s : SetT) (l : List JobT) (ord path : List Int) (ts : List Task) (c pw : Int) (st : List Int) (n : Int) (w : World) (hv : SetAt w w.heap.size v s) (hn : SetNames s) (hl : JobsAt w w.heap.size u l) (hj : ∀ x ∈ l,x.name.size ≤ maxLen) (ho : IntsAt w w.heap.size o ord) (hp : IntsAt w w.heap.size p path) (hwd : Wide ord) (ht : TasksAt w w.heap.size tv ts) (hst : IntsAt w w.heap.size sv st) (hws : Wide st) :
  Calls Tryz.prog 4 #[v,u,o,p,tv,.int .i64 c,.int .i64 pw,sv,.int .i64 n] w fun e w' => e = .returned (.bool true) ∧ Below w.heap.size w w' := by
 have HA := Lib.hid fun W => lawAwake51 W
 have HSet := Lib.hid fun W (hb : Below w.heap.size w W) => hv.grow hb
 have HJs := Lib.hid fun W (hb : Below w.heap.size w W) => hl.grow hb
 have HOs := Lib.hid fun W (hb : Below w.heap.size w W) => (RowAt.below ho hb (Nat.le_refl _)).mono hb.size
 have HPs := Lib.hid fun W (hb : Below w.heap.size w W) => (RowAt.below hp hb (Nat.le_refl _)).mono hb.size
 have HT := Lib.hid fun W (hb : Below w.heap.size w W) => (ht.below hb (Nat.le_refl _)).mono hb.size
 have HS := Lib.hid fun W (hb : Below w.heap.size w W) => (RowAt.below hst hb (Nat.le_refl _)).mono hb.size
 have HSm := Lib.hid fun W (hb : Below w.heap.size w W) => refSmall v s 12 W (HSet.out W hb) hn.name hn.items hn.bricks
 have HSh := Lib.hid fun W (hb : Below w.heap.size w W) => refShort27 u l 30 W (HJs.out W hb) hj
 have HSs := Lib.hid fun W (hb : Below w.heap.size w W) => lawShort51 tv sv ts st W (HT.out W hb) (HS.out W hb)
 have HBa := Lib.hid fun q (pq : List Int) W (hb : Below w.heap.size w W) (hq : IntsAt W W.heap.size q pq) => vrBalance v u o q s l ord pq W (HSet.out W hb) hn (HJs.out W hb) hj (HOs.out W hb) hq hwd
 have HHo := Lib.hid fun (h : setB s = true) (m : Int) W (hb : Below w.heap.size w W) => brkHolds v s m W (HSet.out W hb) hn h
 have HCx := Lib.hid fun (h : setB s = true) (hok : JobsOk l) x (hx : x ∈ l) W (hb : Below w.heap.size w W) => brkChangeX v s x W (HSet.out W hb) hn h (jobs_one hok hx) (hj x hx)
 have HSc := Lib.hid fun (m : Int) W (hb : Below w.heap.size w W) => vrScheduleC tv sv ts c pw st m W (HT.out W hb) (HS.out W hb) hws
 have HLe := Lib.hid fun W (hb : Below w.heap.size w W) => schedLeast tv ts c pw W (HT.out W hb)
 have HCk := Lib.hid fun W (hb : Below w.heap.size w W) => schedCheck tv sv ts c pw st W (HT.out W hb) (HS.out W hb) hws
 have HCl := Lib.hid fun (h : 0 < path.length) (hm : path.length ≤ 1000000) W (hb : Below w.heap.size w W) => cloneIntPos p path W (HPs.out W hb) hm h
 obtain ⟨A,ca,rfl,hc1,hc2,hcell⟩ := hl.open_
 obtain ⟨Ao,co,rfl,ho1,ho2,hoc⟩ := RowAt.open_ ho
 obtain ⟨Ap,cp,rfl,hp1,hp2,hpc⟩ := RowAt.open_ hp
 obtain ⟨At,ct,rfl,-,-,-⟩ := ht.open_
 obtain ⟨As,cs,rfl,-,-,-⟩ := RowAt.open_ hst
 unfold maxLen at hc2 ho2 hp2
 have HC := Lib.hid hcell
 have HOc := Lib.hid hoc
 have HPc := Lib.hid hpc
 have HPv := Lib.hid (HPs.out w (Below.refl _ _))
 obtain ⟨Al,cl,Ai,ci,Ab,cb,rfl,-,-,-⟩ := hv
 have HD := Lib.hid (Blk.new w 26 #[.string s.name,.int .i64 s.depth,.int .i64 s.low,.int .i64 s.high,.int .i64 s.len,.slice Al s.lines.length cl,.int .i64 s.pipe,.int .i64 s.arbor,.int .i64 s.purch,.int .i64 s.most,.int .i64 s.brake,.slice Ai s.items.length ci,.slice Ab s.bricks.length cb])
 have HB1 := Lib.hid ((Below.refl _ w).alloc (Nat.le_refl _) (.cells #[.string s.name,.int .i64 s.depth,.int .i64 s.low,.int .i64 s.high,.int .i64 s.len,.slice Al s.lines.length cl,.int .i64 s.pipe,.int .i64 s.arbor,.int .i64 s.purch,.int .i64 s.most,.int .i64 s.brake,.slice Ai s.items.length ci,.slice Ab s.bricks.length cb] 26))
 clear hl hn hj ho hp hwd ht hst hws hcell hoc hpc HSet HJs HOs HT HS
 unfold setVal at *
 go_enter Tryz.func4,Tryz.ntmps4
 go_wp2_with (go_at_call 5;fail)
 generalize w.alloc (.cells #[.string s.name,.int .i64 s.depth,.int .i64 s.low,.int .i64 s.high,.int .i64 s.len,.slice Al s.lines.length cl,.int .i64 s.pipe,.int .i64 s.arbor,.int .i64 s.purch,.int .i64 s.most,.int .i64 s.brake,.slice Ai s.items.length ci,.slice Ab s.bricks.length cb] 26) = W1 at *
 go_at_call 5
 refine (HA.out _).mono ?_
 rintro e w2 ⟨rfl,hb2⟩
 have HB2 := Lib.hid (HB1.out.trans (hb2.mono HB1.out.size))
 have HD2 := Lib.hid (HD.out.below hb2 HD.out.lt)
 clear hb2 HB1 HD HA
 have z0 := HD2.out.cell 0;have z1 := HD2.out.cell 1;have z2 := HD2.out.cell 2;have z3 := HD2.out.cell 3;have z4 := HD2.out.cell 4;have z5 := HD2.out.cell 5;have z6 := HD2.out.cell 6;have z7 := HD2.out.cell 7;have z8 := HD2.out.cell 8;have z9 := HD2.out.cell 9;have z10 := HD2.out.cell 10;have z11 := HD2.out.cell 11;have z12 := HD2.out.cell 12
 simp only [List.getElem?_toArray,List.getElem?_cons_succ,List.getElem?_cons_zero] at z0 z1 z2 z3 z4 z5 z6 z7 z8 z9 z10 z11 z12
 go_wp2_with (go_at_call 6;fail)
 go_at_call 6
 refine (HSm.out _ HB2.out).mono ?_
 rintro e w3 ⟨q3,rfl,hb3⟩
 have HB3 := Lib.hid (HB2.out.trans (hb3.mono HB2.out.size))
 have HD3 := Lib.hid (HD2.out.below hb3 HD2.out.lt)
 clear hb3 HB2 HD2 HSm z0 z1 z2 z3 z4 z5 z6 z7 z8 z9 z10 z11 z12
 cases q3 with
 | false =>
  go_wp2_with fail
  go_ret
  exact ⟨rfl,HB3.out⟩
 | true =>
 go_wp2_with (go_at_call 7;fail)
 go_at_call 7
 refine (HSh.out _ HB3.out).mono ?_
 rintro e w4 ⟨q4,rfl,hb4⟩
 have HB4 := Lib.hid (HB3.out.trans (hb4.mono HB3.out.size))
 have HD4 := Lib.hid (HD3.out.below hb4 HD3.out.lt)
 clear hb4 HB3 HD3 HSh
 cases q4 with
 | false =>
  go_wp2_with fail
  go_ret
  exact ⟨rfl,HB4.out⟩
 | true =>
 rcases Bool.eq_false_or_eq_true (decide ((40 : Int) < (ord.length : Int))) with c1 | c1
 ·go_wp2_with fail
  go_ret
  exact ⟨rfl,HB4.out⟩
 rcases Bool.eq_false_or_eq_true (decide ((40 : Int) < (path.length : Int))) with c2 | c2
 ·go_wp2_with fail
  go_ret
  exact ⟨rfl,HB4.out⟩
 have H40 := Lib.hid (of_decide_eq_false c2)
 go_wp2_with (go_at_call 12;fail)
 go_at_call 12
 refine (HSs.out _ HB4.out).mono ?_
 rintro e w5 ⟨rfl,hb5⟩
 have HB5 := Lib.hid (HB4.out.trans (hb5.mono HB4.out.size))
 have HD5 := Lib.hid (HD4.out.below hb5 HD4.out.lt)
 clear hb5 HB4 HD4 HSs c1 c2
 generalize shortB51 ts st = q5
 cases q5 with
 | false =>
  go_wp2_with fail
  go_ret
  exact ⟨rfl,HB5.out⟩
 | true =>
 rcases Bool.eq_false_or_eq_true (decide ((6 : Int) < (ts.length : Int))) with c3 | c3
 ·go_wp2_with fail
  go_ret
  exact ⟨rfl,HB5.out⟩
 have z0 := HD5.out.cell 0;have z1 := HD5.out.cell 1;have z2 := HD5.out.cell 2;have z3 := HD5.out.cell 3;have z4 := HD5.out.cell 4;have z5 := HD5.out.cell 5;have z6 := HD5.out.cell 6;have z7 := HD5.out.cell 7;have z8 := HD5.out.cell 8;have z9 := HD5.out.cell 9;have z10 := HD5.out.cell 10;have z11 := HD5.out.cell 11;have z12 := HD5.out.cell 12
 simp only [List.getElem?_toArray,List.getElem?_cons_succ,List.getElem?_cons_zero] at z0 z1 z2 z3 z4 z5 z6 z7 z8 z9 z10 z11 z12
 have hba := HBa.out _ path _ HB5.out (HPs.out _ HB5.out)
 go_wp2_with (go_at_call 8;fail)
 go_at_call 8
 refine (hba).mono ?_
 rintro e w6 ⟨rfl,hb6⟩
 have HB6 := Lib.hid (HB5.out.trans (hb6.mono HB5.out.size))
 have HD6 := Lib.hid (HD5.out.below hb6 HD5.out.lt)
 clear hb6 HB5 HD5 hba c3 z0 z1 z2 z3 z4 z5 z6 z7 z8 z9 z10 z11 z12
 have HIs : Hid ((setB s && (jobsB l && balIs s l ord path)) = true → setB s = true ∧ JobsOk l ∧ BalOk s l ord path ∧ (if (setB s && jobsB l) = true then (0 : Int) else 1) = 0) := fun h => by
  rw [Bool.and_eq_true,Bool.and_eq_true] at h
  obtain ⟨h1,h2,h3⟩ := h
  exact ⟨h1,jobsB_iff.1 h2,balIs_yes h3,by rw [h1,h2];rfl⟩
 generalize (setB s && (jobsB l && balIs s l ord path)) = is at *
 generalize (if (setB s && jobsB l) = true then (0 : Int) else 1) = er at *
 cases is
 case true =>
  obtain ⟨g1,g2,g3,rfl⟩ := HIs.out rfl
  have HS1 := Lib.hid g1
  have HJ1 := Lib.hid g2
  have HB0 := Lib.hid g3
  have HJb := Lib.hid (jobsB_iff.2 g2)
  have h100 := g2.len
  have hpl := g3.len
  have hol := g3.ord.len
  have v1 : IntKind.i64.wrap ((l.length : Int) + 1) = (l.length : Int) + 1 := IntWalk.i64_in _ (by omega)
  have d1 : ((path.length : Int) != (l.length : Int) + 1) = false := bne_eq_false_iff_eq.2 (by omega)
  have d2 : ((ord.length : Int) != (l.length : Int)) = false := bne_eq_false_iff_eq.2 (by omega)
  have HHo2 := Lib.hid (HHo.out g1)
  have HCx2 := Lib.hid (HCx.out g1 g2)
  have HLl := Lib.hid (And.intro h100 (And.intro hpl hol))
  clear g1 g2 g3 hpl hol h100 HHo HCx HIs
  go_wp2_with fail
  clear v1 d1 d2
  go_loopw [98] (fun x wr => ∃ k : Nat,k ≤ path.length ∧ x = .int .i64 k ∧ Hid (Below w.heap.size w wr) ∧ Hid (Blk wr w.heap.size 26 #[.string s.name,.int .i64 s.depth,.int .i64 s.low,.int .i64 s.high,.int .i64 s.len,.slice Al s.lines.length cl,.int .i64 s.pipe,.int .i64 s.arbor,.int .i64 s.purch,.int .i64 s.most,.int .i64 s.brake,.slice Ai s.items.length ci,.slice Ab s.bricks.length cb])) (fun x _ => path.length - (intOf x).toNat)
  case atStart => exact ⟨0,Nat.zero_le _,rfl,HB6,HD6⟩
  case round =>
   clear HB6 HD6
   obtain ⟨k,hk,rfl,HB,HDr⟩ := hrel
   by_cases hkl : k < path.length
   ·obtain ⟨b2,off2,rfl,hb2,hpc⟩ := HPc.out k hkl
    have x0 := (HB.out.cell (p := ⟨b2,off2 + k,none⟩) hb2).trans (hpc k hkl)
    have HX1 := Lib.hid fun W (hb : Below w.heap.size w W) (h : k - 1 < path.length) => (hb.cell (p := ⟨b2,off2 + (k - 1),none⟩) hb2).trans (hpc (k - 1) h)
    have i1 : (0 : Int) ≤ (k : Int) := Int.natCast_nonneg _
    have i2 : (k : Int) < (path.length : Int) := by omega
    have hho := HHo2.out path[k] wr HB.out
    rw [HB0.out.held k hkl] at hho
    have z0 := HDr.out.cell 0;have z1 := HDr.out.cell 1;have z2 := HDr.out.cell 2;have z3 := HDr.out.cell 3;have z4 := HDr.out.cell 4;have z5 := HDr.out.cell 5;have z6 := HDr.out.cell 6;have z7 := HDr.out.cell 7;have z8 := HDr.out.cell 8;have z9 := HDr.out.cell 9;have z10 := HDr.out.cell 10;have z11 := HDr.out.cell 11;have z12 := HDr.out.cell 12
    simp only [List.getElem?_toArray,List.getElem?_cons_succ,List.getElem?_cons_zero] at z0 z1 z2 z3 z4 z5 z6 z7 z8 z9 z10 z11 z12
    clear hpc
    go_wp2_with (go_at_call 13;fail)
    go_at_call 13
    refine hho.mono ?_
    rintro e w7 ⟨rfl,hb7⟩
    have HB7 := Lib.hid (HB.out.trans (hb7.mono HB.out.size))
    have HD7 := Lib.hid (HDr.out.below hb7 HDr.out.lt)
    clear hho hb7 HB HDr x0 z0 z1 z2 z3 z4 z5 z6 z7 z8 z9 z10 z11 z12
    by_cases hk0 : k = 0
    ·have e0 : ((k : Int) == 0) = true := by rw [beq_iff_eq];omega
     clear hk0
     go_wp2_with fail
     go_roundw
     case rel => exact ⟨k + 1,by omega,by go_num,HB7,HD7⟩
     case measure => simp [intOf];omega
    have e0 : ((k : Int) == 0) = false := by rw [beq_eq_false_iff_ne];omega
    have hko : k - 1 < ord.length := by have := HLl.out;omega
    have hbd := HB0.out.ord.bd (k - 1) hko
    obtain ⟨j,hje⟩ : ∃ j : Nat,ord[k - 1] = (j : Int) := ⟨ord[k - 1].toNat,by omega⟩
    have hjl : j < l.length := by omega
    have HSt := Lib.hid (HB0.out.step k hkl (by omega) j hko hjl hje)
    have HPb := Lib.hid (HB0.out.bd HS1.out HJ1.out k hkl)
    obtain ⟨b3,off3,rfl,hb3,hoc⟩ := HOc.out (k - 1) hko
    have x1 := (HB7.out.cell (p := ⟨b3,off3 + (k - 1),none⟩) hb3).trans (hoc (k - 1) hko)
    rw [hje] at x1
    clear hje hbd hoc
    have v2 : IntKind.i64.wrap ((k : Int) - 1) = (k : Int) - 1 := IntWalk.i64_in _ (by omega)
    have i3 : ((k : Int) - 1).toNat = k - 1 := by omega
    have i4 : (0 : Int) ≤ (k : Int) - 1 := by omega
    have i5 : (k : Int) - 1 < (ord.length : Int) := by omega
    have i6 : (k : Int) - 1 < (path.length : Int) := by omega
    have e1 : decide ((j : Int) < 0) = false := decide_eq_false (by omega)
    have e2 : decide ((l.length : Int) ≤ (j : Int)) = false := decide_eq_false (by omega)
    have j1 : (0 : Int) ≤ (j : Int) := Int.natCast_nonneg _
    have j2 : (j : Int) < (l.length : Int) := by omega
    obtain ⟨b1,off1,rfl,hb1,hc⟩ := HC.out j hjl
    have y0 := (HB7.out.cell (p := ⟨b1,off1 + j * 3,none⟩) hb1).trans (hc j hjl).1
    have y1 := (HB7.out.cell (p := ⟨b1,off1 + j * 3 + 1,none⟩) hb1).trans (hc j hjl).2.1
    have y2 := (HB7.out.cell (p := ⟨b1,off1 + j * 3 + 2,none⟩) hb1).trans (hc j hjl).2.2
    have hap0 := fun (w' : World) (hb : Below w7.heap.size w7 w') => HCx2.out l[j] (List.getElem_mem hjl) w' (HB7.out.trans (hb.mono HB7.out.size))
    have hap := HeldB.call hap0
    have t0 := HeldB.cell y0
    have t1 := HeldB.cell y1
    have t2 := HeldB.cell y2
    have t3 := HeldB.cell x1
    have z0 := HD7.out.cell 0;have z1 := HD7.out.cell 1;have z2 := HD7.out.cell 2;have z3 := HD7.out.cell 3;have z4 := HD7.out.cell 4;have z5 := HD7.out.cell 5;have z6 := HD7.out.cell 6;have z7 := HD7.out.cell 7;have z8 := HD7.out.cell 8;have z9 := HD7.out.cell 9;have z10 := HD7.out.cell 10;have z11 := HD7.out.cell 11;have z12 := HD7.out.cell 12
    simp only [List.getElem?_toArray,List.getElem?_cons_succ,List.getElem?_cons_zero] at z0 z1 z2 z3 z4 z5 z6 z7 z8 z9 z10 z11 z12
    have u0 := HeldB.cell z0
    have u1 := HeldB.cell z1
    have u2 := HeldB.cell z2
    have u3 := HeldB.cell z3
    have u4 := HeldB.cell z4
    have u5 := HeldB.cell z5
    have u6 := HeldB.cell z6
    have u7 := HeldB.cell z7
    have u8 := HeldB.cell z8
    have u9 := HeldB.cell z9
    have u10 := HeldB.cell z10
    have u11 := HeldB.cell z11
    have u12 := HeldB.cell z12
    clear hc hap0 y0 y1 y2 z0 z1 z2 z3 z4 z5 z6 z7 z8 z9 z10 z11 z12
    go_wp2_with fail
    clear x1
    refine wp_region_heldb (by kernel_rfl) (by kernel_rfl) ?_
    repeat (go_big_quiet_step ((go_at_call 14;exact hap _)))
    refine wpQuiet_nil ?_
    rintro w8 ⟨⟨w9,hb8⟩,rfl⟩
    have HB8 := Lib.hid (HB7.out.trans (hb8.mono HB7.out.size))
    have HD8 := Lib.hid (HD7.out.below hb8 HD7.out.lt)
    clear hap hb8 HB7 HD7 t0 t1 t2 t3 u0 u1 u2 u3 u4 u5 u6 u7 u8 u9 u10 u11 u12 e1 e2
    have hk1 : k - 1 < path.length := by omega
    have x1 := HX1.out _ HB8.out hk1
    have v3 : IntKind.i64.wrap (path[k - 1] + chgN s l[j]) = path[k] := by rw [← HSt.out];exact IntWalk.i64_in _ (by have := HPb.out;omega)
    have d3 : (path[k] != path[k]) = false := bne_eq_false_iff_eq.2 rfl
    go_wp2_with fail
    go_roundw
    case rel => exact ⟨k + 1,by omega,by go_num,HB8,HD8⟩
    case measure => simp [intOf];omega
   ·obtain rfl : k = path.length := by omega
    have h40 := H40.out
    have hpos : 0 < path.length := by have := HLl.out;omega
    have hcl := HCl.out hpos (by omega) wr HB.out
    have hm : path.length - 1 < path.length := by omega
    have hpb := HB0.out.bd HS1.out HJ1.out (path.length - 1) hm
    have v4 : IntKind.i64.wrap ((path.length : Int) - 1) = (path.length : Int) - 1 := IntWalk.i64_in _ (by omega)
    have i3 : ((path.length : Int) - 1).toNat = path.length - 1 := by omega
    have i4 : (0 : Int) ≤ (path.length : Int) - 1 := by omega
    have i5 : (path.length : Int) - 1 < (path.length : Int) := by omega
    have v5 : IntKind.i64.wrap (path[path.length - 1] + 1) = path[path.length - 1] + 1 := IntWalk.i64_in _ (by omega)
    have HWr := Lib.hid (bal_wrong HB0.out hm (x := path[path.length - 1] + 1) (by omega))
    have HPg : Hid ((path.map (Value.int .i64))[path.length - 1]? = some (.int .i64 path[path.length - 1])) := by unfold Hid;rw [List.getElem?_map,List.getElem?_eq_getElem hm];rfl
    have HPs2 : Hid ((path.map (Value.int .i64)).set (path.length - 1) (.int .i64 (path[path.length - 1] + 1)) = (path.set (path.length - 1) (path[path.length - 1] + 1)).map (Value.int .i64)) := by unfold Hid;rw [List.map_set]
    have HM := Lib.hid hm
    clear h40 hpos hpb HC HOc HPc HHo2 HCx2 HCl
    generalize path[path.length - 1] = la at *
    go_wp2_with (go_at_call 15;fail)
    go_at_call 15
    refine hcl.mono ?_
    rintro e w7 ⟨g,cg,rfl,hg,hown,hb7⟩
    have HB7 := Lib.hid (HB.out.trans (hb7.mono HB.out.size))
    have HD7 := Lib.hid (HDr.out.below hb7 HDr.out.lt)
    have s0 := (hown.cellAt (path.length - 1) (by have := HM.out;omega)).trans HPg.out
    have hst := hown.stored (path.length - 1) (.int .i64 (la + 1))
    rw [HPs2.out] at hst
    have hfz := hown.frozenAt (path.length - 1)
    have hgw : w.heap.size ≤ g := Nat.le_trans HB.out.size hg
    have HB8 := Lib.hid (HB7.out.grown hst.2 HB7.out.size (fun k hk => by cases hk;exact hgw))
    have HD8 := Lib.hid (HD7.out.kept hst.2 (HD7.out.ne_own hown (by decide)))
    have hW8 := RowAt.of_own (l := path.set (path.length - 1) (la + 1)) (enc := Value.int .i64) hst.1
    have HW8 := Lib.hid hW8
    clear hcl hst hown hg hgw hb7 HB HDr HB7 HPg HPs2 hW8 HD7
    have z0 := HD8.out.cell 0;have z1 := HD8.out.cell 1;have z2 := HD8.out.cell 2;have z3 := HD8.out.cell 3;have z4 := HD8.out.cell 4;have z5 := HD8.out.cell 5;have z6 := HD8.out.cell 6;have z7 := HD8.out.cell 7;have z8 := HD8.out.cell 8;have z9 := HD8.out.cell 9;have z10 := HD8.out.cell 10;have z11 := HD8.out.cell 11;have z12 := HD8.out.cell 12
    simp only [List.getElem?_toArray,List.getElem?_cons_succ,List.getElem?_cons_zero] at z0 z1 z2 z3 z4 z5 z6 z7 z8 z9 z10 z11 z12
    go_wp2_with (go_at_call 8;fail)
    have hba := HBa.out _ (path.set (path.length - 1) (la + 1)) _ HB8.out HW8.out
    rw [HS1.out,HJb.out,HWr.out,Bool.true_and,Bool.and_false] at hba
    clear s0 hfz HW8 HBa
    go_at_call 8
    refine hba.mono ?_
    rintro e w9 ⟨rfl,hb9⟩
    have HBz := Lib.hid (HB8.out.trans (hb9.mono HB8.out.size))
    clear hba hb9 HB8 HD8 z0 z1 z2 z3 z4 z5 z6 z7 z8 z9 z10 z11 z12 v4 v5 i3 i4 i5 HWr HM HB0 HS1 HJ1 HJb HLl
    have hsc := HSc.out n _ HBz.out
    go_wp2_with (go_at_call 16;fail)
    go_at_call 16
    refine hsc.mono ?_
    rintro e w10 ⟨rfl,hcv,hb10⟩
    have HB10 := Lib.hid (HBz.out.trans (hb10.mono HBz.out.size))
    have HIs2 : Hid (((givenN ts c pw == 0) && schedIs ts c pw st n) = true → givenN ts c pw = 0 ∧ (leastN ts c pw).1 = n ∧ checkE ts c pw st = 0 ∧ checkB ts c pw st = true ∧ schedIs ts c pw st (IntKind.i64.wrap (n + 1)) = false ∧ ts.any (tooMuch c pw) = false ∧ validB ts c pw = true) := fun h => by
     rw [Bool.and_eq_true,beq_iff_eq] at h
     obtain ⟨h1,h2⟩ := h
     obtain ⟨f1,f2,f3⟩ := sched_yes h1 h2 (hcv h1).1 (hcv h1).2
     exact ⟨h1,f1,f2,f3,sched_other h2 (wrap_next n),given_much_no h1,given_valid h1⟩
    clear hsc hb10 HBz hcv
    generalize hi2 : ((givenN ts c pw == 0) && schedIs ts c pw st n) = is2 at *
    clear hi2
    cases is2 with
    | false =>
     generalize givenN ts c pw = gn at *
     go_wp2_with fail
     go_ret
     exact ⟨rfl,HB10.out⟩
    | true =>
    obtain ⟨f1,f2,f3,f4,f5,f6,f7⟩ := HIs2.out rfl
    have hle := HLe.out _ HB10.out
    have hck := fun W (hb : Below w.heap.size w W) => HCk.out W hb
    have hsc := fun W (hb : Below w.heap.size w W) => HSc.out (IntKind.i64.wrap (n + 1)) W hb
    unfold CheckPost at hck
    unfold LeastPost at hle
    rw [f3,f4] at hck
    rw [f5] at hsc
    simp only [decide_true,Bool.and_self,Bool.and_false] at hck hsc
    rw [f1] at hsc ⊢
    rw [f2] at hle
    have F6 := Lib.hid f6
    have F7 := Lib.hid f7
    have HCk2 := Lib.hid hck
    have HSc2 := Lib.hid hsc
    clear f1 f2 f3 f4 f5 f6 f7 HIs2 HLe HCk HSc hck hsc
    generalize hwm : IntKind.i64.wrap (n + 1) = wn at *
    go_wp2_with (go_at_call 17;fail)
    go_at_call 17
    refine hle.mono ?_
    rintro e w11 ⟨hb11,hpost⟩
    have HB11 := Lib.hid (HB10.out.trans (hb11.mono HB10.out.size))
    rcases hpost with ⟨hno,_⟩ | ⟨_,hno,_⟩ | ⟨_,_,A7,cap7,rfl,_⟩
    ·rw [F7.out] at hno;cases hno
    ·rw [F6.out] at hno;cases hno
    clear hle hb11 HB10 F6 F7
    generalize (leastN ts c pw).2.length = ln at *
    go_wp2_with (go_at_call 18;fail)
    go_at_call 18
    refine (HCk2.out _ HB11.out).mono ?_
    rintro e w12 ⟨hb12,rfl⟩
    have HB12 := Lib.hid (HB11.out.trans (hb12.mono HB11.out.size))
    clear hb12 HB11 HCk2
    have hnn : (n != n) = false := bne_eq_false_iff_eq.2 rfl
    have hs2 := HSc2.out _ HB12.out
    clear HSc2
    go_wp2_with (go_at_call 16;refine hs2.mono ?_;rintro e w13 ⟨rfl,-,hb13⟩)
    go_ret
    exact ⟨rfl,HB12.out.trans (hb13.mono HB12.out.size)⟩
 case false =>
  have HBz := Lib.hid HB6.out
  clear HB6 HD6 HIs HHo HCx HCl HC HOc HPc HBa
  have hsc := HSc.out n _ HBz.out
  go_wp2_with (go_at_call 16;fail)
  go_at_call 16
  refine hsc.mono ?_
  rintro e w10 ⟨rfl,hcv,hb10⟩
  have HB10 := Lib.hid (HBz.out.trans (hb10.mono HBz.out.size))
  have HIs2 : Hid (((givenN ts c pw == 0) && schedIs ts c pw st n) = true → givenN ts c pw = 0 ∧ (leastN ts c pw).1 = n ∧ checkE ts c pw st = 0 ∧ checkB ts c pw st = true ∧ schedIs ts c pw st (IntKind.i64.wrap (n + 1)) = false ∧ ts.any (tooMuch c pw) = false ∧ validB ts c pw = true) := fun h => by
   rw [Bool.and_eq_true,beq_iff_eq] at h
   obtain ⟨h1,h2⟩ := h
   obtain ⟨f1,f2,f3⟩ := sched_yes h1 h2 (hcv h1).1 (hcv h1).2
   exact ⟨h1,f1,f2,f3,sched_other h2 (wrap_next n),given_much_no h1,given_valid h1⟩
  clear hsc hb10 HBz hcv
  generalize hi2 : ((givenN ts c pw == 0) && schedIs ts c pw st n) = is2 at *
  clear hi2
  cases is2 with
  | false =>
   generalize givenN ts c pw = gn at *
   go_wp2_with fail
   go_ret
   exact ⟨rfl,HB10.out⟩
  | true =>
  obtain ⟨f1,f2,f3,f4,f5,f6,f7⟩ := HIs2.out rfl
  have hle := HLe.out _ HB10.out
  have hck := fun W (hb : Below w.heap.size w W) => HCk.out W hb
  have hsc := fun W (hb : Below w.heap.size w W) => HSc.out (IntKind.i64.wrap (n + 1)) W hb
  unfold CheckPost at hck
  unfold LeastPost at hle
  rw [f3,f4] at hck
  rw [f5] at hsc
  simp only [decide_true,Bool.and_self,Bool.and_false] at hck hsc
  rw [f1] at hsc ⊢
  rw [f2] at hle
  have F6 := Lib.hid f6
  have F7 := Lib.hid f7
  have HCk2 := Lib.hid hck
  have HSc2 := Lib.hid hsc
  clear f1 f2 f3 f4 f5 f6 f7 HIs2 HLe HCk HSc hck hsc
  generalize hwm : IntKind.i64.wrap (n + 1) = wn at *
  go_wp2_with (go_at_call 17;fail)
  go_at_call 17
  refine hle.mono ?_
  rintro e w11 ⟨hb11,hpost⟩
  have HB11 := Lib.hid (HB10.out.trans (hb11.mono HB10.out.size))
  rcases hpost with ⟨hno,_⟩ | ⟨_,hno,_⟩ | ⟨_,_,A7,cap7,rfl,_⟩
  ·rw [F7.out] at hno;cases hno
  ·rw [F6.out] at hno;cases hno
  clear hle hb11 HB10 F6 F7
  generalize (leastN ts c pw).2.length = ln at *
  go_wp2_with (go_at_call 18;fail)
  go_at_call 18
  refine (HCk2.out _ HB11.out).mono ?_
  rintro e w12 ⟨hb12,rfl⟩
  have HB12 := Lib.hid (HB11.out.trans (hb12.mono HB11.out.size))
  clear hb12 HB11 HCk2
  have hnn : (n != n) = false := bne_eq_false_iff_eq.2 rfl
  have hs2 := HSc2.out _ HB12.out
  clear HSc2
  go_wp2_with (go_at_call 16;refine hs2.mono ?_;rintro e w13 ⟨rfl,-,hb13⟩)
  go_ret
  exact ⟨rfl,HB12.out.trans (hb13.mono HB12.out.size)⟩
end Go.Proofs.YtfkikpbnigenhaaGreat
