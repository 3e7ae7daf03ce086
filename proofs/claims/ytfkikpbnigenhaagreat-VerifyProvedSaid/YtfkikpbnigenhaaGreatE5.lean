/- Parts of the proof, laid into one text: VerO2, RefBal, RefBalW, LawOrders. -/
import Derived.Below
import Derived.BigQuiet
import Derived.Carry
import Derived.ChangeSame
import Derived.Deep.AppendLies
import Derived.Deep.Draws
import Derived.Deep.Fields
import Derived.Deep.LoopGhost
import Derived.Deep.QuietTactic
import Derived.Deep.RegionHeld3
import Derived.Deep.RegionLaw
import Derived.Deep.Slices
import Derived.IntWalk
import Derived.Laws.Bits64b
import Derived.Laws.BitsLemmas
import Derived.Laws.CopyOwn
import Derived.Laws.EntriesVeiled
import Derived.Lib.Hide
import Derived.LoopIn
import Derived.LoopNIn
import Derived.Maps.AppendAt
import Derived.Maps.Own
import Derived.Maps.OwnOps
import Derived.Maps.OwnSet
import Derived.Maps.Views
import Derived.Outline
import Derived.OwnWalkIn
import Derived.PlainAid
import Derived.ProofKit
import Derived.RangeFuncBox
import Derived.RangeFuncLeaves
import Derived.Shelf.Abstract
import Derived.Shelf.Sort.Plain
import Derived.SliceStrings
import Derived.Sort.OwnSortedInts
import Derived.StillTail
import Derived.StillTailTactics
import Derived.TacticsInMore
import Derived.Test.YtfkikpbnigenhaaGreatC1
import Derived.Test.YtfkikpbnigenhaaGreatC2
import Derived.Test.YtfkikpbnigenhaaGreatC3
import Derived.Test.YtfkikpbnigenhaaGreatC4
import Derived.Test.YtfkikpbnigenhaaGreatC5
import Derived.Test.YtfkikpbnigenhaaGreatC6
import Derived.Test.YtfkikpbnigenhaaGreatC7
import Derived.Test.YtfkikpbnigenhaaGreatD1
import Derived.Test.YtfkikpbnigenhaaGreatD2
import Derived.Test.YtfkikpbnigenhaaGreatD3
import Derived.Test.YtfkikpbnigenhaaGreatE1
import Derived.Test.YtfkikpbnigenhaaGreatE2
import Derived.Test.YtfkikpbnigenhaaGreatE3
import Derived.Test.YtfkikpbnigenhaaGreatE4
import Derived.Test.YtfkikpbnigenhaaGreatG1
import Derived.Test.YtfkikpbnigenhaaGreatG11
import Derived.Test.YtfkikpbnigenhaaGreatG2
import Derived.Test.YtfkikpbnigenhaaGreatG3
import Derived.Test.YtfkikpbnigenhaaGreatG4
import Derived.Test.YtfkikpbnigenhaaGreatG6
import Derived.Test.YtfkikpbnigenhaaGreatG8
import Derived.Test.YtfkikpbnigenhaaGreatG9
import Derived.Test.YtfkikpbnigenhaaGreatProg
import Derived.Test.YtfkikpbnigenhaaGreatRows
import Derived.WalkKit
import Derived.WalkLawsBesides
import Derived.WalkMore
import Derived.WalkSpells

namespace Go.Proofs.YtfkikpbnigenhaaGreat
open Go.RowKit Go.Shelf
theorem balIs_no {s : SetT} {l : List JobT} {o p : List Int} (h : wholeO l.length o = false) : balIs s l o p = false := by unfold balIs;rw [h];rfl
theorem orderGood_yes {n : Nat} {o : List Int} {k j : Nat} (hk : k < o.length) (e : o[k] = (j : Int)) (hj : j < n) (h : (j : Int) ∉ o.take k) : orderGood n o k = true := by
 rw [orderGood_eq hk,e,decide_eq_true (Int.natCast_nonneg j),decide_eq_true (show (j : Int) < (n : Int) by omega),decide_eq_false h];rfl
theorem turned_snoc {l : List JobT} {o : List Int} {k j : Nat} (hk : k < o.length) (e : o[k] = (j : Int)) (hj : j < l.length) : turnedL l (o.take (k + 1)) = turnedL l (o.take k) ++ [l[j]] := by
 rw [take_snoc o k hk,e]
 unfold turnedL
 rw [List.map_append,List.map_singleton,Int.toNat_natCast,List.getD_eq_getElem?_getD,List.getElem?_eq_getElem hj]
 rfl
theorem turned_mem {l : List JobT} {o : List Int} (ho : OrderOk l.length o) : ∀ x ∈ turnedL l o,x ∈ l := by
 intro x hx
 unfold turnedL at hx
 obtain ⟨y,hy,rfl⟩ := List.mem_map.1 hx
 obtain ⟨i,hi,rfl⟩ := List.getElem_of_mem hy
 have := ho.bd i hi
 have hlt : o[i].toNat < l.length := by omega
 rw [List.getD_eq_getElem?_getD,List.getElem?_eq_getElem hlt]
 exact List.getElem_mem hlt
set_option maxRecDepth 100000 in
set_option maxHeartbeats 8000000 in
theorem vrBalance (v u o p : Value) (s : SetT) (l : List JobT) (ord path : List Int) (w : World) (hv : SetAt w w.heap.size v s) (hn : SetNames s) (hl : JobsAt w w.heap.size u l) (hj : ∀ x ∈ l,x.name.size ≤ maxLen) (ho : IntsAt w w.heap.size o ord) (hp : IntsAt w w.heap.size p path) (hwd : Wide ord) :
  Calls Tryz.prog 8 #[v,u,o,p] w fun e w' => e = .returned (.tuple #[.bool (setB s && (jobsB l && balIs s l ord path)),.int .i64 (if (setB s && jobsB l) = true then 0 else 1)]) ∧ Below w.heap.size w w' := by
 have HSet := Lib.hid fun W (hb : Below w.heap.size w W) => hv.grow hb
 have HJs := Lib.hid fun W (hb : Below w.heap.size w W) => hl.grow hb
 have HVs := Lib.hid fun W (hb : Below w.heap.size w W) => batValid v s W (HSet.out W hb) hn
 have HVj := Lib.hid fun W (hb : Below w.heap.size w W) => brkValid u l W (HJs.out W hb) hj
 have HNs := Lib.hid hn
 have HNj := Lib.hid hj
 have HPt := Lib.hid fun W (hb : Below w.heap.size w W) => (RowAt.below hp hb (Nat.le_refl _)).mono hb.size
 obtain ⟨A,c,rfl,hc1,hc2,hcell⟩ := hl.open_
 obtain ⟨Ao,co,rfl,ho1,ho2,hoc⟩ := RowAt.open_ ho
 obtain ⟨Ap,cp,rfl,-,-,-⟩ := RowAt.open_ hp
 unfold maxLen at hc2 ho2
 have HC := Lib.hid hcell
 have HOc := Lib.hid hoc
 have HW := Lib.hid hwd
 obtain ⟨Al,cl,Ai,ci,Ab,cb,rfl,-,-,-⟩ := hv
 have HD := Lib.hid (Blk.new w 26 #[.string s.name,.int .i64 s.depth,.int .i64 s.low,.int .i64 s.high,.int .i64 s.len,.slice Al s.lines.length cl,.int .i64 s.pipe,.int .i64 s.arbor,.int .i64 s.purch,.int .i64 s.most,.int .i64 s.brake,.slice Ai s.items.length ci,.slice Ab s.bricks.length cb])
 have HB1 := Lib.hid ((Below.refl _ w).alloc (Nat.le_refl _) (.cells #[.string s.name,.int .i64 s.depth,.int .i64 s.low,.int .i64 s.high,.int .i64 s.len,.slice Al s.lines.length cl,.int .i64 s.pipe,.int .i64 s.arbor,.int .i64 s.purch,.int .i64 s.most,.int .i64 s.brake,.slice Ai s.items.length ci,.slice Ab s.bricks.length cb] 26))
 have hvs := HVs.out _ HB1.out
 generalize hres : (setB s && (jobsB l && balIs s l ord path)) = res
 generalize hec : (if (setB s && jobsB l) = true then (0 : Int) else 1) = ec
 have HR := Lib.hid hres
 have HE := Lib.hid hec
 clear hl hn hj ho hp hwd hcell hoc hres hec
 unfold setVal at *
 go_enter Tryz.func8,Tryz.ntmps8
 go_wp2_with (go_at_call 21;fail)
 generalize w.alloc (.cells #[.string s.name,.int .i64 s.depth,.int .i64 s.low,.int .i64 s.high,.int .i64 s.len,.slice Al s.lines.length cl,.int .i64 s.pipe,.int .i64 s.arbor,.int .i64 s.purch,.int .i64 s.most,.int .i64 s.brake,.slice Ai s.items.length ci,.slice Ab s.bricks.length cb] 26) = W1 at *
 go_at_call 21
 refine hvs.mono ?_
 rintro e w2 ⟨rfl,hb2⟩
 have HB2 := Lib.hid (HB1.out.trans (hb2.mono HB1.out.size))
 have HD2 := Lib.hid (HD.out.below hb2 HD.out.lt)
 clear hvs hb2 HB1 HD HVs
 rcases Bool.eq_false_or_eq_true (setB s) with h0 | h0
 rotate_left
 ·have HR2 : Hid (res = false) := by unfold Hid;rw [← HR.out,h0];rfl
  have HE2 : Hid (ec = 1) := by unfold Hid;rw [← HE.out,h0];rfl
  rw [h0]
  go_wp2_with fail
  refine bodyPost_ret (results_tmp2 rfl _ _ _) (by rfl) ?_
  have q1 := HR2.out
  have q2 := HE2.out
  subst q1 q2
  exact ⟨rfl,HB2.out⟩
 have HSb := Lib.hid h0
 rw [h0,Bool.true_and] at HR HE
 rw [h0]
 clear h0
 go_wp2_with (go_at_call 22;fail)
 go_at_call 22
 refine (HVj.out _ HB2.out).mono ?_
 rintro e w3 ⟨rfl,hb3⟩
 have HB3 := Lib.hid (HB2.out.trans (hb3.mono HB2.out.size))
 have HD3 := Lib.hid (HD2.out.below hb3 HD2.out.lt)
 clear hb3 HB2 HD2 HVj
 rcases Bool.eq_false_or_eq_true (jobsB l) with h1 | h1
 rotate_left
 ·have HR2 : Hid (res = false) := by unfold Hid;rw [← HR.out,h1];rfl
  have HE2 : Hid (ec = 1) := by unfold Hid;rw [← HE.out,h1];rfl
  rw [h1]
  go_wp2_with fail
  refine bodyPost_ret (results_tmp2 rfl _ _ _) (by rfl) ?_
  have q1 := HR2.out
  have q2 := HE2.out
  subst q1 q2
  exact ⟨rfl,HB3.out⟩
 have HJb := Lib.hid (jobsB_iff.1 h1)
 have HE2 : Hid (ec = 0) := by unfold Hid;rw [← HE.out,h1];rfl
 rw [h1,Bool.true_and] at HR
 rw [h1]
 clear h1 HE
 by_cases hlen : ord.length = l.length
 rotate_left
 ·have d1 : ((ord.length : Int) != (l.length : Int)) = true := bne_iff_ne.2 (fun e => hlen (by omega))
  have HR2 : Hid (res = false) := by unfold Hid;rw [← HR.out];exact balIs_no (by unfold wholeO;rw [decide_eq_false hlen];rfl)
  clear hlen
  go_wp2_with fail
  refine bodyPost_ret (results_tmp2 rfl _ _ _) (by rfl) ?_
  have q1 := HR2.out
  have q2 := HE2.out
  subst q1 q2
  exact ⟨rfl,HB3.out⟩
 have d1 : ((ord.length : Int) != (l.length : Int)) = false := bne_eq_false_iff_eq.2 (by omega)
 have HLen := Lib.hid hlen
 have h100 := Lib.hid HJb.out.len
 obtain ⟨j0,hj0,hy0,hy1,hy2⟩ := info_parts info_bool
 have hbytes : j0.bytes * l.length ≤ 281474976710656 := by rw [hy2];have := h100.out;omega
 clear hlen
 go_wp2_with (at_make;refine wpList_make_full _ rfl _ _ 67 rfl w.heap.size 4 j0 (.bool false) 1 Tryz.underlying67 hj0 hy0 hy1 .i64 .i64 _ _ l.length rfl rfl rfl rfl hbytes (by unfold maxLen;omega) HB3.out.size ?_;intro w4 hown4 hgrow4)
 rw [seenV_zero l.length ord] at hown4
 have HB4 := Lib.hid (HB3.out.grown hgrow4 HB3.out.size (fun k hk => by cases hk))
 have HD4 := Lib.hid (HD3.out.kept hgrow4 (by simp))
 have HSn := Lib.hid hown4
 have hGlt : Hid (w.heap.size ≤ w3.heap.size) := HB3.out.size
 clear hown4 hgrow4 HB3 HD3 hbytes hj0 hy0 hy1 hy2 d1
 generalize w3.heap.size = G at *
 go_loopw [34,11] (fun ix jv wr => ∃ (k : Nat) (A3 : Option Addr) (c3 : Nat),k ≤ ord.length ∧ ix = .int .i64 k ∧ jv = .slice A3 k c3 ∧ Hid (upto (orderGood l.length ord) k = true) ∧ Hid (wr.ownsRow w.heap.size 4 1 (.slice (some ⟨G,0,none⟩) l.length l.length) l.length (seenV l.length ord k)) ∧ Hid (wr.ownsRow w.heap.size 43 3 (.slice A3 k c3) k ((turnedL l (ord.take k)).flatMap JobT.cells)) ∧ Hid (Below w.heap.size w wr) ∧ Hid (Blk wr w.heap.size 26 #[.string s.name,.int .i64 s.depth,.int .i64 s.low,.int .i64 s.high,.int .i64 s.len,.slice Al s.lines.length cl,.int .i64 s.pipe,.int .i64 s.arbor,.int .i64 s.purch,.int .i64 s.most,.int .i64 s.brake,.slice Ai s.items.length ci,.slice Ab s.bricks.length cb])) (fun ix _ _ => ord.length - (intOf ix).toNat)
 case atStart => exact ⟨0,none,0,Nat.zero_le _,rfl,rfl,upto_zero _,HSn,World.ownsRow_nil _ _ _ _,HB4,HD4⟩
 case round =>
  clear HSn HB4 HD4
  obtain ⟨k,A3,c3,hk,rfl,rfl,HU,HSn,HO,HB,HDr⟩ := hrel
  by_cases hkl : k < ord.length
  ·obtain ⟨b2,off2,rfl,hb2,hoc⟩ := HOc.out k hkl
   have x0 := (HB.out.cell (p := ⟨b2,off2 + k,none⟩) hb2).trans (hoc k hkl)
   have i1 : (0 : Int) ≤ (k : Int) := Int.natCast_nonneg _
   have i2 : (k : Int) < (ord.length : Int) := by omega
   have HG := Lib.hid (orderGood_eq (n := l.length) hkl)
   have HNo := Lib.hid (fun h : orderGood l.length ord k = false => show balIs s l ord path = false from balIs_no (wholeO_no hkl h))
   clear hoc
   by_cases c1 : ord[k] < 0
   ·have e1 : decide (ord[k] < 0) = true := decide_eq_true c1
    have HR2 : Hid (res = false) := by unfold Hid;rw [← HR.out];exact HNo.out (by rw [HG.out,decide_eq_false (show ¬ 0 ≤ ord[k] by omega)];rfl)
    clear c1
    go_wp2_with fail
    refine bodyPost_ret (results_tmp2 rfl _ _ _) (by rfl) ?_
    have q1 := HR2.out
    have q2 := HE2.out
    subst q1 q2
    exact ⟨rfl,HB.out⟩
   by_cases c2 : (l.length : Int) ≤ ord[k]
   ·have e1 : decide (ord[k] < 0) = false := decide_eq_false c1
    have e2 : decide ((l.length : Int) ≤ ord[k]) = true := decide_eq_true c2
    have HR2 : Hid (res = false) := by unfold Hid;rw [← HR.out];exact HNo.out (by rw [HG.out,decide_eq_false (show ¬ ord[k] < l.length by omega)];simp)
    clear c1 c2
    go_wp2_with fail
    refine bodyPost_ret (results_tmp2 rfl _ _ _) (by rfl) ?_
    have q1 := HR2.out
    have q2 := HE2.out
    subst q1 q2
    exact ⟨rfl,HB.out⟩
   obtain ⟨j,hje⟩ : ∃ j : Nat,ord[k] = (j : Int) := ⟨ord[k].toNat,by omega⟩
   have hjl : j < l.length := by omega
   have HJe := Lib.hid hje
   rw [hje] at x0 HG
   clear c1 c2 hje
   have e1 : decide ((j : Int) < 0) = false := decide_eq_false (by omega)
   have e2 : decide ((l.length : Int) ≤ (j : Int)) = false := decide_eq_false (by omega)
   have j1 : (0 : Int) ≤ (j : Int) := Int.natCast_nonneg _
   have j2 : (j : Int) < (l.length : Int) := by omega
   have sj := (HSn.out.cellAt j (by omega)).trans (seenV_get l.length ord k j hjl)
   by_cases c3' : (j : Int) ∈ ord.take k
   ·rw [decide_eq_true c3'] at sj
    have HR2 : Hid (res = false) := by unfold Hid;rw [← HR.out];exact HNo.out (by rw [HG.out,decide_eq_true c3'];simp)
    clear c3'
    go_wp2_with fail
    refine bodyPost_ret (results_tmp2 rfl _ _ _) (by rfl) ?_
    have q1 := HR2.out
    have q2 := HE2.out
    subst q1 q2
    exact ⟨rfl,HB.out⟩
   have HU2 := Lib.hid (upto_succ HU.out (orderGood_yes hkl HJe.out hjl c3'))
   rw [decide_eq_false c3'] at sj
   clear c3' HNo HG
   have hst := HSn.out.stored j (.bool true)
   rw [seenV_set hkl hjl HJe.out] at hst
   have HS5 := Lib.hid hst.1
   have hO5 := HO.out.kept hst.2 (own_ne HO.out HSn.out (by decide))
   have HB5 := Lib.hid (HB.out.grown hst.2 HB.out.size (fun k hk => by cases hk;exact hGlt.out))
   have HD5 := Lib.hid (HDr.out.kept hst.2 (HDr.out.ne_own HSn.out (by decide)))
   have HTu := Lib.hid (turned_snoc hkl HJe.out hjl)
   obtain ⟨b1,off1,rfl,hb1,hc⟩ := HC.out j hjl
   have y0 := (HB5.out.cell (p := ⟨b1,off1 + j * 3,none⟩) hb1).trans (hc j hjl).1
   have y1 := (HB5.out.cell (p := ⟨b1,off1 + j * 3 + 1,none⟩) hb1).trans (hc j hjl).2.1
   have y2 := (HB5.out.cell (p := ⟨b1,off1 + j * 3 + 2,none⟩) hb1).trans (hc j hjl).2.2
   have hfz := HSn.out.frozenAt j
   have hkb : k ≤ 100 := by have := h100.out;have := HLen.out;omega
   have hkt : (turnedL l (ord.take k)).length = k := by rw [turned_len,List.length_take];omega
   have hO5' : (wr.setCell ⟨G,j,none⟩ (.bool true)).ownsRow w.heap.size 43 3 (.slice A3 k c3) (turnedL l (ord.take k)).length ((turnedL l (ord.take k)).flatMap JobT.cells) := by rw [hkt];exact hO5
   have HO5 := Lib.hid hO5'
   have HKt := Lib.hid hkt
   clear hst hO5 hO5' hc hkt HO HSn HB HDr
   have HBa := Lib.hid (HB5.out.alloc HB5.out.size (.cells #[.string l[j].name,.bool l[j].pipe,.int .i64 l[j].wt] 43))
   have HBk := Lib.hid (Blk.new (wr.setCell ⟨G,j,none⟩ (.bool true)) 43 #[.string l[j].name,.bool l[j].pipe,.int .i64 l[j].wt])
   have hsz5 : (wr.setCell ⟨G,j,none⟩ (.bool true)).heap.size = wr.heap.size := by simp
   have HBk := Lib.hid (hsz5 ▸ HBk.out : Blk ((wr.setCell ⟨G,j,none⟩ (.bool true)).alloc (.cells #[.string l[j].name,.bool l[j].pipe,.int .i64 l[j].wt] 43)) wr.heap.size 43 #[.string l[j].name,.bool l[j].pipe,.int .i64 l[j].wt])
   clear hsz5
   have HOa := Lib.hid (HO5.out.alloc (.cells #[.string l[j].name,.bool l[j].pipe,.int .i64 l[j].wt] 43))
   have HSa := Lib.hid (HS5.out.alloc (.cells #[.string l[j].name,.bool l[j].pipe,.int .i64 l[j].wt] 43))
   have HDa := Lib.hid (HD5.out.below ((Below.refl (wr.setCell ⟨G,j,none⟩ (.bool true)).heap.size (wr.setCell ⟨G,j,none⟩ (.bool true))).alloc (Nat.le_refl _) (.cells #[.string l[j].name,.bool l[j].pipe,.int .i64 l[j].wt] 43)) HD5.out.lt)
   go_wp2_with (at_builtin;refine wpList_appJ _ rfl (.tmp 55) (.tmp 60) rfl w.heap.size _ (turnedL l (ord.take k)) HOa.out HBa.out.size l[j] _ HBk.out rfl rfl (by rw [HKt.out];omega) ?_;intro g cap w6 hown6 hgrow6;rw [← HTu.out,HKt.out] at hown6;rw [HKt.out];have HO6 := Lib.hid hown6;have HB6 := Lib.hid (HBa.out.grown hgrow6 HBa.out.size (fun k hk => (HOa.out.lt k hk).1));have HD6 := Lib.hid (HDa.out.kept hgrow6 (HDa.out.ne_own HOa.out (by decide)));have HS6 := Lib.hid (HSa.out.kept hgrow6 (own_ne HSa.out HOa.out (by decide)));clear hown6 hgrow6)
   go_roundw
   case rel => exact ⟨k + 1,_,_,by omega,by go_num,rfl,HU2,HS6,HO6,HB6,HD6⟩
   case measure => simp [intOf];omega
  ·obtain rfl : k = ord.length := by omega
   have HOk := Lib.hid (wholeO_iff.1 (show wholeO l.length ord = true by unfold wholeO;rw [decide_eq_true HLen.out,HU.out];rfl))
   have HTk : Hid (turnedL l (ord.take ord.length) = turnedL l ord) := by unfold Hid;rw [List.take_length]
   rw [HTk.out] at HO
   have HR3 : Hid ((decide (pathL s (turnedL l ord) = path) && allHeld s (turnedL l ord)) = res) := by
    unfold Hid
    rw [← HR.out]
    unfold balIs allHeld
    rw [wholeO_iff.2 HOk.out,Bool.true_and,turned_len,HLen.out]
   have HJt := Lib.hid (turnedJ_ok HJb.out HOk.out)
   have HNt := Lib.hid (fun x (hx : x ∈ turnedL l ord) => HNj.out x (turned_mem HOk.out x hx))
   have HJv := Lib.hid (JobsAt.of_own HO.out)
   have HPa := Lib.hid fun W (hb : Below wr.heap.size wr W) => brkPath _ _ s (turnedL l ord) W (HSet.out W (HB.out.trans (hb.mono HB.out.size))) HNs.out (HJv.out.grow hb) HNt.out HSb.out HJt.out
   have HFi := Lib.hid fun W (hb : Below wr.heap.size wr W) => brkFirst _ _ s (turnedL l ord) W (HSet.out W (HB.out.trans (hb.mono HB.out.size))) HNs.out (HJv.out.grow hb) HNt.out HSb.out HJt.out
   have hpa := HPa.out wr (Below.refl _ _)
   have z0 := HDr.out.cell 0;have z1 := HDr.out.cell 1;have z2 := HDr.out.cell 2;have z3 := HDr.out.cell 3;have z4 := HDr.out.cell 4;have z5 := HDr.out.cell 5;have z6 := HDr.out.cell 6;have z7 := HDr.out.cell 7;have z8 := HDr.out.cell 8;have z9 := HDr.out.cell 9;have z10 := HDr.out.cell 10;have z11 := HDr.out.cell 11;have z12 := HDr.out.cell 12
   simp only [List.getElem?_toArray,List.getElem?_cons_succ,List.getElem?_cons_zero] at z0 z1 z2 z3 z4 z5 z6 z7 z8 z9 z10 z11 z12
   clear HU HSn HO HC HOc HW HJs HLen HOk HTk HJv HPa h100 hGlt HR HJb HNt HJt
   go_wp2_with (go_at_call 23;fail)
   go_at_call 23
   refine hpa.mono ?_
   rintro e w5 ⟨r,rfl,hO,hb5⟩
   have HB5 := Lib.hid (HB.out.trans (hb5.mono HB.out.size))
   have HD5 := Lib.hid (HDr.out.below hb5 HDr.out.lt)
   have hfi := HFi.out _ hb5
   have hI : IntsAt w5 w5.heap.size r (pathL s (turnedL l ord)) := RowAt.of_own (l := pathL s (turnedL l ord)) (enc := Value.int .i64) hO
   have HI := Lib.hid hI
   obtain ⟨Ar,cr,rfl,-,-,-⟩ := hI.open_
   clear hpa hb5 hO HB HDr HFi hI z0 z1 z2 z3 z4 z5 z6 z7 z8 z9 z10 z11 z12
   have z0 := HD5.out.cell 0;have z1 := HD5.out.cell 1;have z2 := HD5.out.cell 2;have z3 := HD5.out.cell 3;have z4 := HD5.out.cell 4;have z5 := HD5.out.cell 5;have z6 := HD5.out.cell 6;have z7 := HD5.out.cell 7;have z8 := HD5.out.cell 8;have z9 := HD5.out.cell 9;have z10 := HD5.out.cell 10;have z11 := HD5.out.cell 11;have z12 := HD5.out.cell 12
   simp only [List.getElem?_toArray,List.getElem?_cons_succ,List.getElem?_cons_zero] at z0 z1 z2 z3 z4 z5 z6 z7 z8 z9 z10 z11 z12
   go_wp2_with (go_at_call 24;fail)
   go_at_call 24
   refine hfi.mono ?_
   rintro e w6 ⟨i,rfl,hb6⟩
   have HB6 := Lib.hid (HB5.out.trans (hb6.mono HB5.out.size))
   have HI6 := Lib.hid ((HI.out.below hb6 (Nat.le_refl _)).mono hb6.size)
   have hsm := vrSameInt _ _ _ _ _ w6 HI6.out (HPt.out _ HB6.out)
   clear hfi hb6 HD5 HB5 HI z0 z1 z2 z3 z4 z5 z6 z7 z8 z9 z10 z11 z12
   rcases Bool.eq_false_or_eq_true (allHeld s (turnedL l ord)) with ha | ha
   ·rw [ha,Bool.and_true] at HR3
    rw [ha,if_pos rfl]
    clear ha
    generalize decide (pathL s (turnedL l ord) = path) = dp at *
    go_wp2_with (go_at_call 25;refine hsm.mono ?_;rintro e w7 ⟨rfl,q7,rfl⟩)
    refine bodyPost_ret (results_tmp2 rfl _ _ _) (by rfl) ?_
    have q1 := HR3.out
    have q2 := HE2.out
    subst q1 q2
    exact ⟨rfl,below_drewN HB6.out _⟩
   ·rw [ha,Bool.and_false] at HR3
    rw [ha,if_neg (by simp)]
    clear ha
    go_wp2_with fail
    refine bodyPost_ret (results_tmp2 rfl _ _ _) (by rfl) ?_
    have q1 := HR3.out
    have q2 := HE2.out
    subst q1 q2
    exact ⟨rfl,HB6.out⟩
end Go.Proofs.YtfkikpbnigenhaaGreat

namespace Go.Proofs.YtfkikpbnigenhaaGreat
open Go.RowKit Go.Shelf
def freeO (o : List Int) (k j : Nat) : Bool := !decide (o.getD j 0 = o.getD k 0)
theorem freeO_eq {o : List Int} {k j : Nat} (hk : k < o.length) (hj : j < o.length) : freeO o k j = !decide (o[j] = o[k]) := by
 unfold freeO
 rw [List.getD_eq_getElem?_getD,List.getD_eq_getElem?_getD,List.getElem?_eq_getElem hk,List.getElem?_eq_getElem hj]
 rfl
theorem freeO_upto {o : List Int} {k : Nat} (hk : k < o.length) : upto (freeO o k) k = !decide (o[k] ∈ o.take k) := by
 by_cases h : o[k] ∈ o.take k
 ·rw [decide_eq_true h]
  rw [List.mem_take_iff_getElem] at h
  obtain ⟨j,hj,e⟩ := h
  exact upto_no (show j < k by omega) (by rw [freeO_eq hk (by omega),decide_eq_true e];rfl)
 ·rw [decide_eq_false h]
  refine upto_iff.2 fun j hj => ?_
  rw [freeO_eq hk (by omega),decide_eq_false,Bool.not_false]
  intro e
  exact h (by rw [List.mem_take_iff_getElem];exact ⟨j,by omega,e⟩)
set_option maxRecDepth 100000 in
set_option maxHeartbeats 4000000 in
theorem refWhole (v : Value) (ord : List Int) (n : Nat) (B : Nat) (w : World) (ho : IntsAt w B v ord) :
  Calls Tryz.prog 31 #[v,.int .i64 n] w fun e w' => e = .returned (.bool (wholeO n ord)) ∧ ∃ q,w.drewN q = w' := by
 obtain ⟨A,c,rfl,hc1,hc2,hcell⟩ := RowAt.open_ ho
 unfold maxLen at hc2
 have HC := Lib.hid hcell
 clear ho hcell
 by_cases hlen : ord.length = n
 rotate_left
 ·have d1 : ((ord.length : Int) != (n : Int)) = true := bne_iff_ne.2 (fun e => hlen (by omega))
  have HV : Hid (wholeO n ord = false) := by unfold Hid wholeO;rw [decide_eq_false hlen];rfl
  clear hlen
  go_enter Tryz.func31,Tryz.ntmps31
  go_wp2
  go_ret
  exact ⟨ret_bool HV.out.symm,0,rfl⟩
 subst hlen
 have d1 : ((ord.length : Int) != (ord.length : Int)) = false := bne_eq_false_iff_eq.2 rfl
 have HV : Hid (wholeO ord.length ord = upto (orderGood ord.length ord) ord.length) := by unfold Hid wholeO;rw [decide_eq_true rfl];rfl
 go_enter Tryz.func31,Tryz.ntmps31
 go_wp2
 clear d1
 go_loopw [5] (fun x wr => ∃ k : Nat,k ≤ ord.length ∧ x = .int .i64 k ∧ Hid (upto (orderGood ord.length ord) k = true) ∧ ∃ q,wr = w.drewN q) (fun x _ => ord.length - (intOf x).toNat)
 case atStart => exact ⟨0,Nat.zero_le _,rfl,upto_zero _,0,rfl⟩
 case round =>
  obtain ⟨k,hk,rfl,HU,q,rfl⟩ := hrel
  by_cases hkl : k < ord.length
  ·obtain ⟨b,off,rfl,hb,hc⟩ := HC.out k hkl
   have HC2 := Lib.hid hc
   have x0 := hc k hkl
   have i1 : (0 : Int) ≤ (k : Int) := Int.natCast_nonneg _
   have i2 : (k : Int) < (ord.length : Int) := by omega
   have HG := Lib.hid (orderGood_eq (n := ord.length) hkl)
   have HNo := Lib.hid (fun h : orderGood ord.length ord k = false => wholeO_no hkl h)
   clear hc
   by_cases c1 : ord[k] < 0
   ·have e1 : decide (ord[k] < 0) = true := decide_eq_true c1
    have HV2 : Hid (wholeO ord.length ord = false) := HNo.out (by rw [HG.out,decide_eq_false (show ¬ 0 ≤ ord[k] by omega)];rfl)
    clear c1
    go_wp2
    go_ret
    exact ⟨ret_bool HV2.out.symm,_,rfl⟩
   by_cases c2 : (ord.length : Int) ≤ ord[k]
   ·have e1 : decide (ord[k] < 0) = false := decide_eq_false c1
    have e2 : decide ((ord.length : Int) ≤ ord[k]) = true := decide_eq_true c2
    have HV2 : Hid (wholeO ord.length ord = false) := HNo.out (by rw [HG.out,decide_eq_false (show ¬ ord[k] < ord.length by omega)];simp)
    clear c1 c2
    go_wp2
    go_ret
    exact ⟨ret_bool HV2.out.symm,_,rfl⟩
   have e1 : decide (ord[k] < 0) = false := decide_eq_false c1
   have e2 : decide ((ord.length : Int) ≤ ord[k]) = false := decide_eq_false c2
   have HG2 : Hid (orderGood ord.length ord k = upto (freeO ord k) k) := by unfold Hid;rw [HG.out,freeO_upto hkl,decide_eq_true (show 0 ≤ ord[k] by omega),decide_eq_true (show ord[k] < ord.length by omega)];rfl
   clear c1 c2 HG
   go_wp2
   clear e1 e2 x0
   generalize hQ : q = q0
   clear hQ
   go_loopw [6] (fun x wr => ∃ j : Nat,j ≤ k ∧ x = .int .i64 j ∧ Hid (upto (freeO ord k) j = true) ∧ ∃ q,wr = w.drewN q) (fun x _ => k - (intOf x).toNat)
   case atStart => exact ⟨0,Nat.zero_le _,rfl,upto_zero _,_,rfl⟩
   case round =>
    obtain ⟨j,hj,rfl,HU2,q1,rfl⟩ := hrel
    by_cases hjk : j < k
    ·have hjl : j < ord.length := by omega
     have x0 := HC2.out k hkl
     have u0 := HC2.out j hjl
     have j1 : (0 : Int) ≤ (j : Int) := Int.natCast_nonneg _
     have j2 : (j : Int) < (ord.length : Int) := by omega
     have HPq := Lib.hid (freeO_eq hkl hjl)
     by_cases hq : ord[j] = ord[k]
     ·have hqb : (ord[j] == ord[k]) = true := by rw [beq_iff_eq];exact hq
      have HV2 : Hid (wholeO ord.length ord = false) := HNo.out (by rw [HG2.out];exact upto_no hjk (by rw [HPq.out,decide_eq_true hq];rfl))
      clear hq
      go_wp2
      go_quiet (fail)
      go_wp2
      go_ret
      exact ⟨ret_bool HV2.out.symm,q2⟩
     ·have hqb : (ord[j] == ord[k]) = false := by rw [beq_eq_false_iff_ne];exact hq
      have HU3 := Lib.hid (upto_succ HU2.out (show freeO ord k j = true by rw [HPq.out,decide_eq_false hq];rfl))
      clear hq
      go_wp2
      go_quiet (fail)
      go_wp2
      go_roundw
      case rel => exact ⟨j + 1,by omega,by go_num,HU3,_,rfl⟩
      case measure => simp [intOf];omega
    ·obtain rfl : j = k := by omega
     have HU4 := Lib.hid (upto_succ HU.out (show orderGood ord.length ord j = true by rw [HG2.out];exact HU2.out))
     go_wp2
     go_roundw
     case rel => exact ⟨j + 1,by omega,by go_num,HU4,_,rfl⟩
     case measure => simp [intOf];omega
  ·obtain rfl : k = ord.length := by omega
   have HV2 : Hid (wholeO ord.length ord = true) := by unfold Hid;rw [HV.out,HU.out]
   go_wp2
   go_ret
   exact ⟨ret_bool HV2.out.symm,_,rfl⟩
theorem pathL_get {s : SetT} {l : List JobT} {k : Nat} (hk : k < (pathL s l).length) : (pathL s l)[k] = pathTo s l k := by
 have h2 : k < l.length + 1 := by rw [pathL_len] at hk;exact hk
 have h3 : (pathL s l)[k]? = some (pathTo s l k) := by
  unfold pathL
  rw [List.getElem?_map,List.getElem?_range h2]
  rfl
 rw [List.getElem?_eq_getElem hk] at h3
 exact Option.some.inj h3
def stepB (s : SetT) (t : List JobT) (p : List Int) (k : Nat) : Bool := decide (p.getD k 0 = pathTo s t k) && heldB s (pathTo s t k)
theorem stepB_eq {s : SetT} {t : List JobT} {p : List Int} {k : Nat} (hk : k < p.length) : stepB s t p k = (decide (p[k] = pathTo s t k) && heldB s (pathTo s t k)) := by
 unfold stepB
 rw [List.getD_eq_getElem?_getD,List.getElem?_eq_getElem hk]
 rfl
theorem bal_steps {s : SetT} {l : List JobT} {ord p : List Int} (ho : wholeO l.length ord = true) (hp : p.length = l.length + 1) : balIs s l ord p = upto (stepB s (turnedL l ord) p) (l.length + 1) := by
 have hn : (turnedL l ord).length = l.length := by rw [turned_len,(wholeO_iff.1 ho).len]
 unfold balIs
 rw [ho,Bool.true_and]
 by_cases he : pathL s (turnedL l ord) = p
 ·rw [decide_eq_true he,Bool.true_and]
  refine upto_congr fun i hi => ?_
  rw [stepB_eq (by omega),decide_eq_true,Bool.true_and]
  subst he
  rw [pathL_get]
 ·rw [decide_eq_false he,Bool.false_and]
  symm
  rw [← Bool.not_eq_true]
  intro h
  rw [upto_iff] at h
  apply he
  apply List.ext_getElem (by rw [pathL_len,hn,hp])
  intro i h1 h2
  have := h i (by omega)
  rw [stepB_eq h2,Bool.and_eq_true,decide_eq_true_iff] at this
  rw [this.1,pathL_get]
theorem bal_short {s : SetT} {l : List JobT} {ord p : List Int} (ho : wholeO l.length ord = true) (hp : ¬ p.length = l.length + 1) : balIs s l ord p = false := by
 have hn : (turnedL l ord).length = l.length := by rw [turned_len,(wholeO_iff.1 ho).len]
 unfold balIs
 rw [decide_eq_false,Bool.false_and,Bool.and_false]
 intro e
 exact hp (by rw [← e,pathL_len,hn])
end Go.Proofs.YtfkikpbnigenhaaGreat

namespace Go.Proofs.YtfkikpbnigenhaaGreat
open Go.RowKit Go.Shelf
set_option maxRecDepth 100000 in
set_option maxHeartbeats 8000000 in
theorem refBal51 (v u o p : Value) (s : SetT) (l : List JobT) (ord path : List Int) (w : World) (hv : SetAt w w.heap.size v s) (hl : JobsAt w w.heap.size u l) (ho : IntsAt w w.heap.size o ord) (hp : IntsAt w w.heap.size p path) (hs : setB s = true) (hok : JobsOk l) :
  Calls Tryz.prog 11 #[v,u,o,p] w fun e w' => e = .returned (.bool (balIs s l ord path)) ∧ Below w.heap.size w w' := by
 have HSet := Lib.hid fun W (hb : Below w.heap.size w W) => hv.grow hb
 have HWh := Lib.hid fun W (hb : Below w.heap.size w W) => refWhole o ord l.length W.heap.size W ((RowAt.below ho hb (Nat.le_refl _)).mono hb.size)
 have HHe := Lib.hid fun (n : Int) W (hb : Below w.heap.size w W) => refHeld v s n W.heap.size W (HSet.out W hb) (setB_ok hs).brake
 have HPa := Lib.hid fun (h : wholeO l.length ord = true) v2 W (hb : Below w.heap.size w W) (hJ : JobsAt W W.heap.size v2 (turnedL l ord)) => refPath27 v v2 s (turnedL l ord) W (HSet.out W hb) hJ hs (turnedJ_ok hok (wholeO_iff.1 h))
 have h100 := Lib.hid hok.len
 obtain ⟨A,c,rfl,hc1,hc2,hcell⟩ := hl.open_
 obtain ⟨Ao,co,rfl,ho1,ho2,hoc⟩ := RowAt.open_ ho
 obtain ⟨Ap,cp,rfl,hp1,hp2,hpc⟩ := RowAt.open_ hp
 unfold maxLen at hc2 ho2 hp2
 have HC := Lib.hid hcell
 have HOc := Lib.hid hoc
 have HPc := Lib.hid hpc
 obtain ⟨Al,cl,Ai,ci,Ab,cb,rfl,-,-,-⟩ := hv
 have HD := Lib.hid (Blk.new w 26 #[.string s.name,.int .i64 s.depth,.int .i64 s.low,.int .i64 s.high,.int .i64 s.len,.slice Al s.lines.length cl,.int .i64 s.pipe,.int .i64 s.arbor,.int .i64 s.purch,.int .i64 s.most,.int .i64 s.brake,.slice Ai s.items.length ci,.slice Ab s.bricks.length cb])
 have HB1 := Lib.hid ((Below.refl _ w).alloc (Nat.le_refl _) (.cells #[.string s.name,.int .i64 s.depth,.int .i64 s.low,.int .i64 s.high,.int .i64 s.len,.slice Al s.lines.length cl,.int .i64 s.pipe,.int .i64 s.arbor,.int .i64 s.purch,.int .i64 s.most,.int .i64 s.brake,.slice Ai s.items.length ci,.slice Ab s.bricks.length cb] 26))
 have hwh := HWh.out _ HB1.out
 have v1 : IntKind.i64.wrap ((l.length : Int) + 1) = (l.length : Int) + 1 := IntWalk.i64_in _ (by have := h100.out;omega)
 generalize hres : balIs s l ord path = res
 have HR := Lib.hid hres
 clear hl ho hp hs hok hcell hoc hpc HSet HWh hres
 unfold setVal at *
 go_enter Tryz.func11,Tryz.ntmps11
 rcases Bool.eq_false_or_eq_true (wholeO l.length ord) with h0 | h0
 rotate_left
 ·have HR2 : Hid (res = false) := by unfold Hid;rw [← HR.out];exact balIs_no h0
  rw [h0] at hwh
  clear h0
  go_wp2_with (go_at_call 31;refine hwh.mono ?_;rintro e w2 ⟨rfl,q2,rfl⟩)
  go_ret
  exact ⟨ret_bool HR2.out.symm,below_drewN HB1.out _⟩
 have HW0 := Lib.hid h0
 rw [h0] at hwh
 clear h0
 by_cases hm : path.length = l.length + 1
 rotate_left
 ·have HR2 : Hid (res = false) := by unfold Hid;rw [← HR.out];exact bal_short HW0.out hm
  have d1 : ((path.length : Int) != (l.length : Int) + 1) = true := bne_iff_ne.2 (fun e => hm (by omega))
  clear hm
  go_wp2_with (go_at_call 31;refine hwh.mono ?_;rintro e w2 ⟨rfl,q2,rfl⟩)
  go_ret
  exact ⟨ret_bool HR2.out.symm,below_drewN HB1.out _⟩
 have HM := Lib.hid hm
 have d1 : ((path.length : Int) != (l.length : Int) + 1) = false := bne_eq_false_iff_eq.2 (by omega)
 have HLn : Hid (ord.length = l.length) := (wholeO_iff.1 HW0.out).len
 have HBd := Lib.hid (wholeO_iff.1 HW0.out).bd
 clear hm
 go_wp2_with (go_at_call 31;refine hwh.mono ?_;rintro e w2 ⟨rfl,q2,rfl⟩)
 have HB2 := Lib.hid (below_drewN HB1.out q2)
 have HD2 := Lib.hid (HD.out.drewN q2)
 clear hwh d1 v1 HB1 HD
 generalize (w.alloc (.cells #[.string s.name,.int .i64 s.depth,.int .i64 s.low,.int .i64 s.high,.int .i64 s.len,.slice Al s.lines.length cl,.int .i64 s.pipe,.int .i64 s.arbor,.int .i64 s.purch,.int .i64 s.most,.int .i64 s.brake,.slice Ai s.items.length ci,.slice Ab s.bricks.length cb] 26)).drewN q2 = W2 at *
 go_loopw [10,9] (fun ix jv wr => ∃ (k : Nat) (A3 : Option Addr) (c3 : Nat),k ≤ ord.length ∧ ix = .int .i64 k ∧ jv = .slice A3 k c3 ∧ Hid (wr.ownsRow w.heap.size 43 3 (.slice A3 k c3) k ((turnedL l (ord.take k)).flatMap JobT.cells)) ∧ Hid (Below w.heap.size w wr) ∧ Hid (Blk wr w.heap.size 26 #[.string s.name,.int .i64 s.depth,.int .i64 s.low,.int .i64 s.high,.int .i64 s.len,.slice Al s.lines.length cl,.int .i64 s.pipe,.int .i64 s.arbor,.int .i64 s.purch,.int .i64 s.most,.int .i64 s.brake,.slice Ai s.items.length ci,.slice Ab s.bricks.length cb])) (fun ix _ _ => ord.length - (intOf ix).toNat)
 case atStart => exact ⟨0,none,0,Nat.zero_le _,rfl,rfl,World.ownsRow_nil _ _ _ _,HB2,HD2⟩
 case round =>
  clear HB2 HD2
  obtain ⟨k,A3,c3,hk,rfl,rfl,HO,HB,HDr⟩ := hrel
  by_cases hkl : k < ord.length
  ·obtain ⟨b2,off2,rfl,hb2,hoc⟩ := HOc.out k hkl
   have x0 := (HB.out.cell (p := ⟨b2,off2 + k,none⟩) hb2).trans (hoc k hkl)
   have i1 : (0 : Int) ≤ (k : Int) := Int.natCast_nonneg _
   have i2 : (k : Int) < (ord.length : Int) := by omega
   have hbd := HBd.out k hkl
   obtain ⟨j,hje⟩ : ∃ j : Nat,ord[k] = (j : Int) := ⟨ord[k].toNat,by omega⟩
   have hjl : j < l.length := by omega
   have HTu := Lib.hid (turned_snoc hkl hje hjl)
   rw [hje] at x0
   clear hbd hje hoc
   have j1 : (0 : Int) ≤ (j : Int) := Int.natCast_nonneg _
   have j2 : (j : Int) < (l.length : Int) := by omega
   obtain ⟨b1,off1,rfl,hb1,hc⟩ := HC.out j hjl
   have y0 := (HB.out.cell (p := ⟨b1,off1 + j * 3,none⟩) hb1).trans (hc j hjl).1
   have y1 := (HB.out.cell (p := ⟨b1,off1 + j * 3 + 1,none⟩) hb1).trans (hc j hjl).2.1
   have y2 := (HB.out.cell (p := ⟨b1,off1 + j * 3 + 2,none⟩) hb1).trans (hc j hjl).2.2
   have hlt := h100.out
   have hll := HLn.out
   have hkt : (turnedL l (ord.take k)).length = k := by rw [turned_len,List.length_take];omega
   have hO5' : wr.ownsRow w.heap.size 43 3 (.slice A3 k c3) (turnedL l (ord.take k)).length ((turnedL l (ord.take k)).flatMap JobT.cells) := by rw [hkt];exact HO.out
   have HO5 := Lib.hid hO5'
   have HKt := Lib.hid hkt
   have HBa := Lib.hid (HB.out.alloc HB.out.size (.cells #[.string l[j].name,.bool l[j].pipe,.int .i64 l[j].wt] 43))
   have HBk := Lib.hid (Blk.new wr 43 #[.string l[j].name,.bool l[j].pipe,.int .i64 l[j].wt])
   have HOa := Lib.hid (HO5.out.alloc (.cells #[.string l[j].name,.bool l[j].pipe,.int .i64 l[j].wt] 43))
   have HDa := Lib.hid (HDr.out.below ((Below.refl wr.heap.size wr).alloc (Nat.le_refl _) (.cells #[.string l[j].name,.bool l[j].pipe,.int .i64 l[j].wt] 43)) HDr.out.lt)
   have hkb : k ≤ 100 := by omega
   clear hO5' hc hkt HO HB HDr hlt hll
   go_wp2_with (at_builtin;refine wpList_appJ _ rfl (.tmp 32) (.tmp 40) rfl w.heap.size _ (turnedL l (ord.take k)) HOa.out HBa.out.size l[j] _ HBk.out rfl rfl (by rw [HKt.out];omega) ?_;intro g cap w6 hown6 hgrow6;rw [← HTu.out,HKt.out] at hown6;rw [HKt.out];have HO6 := Lib.hid hown6;have HB6 := Lib.hid (HBa.out.grown hgrow6 HBa.out.size (fun k hk => (HOa.out.lt k hk).1));have HD6 := Lib.hid (HDa.out.kept hgrow6 (HDa.out.ne_own HOa.out (by decide)));clear hown6 hgrow6)
   go_roundw
   case rel => exact ⟨k + 1,_,_,by omega,by go_num,rfl,HO6,HB6,HD6⟩
   case measure => simp [intOf];omega
  ·obtain rfl : k = ord.length := by omega
   have HTk : Hid (turnedL l (ord.take ord.length) = turnedL l ord) := by unfold Hid;rw [List.take_length]
   rw [HTk.out] at HO
   have hpa := HPa.out HW0.out _ wr HB.out (JobsAt.of_own HO.out)
   have HPl : Hid ((pathL s (turnedL l ord)).length = path.length) := by unfold Hid;rw [pathL_len,turned_len,HLn.out,HM.out]
   have HSt := Lib.hid (bal_steps (s := s) HW0.out HM.out)
   rw [HR.out,← HM.out] at HSt
   have HNo := Lib.hid (fun k (hk : k < path.length) (h : stepB s (turnedL l ord) path k = false) => show res = false from by rw [HSt.out];exact upto_no hk h)
   have z0 := HDr.out.cell 0;have z1 := HDr.out.cell 1;have z2 := HDr.out.cell 2;have z3 := HDr.out.cell 3;have z4 := HDr.out.cell 4;have z5 := HDr.out.cell 5;have z6 := HDr.out.cell 6;have z7 := HDr.out.cell 7;have z8 := HDr.out.cell 8;have z9 := HDr.out.cell 9;have z10 := HDr.out.cell 10;have z11 := HDr.out.cell 11;have z12 := HDr.out.cell 12
   simp only [List.getElem?_toArray,List.getElem?_cons_succ,List.getElem?_cons_zero] at z0 z1 z2 z3 z4 z5 z6 z7 z8 z9 z10 z11 z12
   clear HO HC HOc HPa HTk h100 HLn HBd HW0 HM HR
   generalize turnedL l ord = tl at *
   go_wp2_with (go_at_call 32;fail)
   go_at_call 32
   refine hpa.mono ?_
   rintro e w5 ⟨r,rfl,hI,hb5⟩
   have HB5 := Lib.hid (HB.out.trans (hb5.mono HB.out.size))
   have HD5 := Lib.hid (HDr.out.below hb5 HDr.out.lt)
   obtain ⟨Ar,cr,rfl,hr1,hr2,hrc⟩ := RowAt.open_ hI
   rw [HPl.out] at hr1 ⊢
   unfold maxLen at hr2
   have HRc := Lib.hid hrc
   clear hpa hb5 HB HDr hI hrc z0 z1 z2 z3 z4 z5 z6 z7 z8 z9 z10 z11 z12
   go_wp2_with fail
   go_loopw [12] (fun x wr => ∃ k : Nat,k ≤ path.length ∧ x = .int .i64 k ∧ Hid (upto (stepB s tl path) k = true) ∧ Hid (Below w5.heap.size w5 wr)) (fun x _ => path.length - (intOf x).toNat)
   case atStart => exact ⟨0,Nat.zero_le _,rfl,upto_zero _,Below.refl _ _⟩
   case round =>
    obtain ⟨k,hk,rfl,HU,HB7⟩ := hrel
    have HB := Lib.hid (HB5.out.trans (HB7.out.mono HB5.out.size))
    have HDr := Lib.hid (HD5.out.below HB7.out HD5.out.lt)
    by_cases hkl : k < path.length
    ·obtain ⟨b2,off2,rfl,hb2,hpc⟩ := HPc.out k hkl
     have hk2 : k < (pathL s tl).length := by rw [HPl.out];exact hkl
     obtain ⟨b3,off3,rfl,hb3,hrc⟩ := HRc.out k hk2
     have x0 := (HB.out.cell (p := ⟨b2,off2 + k,none⟩) hb2).trans (hpc k hkl)
     have x1 := (HB7.out.cell (p := ⟨b3,off3 + k,none⟩) hb3).trans (hrc k hk2)
     rw [pathL_get hk2] at x1
     have HSe := Lib.hid (stepB_eq (s := s) (t := tl) hkl)
     generalize pathTo s tl k = n at *
     have i1 : (0 : Int) ≤ (k : Int) := Int.natCast_nonneg _
     have i2 : (k : Int) < (path.length : Int) := by omega
     have z0 := HDr.out.cell 0;have z1 := HDr.out.cell 1;have z2 := HDr.out.cell 2;have z3 := HDr.out.cell 3;have z4 := HDr.out.cell 4;have z5 := HDr.out.cell 5;have z6 := HDr.out.cell 6;have z7 := HDr.out.cell 7;have z8 := HDr.out.cell 8;have z9 := HDr.out.cell 9;have z10 := HDr.out.cell 10;have z11 := HDr.out.cell 11;have z12 := HDr.out.cell 12
     simp only [List.getElem?_toArray,List.getElem?_cons_succ,List.getElem?_cons_zero] at z0 z1 z2 z3 z4 z5 z6 z7 z8 z9 z10 z11 z12
     have u0 := HeldB.cell z0
     have u1 := HeldB.cell z1
     have u2 := HeldB.cell z2
     have u3 := HeldB.cell z3
     have u4 := HeldB.cell z4
     have u5 := HeldB.cell z5
     have u6 := HeldB.cell z6
     have u7 := HeldB.cell z7
     have u8 := HeldB.cell z8
     have u9 := HeldB.cell z9
     have u10 := HeldB.cell z10
     have u11 := HeldB.cell z11
     have u12 := HeldB.cell z12
     have t0 := HeldB.cell x0
     have t1 := HeldB.cell x1
     have hap0 := fun (w' : World) (hb : Below wr.heap.size wr w') => HHe.out n w' (HB.out.trans (hb.mono HB.out.size))
     have hap := HeldB.call hap0
     clear hap0 z0 z1 z2 z3 z4 z5 z6 z7 z8 z9 z10 z11 z12 x0 x1 hk2 hpc hrc HB HDr
     by_cases hq : path[k] = n
     rotate_left
     ·have hqb : (path[k] != n) = true := bne_iff_ne.2 hq
      have HV2 : Hid (res = false) := HNo.out k hkl (by rw [HSe.out,decide_eq_false hq];rfl)
      clear hq hap
      go_wp2_with fail
      refine wp_region_heldb (by kernel_rfl) (by kernel_rfl) ?_
      repeat (go_big_quiet_step (fail))
      refine wpQuiet_nil ?_
      rintro w7 ⟨⟨w8,hb7⟩,rfl⟩
      clear t0 t1 u0 u1 u2 u3 u4 u5 u6 u7 u8 u9 u10 u11 u12
      go_wp2_with fail
      go_ret
      exact ⟨ret_bool HV2.out.symm,HB5.out.trans ((HB7.out.trans (hb7.mono HB7.out.size)).mono HB5.out.size)⟩
     have hqb : (path[k] != n) = false := bne_eq_false_iff_eq.2 hq
     have HSe2 : Hid (stepB s tl path k = heldB s n) := by unfold Hid;rw [HSe.out,decide_eq_true hq];rfl
     clear hq
     rcases Bool.eq_false_or_eq_true (heldB s n) with h2 | h2
     rotate_left
     ·have HV2 : Hid (res = false) := HNo.out k hkl (by rw [HSe2.out,h2])
      rw [h2] at hap
      clear h2
      go_wp2_with fail
      refine wp_region_heldb (by kernel_rfl) (by kernel_rfl) ?_
      repeat (go_big_quiet_step ((go_at_call 33;exact hap _)))
      refine wpQuiet_nil ?_
      rintro w7 ⟨⟨w8,hb7⟩,rfl⟩
      clear hap t0 t1 u0 u1 u2 u3 u4 u5 u6 u7 u8 u9 u10 u11 u12
      go_wp2_with fail
      go_ret
      exact ⟨ret_bool HV2.out.symm,HB5.out.trans ((HB7.out.trans (hb7.mono HB7.out.size)).mono HB5.out.size)⟩
     have HU3 := Lib.hid (upto_succ HU.out (show stepB s tl path k = true by rw [HSe2.out,h2]))
     rw [h2] at hap
     clear h2
     go_wp2_with fail
     refine wp_region_heldb (by kernel_rfl) (by kernel_rfl) ?_
     repeat (go_big_quiet_step ((go_at_call 33;exact hap _)))
     refine wpQuiet_nil ?_
     rintro w7 ⟨⟨w8,hb7⟩,rfl⟩
     clear hap t0 t1 u0 u1 u2 u3 u4 u5 u6 u7 u8 u9 u10 u11 u12
     go_wp2_with fail
     go_roundw
     case rel => exact ⟨k + 1,by omega,by go_num,HU3,HB7.out.trans (hb7.mono HB7.out.size)⟩
     case measure => simp [intOf];omega
    ·obtain rfl : k = path.length := by omega
     have HV2 : Hid (res = true) := by unfold Hid;rw [HSt.out,HU.out]
     go_wp2_with fail
     go_ret
     exact ⟨ret_bool HV2.out.symm,HB.out⟩
end Go.Proofs.YtfkikpbnigenhaaGreat

namespace Go.Proofs.YtfkikpbnigenhaaGreat
open Go.RowKit Go.Shelf
set_option maxHeartbeats 1000000 in
theorem refShort27 (v : Value) (l : List JobT) (n : Int) (w : World) (hl : JobsAt w w.heap.size v l) (hn : ∀ x ∈ l,x.name.size ≤ maxLen) :
  Calls Tryz.prog 7 #[v,.int .i64 n] w (AnsB w) := by
 obtain ⟨A,c,rfl,hc1,hc2,hcell⟩ := hl.open_
 unfold maxLen at hc2 hn
 have HC := Lib.hid hcell
 have HN := Lib.hid hn
 clear hl hcell hn
 by_cases c0 : n < (l.length : Int)
 ·have d0 : decide (n < (l.length : Int)) = true := decide_eq_true c0
  clear c0
  go_enter Tryz.func7,Tryz.ntmps7
  go_wp2
  go_ret
  exact ⟨_,rfl,Below.refl _ _⟩
 have d0 : decide (n < (l.length : Int)) = false := decide_eq_false c0
 clear c0
 go_enter Tryz.func7,Tryz.ntmps7
 go_wp2
 go_loopw [5] (fun x wr => ∃ k : Nat,k ≤ l.length ∧ x = .int .i64 k ∧ ∃ q,wr = w.drewN q) (fun x _ => l.length - (intOf x).toNat)
 case atStart => exact ⟨0,Nat.zero_le _,rfl,0,rfl⟩
 case round =>
  obtain ⟨k,hk,rfl,q,rfl⟩ := hrel
  by_cases hkl : k < l.length
  ·obtain ⟨b,off,rfl,hb,hc⟩ := HC.out k hkl
   have y0 := (hc k hkl).1
   have hnm := HN.out _ (List.getElem_mem hkl)
   have i1 : (0 : Int) ≤ (k : Int) := Int.natCast_nonneg _
   have i2 : (k : Int) < (l.length : Int) := by omega
   clear hc
   by_cases c1 : 60 < l[k].name.size
   ·have d1 : decide ((60 : Int) < (l[k].name.size : Int)) = true := decide_eq_true (by omega)
    clear c1
    go_wp2
    go_ret
    exact ⟨_,rfl,below_drewN (Below.refl _ _) _⟩
   ·have d1 : decide ((60 : Int) < (l[k].name.size : Int)) = false := decide_eq_false (by omega)
    clear c1
    go_wp2
    go_roundw
    case rel => exact ⟨k + 1,by omega,by go_num,_,rfl⟩
    case measure => simp [intOf];omega
  ·obtain rfl : k = l.length := by omega
   go_wp2
   go_ret
   exact ⟨_,rfl,below_drewN (Below.refl _ _) _⟩
set_option maxRecDepth 100000 in
set_option maxHeartbeats 8000000 in
theorem lawVerifyOrders (v u o p : Value) (s : SetT) (l : List JobT) (ord path : List Int) (w : World) (hv : SetAt w w.heap.size v s) (hn : SetNames s) (hl : JobsAt w w.heap.size u l) (hj : ∀ x ∈ l,x.name.size ≤ maxLen) (ho : IntsAt w w.heap.size o ord) (hp : IntsAt w w.heap.size p path) (hwd : Wide ord) :
  Calls Tryz.prog 3 #[v,u,o,p] w fun e w' => e = .returned (.bool true) ∧ Below w.heap.size w w' := by
 have HA := Lib.hid fun W => lawAwake51 W
 have HSet := Lib.hid fun W (hb : Below w.heap.size w W) => hv.grow hb
 have HJs := Lib.hid fun W (hb : Below w.heap.size w W) => hl.grow hb
 have HOs := Lib.hid fun W (hb : Below w.heap.size w W) => (RowAt.below ho hb (Nat.le_refl _)).mono hb.size
 have HPs := Lib.hid fun W (hb : Below w.heap.size w W) => (RowAt.below hp hb (Nat.le_refl _)).mono hb.size
 have HSm := Lib.hid fun W (hb : Below w.heap.size w W) => refSmall v s 12 W (HSet.out W hb) hn.name hn.items hn.bricks
 have HSh := Lib.hid fun W (hb : Below w.heap.size w W) => refShort27 u l 30 W (HJs.out W hb) hj
 have HBa := Lib.hid fun W (hb : Below w.heap.size w W) => vrBalance v u o p s l ord path W (HSet.out W hb) hn (HJs.out W hb) hj (HOs.out W hb) (HPs.out W hb) hwd
 have HVs := Lib.hid fun W (hb : Below w.heap.size w W) => refValid21 v s W (HSet.out W hb) hn
 have HVj := Lib.hid fun W (hb : Below w.heap.size w W) => refValid27 u l W.heap.size W (HJs.out W hb) hj
 have HRb := Lib.hid fun (h1 : setB s = true) (h2 : JobsOk l) W (hb : Below w.heap.size w W) => refBal51 v u o p s l ord path W (HSet.out W hb) (HJs.out W hb) (HOs.out W hb) (HPs.out W hb) h1 h2
 obtain ⟨A,c,rfl,-,-,-⟩ := hl.open_
 obtain ⟨Ao,co,rfl,-,-,-⟩ := RowAt.open_ ho
 obtain ⟨Ap,cp,rfl,-,-,-⟩ := RowAt.open_ hp
 obtain ⟨Al,cl,Ai,ci,Ab,cb,rfl,-,-,-⟩ := hv
 have HD := Lib.hid (Blk.new w 26 #[.string s.name,.int .i64 s.depth,.int .i64 s.low,.int .i64 s.high,.int .i64 s.len,.slice Al s.lines.length cl,.int .i64 s.pipe,.int .i64 s.arbor,.int .i64 s.purch,.int .i64 s.most,.int .i64 s.brake,.slice Ai s.items.length ci,.slice Ab s.bricks.length cb])
 have HB1 := Lib.hid ((Below.refl _ w).alloc (Nat.le_refl _) (.cells #[.string s.name,.int .i64 s.depth,.int .i64 s.low,.int .i64 s.high,.int .i64 s.len,.slice Al s.lines.length cl,.int .i64 s.pipe,.int .i64 s.arbor,.int .i64 s.purch,.int .i64 s.most,.int .i64 s.brake,.slice Ai s.items.length ci,.slice Ab s.bricks.length cb] 26))
 clear hl hn hj ho hp hwd HSet HJs HOs HPs
 unfold setVal at *
 go_enter Tryz.func3,Tryz.ntmps3
 go_wp2_with (go_at_call 5;fail)
 generalize w.alloc (.cells #[.string s.name,.int .i64 s.depth,.int .i64 s.low,.int .i64 s.high,.int .i64 s.len,.slice Al s.lines.length cl,.int .i64 s.pipe,.int .i64 s.arbor,.int .i64 s.purch,.int .i64 s.most,.int .i64 s.brake,.slice Ai s.items.length ci,.slice Ab s.bricks.length cb] 26) = W1 at *
 go_at_call 5
 refine (HA.out _).mono ?_
 rintro e w2 ⟨rfl,hb2⟩
 have HB2 := Lib.hid (HB1.out.trans (hb2.mono HB1.out.size))
 have HD2 := Lib.hid (HD.out.below hb2 HD.out.lt)
 clear hb2 HB1 HD HA
 have z0 := HD2.out.cell 0;have z1 := HD2.out.cell 1;have z2 := HD2.out.cell 2;have z3 := HD2.out.cell 3;have z4 := HD2.out.cell 4;have z5 := HD2.out.cell 5;have z6 := HD2.out.cell 6;have z7 := HD2.out.cell 7;have z8 := HD2.out.cell 8;have z9 := HD2.out.cell 9;have z10 := HD2.out.cell 10;have z11 := HD2.out.cell 11;have z12 := HD2.out.cell 12
 simp only [List.getElem?_toArray,List.getElem?_cons_succ,List.getElem?_cons_zero] at z0 z1 z2 z3 z4 z5 z6 z7 z8 z9 z10 z11 z12
 go_wp2_with (go_at_call 6;fail)
 go_at_call 6
 refine (HSm.out _ HB2.out).mono ?_
 rintro e w3 ⟨q3,rfl,hb3⟩
 have HB3 := Lib.hid (HB2.out.trans (hb3.mono HB2.out.size))
 have HD3 := Lib.hid (HD2.out.below hb3 HD2.out.lt)
 clear hb3 HB2 HD2 HSm z0 z1 z2 z3 z4 z5 z6 z7 z8 z9 z10 z11 z12
 cases q3 with
 | false =>
  go_wp2_with fail
  go_ret
  exact ⟨rfl,HB3.out⟩
 | true =>
 go_wp2_with (go_at_call 7;fail)
 go_at_call 7
 refine (HSh.out _ HB3.out).mono ?_
 rintro e w4 ⟨q4,rfl,hb4⟩
 have HB4 := Lib.hid (HB3.out.trans (hb4.mono HB3.out.size))
 have HD4 := Lib.hid (HD3.out.below hb4 HD3.out.lt)
 clear hb4 HB3 HD3 HSh
 cases q4 with
 | false =>
  go_wp2_with fail
  go_ret
  exact ⟨rfl,HB4.out⟩
 | true =>
 rcases Bool.eq_false_or_eq_true (decide ((40 : Int) < (ord.length : Int))) with c1 | c1
 ·go_wp2_with fail
  go_ret
  exact ⟨rfl,HB4.out⟩
 rcases Bool.eq_false_or_eq_true (decide ((40 : Int) < (path.length : Int))) with c2 | c2
 ·go_wp2_with fail
  go_ret
  exact ⟨rfl,HB4.out⟩
 have z0 := HD4.out.cell 0;have z1 := HD4.out.cell 1;have z2 := HD4.out.cell 2;have z3 := HD4.out.cell 3;have z4 := HD4.out.cell 4;have z5 := HD4.out.cell 5;have z6 := HD4.out.cell 6;have z7 := HD4.out.cell 7;have z8 := HD4.out.cell 8;have z9 := HD4.out.cell 9;have z10 := HD4.out.cell 10;have z11 := HD4.out.cell 11;have z12 := HD4.out.cell 12
 simp only [List.getElem?_toArray,List.getElem?_cons_succ,List.getElem?_cons_zero] at z0 z1 z2 z3 z4 z5 z6 z7 z8 z9 z10 z11 z12
 go_wp2_with (go_at_call 8;fail)
 go_at_call 8
 refine (HBa.out _ HB4.out).mono ?_
 rintro e w5 ⟨rfl,hb5⟩
 have HB5 := Lib.hid (HB4.out.trans (hb5.mono HB4.out.size))
 have HD5 := Lib.hid (HD4.out.below hb5 HD4.out.lt)
 clear hb5 HB4 HD4 HBa c1 c2 z0 z1 z2 z3 z4 z5 z6 z7 z8 z9 z10 z11 z12
 have z0 := HD5.out.cell 0;have z1 := HD5.out.cell 1;have z2 := HD5.out.cell 2;have z3 := HD5.out.cell 3;have z4 := HD5.out.cell 4;have z5 := HD5.out.cell 5;have z6 := HD5.out.cell 6;have z7 := HD5.out.cell 7;have z8 := HD5.out.cell 8;have z9 := HD5.out.cell 9;have z10 := HD5.out.cell 10;have z11 := HD5.out.cell 11;have z12 := HD5.out.cell 12
 simp only [List.getElem?_toArray,List.getElem?_cons_succ,List.getElem?_cons_zero] at z0 z1 z2 z3 z4 z5 z6 z7 z8 z9 z10 z11 z12
 have hvs := HVs.out _ HB5.out
 rcases Bool.eq_false_or_eq_true (setB s) with h1 | h1
 rotate_left
 ·rw [h1] at hvs
  rw [h1,Bool.false_and,Bool.false_and,if_neg (by simp)]
  clear h1
  go_wp2_with (go_at_call 9;refine hvs.mono ?_;rintro e w6 ⟨rfl,hb6⟩)
  go_ret
  exact ⟨rfl,HB5.out.trans (hb6.mono HB5.out.size)⟩
 have HRb2 := Lib.hid (HRb.out h1)
 rw [h1] at hvs
 rw [h1,Bool.true_and,Bool.true_and]
 clear h1 HRb
 generalize hbi : balIs s l ord path = bi at *
 have hbb : (bi == bi) = true := by simp
 rcases Bool.eq_false_or_eq_true (jobsB l) with h2 | h2
 rotate_left
 ·rw [h2,Bool.false_and,if_neg (by simp)]
  have hvj := fun W (hb : Below w.heap.size w W) => HVj.out W hb
  rw [h2] at hvj
  clear h2 HVj
  go_wp2_with (go_at_call 9;fail)
  go_at_call 9
  refine hvs.mono ?_
  rintro e w6 ⟨rfl,hb6⟩
  have HB6 := Lib.hid (HB5.out.trans (hb6.mono HB5.out.size))
  go_wp2_with (go_at_call 10;refine (hvj _ HB6.out).mono ?_;rintro e w7 ⟨rfl,q7,rfl⟩)
  go_ret
  exact ⟨rfl,below_drewN HB6.out _⟩
 have HRb3 := Lib.hid (HRb2.out (jobsB_iff.1 h2))
 have hvj := fun W (hb : Below w.heap.size w W) => HVj.out W hb
 rw [h2] at hvj
 rw [h2,Bool.true_and,if_pos rfl]
 clear h2 HVj HRb2
 go_wp2_with (go_at_call 9;fail)
 go_at_call 9
 refine hvs.mono ?_
 rintro e w6 ⟨rfl,hb6⟩
 have HB6 := Lib.hid (HB5.out.trans (hb6.mono HB5.out.size))
 have HD6 := Lib.hid (HD5.out.below hb6 HD5.out.lt)
 clear hb6 HD5 z0 z1 z2 z3 z4 z5 z6 z7 z8 z9 z10 z11 z12
 have z0 := HD6.out.cell 0;have z1 := HD6.out.cell 1;have z2 := HD6.out.cell 2;have z3 := HD6.out.cell 3;have z4 := HD6.out.cell 4;have z5 := HD6.out.cell 5;have z6 := HD6.out.cell 6;have z7 := HD6.out.cell 7;have z8 := HD6.out.cell 8;have z9 := HD6.out.cell 9;have z10 := HD6.out.cell 10;have z11 := HD6.out.cell 11;have z12 := HD6.out.cell 12
 simp only [List.getElem?_toArray,List.getElem?_cons_succ,List.getElem?_cons_zero] at z0 z1 z2 z3 z4 z5 z6 z7 z8 z9 z10 z11 z12
 go_wp2_with (go_at_call 10;fail)
 go_at_call 10
 refine (hvj _ HB6.out).mono ?_
 rintro e w7 ⟨rfl,q7,rfl⟩
 have HB7 := Lib.hid (below_drewN HB6.out q7)
 have HD7 := Lib.hid (HD6.out.drewN q7)
 clear HB6 HD6 z0 z1 z2 z3 z4 z5 z6 z7 z8 z9 z10 z11 z12
 generalize w6.drewN q7 = W7 at *
 have z0 := HD7.out.cell 0;have z1 := HD7.out.cell 1;have z2 := HD7.out.cell 2;have z3 := HD7.out.cell 3;have z4 := HD7.out.cell 4;have z5 := HD7.out.cell 5;have z6 := HD7.out.cell 6;have z7 := HD7.out.cell 7;have z8 := HD7.out.cell 8;have z9 := HD7.out.cell 9;have z10 := HD7.out.cell 10;have z11 := HD7.out.cell 11;have z12 := HD7.out.cell 12
 simp only [List.getElem?_toArray,List.getElem?_cons_succ,List.getElem?_cons_zero] at z0 z1 z2 z3 z4 z5 z6 z7 z8 z9 z10 z11 z12
 have hrb := HRb3.out _ HB7.out
 go_wp2_with (go_at_call 11;refine hrb.mono ?_;rintro e w8 ⟨rfl,hb8⟩)
 go_ret
 exact ⟨rfl,HB7.out.trans (hb8.mono HB7.out.size)⟩
end Go.Proofs.YtfkikpbnigenhaaGreat
