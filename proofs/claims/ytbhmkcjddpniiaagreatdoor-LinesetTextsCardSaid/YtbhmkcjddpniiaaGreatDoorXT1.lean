/- Parts of the proof, laid into one text: Digs01, RefText. -/
import Derived.BigQuiet
import Derived.Deep.AppendLies
import Derived.Deep.Cut
import Derived.Deep.Draws
import Derived.Deep.LoopGhost
import Derived.Deep.QuietTactic
import Derived.IntWalk
import Derived.Laws.Bits64b
import Derived.Laws.Concat
import Derived.Laws.IdiomStrings
import Derived.Lib.AppendIntMem
import Derived.Lib.Hide
import Derived.Lib.ItoaLen
import Derived.Lib.ItoaMem
import Derived.Lib.Join
import Derived.Lib.SmallJoins
import Derived.LoopIn
import Derived.LoopNIn
import Derived.Maps.AppendAt
import Derived.Maps.Own
import Derived.Maps.OwnOps
import Derived.Maps.OwnSet
import Derived.Maps.Views
import Derived.Outline
import Derived.OwnWalkIn
import Derived.PlainAid
import Derived.RangeFuncBox
import Derived.RangeFuncLeaves
import Derived.Shelf.Abstract
import Derived.Shelf.Bits.Mul64
import Derived.Shelf.Strconv.Itoa3
import Derived.Shelf.Strings.Count
import Derived.Shelf.Strings.OnBuilder
import Derived.Shelf.Strings.Prefix
import Derived.StillTail
import Derived.StillTailTactics
import Derived.TacticsInMore
import Derived.Test.YtbhmkcjddpniiaaGreatDoorProg
import Derived.Test.YtbhmkcjddpniiaaGreatDoorXC1
import Derived.Test.YtbhmkcjddpniiaaGreatDoorXC2
import Derived.Test.YtbhmkcjddpniiaaGreatDoorXC3
import Derived.Test.YtbhmkcjddpniiaaGreatDoorXC4
import Derived.Test.YtbhmkcjddpniiaaGreatDoorXC6
import Derived.Test.YtbhmkcjddpniiaaGreatDoorXC7
import Derived.Test.YtbhmkcjddpniiaaGreatDoorXD1
import Derived.Test.YtbhmkcjddpniiaaGreatDoorXD2
import Derived.Test.YtbhmkcjddpniiaaGreatDoorXD3
import Derived.Test.YtbhmkcjddpniiaaGreatDoorXD4
import Derived.Test.YtbhmkcjddpniiaaGreatDoorXD5
import Derived.Test.YtbhmkcjddpniiaaGreatDoorXG1
import Derived.Test.YtbhmkcjddpniiaaGreatDoorXI1
import Derived.Test.YtbhmkcjddpniiaaGreatDoorXT0
import Derived.WalkKit
import Derived.WalkLawsBesides
import Derived.WalkSpells

namespace Go.Proofs.YtbhmkcjddpniiaaGreatDoor
open Go.RowKit Go.Shelf
def DigSt (n0 n : Nat) (ds : List UInt8) : Prop := (ds = [] ∧ n = n0) ∨ (ds ≠ [] ∧ n = 0 ∧ ds = Lib.decDigits n0) ∨ (ds ≠ [] ∧ 0 < n ∧ Lib.decDigits n ++ ds = Lib.decDigits n0)
theorem digSt_step {n0 n : Nat} {ds : List UInt8} (h : DigSt n0 n ds) (hc : 0 < n ∨ ds = []) : DigSt n0 (n / 10) (UInt8.ofNat (48 + n % 10) :: ds) := by
  have key : Lib.decDigits n ++ ds = Lib.decDigits n0 := by
    rcases h with ⟨h1, h2⟩ | ⟨h1, h2, h3⟩ | ⟨h1, h2, h3⟩
    · rw [h1, h2, List.append_nil]
    · exact absurd hc (by rintro (h | h); · omega
                          · exact h1 h)
    · exact h3
  by_cases hn : n < 10
  · refine .inr (.inl ⟨by simp, by omega, ?_⟩)
    rw [← key, Lib.decDigits_one hn, Nat.mod_eq_of_lt hn]
    rfl
  · refine .inr (.inr ⟨by simp, by omega, ?_⟩)
    rw [← key]
    conv => rhs; rw [Lib.decDigits, dif_neg hn]
    rw [List.append_assoc]
    rfl
theorem digSt_end {n0 n : Nat} {ds : List UInt8} (h : DigSt n0 n ds) (h1 : n = 0) (h2 : ds ≠ []) : ds = Lib.decDigits n0 := by
 rcases h with ⟨h3,_⟩ | ⟨_,_,h3⟩ | ⟨_,h3,_⟩
 ·exact absurd h3 h2
 ·exact h3
 ·omega
theorem conv_digit (m : Nat) (W : World) : (convert 221 9 (.slice (some ⟨W.heap.size,0,none⟩) 1 1)).run Tryz.prog (W.alloc (.cells #[.int .u8 (48 + (m : Int) % 10)] 5)) = .ok (.string ⟨#[UInt8.ofNat (48 + m % 10)]⟩) (W.alloc (.cells #[.int .u8 (48 + (m : Int) % 10)] 5)) := by
 refine run_convert_bytes_back (P := Tryz.prog) _ 221 9 5 ⟨W.heap.size,0,none⟩ 1 [UInt8.ofNat (48 + m % 10)] Tryz.underlying221 Tryz.underlying5 Tryz.underlying9 ?_
 intro j hj
 obtain rfl : j = 0 := by simp at hj;omega
 rw [Addr.add_lit,(Blk.new W 5 #[.int .u8 (48 + (m : Int) % 10)]).cell]
 have : (UInt8.ofNat (48 + m % 10)).toNat = 48 + m % 10 := by
  rw [UInt8.toNat_ofNat']
  omega
 simp only [List.getElem_cons_zero,this]
 simp
def DigLen (m : Nat) (ds : List UInt8) : Prop := ds.length ≤ 13 ∧ (0 < m → m * 10 ^ ds.length ≤ 10 ^ 12)
theorem digLen_step {m : Nat} {ds : List UInt8} {c : UInt8} (h : DigLen m ds) (hc : 0 < m ∨ ds = []) : DigLen (m / 10) (c :: ds) := by
 have hl : ds.length ≤ 12 := by
  rcases hc with hc | hc
  ·have h1 := h.2 hc
   rcases Nat.lt_or_ge 12 ds.length with h2 | h2
   ·have h3 : 10 ^ 13 ≤ 10 ^ ds.length := Nat.pow_le_pow_right (by decide) h2
    have h4 : 10 ^ ds.length ≤ m * 10 ^ ds.length := Nat.le_mul_of_pos_left _ hc
    have h5 : (10 : Nat) ^ 12 < 10 ^ 13 := by decide
    omega
   ·exact h2
  ·rw [hc];exact Nat.zero_le _
 refine ⟨by rw [List.length_cons];omega,fun hm => ?_⟩
 have h1 := h.2 (by omega)
 have h2 : m / 10 * 10 ≤ m := Nat.div_mul_le_self m 10
 have h3 := Nat.mul_le_mul_right (10 ^ ds.length) h2
 rw [List.length_cons,Nat.pow_succ,Nat.mul_comm (10 ^ ds.length) 10,← Nat.mul_assoc]
 exact Nat.le_trans h3 h1
set_option maxRecDepth 100000 in
set_option maxHeartbeats 1000000 in
theorem refDigits (n : Nat) (w : World) (hn : n ≤ 10 ^ 12) : Calls Tryz.prog 187 #[.int .i64 n,.int .i64 1] w fun e w' => e = .returned (.string ⟨(Lib.decDigits n).toArray⟩) ∧ Below w.heap.size w w' := by
 have HN := Lib.hid hn
 clear hn
 go_enter Tryz.func187,Tryz.ntmps187
 go_wp2_with fail
 go_loopw [0,5] (fun x y wr => ∃ (m : Nat) (ds : List UInt8),m ≤ n ∧ x = .int .i64 m ∧ y = .string ⟨ds.toArray⟩ ∧ DigSt n m ds ∧ DigLen m ds ∧ Below w.heap.size w wr) (fun x y _ => (intOf x).toNat + (match y with | .string s => if s.size = 0 then 1 else 0 | _ => 0))
 case atStart => exact ⟨n,[],Nat.le_refl _,rfl,rfl,.inl ⟨rfl,rfl⟩,⟨Nat.zero_le _,fun _ => by simpa using HN.out⟩,Below.refl _ _⟩
 case round =>
  obtain ⟨m,ds,hm,rfl,rfl,hd,hg,hb⟩ := hrel
  have hm12 : (m : Int) ≤ 1000000000000 := by have := HN.out;omega
  by_cases hc : 0 < m ∨ ds = []
  ·have HD := Lib.hid (digSt_step hd hc)
   have HG := Lib.hid (digLen_step (c := UInt8.ofNat (48 + m % 10)) hg hc)
   have hl : ds.length ≤ 13 := hg.1
   obtain ⟨c,hc0⟩ : ∃ c,UInt8.ofNat (48 + m % 10) = c := ⟨_,rfl⟩
   rw [hc0] at HD HG
   have hcv := fun W => conv_digit m W
   rw [hc0] at hcv
   have hcc : ∀ W,(Op.stringOp .add ⟨#[c]⟩ ⟨ds.toArray⟩).run Tryz.prog W = .ok (.string ⟨(c :: ds).toArray⟩) W := fun W => run_string_add_lists W [c] ds (by simp) (by omega)
   have hdm : m / 10 ≤ n := Nat.le_trans (Nat.div_le_self _ _) hm
   have HB := Lib.hid (hb.alloc hb.size (.cells #[.int .u8 (48 + (m : Int) % 10)] 5))
   clear hd hg hb hc0
   rcases Nat.eq_zero_or_pos m with h0 | h0
   ·have hds : ds = [] := hc.elim (fun h => absurd h (by omega)) id
    have hls : (ds.length : Int) < 1 := by rw [hds];simp
    have hl0 : ds.length = 0 := by rw [hds];rfl
    have HL0 := Lib.hid hl0
    subst h0
    rw [show (48 : Int) + ((0 : Nat) : Int) % 10 = 48 by decide] at hcv HB
    rw [Nat.zero_div] at HD HG
    clear hc hds hl0 hl
    go_wp2_with fail
    go_roundw
    case rel => exact ⟨0,_,Nat.zero_le _,rfl,rfl,HD.out,HG.out,HB.out⟩
    case measure => simp [intOf,ByteArray.size,HL0.out]
   ·have d0 : decide (0 < m) = true := decide_eq_true h0
    clear hc
    go_wp2_with fail
    go_roundw
    case rel => exact ⟨m / 10,_,hdm,by go_num,rfl,HD.out,HG.out,HB.out⟩
    case measure => simp [intOf,ByteArray.size];omega
  ·have h0 : m = 0 := by omega
   have hds : ds ≠ [] := fun h => hc (.inr h)
   subst h0
   have HE := Lib.hid (digSt_end hd rfl hds)
   have HB := Lib.hid hb
   have hlp : 0 < ds.length := List.length_pos_iff.2 hds
   have hls : ¬ ((ds.length : Int) < 1) := by omega
   clear hd hg hb hc hds
   go_wp2_with fail
   go_ret
   refine ⟨?_,HB.out⟩
   rw [← HE.out]
   rfl
theorem dec_len {n : Nat} (hn : n ≤ 10 ^ 12) : (Lib.decDigits n).length ≤ 14 := by
 have : ∀ k m : Nat,m ≤ 10 ^ k → (Lib.decDigits m).length ≤ k + 2 := fun k => by
  induction k with
  | zero =>
   intro m hm
   rw [Lib.decDigits_one (by simp at hm;omega)]
   simp
  | succ k ih =>
   intro m hm
   by_cases h : m < 10
   ·rw [Lib.decDigits_one h];simp
   ·rw [Lib.decDigits,dif_neg h,List.length_append]
    have := ih (m / 10) (by rw [Nat.pow_succ] at hm;omega)
    simp only [List.length_singleton]
    omega
 exact this 12 n hn
set_option maxRecDepth 100000 in
set_option maxHeartbeats 1000000 in
theorem refFormat0 (n : Nat) (w : World) (hn : n ≤ 10 ^ 12) : Calls Tryz.prog 151 #[.int .i64 n,.int .i64 0] w fun e w' => e = .returned (.string ⟨(Lib.decDigits n).toArray⟩) ∧ Below w.heap.size w w' := by
 have hD := refDigits n w hn
 have hz : ∀ W,(Op.stringOp .add ⟨#[]⟩ ⟨(Lib.decDigits n).toArray⟩).run Tryz.prog W = .ok (.string ⟨(Lib.decDigits n).toArray⟩) W := fun W => by
  have h1 := dec_len hn
  simpa using run_string_add_lists (P := Tryz.prog) W [] (Lib.decDigits n) (by simp) (by omega)
 have d0 : ¬ ((n : Int) < 0) := by omega
 clear hn
 go_enter Tryz.func151,Tryz.ntmps151
 go_wp2_with fail
 refine hD.mono ?_
 rintro e w2 ⟨rfl,hb2⟩
 go_wp2_with fail
 go_ret
 exact ⟨rfl,hb2⟩
theorem refNumber (n : Int) (w : World) (h0 : 0 ≤ n) (hn : n ≤ 1000000000000) : Calls Tryz.prog 101 #[.int .i64 n] w fun e w' => e = .returned (.string (itoaA n)) ∧ Below w.heap.size w w' := by
  obtain ⟨m, rfl⟩ : ∃ m : Nat, n = m := ⟨n.toNat, by omega⟩
  have hF := refFormat0 m w (by have : (10 : Nat) ^ 12 = 1000000000000 := by decide
                                omega)
  have e1 : itoaA (m : Int) = ⟨(Lib.decDigits m).toArray⟩ := by
    unfold itoaA Lib.itoa
    rw [if_neg (by omega)]
    rfl
  rw [e1]
  clear h0 hn e1
  go_enter Tryz.func101, Tryz.ntmps101
  go_wp2_with fail
  refine hF.mono ?_
  rintro e w2 ⟨rfl, hb2⟩
  go_wp2_with fail
  go_ret
  exact ⟨rfl, hb2⟩
end Go.Proofs.YtbhmkcjddpniiaaGreatDoor

namespace Go.Proofs.YtbhmkcjddpniiaaGreatDoor
open Go.RowKit Go.Shelf
theorem addB_step {a b c : ByteArray} {n : Nat} (h : c = a ++ b) (ha : a.size ≤ n) (hb : b.size ≤ 100) (hn : n ≤ 1000000000 := by first | decide | omega) : (∀ W,(Op.stringOp .add a b).run Tryz.prog W = .ok (.string c) W) ∧ c.size ≤ n + 100 := by
 subst h
 exact ⟨fun W => run_string_add_sum (P := Tryz.prog) W a b (by omega),by rw [ByteArray.size_append];omega⟩
theorem itoa_sizeR {x : Int} (h0 : 0 ≤ x) (h1 : x ≤ 1000000000000) : (itoaA x).size ≤ 100 := by
  obtain ⟨m, rfl⟩ : ∃ m : Nat, x = m := ⟨x.toNat, by omega⟩
  have h2 := dec_len (n := m) (by have : (10 : Nat) ^ 12 = 1000000000000 := by decide
                                  omega)
  unfold itoaA Lib.itoa
  rw [if_neg (by omega)]
  show (Lib.decDigits (m : Int).toNat).toArray.size ≤ 100
  rw [List.size_toArray]
  simp only [Int.toNat_natCast]
  omega
theorem alone_wtB {x : ItemT} (h : alone1 x = true) : 0 ≤ x.wt ∧ x.wt ≤ 1048576 := by
 unfold alone1 at h
 simp only [Bool.and_eq_true] at h
 exact between_bd h.2.1
def refTo (s : SetT) (k : Nat) : List UInt8 := lineW (headW s) ++ Lib.join (toks (linesW (s.lines.take k))) [32]
theorem join_snoc (a : List UInt8) (l : List (List UInt8)) (x : List UInt8) : Lib.join ((a :: l) ++ [x]) [32] = Lib.join (a :: l) [32] ++ [32] ++ x := by
 have h : ∀ l : List (List UInt8),Lib.joinTail [32] (l ++ [x]) = Lib.joinTail [32] l ++ [32] ++ x := fun l => by
  induction l with
  | nil => simp [Lib.joinTail]
  | cons y r ih => rw [List.cons_append,joinTail_step,joinTail_step,ih];simp
 rw [List.cons_append,Lib.join_cons,Lib.join_cons,h]
 simp
theorem refTo_step (s : SetT) (k : Nat) (hk : k < s.lines.length) : ((⟨(refTo s k).toArray⟩ : ByteArray) ++ ⟨#[32]⟩) ++ itoaA s.lines[k] = ⟨(refTo s (k + 1)).toArray⟩ := by
 apply ba_inj
 unfold refTo linesW
 rw [take_snoc _ k hk,List.map_append,List.map_cons,List.map_nil]
 have e : toks (Wd.s ⟨twLines.toArray⟩ :: (List.map Wd.n (List.take k s.lines) ++ [Wd.n s.lines[k]])) = (twLines :: toks (List.map Wd.n (List.take k s.lines))) ++ [Lib.itoa s.lines[k]] := by
  simp [toks,Wd.tok]
 have e2 : toks (Wd.s ⟨twLines.toArray⟩ :: List.map Wd.n (List.take k s.lines)) = twLines :: toks (List.map Wd.n (List.take k s.lines)) := by simp [toks,Wd.tok]
 rw [e,e2,join_snoc]
 simp [itoaA]
theorem refTo_end (s : SetT) : (⟨(refTo s s.lines.length).toArray⟩ : ByteArray) ++ ⟨#[10]⟩ = txtB s 0 0 := by
 rw [← txt_start]
 apply ba_inj
 unfold refTo
 rw [List.take_length]
 simp [lineW,lineOf]
theorem refTo_size {s : SetT} (h : setB s = true) (k : Nat) : (⟨(refTo s k).toArray⟩ : ByteArray).size ≤ 100000 := by
 have h1 := lineW_le (head_ok h)
 have h2 := lineW_le (l := linesW (s.lines.take k)) (fun x hx => by
  have hx' : x ∈ linesW s.lines := by
   simp only [linesW,List.mem_cons,List.mem_map] at hx ⊢
   rcases hx with hx | ⟨n,hn,hx⟩
   ·exact .inl hx
   ·exact .inr ⟨n,List.mem_of_mem_take hn,hx⟩
  exact linesW_ok h x hx')
 have h3 : (lineW (linesW (s.lines.take k))).length = (Lib.join (toks (linesW (s.lines.take k))) [32]).length + 1 := by
  unfold lineW lineOf
  rw [List.length_append]
  rfl
 have h4 : (linesW (s.lines.take k)).length ≤ 11 := by
  have := (lines_facts h).1
  simp only [linesW,List.length_cons,List.length_map,List.length_take]
  omega
 have h5 : (headW s).length = 20 := rfl
 show (refTo s k).toArray.size ≤ _
 rw [List.size_toArray]
 unfold refTo
 rw [List.length_append]
 omega
set_option maxRecDepth 100000 in
set_option maxHeartbeats 8000000 in
theorem refText29 (v : Value) (s : SetT) (w : World) (hv : SetAt w w.heap.size v s) (hok : setB s = true) :
  Calls Tryz.prog 50 #[v] w fun e w' => e = .returned (.string ⟨(setText s).toArray⟩) ∧ Below w.heap.size w w' := by
 obtain ⟨Al,cl,Ai,ci,Ab,cb,rfl,hL,hI,hB⟩ := hv
 have HLn := Lib.hid hL
 have HIt := Lib.hid hI
 have HBk := Lib.hid hB
 have HOK := Lib.hid hok
 have HD := Lib.hid (Blk.new w 26 #[.string s.name,.int .i64 s.depth,.int .i64 s.low,.int .i64 s.high,.int .i64 s.len,.slice Al s.lines.length cl,.int .i64 s.pipe,.int .i64 s.arbor,.int .i64 s.purch,.int .i64 s.most,.int .i64 s.brake,.slice Ai s.items.length ci,.slice Ab s.bricks.length cb])
 have HB1 := Lib.hid ((Below.refl _ w).alloc (Nat.le_refl _) (.cells #[.string s.name,.int .i64 s.depth,.int .i64 s.low,.int .i64 s.high,.int .i64 s.len,.slice Al s.lines.length cl,.int .i64 s.pipe,.int .i64 s.arbor,.int .i64 s.purch,.int .i64 s.most,.int .i64 s.brake,.slice Ai s.items.length ci,.slice Ab s.bricks.length cb] 26))
 have hk := setB_ok hok
 have hNum := fun (x : Int) (h0 : 0 ≤ x) (h1 : x ≤ 1000000000000) W => refNumber x W h0 h1
 have q1 := hk.depth
 have q2 := hk.low
 have q4 := hk.len
 have q6 := hk.pipe
 have q7 := hk.arbor
 have q8 := hk.purch
 have q9 := hk.most
 have q10 := hk.brake
 have qn := name_size (setB_name hok)
 have b_depth : 0 ≤ s.depth ∧ s.depth ≤ 1000000000000 := by omega
 have b_low : 0 ≤ s.low ∧ s.low ≤ 1000000000000 := by omega
 have b_high : 0 ≤ s.high ∧ s.high ≤ 1000000000000 := by omega
 have b_len : 0 ≤ s.len ∧ s.len ≤ 1000000000000 := by omega
 have b_pipe : 0 ≤ s.pipe ∧ s.pipe ≤ 1000000000000 := by omega
 have b_arbor : 0 ≤ s.arbor ∧ s.arbor ≤ 1000000000000 := by omega
 have b_purch : 0 ≤ s.purch ∧ s.purch ≤ 1000000000000 := by omega
 have b_most : 0 ≤ s.most ∧ s.most ≤ 1000000000000 := by omega
 have b_brake : 0 ≤ s.brake ∧ s.brake ≤ 1000000000000 := by omega
 have l_depth := b_depth.1
 have u_depth := b_depth.2
 have l_low := b_low.1
 have u_low := b_low.2
 have l_high := b_high.1
 have u_high := b_high.2
 have l_len := b_len.1
 have u_len := b_len.2
 have l_pipe := b_pipe.1
 have u_pipe := b_pipe.2
 have l_arbor := b_arbor.1
 have u_arbor := b_arbor.2
 have l_purch := b_purch.1
 have u_purch := b_purch.2
 have l_most := b_most.1
 have u_most := b_most.2
 have l_brake := b_brake.1
 have u_brake := b_brake.2
 clear hL hI hB hok hk q1 q2 q4 q6 q7 q8 q9 q10
 obtain ⟨a1,ea1⟩ : ∃ c : ByteArray,c = ⟨#[115,101,116,32]⟩ ++ s.name := ⟨_,rfl⟩
 obtain ⟨hca1,za1⟩ := addB_step ea1 (by show (_ : Nat) ≤ 100;decide) (by omega)
 obtain ⟨a2,ea2⟩ : ∃ c : ByteArray,c = a1 ++ ⟨#[32,100,101,112,116,104,32]⟩ := ⟨_,rfl⟩
 obtain ⟨hca2,za2⟩ := addB_step ea2 za1 (by show (_ : Nat) ≤ 100;decide)
 obtain ⟨a3,ea3⟩ : ∃ c : ByteArray,c = a2 ++ itoaA s.depth := ⟨_,rfl⟩
 obtain ⟨hca3,za3⟩ := addB_step ea3 za2 (itoa_sizeR b_depth.1 b_depth.2)
 obtain ⟨a4,ea4⟩ : ∃ c : ByteArray,c = a3 ++ ⟨#[32,108,111,119,32]⟩ := ⟨_,rfl⟩
 obtain ⟨hca4,za4⟩ := addB_step ea4 za3 (by show (_ : Nat) ≤ 100;decide)
 obtain ⟨a5,ea5⟩ : ∃ c : ByteArray,c = a4 ++ itoaA s.low := ⟨_,rfl⟩
 obtain ⟨hca5,za5⟩ := addB_step ea5 za4 (itoa_sizeR b_low.1 b_low.2)
 obtain ⟨a6,ea6⟩ : ∃ c : ByteArray,c = a5 ++ ⟨#[32,104,105,103,104,32]⟩ := ⟨_,rfl⟩
 obtain ⟨hca6,za6⟩ := addB_step ea6 za5 (by show (_ : Nat) ≤ 100;decide)
 obtain ⟨a7,ea7⟩ : ∃ c : ByteArray,c = a6 ++ itoaA s.high := ⟨_,rfl⟩
 obtain ⟨hca7,za7⟩ := addB_step ea7 za6 (itoa_sizeR b_high.1 b_high.2)
 obtain ⟨a8,ea8⟩ : ∃ c : ByteArray,c = a7 ++ ⟨#[32,108,101,110,103,116,104,32]⟩ := ⟨_,rfl⟩
 obtain ⟨hca8,za8⟩ := addB_step ea8 za7 (by show (_ : Nat) ≤ 100;decide)
 obtain ⟨a9,ea9⟩ : ∃ c : ByteArray,c = a8 ++ itoaA s.len := ⟨_,rfl⟩
 obtain ⟨hca9,za9⟩ := addB_step ea9 za8 (itoa_sizeR b_len.1 b_len.2)
 obtain ⟨a10,ea10⟩ : ∃ c : ByteArray,c = a9 ++ ⟨#[32,112,105,112,101,32]⟩ := ⟨_,rfl⟩
 obtain ⟨hca10,za10⟩ := addB_step ea10 za9 (by show (_ : Nat) ≤ 100;decide)
 obtain ⟨a11,ea11⟩ : ∃ c : ByteArray,c = a10 ++ itoaA s.pipe := ⟨_,rfl⟩
 obtain ⟨hca11,za11⟩ := addB_step ea11 za10 (itoa_sizeR b_pipe.1 b_pipe.2)
 obtain ⟨a12,ea12⟩ : ∃ c : ByteArray,c = a11 ++ ⟨#[32,97,114,98,111,114,32]⟩ := ⟨_,rfl⟩
 obtain ⟨hca12,za12⟩ := addB_step ea12 za11 (by show (_ : Nat) ≤ 100;decide)
 obtain ⟨a13,ea13⟩ : ∃ c : ByteArray,c = a12 ++ itoaA s.arbor := ⟨_,rfl⟩
 obtain ⟨hca13,za13⟩ := addB_step ea13 za12 (itoa_sizeR b_arbor.1 b_arbor.2)
 obtain ⟨a14,ea14⟩ : ∃ c : ByteArray,c = a13 ++ ⟨#[32,112,117,114,99,104,97,115,101,32]⟩ := ⟨_,rfl⟩
 obtain ⟨hca14,za14⟩ := addB_step ea14 za13 (by show (_ : Nat) ≤ 100;decide)
 obtain ⟨a15,ea15⟩ : ∃ c : ByteArray,c = a14 ++ itoaA s.purch := ⟨_,rfl⟩
 obtain ⟨hca15,za15⟩ := addB_step ea15 za14 (itoa_sizeR b_purch.1 b_purch.2)
 obtain ⟨a16,ea16⟩ : ∃ c : ByteArray,c = a15 ++ ⟨#[32,109,111,115,116,32]⟩ := ⟨_,rfl⟩
 obtain ⟨hca16,za16⟩ := addB_step ea16 za15 (by show (_ : Nat) ≤ 100;decide)
 obtain ⟨a17,ea17⟩ : ∃ c : ByteArray,c = a16 ++ itoaA s.most := ⟨_,rfl⟩
 obtain ⟨hca17,za17⟩ := addB_step ea17 za16 (itoa_sizeR b_most.1 b_most.2)
 obtain ⟨a18,ea18⟩ : ∃ c : ByteArray,c = a17 ++ ⟨#[32,98,114,97,107,101,32]⟩ := ⟨_,rfl⟩
 obtain ⟨hca18,za18⟩ := addB_step ea18 za17 (by show (_ : Nat) ≤ 100;decide)
 obtain ⟨a19,ea19⟩ : ∃ c : ByteArray,c = a18 ++ itoaA s.brake := ⟨_,rfl⟩
 obtain ⟨hca19,za19⟩ := addB_step ea19 za18 (itoa_sizeR b_brake.1 b_brake.2)
 obtain ⟨a20,ea20⟩ : ∃ c : ByteArray,c = a19 ++ ⟨#[10,108,105,110,101,115]⟩ := ⟨_,rfl⟩
 obtain ⟨hca20,za20⟩ := addB_step ea20 za19 (by show (_ : Nat) ≤ 100;decide)
 have HA : Hid (a20 = ⟨(refTo s 0).toArray⟩) := by
  unfold Hid
  apply ba_inj
  rw [ea20,ea19,ea18,ea17,ea16,ea15,ea14,ea13,ea12,ea11,ea10,ea9,ea8,ea7,ea6,ea5,ea4,ea3,ea2,ea1]
  simp [refTo,lineW,lineOf,toks,headW,linesW,Wd.tok,Lib.join,twSet,twDepth,twLow,twHigh,twLength,twPipe,twArbor,twPurchase,twMost,twBrake,twLines,itoaA]
 clear ea1 ea2 ea3 ea4 ea5 ea6 ea7 ea8 ea9 ea10 ea11 ea12 ea13 ea14 ea15 ea16 ea17 ea18 ea19 ea20 za1 za2 za3 za4 za5 za6 za7 za8 za9 za10 za11 za12 za13 za14 za15 za16 za17 za18 za19 za20 b_depth b_low b_high b_len b_pipe b_arbor b_purch b_most b_brake qn
 unfold setVal
 go_enter Tryz.func50,Tryz.ntmps50
 go_upto_region 1 with fail
 generalize (w.alloc (.cells #[.string s.name,.int .i64 s.depth,.int .i64 s.low,.int .i64 s.high,.int .i64 s.len,.slice Al s.lines.length cl,.int .i64 s.pipe,.int .i64 s.arbor,.int .i64 s.purch,.int .i64 s.most,.int .i64 s.brake,.slice Ai s.items.length ci,.slice Ab s.bricks.length cb] 26)) = w1 at *
 have x0 := HD.out.cell 0
 have x1 := HD.out.cell 1
 have x2 := HD.out.cell 2
 have x3 := HD.out.cell 3
 have x4 := HD.out.cell 4
 have x6 := HD.out.cell 6
 have x7 := HD.out.cell 7
 have x8 := HD.out.cell 8
 have x9 := HD.out.cell 9
 have x10 := HD.out.cell 10
 simp only [List.getElem?_toArray,List.getElem?_cons_succ,List.getElem?_cons_zero] at x0 x1 x2 x3 x4 x6 x7 x8 x9 x10
 have p0 := HeldB.cell x0
 have p1 := HeldB.cell x1
 have p2 := HeldB.cell x2
 have p3 := HeldB.cell x3
 have p4 := HeldB.cell x4
 have p6 := HeldB.cell x6
 have p7 := HeldB.cell x7
 have p8 := HeldB.cell x8
 have p9 := HeldB.cell x9
 have p10 := HeldB.cell x10
 have hN := fun (x : Int) (h0 : 0 ≤ x) (h1 : x ≤ 1000000000000) y => HeldB.call (W := w1) (fun W _ => hNum x h0 h1 W) y
 clear x0 x1 x2 x3 x4 x6 x7 x8 x9 x10
 refine wp_region_heldb (by kernel_rfl) (by kernel_rfl) ?_
 repeat (go_big_quiet_step ((go_at_call 101;exact hN _ (by assumption) (by assumption) _)))
 refine wpQuiet_nil ?_
 rintro w2 ⟨⟨w2',hb2⟩,rfl⟩
 rw [HA.out]
 have HB2 := Lib.hid (HB1.out.trans (hb2.mono HB1.out.size))
 have HD2 := Lib.hid (HD.out.below hb2 HD.out.lt)
 clear hb2 HA HD p0 p1 p2 p3 p4 p6 p7 p8 p9 p10 hca1 hca2 hca3 hca4 hca5 hca6 hca7 hca8 hca9 hca10 hca11 hca12 hca13 hca14 hca15 hca16 hca17 hca18 hca19 hca20 l_depth u_depth l_low u_low l_high u_high l_len u_len l_pipe u_pipe l_arbor u_arbor l_purch u_purch l_most u_most l_brake u_brake hN
 obtain ⟨ll1,lm1,hl1⟩ := lines_open (RowAt.below HLn.out HB2.out (Nat.le_refl _))
 have HLL := Lib.hid hl1
 unfold maxLen at lm1
 clear hl1
 have hl10 := (lines_facts HOK.out).1
 have y5 := HD2.out.cell 5
 simp only [List.getElem?_toArray,List.getElem?_cons_succ,List.getElem?_cons_zero] at y5
 go_wp2_with fail
 go_loopw [3,4] (fun tv ix wr => ∃ k : Nat,k ≤ s.lines.length ∧ ix = .int .i64 k ∧ tv = .string ⟨(refTo s k).toArray⟩ ∧ Below w2.heap.size w2 wr) (fun _ ix _ => s.lines.length - (intOf ix).toNat)
 case atStart => exact ⟨0,Nat.zero_le _,rfl,rfl,Below.refl _ _⟩
 case round =>
  obtain ⟨k,hk,rfl,rfl,hbel⟩ := hrel
  clear y5
  have HDr := HD2.out.below hbel HD2.out.lt
  have y5 := HDr.cell 5
  simp only [List.getElem?_toArray,List.getElem?_cons_succ,List.getElem?_cons_zero] at y5
  by_cases hkl : k < s.lines.length
  ·obtain ⟨b,off,rfl,hb,hx⟩ := HLL.out k hkl
   have y0 := (hbel.cell (p := ⟨b,off + k,none⟩) (Nat.lt_of_lt_of_le hb (by have := HB2.out.size;omega))).trans (hx k hkl)
   have hlx := (lines_facts HOK.out).2 _ (List.getElem_mem hkl)
   have HR := Lib.hid (refTo_step s k hkl)
   have hz : (⟨(refTo s k).toArray⟩ : ByteArray).size ≤ 100000 := refTo_size HOK.out k
   generalize (⟨(refTo s k).toArray⟩ : ByteArray) = tk at *
   have hN := hNum s.lines[k] hlx.1 (by omega)
   have zi := itoa_sizeR hlx.1 (by omega : s.lines[k] ≤ 1000000000000)
   obtain ⟨c1,ec1⟩ : ∃ c : ByteArray,c = tk ++ ⟨#[32]⟩ := ⟨_,rfl⟩
   obtain ⟨hc1,zc1⟩ := addB_step ec1 hz (by show (_ : Nat) ≤ 100;decide)
   obtain ⟨c2,ec2⟩ : ∃ c : ByteArray,c = c1 ++ itoaA s.lines[k] := ⟨_,rfl⟩
   obtain ⟨hc2,zc2⟩ := addB_step ec2 zc1 zi
   have HE : Hid (c2 = ⟨(refTo s (k + 1)).toArray⟩) := by unfold Hid;rw [ec2,ec1];exact HR.out
   have HB := Lib.hid hbel
   clear ec1 ec2 zc1 zc2 HR hx hbel hz zi hlx
   generalize s.lines[k] = ln at *
   go_wp2_with fail
   refine (hN wr).mono ?_
   rintro e w3 ⟨rfl,hb3⟩
   have HB3 := Lib.hid (HB.out.trans (hb3.mono HB.out.size))
   clear hb3 hN HB y0 y5 HDr
   go_wp2_with fail
   go_roundw
   case rel => exact ⟨k + 1,by omega,by go_num,by rw [HE.out],HB3.out⟩
   case measure => simp [intOf];omega
  ·obtain rfl : k = s.lines.length := by omega
   have HZ : Hid ((⟨(refTo s s.lines.length).toArray⟩ : ByteArray) ++ ⟨#[10]⟩ = txtB s 0 0) := refTo_end s
   have hz : (⟨(refTo s s.lines.length).toArray⟩ : ByteArray).size ≤ 100000 := refTo_size HOK.out _
   generalize (⟨(refTo s s.lines.length).toArray⟩ : ByteArray) = tk at *
   obtain ⟨c1,ec1⟩ : ∃ c : ByteArray,c = tk ++ ⟨#[10]⟩ := ⟨_,rfl⟩
   obtain ⟨hc1,zc1⟩ := addB_step ec1 hz (by show (_ : Nat) ≤ 100;decide)
   have HE : Hid (c1 = txtB s 0 0) := by unfold Hid;rw [ec1];exact HZ.out
   have HB3 := Lib.hid (HB2.out.trans (hbel.mono HB2.out.size))
   have HD3 := Lib.hid HDr
   clear ec1 zc1 HZ hbel hz HB2 HD2 HDr HLL hl10
   obtain ⟨_,_,e,li,im,hi⟩ := (HIt.out.below HB3.out (Nat.le_refl _)).open_
   injection e with e1 _ e2
   subst e1 e2
   have HII := Lib.hid hi
   unfold maxLen at im
   clear hi
   have y11 := HD3.out.cell 11
   simp only [List.getElem?_toArray,List.getElem?_cons_succ,List.getElem?_cons_zero] at y11
   go_wp2_with fail
   rw [HE.out]
   clear HE hc1
   go_loopw [3,5] (fun tv ix wq => ∃ k : Nat,k ≤ s.items.length ∧ ix = .int .i64 k ∧ tv = .string (txtB s k 0) ∧ Below wr.heap.size wr wq) (fun _ ix _ => s.items.length - (intOf ix).toNat)
   case atStart => exact ⟨0,Nat.zero_le _,rfl,rfl,Below.refl _ _⟩
   case round =>
    obtain ⟨k,hk,rfl,rfl,hbel⟩ := hrel
    clear y11
    have HDr := HD3.out.below hbel HD3.out.lt
    have y11 := HDr.cell 11
    simp only [List.getElem?_toArray,List.getElem?_cons_succ,List.getElem?_cons_zero] at y11
    by_cases hkl : k < s.items.length
    ·obtain ⟨b,off,rfl,hb,hx⟩ := HII.out k hkl
     obtain ⟨v0,v1,v2,v3,v4,v5,v6⟩ := hx k hkl
     replace v0 := (hbel.cell (Nat.lt_of_lt_of_le hb (by have := HB3.out.size;omega))).trans v0
     replace v1 := (hbel.cell (Nat.lt_of_lt_of_le hb (by have := HB3.out.size;omega))).trans v1
     replace v2 := (hbel.cell (Nat.lt_of_lt_of_le hb (by have := HB3.out.size;omega))).trans v2
     replace v3 := (hbel.cell (Nat.lt_of_lt_of_le hb (by have := HB3.out.size;omega))).trans v3
     replace v4 := (hbel.cell (Nat.lt_of_lt_of_le hb (by have := HB3.out.size;omega))).trans v4
     replace v5 := (hbel.cell (Nat.lt_of_lt_of_le hb (by have := HB3.out.size;omega))).trans v5
     replace v6 := (hbel.cell (Nat.lt_of_lt_of_le hb (by have := HB3.out.size;omega))).trans v6
     obtain ⟨f1,f2⟩ := (setB_ok HOK.out).wts.2 _ (List.getElem_mem hkl)
     have nn := name_size (alone_name f1)
     have f3 := inside_ok f2
     have f4 := (setB_ok HOK.out).len
     have f5 := alone_all f1
     have f6 := alone_wtB f1
     have n_pos : 0 ≤ s.items[k].pos ∧ s.items[k].pos ≤ 1000000000000 := by omega
     have n_width : 0 ≤ s.items[k].width ∧ s.items[k].width ≤ 1000000000000 := by omega
     have n_wt : 0 ≤ s.items[k].wt ∧ s.items[k].wt ≤ 1000000000000 := by omega
     have n_hang : 0 ≤ s.items[k].hang ∧ s.items[k].hang ≤ 1000000000000 := by omega
     have n_front : 0 ≤ s.items[k].front ∧ s.items[k].front ≤ 1000000000000 := by omega
     have n_back : 0 ≤ s.items[k].back ∧ s.items[k].back ≤ 1000000000000 := by omega
     clear f1 f2 f3 f4 f5 f6
     have HT := Lib.hid (txt_item s k hkl)
     have hz : (txtB s k 0).size ≤ 100000 := txtB_size HOK.out (by omega) (Nat.zero_le _)
     generalize (txtB s k 0) = tk at *
     generalize s.items[k] = x at *
     have ha := (Below.refl _ wr).alloc (Nat.le_refl _) (.cells #[.string x.name,.int .i64 x.pos,.int .i64 x.width,.int .i64 x.wt,.int .i64 x.hang,.int .i64 x.front,.int .i64 x.back] 47)
     have HBa := Lib.hid (hbel.trans (ha.mono hbel.size))
     have HX := Lib.hid (Blk.new wr 47 #[.string x.name,.int .i64 x.pos,.int .i64 x.width,.int .i64 x.wt,.int .i64 x.hang,.int .i64 x.front,.int .i64 x.back])
     obtain ⟨d1,ed1⟩ : ∃ c : ByteArray,c = tk ++ ⟨#[105,116,101,109,32]⟩ := ⟨_,rfl⟩
     obtain ⟨hcd1,zd1⟩ := addB_step ed1 hz (by show (_ : Nat) ≤ 100;decide)
     obtain ⟨d2,ed2⟩ : ∃ c : ByteArray,c = d1 ++ x.name := ⟨_,rfl⟩
     obtain ⟨hcd2,zd2⟩ := addB_step ed2 zd1 (by omega)
     obtain ⟨d3,ed3⟩ : ∃ c : ByteArray,c = d2 ++ ⟨#[32,97,116,32]⟩ := ⟨_,rfl⟩
     obtain ⟨hcd3,zd3⟩ := addB_step ed3 zd2 (by show (_ : Nat) ≤ 100;decide)
     obtain ⟨d4,ed4⟩ : ∃ c : ByteArray,c = d3 ++ itoaA x.pos := ⟨_,rfl⟩
     obtain ⟨hcd4,zd4⟩ := addB_step ed4 zd3 (itoa_sizeR n_pos.1 n_pos.2)
     obtain ⟨d5,ed5⟩ : ∃ c : ByteArray,c = d4 ++ ⟨#[32,119,105,100,116,104,32]⟩ := ⟨_,rfl⟩
     obtain ⟨hcd5,zd5⟩ := addB_step ed5 zd4 (by show (_ : Nat) ≤ 100;decide)
     obtain ⟨d6,ed6⟩ : ∃ c : ByteArray,c = d5 ++ itoaA x.width := ⟨_,rfl⟩
     obtain ⟨hcd6,zd6⟩ := addB_step ed6 zd5 (itoa_sizeR n_width.1 n_width.2)
     obtain ⟨d7,ed7⟩ : ∃ c : ByteArray,c = d6 ++ ⟨#[32,119,101,105,103,104,116,32]⟩ := ⟨_,rfl⟩
     obtain ⟨hcd7,zd7⟩ := addB_step ed7 zd6 (by show (_ : Nat) ≤ 100;decide)
     obtain ⟨d8,ed8⟩ : ∃ c : ByteArray,c = d7 ++ itoaA x.wt := ⟨_,rfl⟩
     obtain ⟨hcd8,zd8⟩ := addB_step ed8 zd7 (itoa_sizeR n_wt.1 n_wt.2)
     obtain ⟨d9,ed9⟩ : ∃ c : ByteArray,c = d8 ++ ⟨#[32,104,97,110,103,32]⟩ := ⟨_,rfl⟩
     obtain ⟨hcd9,zd9⟩ := addB_step ed9 zd8 (by show (_ : Nat) ≤ 100;decide)
     obtain ⟨d10,ed10⟩ : ∃ c : ByteArray,c = d9 ++ itoaA x.hang := ⟨_,rfl⟩
     obtain ⟨hcd10,zd10⟩ := addB_step ed10 zd9 (itoa_sizeR n_hang.1 n_hang.2)
     obtain ⟨d11,ed11⟩ : ∃ c : ByteArray,c = d10 ++ ⟨#[32,102,114,111,110,116,32]⟩ := ⟨_,rfl⟩
     obtain ⟨hcd11,zd11⟩ := addB_step ed11 zd10 (by show (_ : Nat) ≤ 100;decide)
     obtain ⟨d12,ed12⟩ : ∃ c : ByteArray,c = d11 ++ itoaA x.front := ⟨_,rfl⟩
     obtain ⟨hcd12,zd12⟩ := addB_step ed12 zd11 (itoa_sizeR n_front.1 n_front.2)
     obtain ⟨d13,ed13⟩ : ∃ c : ByteArray,c = d12 ++ ⟨#[32,98,97,99,107,32]⟩ := ⟨_,rfl⟩
     obtain ⟨hcd13,zd13⟩ := addB_step ed13 zd12 (by show (_ : Nat) ≤ 100;decide)
     obtain ⟨d14,ed14⟩ : ∃ c : ByteArray,c = d13 ++ itoaA x.back := ⟨_,rfl⟩
     obtain ⟨hcd14,zd14⟩ := addB_step ed14 zd13 (itoa_sizeR n_back.1 n_back.2)
     obtain ⟨d15,ed15⟩ : ∃ c : ByteArray,c = d14 ++ ⟨#[10]⟩ := ⟨_,rfl⟩
     obtain ⟨hcd15,zd15⟩ := addB_step ed15 zd14 (by show (_ : Nat) ≤ 100;decide)
     have l_pos := n_pos.1
     have u_pos := n_pos.2
     have l_width := n_width.1
     have u_width := n_width.2
     have l_wt := n_wt.1
     have u_wt := n_wt.2
     have l_hang := n_hang.1
     have u_hang := n_hang.2
     have l_front := n_front.1
     have u_front := n_front.2
     have l_back := n_back.1
     have u_back := n_back.2
     have HE : Hid (d15 = txtB s (k + 1) 0) := by
      unfold Hid
      rw [← HT.out]
      apply ba_inj
      rw [ed15,ed14,ed13,ed12,ed11,ed10,ed9,ed8,ed7,ed6,ed5,ed4,ed3,ed2,ed1]
      simp [lineW,lineOf,toks,itemW,Wd.tok,Lib.join,twItem,twAt,twWidth,twWeight,twHang,twFront,twBack,itoaA]
     clear ed1 ed2 ed3 ed4 ed5 ed6 ed7 ed8 ed9 ed10 ed11 ed12 ed13 ed14 ed15 zd1 zd2 zd3 zd4 zd5 zd6 zd7 zd8 zd9 zd10 zd11 zd12 zd13 zd14 zd15 n_pos n_width n_wt n_hang n_front n_back HT hz hx ha nn hbel
     go_upto_region 11 with fail
     clear v0 v1 v2 v3 v4 v5 v6 y11 HDr
     generalize (wr.alloc (.cells #[.string x.name,.int .i64 x.pos,.int .i64 x.width,.int .i64 x.wt,.int .i64 x.hang,.int .i64 x.front,.int .i64 x.back] 47)) = w4 at *
     generalize wr.heap.size = g4 at *
     have x0 := HX.out.cell 0
     have x1 := HX.out.cell 1
     have x2 := HX.out.cell 2
     have x3 := HX.out.cell 3
     have x4 := HX.out.cell 4
     have x5 := HX.out.cell 5
     have x6 := HX.out.cell 6
     simp only [List.getElem?_toArray,List.getElem?_cons_succ,List.getElem?_cons_zero] at x0 x1 x2 x3 x4 x5 x6
     have p0 := HeldB.cell x0
     have p1 := HeldB.cell x1
     have p2 := HeldB.cell x2
     have p3 := HeldB.cell x3
     have p4 := HeldB.cell x4
     have p5 := HeldB.cell x5
     have p6 := HeldB.cell x6
     have hN := fun (x : Int) (h0 : 0 ≤ x) (h1 : x ≤ 1000000000000) y => HeldB.call (W := w4) (fun W _ => hNum x h0 h1 W) y
     clear x0 x1 x2 x3 x4 x5 x6
     refine wp_region_heldb (by kernel_rfl) (by kernel_rfl) ?_
     repeat (go_big_quiet_step ((go_at_call 101;exact hN _ (by assumption) (by assumption) _)))
     refine wpQuiet_nil ?_
     rintro _ ⟨⟨w5,hb5⟩,rfl⟩
     have HB5 := Lib.hid (HBa.out.trans (hb5.mono HBa.out.size))
     clear hb5 HBa HX p0 p1 p2 p3 p4 p5 p6 hcd1 hcd2 hcd3 hcd4 hcd5 hcd6 hcd7 hcd8 hcd9 hcd10 hcd11 hcd12 hcd13 hcd14 hcd15 l_pos u_pos l_width u_width l_wt u_wt l_hang u_hang l_front u_front l_back u_back hN
     go_wp2_with fail
     go_roundw
     case rel => exact ⟨k + 1,by omega,by go_num,by rw [HE.out],HB5.out⟩
     case measure => simp [intOf];omega
    ·obtain rfl : k = s.items.length := by omega
     have HB6 := Lib.hid (HB3.out.trans (hbel.mono HB3.out.size))
     have HD6 := Lib.hid HDr
     clear hbel HDr HII
     obtain ⟨_,_,e,lb,bm,hbk⟩ := (HBk.out.below HB6.out (Nat.le_refl _)).open_
     injection e with e1 _ e2
     subst e1 e2
     have HBB := Lib.hid hbk
     unfold maxLen at bm
     clear hbk HB3 HD3
     have y12 := HD6.out.cell 12
     simp only [List.getElem?_toArray,List.getElem?_cons_succ,List.getElem?_cons_zero] at y12
     go_wp2_with fail
     go_loopw [3,7] (fun tv ix wq => ∃ k : Nat,k ≤ s.bricks.length ∧ ix = .int .i64 k ∧ tv = .string (txtB s s.items.length k) ∧ Below wr.heap.size wr wq) (fun _ ix _ => s.bricks.length - (intOf ix).toNat)
     case atStart => exact ⟨0,Nat.zero_le _,rfl,rfl,Below.refl _ _⟩
     case round =>
      obtain ⟨k,hk,rfl,rfl,hbel⟩ := hrel
      clear y12
      have HDr := HD6.out.below hbel HD6.out.lt
      have y12 := HDr.cell 12
      simp only [List.getElem?_toArray,List.getElem?_cons_succ,List.getElem?_cons_zero] at y12
      by_cases hkl : k < s.bricks.length
      ·obtain ⟨b,off,rfl,hb,hx⟩ := HBB.out k hkl
       obtain ⟨v0,v1,v2⟩ := hx k hkl
       replace v0 := (hbel.cell (Nat.lt_of_lt_of_le hb (by have := HB6.out.size;omega))).trans v0
       replace v1 := (hbel.cell (Nat.lt_of_lt_of_le hb (by have := HB6.out.size;omega))).trans v1
       replace v2 := (hbel.cell (Nat.lt_of_lt_of_le hb (by have := HB6.out.size;omega))).trans v2
       obtain ⟨f1,f2,f3⟩ := brick_facts ((bricks_facts HOK.out).2 _ (List.getElem_mem hkl))
       have nn := name_size f1
       have n_wt : 0 ≤ s.bricks[k].wt ∧ s.bricks[k].wt ≤ 1000000000000 := by omega
       have n_cnt : 0 ≤ s.bricks[k].cnt ∧ s.bricks[k].cnt ≤ 1000000000000 := by omega
       clear f1 f2 f3
       have HT := Lib.hid (txt_brick s s.items.length k hkl)
       have hz : (txtB s s.items.length k).size ≤ 100000 := txtB_size HOK.out (Nat.le_refl _) (by omega)
       generalize (txtB s s.items.length k) = tk at *
       generalize s.bricks[k] = x at *
       have ha := (Below.refl _ wr).alloc (Nat.le_refl _) (.cells #[.string x.name,.int .i64 x.wt,.int .i64 x.cnt] 49)
       have HBa := Lib.hid (hbel.trans (ha.mono hbel.size))
       have HX := Lib.hid (Blk.new wr 49 #[.string x.name,.int .i64 x.wt,.int .i64 x.cnt])
       obtain ⟨d1,ed1⟩ : ∃ c : ByteArray,c = tk ++ ⟨#[98,114,105,99,107,32]⟩ := ⟨_,rfl⟩
       obtain ⟨hcd1,zd1⟩ := addB_step ed1 hz (by show (_ : Nat) ≤ 100;decide)
       obtain ⟨d2,ed2⟩ : ∃ c : ByteArray,c = d1 ++ x.name := ⟨_,rfl⟩
       obtain ⟨hcd2,zd2⟩ := addB_step ed2 zd1 (by omega)
       obtain ⟨d3,ed3⟩ : ∃ c : ByteArray,c = d2 ++ ⟨#[32,119,101,105,103,104,116,32]⟩ := ⟨_,rfl⟩
       obtain ⟨hcd3,zd3⟩ := addB_step ed3 zd2 (by show (_ : Nat) ≤ 100;decide)
       obtain ⟨d4,ed4⟩ : ∃ c : ByteArray,c = d3 ++ itoaA x.wt := ⟨_,rfl⟩
       obtain ⟨hcd4,zd4⟩ := addB_step ed4 zd3 (itoa_sizeR n_wt.1 n_wt.2)
       obtain ⟨d5,ed5⟩ : ∃ c : ByteArray,c = d4 ++ ⟨#[32,99,111,117,110,116,32]⟩ := ⟨_,rfl⟩
       obtain ⟨hcd5,zd5⟩ := addB_step ed5 zd4 (by show (_ : Nat) ≤ 100;decide)
       obtain ⟨d6,ed6⟩ : ∃ c : ByteArray,c = d5 ++ itoaA x.cnt := ⟨_,rfl⟩
       obtain ⟨hcd6,zd6⟩ := addB_step ed6 zd5 (itoa_sizeR n_cnt.1 n_cnt.2)
       obtain ⟨d7,ed7⟩ : ∃ c : ByteArray,c = d6 ++ ⟨#[10]⟩ := ⟨_,rfl⟩
       obtain ⟨hcd7,zd7⟩ := addB_step ed7 zd6 (by show (_ : Nat) ≤ 100;decide)
       have l_wt := n_wt.1
       have u_wt := n_wt.2
       have l_cnt := n_cnt.1
       have u_cnt := n_cnt.2
       have HE : Hid (d7 = txtB s s.items.length (k + 1)) := by
        unfold Hid
        rw [← HT.out]
        apply ba_inj
        rw [ed7,ed6,ed5,ed4,ed3,ed2,ed1]
        simp [lineW,lineOf,toks,brickWd,Wd.tok,Lib.join,twWeight,twBrick,twCount,itoaA]
       clear ed1 ed2 ed3 ed4 ed5 ed6 ed7 zd1 zd2 zd3 zd4 zd5 zd6 zd7 n_wt n_cnt HT hz hx ha nn hbel
       go_upto_region 16 with fail
       clear v0 v1 v2 y12 HDr
       generalize (wr.alloc (.cells #[.string x.name,.int .i64 x.wt,.int .i64 x.cnt] 49)) = w4 at *
       generalize wr.heap.size = g4 at *
       have x0 := HX.out.cell 0
       have x1 := HX.out.cell 1
       have x2 := HX.out.cell 2
       simp only [List.getElem?_toArray,List.getElem?_cons_succ,List.getElem?_cons_zero] at x0 x1 x2
       have p0 := HeldB.cell x0
       have p1 := HeldB.cell x1
       have p2 := HeldB.cell x2
       have hN := fun (x : Int) (h0 : 0 ≤ x) (h1 : x ≤ 1000000000000) y => HeldB.call (W := w4) (fun W _ => hNum x h0 h1 W) y
       clear x0 x1 x2
       refine wp_region_heldb (by kernel_rfl) (by kernel_rfl) ?_
       repeat (go_big_quiet_step ((go_at_call 101;exact hN _ (by assumption) (by assumption) _)))
       refine wpQuiet_nil ?_
       rintro _ ⟨⟨w5,hb5⟩,rfl⟩
       have HB5 := Lib.hid (HBa.out.trans (hb5.mono HBa.out.size))
       clear hb5 HBa HX p0 p1 p2 hcd1 hcd2 hcd3 hcd4 hcd5 hcd6 hcd7 l_wt u_wt l_cnt u_cnt hN
       go_wp2_with fail
       go_roundw
       case rel => exact ⟨k + 1,by omega,by go_num,by rw [HE.out],HB5.out⟩
       case measure => simp [intOf];omega
      ·obtain rfl : k = s.bricks.length := by omega
       have HB7 := Lib.hid (HB6.out.trans (hbel.mono HB6.out.size))
       clear hbel HDr
       go_wp2_with fail
       go_ret
       refine ⟨?_,HB7.out⟩
       rw [← textTo_all]
       rfl
end Go.Proofs.YtbhmkcjddpniiaaGreatDoor
