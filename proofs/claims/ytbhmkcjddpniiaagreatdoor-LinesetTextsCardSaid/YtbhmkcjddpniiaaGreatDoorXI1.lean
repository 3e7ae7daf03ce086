/- Parts of the proof, laid into one text: TextP, TxtA, Line, TextF, Text. -/
import Derived.BigQuiet
import Derived.Deep.AppendLies
import Derived.Deep.Draws
import Derived.Deep.LoopGhost
import Derived.Deep.QuietTactic
import Derived.IntWalk
import Derived.Laws.Bits64b
import Derived.Laws.Concat
import Derived.Lib.AppendIntMem
import Derived.Lib.Hide
import Derived.Lib.ItoaLen
import Derived.Lib.ItoaMem
import Derived.Lib.Join
import Derived.Lib.SmallJoins
import Derived.LoopIn
import Derived.LoopNIn
import Derived.Maps.AppendAt
import Derived.Maps.Own
import Derived.Maps.OwnOps
import Derived.Maps.OwnSet
import Derived.Maps.Views
import Derived.Outline
import Derived.OwnWalkIn
import Derived.PlainAid
import Derived.RangeFuncBox
import Derived.RangeFuncLeaves
import Derived.Shelf.Abstract
import Derived.Shelf.Bits.Mul64
import Derived.Shelf.Strconv.Itoa3
import Derived.Shelf.Strings.Count
import Derived.Shelf.Strings.OnBuilder
import Derived.Shelf.Strings.Prefix
import Derived.StillTail
import Derived.StillTailTactics
import Derived.TacticsInMore
import Derived.Test.YtbhmkcjddpniiaaGreatDoorProg
import Derived.Test.YtbhmkcjddpniiaaGreatDoorXC1
import Derived.Test.YtbhmkcjddpniiaaGreatDoorXC2
import Derived.Test.YtbhmkcjddpniiaaGreatDoorXC3
import Derived.Test.YtbhmkcjddpniiaaGreatDoorXC4
import Derived.Test.YtbhmkcjddpniiaaGreatDoorXC6
import Derived.Test.YtbhmkcjddpniiaaGreatDoorXC7
import Derived.Test.YtbhmkcjddpniiaaGreatDoorXD1
import Derived.Test.YtbhmkcjddpniiaaGreatDoorXD2
import Derived.Test.YtbhmkcjddpniiaaGreatDoorXD3
import Derived.Test.YtbhmkcjddpniiaaGreatDoorXD4
import Derived.Test.YtbhmkcjddpniiaaGreatDoorXD5
import Derived.Test.YtbhmkcjddpniiaaGreatDoorXG1
import Derived.WalkKit
import Derived.WalkLawsBesides
import Derived.WalkSpells

namespace Go.Proofs.YtbhmkcjddpniiaaGreatDoor
open Go.RowKit Go.Shelf
inductive Wd where
 | s (b : ByteArray)
 | n (i : Int)
def Wd.tok : Wd → List UInt8
 | .s b => b.data.toList
 | .n i => Lib.itoa i
def lineOf (l : List (List UInt8)) : List UInt8 := Lib.join l [32] ++ [10]
theorem joinTail_step (y : List UInt8) (r : List (List UInt8)) : Lib.joinTail [32] (y :: r) = 32 :: (y ++ Lib.joinTail [32] r) := by
 simp [Lib.joinTail]
def textOf (L : List (List (List UInt8))) : List UInt8 := L.flatMap lineOf
def twSet : List UInt8 := [115,101,116]
def twDepth : List UInt8 := [100,101,112,116,104]
def twLow : List UInt8 := [108,111,119]
def twHigh : List UInt8 := [104,105,103,104]
def twLength : List UInt8 := [108,101,110,103,116,104]
def twPipe : List UInt8 := [112,105,112,101]
def twArbor : List UInt8 := [97,114,98,111,114]
def twPurchase : List UInt8 := [112,117,114,99,104,97,115,101]
def twMost : List UInt8 := [109,111,115,116]
def twBrake : List UInt8 := [98,114,97,107,101]
def twLines : List UInt8 := [108,105,110,101,115]
def twItem : List UInt8 := [105,116,101,109]
def twAt : List UInt8 := [97,116]
def twWidth : List UInt8 := [119,105,100,116,104]
def twWeight : List UInt8 := [119,101,105,103,104,116]
def twHang : List UInt8 := [104,97,110,103]
def twFront : List UInt8 := [102,114,111,110,116]
def twBack : List UInt8 := [98,97,99,107]
def twBrick : List UInt8 := [98,114,105,99,107]
def twCount : List UInt8 := [99,111,117,110,116]
def headW (s : SetT) : List Wd := [.s ⟨twSet.toArray⟩,.s s.name,.s ⟨twDepth.toArray⟩,.n s.depth,.s ⟨twLow.toArray⟩,.n s.low,.s ⟨twHigh.toArray⟩,.n s.high,.s ⟨twLength.toArray⟩,.n s.len,.s ⟨twPipe.toArray⟩,.n s.pipe,.s ⟨twArbor.toArray⟩,.n s.arbor,.s ⟨twPurchase.toArray⟩,.n s.purch,.s ⟨twMost.toArray⟩,.n s.most,.s ⟨twBrake.toArray⟩,.n s.brake]
def linesW (l : List Int) : List Wd := .s ⟨twLines.toArray⟩ :: l.map .n
def itemW (x : ItemT) : List Wd := [.s ⟨twItem.toArray⟩,.s x.name,.s ⟨twAt.toArray⟩,.n x.pos,.s ⟨twWidth.toArray⟩,.n x.width,.s ⟨twWeight.toArray⟩,.n x.wt,.s ⟨twHang.toArray⟩,.n x.hang,.s ⟨twFront.toArray⟩,.n x.front,.s ⟨twBack.toArray⟩,.n x.back]
def brickWd (x : BrickT) : List Wd := [.s ⟨twBrick.toArray⟩,.s x.name,.s ⟨twWeight.toArray⟩,.n x.wt,.s ⟨twCount.toArray⟩,.n x.cnt]
def toks (l : List Wd) : List (List UInt8) := l.map Wd.tok
def lineW (l : List Wd) : List UInt8 := lineOf (toks l)
def setLs (s : SetT) : List (List (List UInt8)) := toks (headW s) :: toks (linesW s.lines) :: (s.items.map (fun x => toks (itemW x)) ++ s.bricks.map (fun x => toks (brickWd x)))
def setText (s : SetT) : List UInt8 := textOf (setLs s)
theorem ba_inj {a b : ByteArray} (h : a.data.toList = b.data.toList) : a = b := by
 cases a;cases b
 simpa using h
end Go.Proofs.YtbhmkcjddpniiaaGreatDoor

namespace Go.Proofs.YtbhmkcjddpniiaaGreatDoor
open Go.RowKit Go.Shelf
theorem itoaLaysM : LaysM.n171 Tryz.prog itoaRen := { itoaLays with
 i0 := by kernel_rfl
 i2 := by kernel_rfl
 i3 := by kernel_rfl
 i4 := by kernel_rfl
 i5 := by kernel_rfl
 i9 := by kernel_rfl
 i20 := by kernel_rfl
 i37 := by kernel_rfl
 i46 := by kernel_rfl
 i51 := by kernel_rfl
 i53 := by kernel_rfl
 i171 := by kernel_rfl
 i173 := by kernel_rfl
 i212 := by kernel_rfl
 i232 := by kernel_rfl
 i233 := by kernel_rfl
 m17 := by kernel_rfl
 m18 := by kernel_rfl
 m19 := by kernel_rfl }
def Tab (w : World) : Prop := Lib.TabIs Tryz.prog w "internal/strconv.uint64pow10" .u64 Lib.pow10Tab
theorem Tab.below {w w' : World} (h : Tab w) (hb : Below w.heap.size w w') : Tab w' := Joins.tab_stays itoaLaysM.m17 h hb (Nat.le_refl _)
def itoaA (n : Int) : ByteArray := ⟨(Lib.itoa n).toArray⟩
theorem itoaAll (n : Int) (h0 : -9223372036854775808 ≤ n) (h1 : n ≤ 9223372036854775807) (w : World) (ht : Tab w) :
  Calls Tryz.prog 57 #[.int .i64 n] w fun e w' => e = .returned (.string (itoaA n)) ∧ Below w.heap.size w w' :=
 (Any.strconv_Itoa itoaLaysM n h0 h1 w ht).mono fun _ _ ⟨he,k,os,hw⟩ => ⟨he,hw ▸ Lib.below_grow w.heap.size w (Nat.le_refl _) k os⟩
def joinRen : Ren := ⟨fun | 156 => 150 | 165 => 184 | 166 => 185 | 169 => 186 | 240 => 221 | 241 => 222 | 276 => 246 | 277 => 247 | n => n,fun | 0 => 0 | 3 => 3 | 4 => 4 | 9 => 9 | 20 => 20 | 31 => 58 | 37 => 221 | 70 => 220 | 72 => 223 | 75 => 226 | 76 => 227 | 127 => 257 | 164 => 274 | 80 => 229 | n => n,fun n => n⟩
theorem joinLays : Lays.n156 Tryz.prog joinRen := {
 mixed := by kernel_rfl
 f156 := Tryz.func150.trans (congrArg some (by kernel_rfl))
 f165 := Tryz.func184.trans (congrArg some (by kernel_rfl))
 f166 := Tryz.func185.trans (congrArg some (by kernel_rfl))
 f169 := Tryz.func186.trans (congrArg some (by kernel_rfl))
 f240 := Tryz.func221.trans (congrArg some (by kernel_rfl))
 f241 := Tryz.func222.trans (congrArg some (by kernel_rfl))
 f276 := Tryz.func246.trans (congrArg some (by kernel_rfl))
 f277 := Tryz.func247.trans (congrArg some (by kernel_rfl))
 t0 := Tryz.underlying0
 a0 := Tryz.isAgg0
 z0 := Tryz.sizeOf0
 v0 := Tryz.zeroValue0
 t3 := Tryz.underlying3
 a3 := Tryz.isAgg3
 z3 := Tryz.sizeOf3
 v3 := Tryz.zeroValue3
 t4 := Tryz.underlying4
 a4 := Tryz.isAgg4
 z4 := Tryz.sizeOf4
 v4 := Tryz.zeroValue4
 t9 := Tryz.underlying9
 a9 := Tryz.isAgg9
 z9 := Tryz.sizeOf9
 v9 := Tryz.zeroValue9
 t20 := Tryz.underlying20
 a20 := Tryz.isAgg20
 z20 := Tryz.sizeOf20
 v20 := Tryz.zeroValue20
 t31 := Tryz.underlying58
 a31 := Tryz.isAgg58
 z31 := Tryz.sizeOf58
 v31 := Tryz.zeroValue58
 t37 := Tryz.underlying221
 a37 := Tryz.isAgg221
 z37 := Tryz.sizeOf221
 v37 := Tryz.zeroValue221
 t70 := Tryz.underlying220
 a70 := Tryz.isAgg220
 z70 := Tryz.sizeOf220
 v70 := Tryz.zeroValue220
 t72 := Tryz.underlying223
 a72 := Tryz.isAgg223
 z72 := Tryz.sizeOf223
 v72 := Tryz.zeroValue223
 t75 := Tryz.underlying226
 a75 := Tryz.isAgg226
 z75 := Tryz.sizeOf226
 v75 := Tryz.zeroValue226
 t76 := Tryz.underlying227
 a76 := Tryz.isAgg227
 z76 := Tryz.sizeOf227
 v76 := Tryz.zeroValue227
 t127 := Tryz.underlying257
 a127 := Tryz.isAgg257
 z127 := Tryz.sizeOf257
 v127 := Tryz.zeroValue257
 t164 := Tryz.underlying274
 a164 := Tryz.isAgg274
 z164 := Tryz.sizeOf274
 v164 := Tryz.zeroValue274 }
theorem joinExtra : Builder.Extra Tryz.prog joinRen := {
 sizeBuilder := by kernel_rfl
 liesBuilder := by kernel_rfl
 t5 := Tryz.underlying5
 a5 := Tryz.isAgg5
 z5 := Tryz.sizeOf5
 v5 := Tryz.zeroValue5
 infoByte := by kernel_rfl
 cellsByte := by kernel_rfl
 sizeByte := by kernel_rfl
 neB5 := by decide }
theorem strsJoin (v : Value) (xs : List ByteArray) (sep : ByteArray) (w : World) (hv : StrsAt w w.heap.size v xs) (hlen : (Lib.join (xs.map (·.data.toList)) sep.data.toList).length ≤ 140737488355328) (hn : xs.length ≤ 1000000) :
  Calls Tryz.prog 150 #[v,.string sep] w fun e w' => e = .returned (.string ⟨(Lib.join (xs.map (·.data.toList)) sep.data.toList).toArray⟩) ∧ Below w.heap.size w w' := by
 obtain ⟨A,c,rfl,h1,h2,h3⟩ := hv
 cases xs with
 | nil => exact (Any.strings_Join_none joinLays joinExtra A c sep w).mono fun _ _ ⟨he,hw⟩ => ⟨he,hw ▸ Below.refl _ _⟩
 | cons x xs =>
  obtain ⟨b,off,rfl,hb,hc⟩ := h3 (by simp)
  refine Any.strings_Join joinLays joinExtra b off c (x :: xs) sep w (fun j y hj => hc j _ ?_) hb (by omega) h1 hlen
  rw [List.getElem?_map,hj]
  rfl
end Go.Proofs.YtbhmkcjddpniiaaGreatDoor

namespace Go.Proofs.YtbhmkcjddpniiaaGreatDoor
open Go.RowKit Go.Shelf
theorem info_strL : (Tryz.prog.info? 9).map (fun i => (i.zero,i.size,i.bytes)) = some (some (.string ⟨#[]⟩),1,16) := by kernel_rfl
theorem own_belowL {w w' : World} {B e s n : Nat} {v : Value} {xs : List Value} (h : w.ownsRow B e s v n xs) (hb : Below w.heap.size w w') : w'.ownsRow B e s v n xs := by
 obtain ⟨hl,h0 | ⟨g,cap,cur,hv,hg0,hh,r⟩⟩ := h
 ·exact ⟨hl,.inl h0⟩
 ·exact ⟨hl,.inr ⟨g,cap,cur,hv,hg0,(hb.block g (Array.getElem?_eq_some_iff.1 hh).1).trans hh,r⟩⟩
def Wd.val : Wd → Value
 | .s b => .iface 9 (.string b)
 | .n i => .iface 3 (.int .i64 i)
def Wd.okW : Wd → Prop
 | .s b => b.size ≤ 100
 | .n i => -9223372036854775808 ≤ i ∧ i ≤ 9223372036854775807
abbrev WdsAt := @RowAt Wd Wd.val
def Wd.str : Wd → ByteArray
 | .s b => b
 | .n i => itoaA i
theorem str_tok (x : Wd) : x.str.data.toList = x.tok := by
 cases x with
 | s b => rfl
 | n i => simp [Wd.str,Wd.tok,itoaA]
theorem str_toks (l : List Wd) : (l.map Wd.str).map (·.data.toList) = toks l := by
 unfold toks
 rw [List.map_map]
 exact List.map_congr_left fun x _ => str_tok x
theorem wd_len {x : Wd} (h : x.okW) : x.tok.length ≤ 100 := by
 cases x with
 | s b => exact h
 | n i => exact Nat.le_trans (Lib.itoa_length_le i h.1 h.2) (by decide)
theorem joinTail_le (L : List (List UInt8)) (h : ∀ t ∈ L,t.length ≤ 100) : (Lib.joinTail [32] L).length ≤ 101 * L.length := by
 induction L with
 | nil => simp [Lib.joinTail]
 | cons a L ih =>
  rw [joinTail_step,List.length_cons,List.length_append,List.length_cons]
  have := ih (fun t ht => h t (by simp [ht]))
  have := h a (by simp)
  omega
theorem join_le (l : List Wd) (h : ∀ x ∈ l,x.okW) : (Lib.join (toks l) [32]).length ≤ 101 * l.length := by
 cases l with
 | nil => simp [toks,Lib.join_nil]
 | cons a l =>
  show (Lib.join (a.tok :: toks l) [32]).length ≤ _
  rw [Lib.join_cons,List.length_append,List.length_cons]
  have h1 := wd_len (h a (by simp))
  have h2 := joinTail_le (toks l) (fun t ht => by
   obtain ⟨x,hx,rfl⟩ := List.mem_map.1 ht
   exact wd_len (h x (by simp [hx])))
  rw [show (toks l).length = l.length by simp [toks]] at h2
  omega
theorem run_ta_yes {P : Program} {xT t : TypeId} (hu : ∀ ms,P.underlying t ≠ some (.interface ms)) {u : TypeDesc} (hs : P.underlying t = some u) (v : Value) (w : World) :
  (Instr.typeAssert (.iface t v) xT t true).run P w = .ok (.tuple #[v,.bool true]) w := by
 cases u <;> simp_all [Instr.typeAssert,run_underlying hs]
theorem run_ta_no {P : Program} {xT t t' : TypeId} {z : Value} (hu : ∀ ms,P.underlying t' ≠ some (.interface ms)) {u : TypeDesc} (hs : P.underlying t' = some u) (hne : t ≠ t') (v : Value) (w : World) (hz : (zeroValue t').run P w = .ok z w) :
  (Instr.typeAssert (.iface t v) xT t' true).run P w = .ok (.tuple #[z,.bool false]) w := by
 cases u <;> simp_all [Instr.typeAssert,run_underlying hs]
set_option maxRecDepth 100000 in
set_option maxHeartbeats 2000000 in
theorem lsLine (v : Value) (l : List Wd) (w : World) (ht : Tab w) (hv : WdsAt w w.heap.size v l) (hn : l.length ≤ 1000) (hok : ∀ x ∈ l,x.okW) :
  Calls Tryz.prog 97 #[v] w fun e w' => e = .returned (.string ⟨(lineW l).toArray⟩) ∧ Below w.heap.size w w' := by
 obtain ⟨A,c,rfl,hc1,hc2,hcell⟩ := hv.open_
 unfold maxLen at hc2
 have HC := Lib.hid hcell
 have HO := Lib.hid hok
 have HT := Lib.hid ht
 clear hcell hok hv ht
 go_enter Tryz.func97,Tryz.ntmps97
 go_wp2_with fail
 go_loopw [3,10] (fun o ix wr => ∃ k : Nat,k ≤ l.length ∧ ix = .int .i64 k ∧ Below w.heap.size w wr ∧ wr.ownsRow w.heap.size 9 1 o k (((l.take k).map Wd.str).map Value.string)) (fun _ ix _ => l.length - (intOf ix).toNat)
 case atStart => exact ⟨0,Nat.zero_le _,rfl,Below.refl _ _,World.ownsRow_nil _ _ _ _⟩
 case round =>
  obtain ⟨k,hk,rfl,hbel,hown⟩ := hrel
  have k0 : (0 : Int) ≤ (k : Int) := Int.natCast_nonneg _
  by_cases hkl : k < l.length
  ·have k1 : (k : Int) < (l.length : Int) := by omega
   obtain ⟨b1,o1,rfl,hb1,hx⟩ := HC.out k hkl
   have y0 := (hbel.cell (p := ⟨b1,o1 + k,none⟩) hb1).trans (hx k hkl)
   have ho := HO.out _ (List.getElem_mem hkl)
   have HN : Hid ((l.take (k + 1)).map Wd.str = (l.take k).map Wd.str ++ [l[k].str]) := by unfold Hid;rw [take_snoc l k hkl,List.map_append];rfl
   have hsz := hbel.size
   clear hx
   generalize l[k] = wd at *
   cases wd with
   | s b =>
    have e1 : Hid (Wd.str (.s b) = b) := rfl
    change wr.cell? _ = some (.iface 9 (.string b)) at y0
    have hta := fun W => run_ta_yes (P := Tryz.prog) (xT := 20) (t := 9) (by intro ms h;rw [Tryz.underlying9] at h;cases h) Tryz.underlying9 (.string b) W
    go_wp2_with (at_builtin;refine wpList_push _ rfl (.tmp 18) (.tmp 20) 58 rfl w.heap.size 9 info_strL Tryz.underlying58 rfl _ k _ rfl hown (.string b) rfl rfl (by unfold maxLen;omega) (by omega) (by omega) ?_;intro g3 cap3 w3 hown3 hgrow3 hbg hgg)
    have hown4 : w3.ownsRow w.heap.size 9 1 (.slice (some ⟨g3,0,none⟩) (k + 1) cap3) (k + 1) (((l.take (k + 1)).map Wd.str).map Value.string) := by rw [HN.out,e1.out,List.map_append];exact hown3
    have hb3 := hbel.grown hgrow3 hbel.size (fun k hk => (hown.lt k hk).1)
    clear hown3 hgrow3 hgg hown HN y0 hbel hta
    go_roundw
    case rel => exact ⟨k + 1,by omega,by go_num,hb3,hown4⟩
    case measure => simp [intOf];omega
   | n i =>
    have e1 : Hid (Wd.str (.n i) = itoaA i) := rfl
    change wr.cell? _ = some (.iface 3 (.int .i64 i)) at y0
    obtain ⟨i0,i1⟩ : -9223372036854775808 ≤ i ∧ i ≤ 9223372036854775807 := ho
    have hta := fun W => run_ta_no (P := Tryz.prog) (xT := 20) (t := 3) (t' := 9) (by intro ms h;rw [Tryz.underlying9] at h;cases h) Tryz.underlying9 (by decide) (.int .i64 i) W (Tryz.zeroValue9 W)
    have htb := fun W => run_ta_yes (P := Tryz.prog) (xT := 20) (t := 3) (by intro ms h;rw [Tryz.underlying3] at h;cases h) Tryz.underlying3 (.int .i64 i) W
    have htw := HT.out.below hbel
    go_wp2_with fail
    refine (itoaAll i i0 i1 wr htw).mono ?_
    rintro e w1 ⟨rfl,hb1⟩
    have hown1 := own_belowL hown hb1
    have hbel1 := hbel.trans (hb1.mono hsz)
    have hsz1 := hbel1.size
    clear hown hbel htw hta htb hb1 y0
    go_wp2_with (at_builtin;refine wpList_push _ rfl (.tmp 25) (.tmp 28) 58 rfl w.heap.size 9 info_strL Tryz.underlying58 rfl _ k _ rfl hown1 (.string (itoaA i)) rfl rfl (by unfold maxLen;omega) (by omega) (by omega) ?_;intro g3 cap3 w3 hown3 hgrow3 hbg hgg)
    have hown4 : w3.ownsRow w.heap.size 9 1 (.slice (some ⟨g3,0,none⟩) (k + 1) cap3) (k + 1) (((l.take (k + 1)).map Wd.str).map Value.string) := by rw [HN.out,e1.out,List.map_append];exact hown3
    have hb3 := hbel1.grown hgrow3 hbel1.size (fun k hk => (hown1.lt k hk).1)
    clear hown3 hgrow3 hgg hown1 HN hbel1
    go_roundw
    case rel => exact ⟨k + 1,by omega,by go_num,hb3,hown4⟩
    case measure => simp [intOf];omega
  ·obtain rfl : k = l.length := by omega
   have HJ := Lib.hid (join_le l HO.out)
   rw [List.take_length] at hown
   have hrow := RowAt.of_own (enc := Value.string) hown
   have hjn : (Lib.join ((l.map Wd.str).map (·.data.toList)) [32]).length ≤ 101 * l.length := by rw [str_toks];exact HJ.out
   have hcall := strsJoin _ (l.map Wd.str) ⟨#[32]⟩ wr hrow (by show (Lib.join _ [32]).length ≤ _;omega) (by rw [List.length_map];omega)
   have hcc := fun W => run_string_add_sum (P := Tryz.prog) W ⟨(Lib.join ((l.map Wd.str).map (·.data.toList)) [32]).toArray⟩ ⟨#[10]⟩ (by show (Lib.join _ [32]).toArray.size + 1 ≤ _;rw [List.size_toArray];omega)
   have HE : Hid ((⟨(Lib.join ((l.map Wd.str).map (·.data.toList)) [32]).toArray⟩ : ByteArray) ++ ⟨#[10]⟩ = ⟨(lineW l).toArray⟩) := by
    unfold Hid lineW lineOf
    rw [str_toks]
    apply ba_inj
    simp
   have hsz := hbel.size
   clear hjn hrow hown HJ
   generalize (⟨(Lib.join ((l.map Wd.str).map (·.data.toList)) [32]).toArray⟩ : ByteArray) = jn at *
   rw [HE.out] at hcc
   go_wp2_with fail
   refine hcall.mono ?_
   rintro e w1 ⟨rfl,hb1⟩
   have hbel1 := hbel.trans (hb1.mono hsz)
   clear hb1
   go_wp2_with fail
   go_ret
   exact ⟨rfl,hbel1⟩
end Go.Proofs.YtbhmkcjddpniiaaGreatDoor

namespace Go.Proofs.YtbhmkcjddpniiaaGreatDoor
open Go.RowKit Go.Shelf Go.PlainAid
theorem name_size {s : ByteArray} (h : nameB s = true) : s.size ≤ 20 := by
 unfold nameB at h
 rw [decide_eq_true_iff] at h
 exact h.2.1
theorem setB_name {s : SetT} (h : setB s = true) : nameB s.name = true := by
 unfold setB at h
 simp only [Bool.and_eq_true] at h
 exact h.1
theorem alone_name {x : ItemT} (h : alone1 x = true) : nameB x.name = true := by
 unfold alone1 at h
 simp only [Bool.and_eq_true] at h
 exact h.1
theorem brick_facts {x : BrickT} (h : brickB x = true) : nameB x.name = true ∧ (1 ≤ x.wt ∧ x.wt ≤ 1048576) ∧ (0 ≤ x.cnt ∧ x.cnt ≤ 60) := by
 unfold brickB at h
 simp only [Bool.and_eq_true] at h
 exact ⟨h.1,between_bd h.2.1,between_bd h.2.2⟩
theorem bricks_facts {s : SetT} (h : setB s = true) : s.bricks.length ≤ 8 ∧ ∀ x ∈ s.bricks,brickB x = true := by
 have h1 := (setB_ok h).bricks
 unfold bricksB at h1
 simp only [Bool.and_eq_true,decide_eq_true_eq,List.all_eq_true] at h1
 exact ⟨h1.1,h1.2.2.1⟩
theorem lines_facts {s : SetT} (h : setB s = true) : s.lines.length ≤ 10 ∧ ∀ x ∈ s.lines,0 ≤ x ∧ x ≤ 1048576 := by
 have hk := setB_ok h
 have hl := hk.lines
 unfold linesB at hl
 simp only [Bool.and_eq_true,Bool.not_eq_true',decide_eq_false_iff_not] at hl
 obtain ⟨l1,l2,l3,l4⟩ := hl
 have hb := between_bd l1
 have hlen := hk.len
 refine ⟨by omega,fun x hx => ?_⟩
 obtain ⟨i,hi,rfl⟩ := List.getElem_of_mem hx
 have e1 := inc_le l4 i 0 (by omega)
 have e2 := inc_le l4 (s.lines.length - 1 - i) i (by omega)
 rw [Nat.zero_add] at e1
 rw [show i + (s.lines.length - 1 - i) = s.lines.length - 1 by omega] at e2
 have e3 : atL s.lines i = s.lines[i] := by simp [atL,hi]
 omega
theorem okN {i : Int} (h0 : -67108864 ≤ i) (h1 : i ≤ 67108864) : (Wd.n i).okW := ⟨by omega,by omega⟩
theorem head_ok {s : SetT} (h : setB s = true) : ∀ x ∈ headW s,x.okW := by
 have hk := setB_ok h
 obtain ⟨h1,h2,h3,h4,h5,h6,h7,h8,-,-,-⟩ := hk
 have h9 := name_size (setB_name h)
 intro x hx
 simp only [headW,List.mem_cons,List.not_mem_nil,or_false] at hx
 rcases hx with rfl | rfl | rfl | rfl | rfl | rfl | rfl | rfl | rfl | rfl | rfl | rfl | rfl | rfl | rfl | rfl | rfl | rfl | rfl | rfl <;> first | exact okN (by omega) (by omega) | (show _ ≤ 100;first | omega | decide)
theorem linesW_ok {s : SetT} (h : setB s = true) : ∀ x ∈ linesW s.lines,x.okW := by
 intro x hx
 simp only [linesW,List.mem_cons,List.mem_map] at hx
 rcases hx with rfl | ⟨n,hn,rfl⟩
 ·show _ ≤ 100
  decide
 ·have := (lines_facts h).2 n hn
  exact okN (by omega) (by omega)
theorem itemW_ok {s : SetT} (h : setB s = true) {y : ItemT} (hy : y ∈ s.items) : ∀ x ∈ itemW y,x.okW := by
 obtain ⟨h1,h2⟩ := (setB_ok h).wts.2 y hy
 have h9 := name_size (alone_name h1)
 have h3 := inside_ok h2
 have h4 := (setB_ok h).len
 unfold alone1 at h1
 simp only [Bool.and_eq_true] at h1
 have k1 := between_bd h1.2.1
 have k2 := between_bd h1.2.2.1
 have k3 := between_bd h1.2.2.2.1
 have k4 := between_bd h1.2.2.2.2
 intro x hx
 simp only [itemW,List.mem_cons,List.not_mem_nil,or_false] at hx
 rcases hx with rfl | rfl | rfl | rfl | rfl | rfl | rfl | rfl | rfl | rfl | rfl | rfl | rfl | rfl <;> first | exact okN (by omega) (by omega) | (show _ ≤ 100;first | omega | decide)
theorem brickWd_ok {s : SetT} (h : setB s = true) {y : BrickT} (hy : y ∈ s.bricks) : ∀ x ∈ brickWd y,x.okW := by
 obtain ⟨h1,h2,h3⟩ := brick_facts ((bricks_facts h).2 y hy)
 have h9 := name_size h1
 intro x hx
 simp only [brickWd,List.mem_cons,List.not_mem_nil,or_false] at hx
 rcases hx with rfl | rfl | rfl | rfl | rfl | rfl <;> first | exact okN (by omega) (by omega) | (show _ ≤ 100;first | omega | decide)
def textTo (s : SetT) (k j : Nat) : List UInt8 := lineW (headW s) ++ lineW (linesW s.lines) ++ ((s.items.take k).map (fun x => lineW (itemW x))).flatten ++ ((s.bricks.take j).map (fun x => lineW (brickWd x))).flatten
theorem textTo_all (s : SetT) : textTo s s.items.length s.bricks.length = setText s := by
 unfold textTo setText setLs textOf
 rw [List.take_length,List.take_length]
 simp only [lineW,List.flatMap_def]
 simp
 rfl
theorem textTo_item (s : SetT) (k : Nat) (hk : k < s.items.length) : textTo s (k + 1) 0 = textTo s k 0 ++ lineW (itemW s.items[k]) := by
 unfold textTo
 rw [take_snoc _ k hk,List.map_append,List.flatten_append]
 simp only [List.map_cons,List.map_nil,List.flatten_cons,List.flatten_nil,List.append_nil,List.take_zero,List.append_assoc]
theorem textTo_brick (s : SetT) (i k : Nat) (hk : k < s.bricks.length) : textTo s i (k + 1) = textTo s i k ++ lineW (brickWd s.bricks[k]) := by
 unfold textTo
 rw [take_snoc _ k hk,List.map_append,List.flatten_append]
 simp only [List.map_cons,List.map_nil,List.flatten_cons,List.flatten_nil,List.append_nil,List.append_assoc]
theorem lineW_le {l : List Wd} (h : ∀ x ∈ l,x.okW) : (lineW l).length ≤ 101 * l.length + 1 := by
 unfold lineW lineOf
 rw [List.length_append]
 have := join_le l h
 simp only [List.length_singleton]
 omega
theorem textTo_le {s : SetT} (h : setB s = true) : ∀ k j,k ≤ s.items.length → j ≤ s.bricks.length → (textTo s k j).length ≤ 5000 + 1500 * k + 700 * j
 | 0,0,_,_ => by
  have h1 := lineW_le (head_ok h)
  have h2 := lineW_le (linesW_ok h)
  have h3 := (lines_facts h).1
  unfold textTo
  simp only [List.take_zero,List.map_nil,List.flatten_nil,List.append_nil,List.length_append]
  have e1 : (headW s).length = 20 := rfl
  have e2 : (linesW s.lines).length = s.lines.length + 1 := by simp [linesW]
  rw [e1] at h1
  rw [e2] at h2
  omega
 | k + 1,0,hk,hj => by
  have h1 := textTo_le h k 0 (by omega) hj
  rw [textTo_item s k hk,List.length_append]
  have h2 := lineW_le (itemW_ok h (List.getElem_mem hk))
  have e1 : (itemW s.items[k]).length = 14 := rfl
  rw [e1] at h2
  omega
 | k,j + 1,hk,hj => by
  have h1 := textTo_le h k j hk (by omega)
  rw [textTo_brick s k j hj,List.length_append]
  have h2 := lineW_le (brickWd_ok h (List.getElem_mem hj))
  have e1 : (brickWd s.bricks[j]).length = 6 := rfl
  rw [e1] at h2
  omega
end Go.Proofs.YtbhmkcjddpniiaaGreatDoor

namespace Go.Proofs.YtbhmkcjddpniiaaGreatDoor
open Go.RowKit Go.Shelf
theorem info_any : (Tryz.prog.info? 20).map (fun i => (i.zero,i.size,i.bytes)) = some (some .nilIface,1,16) := by kernel_rfl
theorem own_new {w : World} {B g : Nat} {t : TypeId} {x : Value} (h : Blk w g t #[x]) (hB : B ≤ g) : w.ownsRow B t 1 (.slice (some ⟨g,0,none⟩) 1 1) 1 [x] :=
 ⟨rfl,.inr ⟨g,1,#[x],rfl,hB,h,Nat.le_refl _,by decide,rfl,rfl⟩⟩
theorem own_formL {w : World} {B e s n : Nat} {v : Value} {L : List Value} (h : w.ownsRow B e s v n L) : ∃ A c,v = .slice A n c := by
 rcases h.2 with ⟨rfl,rfl⟩ | ⟨g,cap,cur,rfl,_⟩
 ·exact ⟨none,0,rfl⟩
 ·exact ⟨_,cap,rfl⟩
theorem lsLineNew (W : World) (l : List Wd) (g n : Nat) (A : Array Value) (hA : A = (l.map Wd.val).toArray) (hg : g = W.heap.size) (hn : n = l.length) (h100 : l.length ≤ 1000) (ht : Tab W) (hok : ∀ x ∈ l,x.okW) :
  Calls Tryz.prog 97 #[.slice (some ⟨g,0,none⟩) n n] (W.alloc (.cells A 20)) fun e w' => e = .returned (.string ⟨(lineW l).toArray⟩) ∧ Below W.heap.size W w' := by
 subst hA hg hn
 have hb : Below W.heap.size W (W.alloc (.cells (l.map Wd.val).toArray 20)) := (Below.refl _ _).alloc (Nat.le_refl _) _
 have hk := Blk.new W 20 (l.map Wd.val).toArray
 refine (lsLine _ l _ (ht.below hb) ⟨_,_,rfl,Nat.le_refl _,by unfold maxLen;omega,fun _ => ⟨_,_,rfl,hk.lt,fun j u hu => ?_⟩⟩ h100 hok).mono fun e w' ⟨he,hb'⟩ => ⟨he,hb.trans (hb'.mono hb.size)⟩
 rw [Nat.zero_add,hk.cell,List.getElem?_toArray]
 exact hu
def txtB (s : SetT) (k j : Nat) : ByteArray := ⟨(textTo s k j).toArray⟩
theorem txtB_size {s : SetT} (h : setB s = true) {k j : Nat} (hk : k ≤ s.items.length) (hj : j ≤ s.bricks.length) : (txtB s k j).size ≤ 100000 := by
 have h1 := textTo_le h k j hk hj
 have h2 := (setB_ok h).wts.1
 have h3 := (bricks_facts h).1
 show (textTo s k j).toArray.size ≤ _
 rw [List.size_toArray]
 omega
theorem lineB_size {l : List Wd} (h : ∀ x ∈ l,x.okW) (hl : l.length ≤ 40) : (⟨(lineW l).toArray⟩ : ByteArray).size ≤ 5000 := by
 have h1 := lineW_le h
 show (lineW l).toArray.size ≤ _
 rw [List.size_toArray]
 omega
theorem txt_start (s : SetT) : (⟨(lineW (headW s)).toArray⟩ : ByteArray) ++ ⟨(lineW (linesW s.lines)).toArray⟩ = txtB s 0 0 := by
 apply ba_inj
 unfold txtB textTo
 simp
theorem txt_item (s : SetT) (k : Nat) (hk : k < s.items.length) : txtB s k 0 ++ ⟨(lineW (itemW s.items[k])).toArray⟩ = txtB s (k + 1) 0 := by
 apply ba_inj
 unfold txtB
 rw [textTo_item s k hk]
 simp
theorem txt_brick (s : SetT) (i k : Nat) (hk : k < s.bricks.length) : txtB s i k ++ ⟨(lineW (brickWd s.bricks[k])).toArray⟩ = txtB s i (k + 1) := by
 apply ba_inj
 unfold txtB
 rw [textTo_brick s i k hk]
 simp
set_option maxRecDepth 100000 in
set_option maxHeartbeats 8000000 in
theorem lsText (v : Value) (s : SetT) (w : World) (hv : SetAt w w.heap.size v s) (hn : SetNames s) (ht : Tab w) :
  Calls Tryz.prog 48 #[v] w fun e w' => e = .returned (if setB s = true then .tuple #[.string ⟨(setText s).toArray⟩,.int .i64 0] else .tuple #[.string ⟨#[]⟩,.int .i64 1]) ∧ Below w.heap.size w w' := by
 have HVa := fun W (hb : Below w.heap.size w W) => batValid v s W ((hv.below hb (Nat.le_refl _)).mono hb.size) hn
 obtain ⟨Al,cl,Ai,ci,Ab,cb,rfl,hL,hI,hB⟩ := hv
 have HL := Lib.hid hL
 have HI := Lib.hid hI
 have HK := Lib.hid hB
 have HT := Lib.hid ht
 have HD := Lib.hid (Blk.new w 26 #[.string s.name,.int .i64 s.depth,.int .i64 s.low,.int .i64 s.high,.int .i64 s.len,.slice Al s.lines.length cl,.int .i64 s.pipe,.int .i64 s.arbor,.int .i64 s.purch,.int .i64 s.most,.int .i64 s.brake,.slice Ai s.items.length ci,.slice Ab s.bricks.length cb])
 have HB1 := Lib.hid ((Below.refl _ w).alloc (Nat.le_refl _) (.cells #[.string s.name,.int .i64 s.depth,.int .i64 s.low,.int .i64 s.high,.int .i64 s.len,.slice Al s.lines.length cl,.int .i64 s.pipe,.int .i64 s.arbor,.int .i64 s.purch,.int .i64 s.most,.int .i64 s.brake,.slice Ai s.items.length ci,.slice Ab s.bricks.length cb] 26))
 clear hn hL hI hB ht
 have hva := HVa _ HB1.out
 clear HVa
 unfold setVal at *
 rcases Bool.eq_false_or_eq_true (setB s) with hok | hok
 ·have HOK := Lib.hid hok
  rw [hok] at hva
  rw [if_pos hok]
  clear hok
  go_enter Tryz.func48,Tryz.ntmps48
  go_wp2_with (go_at_call 24;refine hva.mono ?_;rintro e w2 ⟨rfl,hb2⟩;have hbx := HB1.out.trans (hb2.mono HB1.out.size);have HD2 := Lib.hid (HD.out.below hb2 HD.out.lt);have z0 := HD2.out.cell 0;have z1 := HD2.out.cell 1;have z2 := HD2.out.cell 2;have z3 := HD2.out.cell 3;have z4 := HD2.out.cell 4;have z5 := HD2.out.cell 5;have z6 := HD2.out.cell 6;have z7 := HD2.out.cell 7;have z8 := HD2.out.cell 8;have z9 := HD2.out.cell 9;have z10 := HD2.out.cell 10;have z11 := HD2.out.cell 11;have z12 := HD2.out.cell 12;simp only [List.getElem?_toArray,List.getElem?_cons_succ,List.getElem?_cons_zero] at z0 z1 z2 z3 z4 z5 z6 z7 z8 z9 z10 z11 z12)
  have HT2 := Lib.hid (HT.out.below hbx)
  have HBX := Lib.hid hbx
  refine (lsLineNew w2 (headW s) _ _ _ rfl rfl rfl (by show 20 ≤ 1000;decide) HT2.out (head_ok HOK.out)).mono ?_
  rintro e w3 ⟨rfl,hb3⟩
  have HH := Lib.hid (lineB_size (head_ok HOK.out) (by show 20 ≤ 40;decide))
  have HS0 := Lib.hid (txt_start s)
  have HB3 := Lib.hid hb3
  have HD3 := Lib.hid (HD2.out.below hb3 HD2.out.lt)
  have HN3 : Hid (∀ x,(w3.alloc (.cells #[x] 20)).ownsRow w2.heap.size 20 1 (.slice (some ⟨w3.heap.size,0,none⟩) 1 1) 1 [x]) := fun x => own_new (Blk.new w3 20 #[x]) hb3.size
  have q := fun o => HD3.out.alloc o
  have z := fun o => (q o).cell 5
  simp only [List.getElem?_toArray,List.getElem?_cons_succ,List.getElem?_cons_zero] at z
  clear z0 z1 z2 z3 z4 z5 z6 z7 z8 z9 z10 z11 z12 q hb2 hb3 hbx hva HD HB1
  generalize (⟨(lineW (headW s)).toArray⟩ : ByteArray) = hd at *
  obtain ⟨AL,cL,eL,hcl1,hcl2,hcell⟩ := HL.out.open_
  injection eL with eA _ eC
  subst eA eC
  have HC := Lib.hid hcell
  unfold maxLen at hcl2
  clear hcell
  have hl10 := (lines_facts HOK.out).1
  go_wp2_with fail
  go_loopw [5,62] (fun o ix wr => ∃ k : Nat,k ≤ s.lines.length ∧ ix = .int .i64 k ∧ Below w2.heap.size w2 wr ∧ wr.ownsRow w2.heap.size 20 1 o (k + 1) ((linesW (s.lines.take k)).map Wd.val)) (fun _ ix _ => s.lines.length - (intOf ix).toNat)
  case atStart => exact ⟨0,Nat.zero_le _,rfl,HB3.out.trans (((Below.refl _ _).alloc (Nat.le_refl _) _).mono HB3.out.size),HN3.out _⟩
  case round =>
   obtain ⟨k,hk,rfl,hbel,hown⟩ := hrel
   clear z HN3
   have k0 : (0 : Int) ≤ (k : Int) := Int.natCast_nonneg _
   by_cases hkl : k < s.lines.length
   ·have k1 : (k : Int) < (s.lines.length : Int) := by omega
    obtain ⟨b1,o1,rfl,hb1,hx⟩ := HC.out k hkl
    have y0 := (hbel.cell (p := ⟨b1,o1 + k,none⟩) (Nat.lt_of_lt_of_le hb1 HBX.out.size)).trans ((HBX.out.cell (p := ⟨b1,o1 + k,none⟩) hb1).trans (hx k hkl))
    have HN : Hid ((linesW (s.lines.take (k + 1))).map Wd.val = (linesW (s.lines.take k)).map Wd.val ++ [Wd.val (.n s.lines[k])]) := by unfold Hid linesW;rw [take_snoc _ k hkl,List.map_append,List.map_cons,List.map_append];rfl
    have hsz := hbel.size
    clear hx
    generalize s.lines[k] = ln at *
    go_wp2_with (at_builtin;refine wpList_push _ rfl (.tmp 66) (.tmp 69) 140 rfl w2.heap.size 20 info_any Tryz.underlying140 rfl _ (k + 1) _ rfl hown (.iface 3 (.int .i64 ln)) rfl rfl (by unfold maxLen;omega) (by omega) (by omega) ?_;intro g3 cap3 w4 hown3 hgrow3 hbg hgg)
    have hown4 : w4.ownsRow w2.heap.size 20 1 (.slice (some ⟨g3,0,none⟩) (k + 1 + 1) cap3) (k + 1 + 1) ((linesW (s.lines.take (k + 1))).map Wd.val) := by rw [HN.out];exact hown3
    have hb4 := hbel.grown hgrow3 hbel.size (fun k hk => (hown.lt k hk).1)
    clear hown3 hgrow3 hgg hown HN y0 hbel
    go_roundw
    case rel => exact ⟨k + 1,by omega,by go_num,hb4,hown4⟩
    case measure => simp [intOf];omega
   ·obtain rfl : k = s.lines.length := by omega
    rw [List.take_length] at hown
    obtain ⟨Ao,co,rfl⟩ := own_formL hown
    have hrow := RowAt.of_own (enc := Wd.val) (l := linesW s.lines) hown
    have hT4 := HT2.out.below hbel
    have hll : (linesW s.lines).length = s.lines.length + 1 := by simp [linesW]
    have hcall := lsLine _ (linesW s.lines) wr hT4 hrow (by omega) (linesW_ok HOK.out)
    have HLs := Lib.hid (lineB_size (linesW_ok HOK.out) (by omega))
    clear hrow hT4 hll
    generalize (⟨(lineW (linesW s.lines)).toArray⟩ : ByteArray) = ls at *
    have hcc := fun W => run_string_add_sum (P := Tryz.prog) W hd ls (by have := HH.out;have := HLs.out;omega)
    rw [HS0.out] at hcc
    have HD4 := Lib.hid (HD2.out.below hbel HD2.out.lt)
    have hbs := Lib.hid hbel
    clear hown hbel
    go_wp2_with fail
    refine hcall.mono ?_
    rintro e w5 ⟨rfl,hb5⟩
    have HB5 := Lib.hid (hbs.out.trans (hb5.mono hbs.out.size))
    have HD5 := Lib.hid (HD4.out.below hb5 HD4.out.lt)
    have z11 := HD5.out.cell 11
    simp only [List.getElem?_toArray,List.getElem?_cons_succ,List.getElem?_cons_zero] at z11
    clear hbs HD4 hb5 HS0 HH HLs HC HD3 HB3
    obtain ⟨AI,cI,eI,hci1,hci2,hcell⟩ := HI.out.open_
    injection eI with eA _ eC
    subst eA eC
    have HC := Lib.hid hcell
    unfold maxLen at hci2
    clear hcell
    have hi40 := (setB_ok HOK.out).wts.1
    go_wp2_with fail
    go_loopw [4,79] (fun tv ix wr => ∃ k : Nat,k ≤ s.items.length ∧ ix = .int .i64 k ∧ tv = .string (txtB s k 0) ∧ Below w2.heap.size w2 wr) (fun _ ix _ => s.items.length - (intOf ix).toNat)
    case atStart => exact ⟨0,Nat.zero_le _,rfl,rfl,HB5.out⟩
    case round =>
     obtain ⟨k,hk,rfl,rfl,hbel⟩ := hrel
     clear z11 HD5 HB5
     have k0 : (0 : Int) ≤ (k : Int) := Int.natCast_nonneg _
     by_cases hkl : k < s.items.length
     ·have k1 : (k : Int) < (s.items.length : Int) := by omega
      obtain ⟨b1,o1,rfl,hb1,hx⟩ := HC.out k hkl
      have hrd := fun i u (h : w.cell? ⟨b1,o1 + k * 7 + i,none⟩ = some u) => (hbel.cell (p := ⟨b1,o1 + k * 7 + i,none⟩) (Nat.lt_of_lt_of_le hb1 HBX.out.size)).trans ((HBX.out.cell (p := ⟨b1,o1 + k * 7 + i,none⟩) hb1).trans h)
      obtain ⟨x0,x1,x2,x3,x4,x5,x6⟩ := hx k hkl
      have y0 := hrd 0 _ x0
      have y1 := hrd 1 _ x1
      have y2 := hrd 2 _ x2
      have y3 := hrd 3 _ x3
      have y4 := hrd 4 _ x4
      have y5 := hrd 5 _ x5
      have y6 := hrd 6 _ x6
      rw [Nat.add_zero] at y0
      have hwok := itemW_ok HOK.out (List.getElem_mem hkl)
      have HTx := Lib.hid (txt_item s k hkl)
      have HZ := Lib.hid (txtB_size HOK.out hk (Nat.zero_le _))
      clear hx x0 x1 x2 x3 x4 x5 x6 hrd
      generalize s.items[k] = x at *
      have hT4 := HT2.out.below hbel
      have HBa := Lib.hid ((Below.refl wr.heap.size wr).alloc (Nat.le_refl _) (.cells #[.string x.name,.int .i64 x.pos,.int .i64 x.width,.int .i64 x.wt,.int .i64 x.hang,.int .i64 x.front,.int .i64 x.back] 47))
      have hcall := lsLineNew (wr.alloc (.cells #[.string x.name,.int .i64 x.pos,.int .i64 x.width,.int .i64 x.wt,.int .i64 x.hang,.int .i64 x.front,.int .i64 x.back] 47)) (itemW x) (wr.heap.size + 1) 14 (((itemW x).map Wd.val).toArray) rfl (by simp) rfl (by show 14 ≤ 1000;decide) (hT4.below HBa.out) hwok
      have HLs := Lib.hid (lineB_size hwok (by show 14 ≤ 40;decide))
      have HBS := Lib.hid hbel
      clear hT4 hwok hbel
      generalize (⟨(lineW (itemW x)).toArray⟩ : ByteArray) = ls at *
      have hcc := fun W => run_string_add_sum (P := Tryz.prog) W (txtB s k 0) ls (by have := HZ.out;have := HLs.out;omega)
      rw [HTx.out] at hcc
      go_wp2_with fail
      refine hcall.mono ?_
      rintro e w6 ⟨rfl,hb6⟩
      have hb7 := HBS.out.trans ((HBa.out.trans (hb6.mono HBa.out.size)).mono HBS.out.size)
      go_wp2_with fail
      go_roundw
      case rel => exact ⟨k + 1,by omega,by go_num,rfl,hb7⟩
      case measure => simp [intOf];omega
     ·obtain rfl : k = s.items.length := by omega
      have HD6 := Lib.hid (HD2.out.below hbel HD2.out.lt)
      have z12 := HD6.out.cell 12
      simp only [List.getElem?_toArray,List.getElem?_cons_succ,List.getElem?_cons_zero] at z12
      have HB6 := Lib.hid hbel
      clear HC hbel
      obtain ⟨AB,cB,eB,hcb1,hcb2,hcell⟩ := HK.out.open_
      injection eB with eA _ eC
      subst eA eC
      have HC := Lib.hid hcell
      unfold maxLen at hcb2
      clear hcell
      have hb8 := (bricks_facts HOK.out).1
      go_wp2_with fail
      go_loopw [4,119] (fun tv ix wr => ∃ k : Nat,k ≤ s.bricks.length ∧ ix = .int .i64 k ∧ tv = .string (txtB s s.items.length k) ∧ Below w2.heap.size w2 wr) (fun _ ix _ => s.bricks.length - (intOf ix).toNat)
      case atStart => exact ⟨0,Nat.zero_le _,rfl,rfl,HB6.out⟩
      case round =>
       obtain ⟨k,hk,rfl,rfl,hbel⟩ := hrel
       clear z12 HD6 HB6
       have k0 : (0 : Int) ≤ (k : Int) := Int.natCast_nonneg _
       by_cases hkl : k < s.bricks.length
       ·have k1 : (k : Int) < (s.bricks.length : Int) := by omega
        obtain ⟨b1,o1,rfl,hb1,hx⟩ := HC.out k hkl
        have hrd := fun i u (h : w.cell? ⟨b1,o1 + k * 3 + i,none⟩ = some u) => (hbel.cell (p := ⟨b1,o1 + k * 3 + i,none⟩) (Nat.lt_of_lt_of_le hb1 HBX.out.size)).trans ((HBX.out.cell (p := ⟨b1,o1 + k * 3 + i,none⟩) hb1).trans h)
        obtain ⟨x0,x1,x2⟩ := hx k hkl
        have y0 := hrd 0 _ x0
        have y1 := hrd 1 _ x1
        have y2 := hrd 2 _ x2
        rw [Nat.add_zero] at y0
        have hwok := brickWd_ok HOK.out (List.getElem_mem hkl)
        have HTx := Lib.hid (txt_brick s s.items.length k hkl)
        have HZ := Lib.hid (txtB_size HOK.out (Nat.le_refl _) hk)
        clear hx x0 x1 x2 hrd
        generalize s.bricks[k] = x at *
        have hT4 := HT2.out.below hbel
        have HBa := Lib.hid ((Below.refl wr.heap.size wr).alloc (Nat.le_refl _) (.cells #[.string x.name,.int .i64 x.wt,.int .i64 x.cnt] 49))
        have hcall := lsLineNew (wr.alloc (.cells #[.string x.name,.int .i64 x.wt,.int .i64 x.cnt] 49)) (brickWd x) (wr.heap.size + 1) 6 (((brickWd x).map Wd.val).toArray) rfl (by simp) rfl (by show 6 ≤ 1000;decide) (hT4.below HBa.out) hwok
        have HLs := Lib.hid (lineB_size hwok (by show 6 ≤ 40;decide))
        have HBS := Lib.hid hbel
        clear hT4 hwok hbel
        generalize (⟨(lineW (brickWd x)).toArray⟩ : ByteArray) = ls at *
        have hcc := fun W => run_string_add_sum (P := Tryz.prog) W (txtB s s.items.length k) ls (by have := HZ.out;have := HLs.out;omega)
        rw [HTx.out] at hcc
        go_wp2_with fail
        refine hcall.mono ?_
        rintro e w6 ⟨rfl,hb6⟩
        have hb7 := HBS.out.trans ((HBa.out.trans (hb6.mono HBa.out.size)).mono HBS.out.size)
        go_wp2_with fail
        go_roundw
        case rel => exact ⟨k + 1,by omega,by go_num,rfl,hb7⟩
        case measure => simp [intOf];omega
       ·obtain rfl : k = s.bricks.length := by omega
        have HE : Hid (txtB s s.items.length s.bricks.length = ⟨(setText s).toArray⟩) := by unfold Hid txtB;rw [textTo_all]
        have hb9 := HBX.out.trans (hbel.mono HBX.out.size)
        go_wp2_with fail
        go_ret2
        exact ⟨by rw [← HE.out];rfl,hb9⟩
 ·rw [hok] at hva
  rw [if_neg (by rw [hok];simp)]
  clear hok
  go_enter Tryz.func48,Tryz.ntmps48
  go_wp2_with (go_at_call 24;refine hva.mono ?_;rintro e w2 ⟨rfl,hb2⟩)
  go_ret2
  exact ⟨rfl,HB1.out.trans (hb2.mono HB1.out.size)⟩
end Go.Proofs.YtbhmkcjddpniiaaGreatDoor
