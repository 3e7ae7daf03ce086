/- Parts of the proof, laid into one text: Compact, Values, Sorted, SortNil, ListP, ListW, RefOrder. -/
import Derived.Deep.DeepCutAuto
import Derived.Deep.RegionWith
import Derived.LoopIn
import Derived.LoopNIn
import Derived.OwnWalkIn
import Derived.RangeFuncBox
import Derived.RangeFuncLeaves
import Derived.Shelf.Abstract
import Derived.Shelf.Slices.CompactI
import Derived.TacticsInMore
import Derived.Test.YtcjejcbikgcnbaaG6
import Derived.Test.YtcjejcbikgcnbaaG8
import Derived.WalkKit

/- slices.Compact at []int: the kit's contract, laid at this seat's program; how many numbers of a sorted list stay. -/
namespace Go.Proofs.Ytcjejcbikgcnbaa
open Go.RowKit Go.Shelf Go.Sort

def compactRen : Ren := ⟨fun | 20 => 107 | n => n, fun | 0 => 0 | 3 => 3 | 4 => 4 | 22 => 29 | n => n, fun n => n⟩
theorem compactLays : Lays2.n20 Try.prog compactRen := {
  mixed := by kernel_rfl
  f20 := Try.func107.trans (congrArg some (by kernel_rfl))
  t0 := Try.underlying0
  a0 := Try.isAgg0
  z0 := Try.sizeOf0
  v0 := Try.zeroValue0
  t3 := Try.underlying3
  a3 := Try.isAgg3
  z3 := Try.sizeOf3
  v3 := Try.zeroValue3
  t4 := Try.underlying4
  a4 := Try.isAgg4
  z4 := Try.sizeOf4
  v4 := Try.zeroValue4
  t22 := Try.underlying29
  a22 := Try.isAgg29
  z22 := Try.sizeOf29
  v22 := Try.zeroValue29
  i3 := by kernel_rfl }

/-- Compact at a row of the call's own: only the length of what comes back is told. -/
theorem compactOwn (base g cap : Nat) (zs : List Int) (w : World) (hz : zs.length ≤ 1000) (h : w.ownsRow base 3 1 (.slice (some ⟨g, 0, none⟩) zs.length cap) zs.length (zs.map (Value.int .i64))) :
    Calls Try.prog 107 #[.slice (some ⟨g, 0, none⟩) zs.length cap] w fun e w' => e = .returned (.slice (some ⟨g, 0, none⟩) (Lib.compact zs).length cap) ∧ w.grownBy w' (some g) := by
  rcases h.2 with ⟨h1, _⟩ | ⟨g', cap', cur, h1, hb, hg, hnc, hcm, hcs, ht⟩
  · cases h1
  · injection h1 with e1 _ e2
    injection e1 with e1
    injection e1 with e1
    subst e1 e2
    have hlt := (Array.getElem?_eq_some_iff.1 hg).1
    rw [Nat.mul_one] at ht
    have hc := Any.slices_Compact_int compactLays g 0 cap zs w (holds_of_blockI hg ht) (by omega) (by omega)
    refine hc.mono ?_
    rintro e w' ⟨rfl, n, rfl⟩
    refine ⟨rfl, rfl, rfl, rfl, by simp, fun k hk hne => ?_⟩
    have : g ≠ k := fun e => hne (by rw [e])
    simp [putRow, mapBlock, Sort.ahead, Array.getElem?_modify, this]

theorem compact_less {s : List Int} {j : Nat} (hj : j < s.length) (hk : Lib.keeps s.toArray j = false) : (Lib.compact s).length < s.length := by
  unfold Lib.compact Lib.compactUpTo
  rw [List.length_map]
  have h : ((List.range s.length).filter (Lib.keeps s.toArray)).length < (List.range s.length).length := List.length_filter_lt_length_iff_exists.2 ⟨j, List.mem_range.2 hj, by simp [hk]⟩
  rwa [List.length_range] at h

/-- In a sorted list something goes exactly where a number stands twice. -/
theorem compact_lt (xs : List Int) : decide ((Lib.compact (xs.mergeSort fun x y => decide (x ≤ y))).length < xs.length) = decide (¬ xs.Nodup) := by
  have hp := List.mergeSort_perm xs fun x y => decide (x ≤ y)
  have hs := List.pairwise_mergeSort (le := fun x y : Int => decide (x ≤ y)) (fun a b c h1 h2 => by simp only [decide_eq_true_eq] at *; omega) (fun a b => by simp only [Bool.or_eq_true, decide_eq_true_eq]; omega) xs
  rw [decide_eq_decide, ← hp.length_eq, ← hp.nodup_iff]
  generalize xs.mergeSort (fun x y => decide (x ≤ y)) = s at *
  have hs' := List.pairwise_iff_getElem.1 hs
  constructor
  · intro hlt hn
    have h := Lib.compact_all s fun j hj => by
      by_cases h0 : j = 0
      · subst h0; exact Lib.keeps_lt_one _ 0 (by omega)
      · refine Lib.keeps_pos ?_
        rw [getElem!_pos _ j (by simpa using hj), getElem!_pos _ (j - 1) (by simp; omega)]
        have := List.pairwise_iff_getElem.1 hn (j - 1) j (by omega) hj (by omega)
        simpa using fun e => this e.symm
    rw [h] at hlt
    omega
  · intro hn
    rw [List.nodup_iff_pairwise_ne, List.pairwise_iff_getElem] at hn
    simp only [Classical.not_forall] at hn
    obtain ⟨i, j, hi, hj, hij, he⟩ := hn
    simp only [ne_eq, Classical.not_not] at he
    refine compact_less hj (Lib.keeps_neg (by omega) ?_)
    rw [getElem!_pos _ j (by simpa using hj), getElem!_pos _ (j - 1) (by simp; omega)]
    have h1 : s[j - 1] ≤ s[j] := by simpa using hs' (j - 1) j (by omega) hj (by omega)
    have h2 : s[i] ≤ s[j - 1] := by
      by_cases e : i = j - 1
      · subst e; exact Int.le_refl _
      · simpa using hs' i (j - 1) hi (by omega) (by omega)
    simp only [List.getElem_toArray]
    omega

end Go.Proofs.Ytcjejcbikgcnbaa

/- slices.Values at []int: the iterator's contract at this seat's program (turned from the worked proof over slices' iterators). -/
namespace Go.Proofs.Ytcjejcbikgcnbaa
open Go.RowKit Go.Shelf

attribute [local go_sem] Oper.semAt_some

/-- What has come when k rounds are over. -/
def upto (f : Nat → Int) (k : Nat) : List Int := (List.range k).map f
theorem upto_succ (f : Nat → Int) (k : Nat) : upto f (k + 1) = upto f k ++ [f k] := by simp [upto, List.range_succ]
theorem upto_length (f : Nat → Int) (k : Nat) : (upto f k).length = k := by simp [upto]
theorem upto_all (zs : List Int) : upto (fun j => zs[j]?.getD 0) zs.length = zs := by
  apply List.ext_getElem
  · simp [upto]
  · intro i h1 h2
    simp [upto, h2]
theorem upto_take (zs : List Int) {k : Nat} (hk : k ≤ zs.length) : upto (fun j => zs[j]?.getD 0) k = zs.take k := by
  apply List.ext_getElem
  · simp [upto, hk]
  · intro i h1 h2
    have : i < zs.length := by simp [upto] at h1; omega
    simp [upto, this]

set_option maxRecDepth 100000 in
set_option maxHeartbeats 2000000 in
theorem values1_in (F : Fence) (n : Nat) (h7 : F.fn 129) (hro : F.round = none) (hn : 1 ≤ n) (l Bs n₀ b off len cap : Nat) (zs : List Int) (hreach : len * 8 ≤ 140737488351232) (hb : b < n₀) (J Jx : List Int → World → Prop)
    (hY : ∀ pre x W, J pre W → pre.length < len → YieldAt F (n - 1) Try.prog l #[.int .i64 x] W fun e W' =>
      (e = .returned (.bool true) ∧ J (pre ++ [x]) W' ∧ Below n₀ W W') ∨ (e = .returned (.bool false) ∧ Jx (pre ++ [x]) W'))
    (W : World) (hBs : W.cell? ⟨Bs, 0, none⟩ = some (.slice (some ⟨b, off, none⟩) len cap)) (hc : ∀ j, j < len → W.cell? ⟨b, off + j, none⟩ = some (.int .i64 (zs[j]?.getD 0))) (h0 : J [] W) :
    CallsIn F n Try.prog 129 #[.func (.yield l) #[] #[], .pointer (some ⟨Bs, 0, none⟩)] W fun e W' => (∃ v, e = .returned v) ∧
      ((∃ ys, ys = upto (fun j => zs[j]?.getD 0) len ∧ J ys W') ∨ (∃ pre, (∃ k, k ≤ len ∧ pre = upto (fun j => zs[j]?.getD 0) k) ∧ Jx pre W')) := by
  refine callsIn_of_wp Try.func129 rfl h7 ?_ hro
  simp only [Try.ntmps129, List.size_toArray, List.length_cons, List.length_nil, Nat.reduceAdd, Nat.reduceSub, Array.replicate_succ, Array.replicate_zero, List.push_toArray, List.append_toArray, List.nil_append, List.cons_append]
  gi_wp2
  gi_loopw [7] (fun i wr => ∃ k : Nat, k ≤ len ∧ i = .int .i64 k ∧ J (upto (fun j => zs[j]?.getD 0) k) wr ∧ Below n₀ W wr)
    (fun i _ => len - (intOf i).toNat)
  case atStart => exact ⟨0, Nat.zero_le _, rfl, h0, Below.refl _ _⟩
  case round =>
    obtain ⟨k, hk, rfl, hJs, hnx⟩ := hrel
    have hcx : k < len → wr.cell? ⟨b, off + k, none⟩ = some (.int .i64 (zs[k]?.getD 0)) := fun h => (hnx.cell (p := ⟨b, off + k, none⟩) hb).trans (hc k h)
    by_cases hlt : k < len
    · obtain ⟨fn, tmps, assign, body, hy, hR⟩ := hY _ (zs[k]?.getD 0) wr hJs (by rw [upto_length]; exact hlt)
      have hcx' := hcx hlt
      gi_wp2
      refine hR.mono ?_
      rintro e W3 (⟨rfl, hJ3, hk3⟩ | ⟨rfl, hJx3⟩)
      · gi_wp2
        go_roundw
        case rel => exact ⟨k + 1, by omega, by simp, by rw [upto_succ]; exact hJ3, hnx.trans hk3⟩
        case measure => simp [intOf]; omega
      · gi_wp2
        refine bodyPost_ret (results_none rfl _ _ _) rfl ?_
        exact ⟨⟨_, rfl⟩, .inr ⟨_, ⟨k + 1, by omega, (upto_succ _ _).symm⟩, hJx3⟩⟩
    · obtain rfl : k = len := by omega
      gi_wp2
      go_end0
      exact ⟨⟨_, rfl⟩, .inl ⟨_, rfl, hJs⟩⟩

/-- A slice value holds numbers, in a block below n₀; or it is empty. -/
def ValsAt (n₀ : Nat) (W : World) (sv : Value) (zs : List Int) : Prop :=
  (∃ a cap, sv = .slice a 0 cap ∧ zs = []) ∨ ∃ b off cap, sv = .slice (some ⟨b, off, none⟩) zs.length cap ∧ b < n₀ ∧ ∀ j, j < zs.length → W.cell? ⟨b, off + j, none⟩ = some (.int .i64 (zs[j]?.getD 0))
theorem ValsAt.below {n₀ : Nat} {A B : World} (h : Below n₀ A B) {sv : Value} {zs : List Int} : ValsAt n₀ A sv zs → ValsAt n₀ B sv zs
  | .inl e => .inl e
  | .inr ⟨b, off, cap, e, hb, hc⟩ => .inr ⟨b, off, cap, e, hb, fun j hj => (h.cell (p := ⟨b, off + j, none⟩) hb).trans (hc j hj)⟩

set_option maxRecDepth 100000 in
set_option maxHeartbeats 1000000 in
theorem values1_nil_in (F : Fence) (n : Nat) (h7 : F.fn 129) (hro : F.round = none) (l Bs : Nat) (a : Option Addr) (cap : Nat) (J : List Int → World → Prop) (W : World) (hBs : W.cell? ⟨Bs, 0, none⟩ = some (.slice a 0 cap)) (h0 : J [] W) :
    CallsIn F n Try.prog 129 #[.func (.yield l) #[] #[], .pointer (some ⟨Bs, 0, none⟩)] W fun e W' => (∃ v, e = .returned v) ∧ J [] W' := by
  refine callsIn_of_wp Try.func129 rfl h7 ?_ hro
  simp only [Try.ntmps129, List.size_toArray, List.length_cons, List.length_nil, Nat.reduceAdd, Nat.reduceSub, Array.replicate_succ, Array.replicate_zero, List.push_toArray, List.append_toArray, List.nil_append, List.cons_append]
  gi_wp2
  gi_loopw [7] (fun i wr => i = .int .i64 0 ∧ J [] wr) (fun _ _ => 0)
  case atStart => exact ⟨rfl, h0⟩
  case round =>
    obtain ⟨rfl, hJs⟩ := hrel
    gi_wp2
    go_end0
    exact ⟨⟨_, rfl⟩, hJs⟩

theorem values_stops (F : Fence) (n : Nat) (h7 : F.fn 129) (hro : F.round = none) (hn : 1 ≤ n) (Bs n₀ : Nat) (sv : Value) (zs : List Int) (hreach : zs.length * 8 ≤ 140737488351232) (w : World) (hBs : Bs < w.heap.size) (hn₀ : n₀ ≤ w.heap.size)
    (hc : w.cell? ⟨Bs, 0, none⟩ = some sv) (hI : ValsAt n₀ w sv zs) :
    SeqStopsK F n Try.prog 129 #[.pointer (some ⟨Bs, 0, none⟩)] (fun x : Int => #[Value.int .i64 x]) (Below n₀) (fun ys => ys = zs) (fun pre => pre <+: zs) zs.length w := fun l J Jx W hW _ _ hY h0 => by
  have hc' := (hW.cell (p := ⟨Bs, 0, none⟩) hBs).trans hc
  rcases hI.below (hW.mono hn₀) with ⟨a, cap, rfl, rfl⟩ | ⟨b, off, cap, rfl, hb, hcs⟩
  · exact (values1_nil_in F n h7 hro l Bs a cap J W hc' h0).mono fun e W' ⟨he, hj⟩ => ⟨he, .inl ⟨_, rfl, hj⟩⟩
  · refine (values1_in F n h7 hro hn l Bs n₀ b off zs.length cap zs hreach hb J Jx hY W hc' hcs h0).mono ?_
    rintro e W' ⟨he, ⟨ys, rfl, hj⟩ | ⟨pre, ⟨k, hk, rfl⟩, hj⟩⟩
    · exact ⟨he, .inl ⟨_, upto_all zs, hj⟩⟩
    · exact ⟨he, .inr ⟨_, by rw [upto_take zs hk]; exact List.take_prefix _ _, hj⟩⟩

set_option maxHeartbeats 1000000 in
/-- slices.Values(s): the slice value is boxed; the function value captures the box. -/
theorem values_in (F : Fence) (n : Nat) (h5 : F.fn 106) (hro : F.round = none) (a : Option Addr) (len cap : Nat) (w : World) :
    CallsIn F n Try.prog 106 #[.slice a len cap] w fun e w' => e = .returned (.func (.func 129) #[] #[.pointer (some ⟨w.heap.size, 0, none⟩)]) ∧ w' = w.alloc (.cells #[.slice a len cap] 29) := by
  refine callsIn_of_wp Try.func106 rfl h5 ?_ hro
  simp only [Try.ntmps106, List.size_toArray, List.length_cons, List.length_nil, Nat.reduceAdd, Nat.reduceSub, Array.replicate_succ, Array.replicate_zero, List.push_toArray, List.append_toArray, List.nil_append, List.cons_append]
  gi_wp2
  go_ret
  exact ⟨rfl, rfl⟩

end Go.Proofs.Ytcjejcbikgcnbaa

/- slices.AppendSeq, Collect, Sorted over slices.Values at []int (turned from the worked callers of iterators). -/
namespace Go.Proofs.Ytcjejcbikgcnbaa
open Go.RowKit Go.Shelf

attribute [local go_sem] Oper.semAt_some

theorem infoInt : (Try.prog.info? 3).map (fun i => (i.zero, i.size, i.bytes)) = some (some (.int .i64 0), 1, 8) := by kernel_rfl

set_option maxRecDepth 100000 in
set_option maxHeartbeats 2000000 in
theorem appendVals_in (F : Fence) (n : Nat) (h3 : F.fn 138) (h5 : F.fn 129) (hro : F.round = none) (hn : 3 ≤ n) (Bs : Nat) (sv : Value) (xs : List Int) (hlen : xs.length ≤ maxLen) (hbytes : xs.length * 8 ≤ 140737488351232) (w : World) (hBs : Bs < w.heap.size) (hc0 : w.cell? ⟨Bs, 0, none⟩ = some sv) (hL : ValsAt w.heap.size w sv xs) :
    CallsIn F n Try.prog 138 #[.slice none 0 0, .func (.func 129) #[] #[.pointer (some ⟨Bs, 0, none⟩)]] w fun e W' => ∃ v, e = .returned v ∧ W'.ownsRow w.heap.size 3 1 v xs.length (xs.map (Value.int .i64)) ∧ (v = .slice none 0 0 ↔ xs = []) ∧ Below w.heap.size w W' := by
  have h1 : 1 ≤ n := by omega
  obtain ⟨i0, hi, hz0, hz1, hz2⟩ := info_parts infoInt
  refine callsIn_of_wp_marks Try.func138 rfl h3 ?_ hro
  simp only [Try.ntmps138, List.size_toArray, List.length_cons, List.length_nil, Nat.reduceAdd, Nat.reduceSub, Array.replicate_succ, Array.replicate_zero, List.push_toArray, List.append_toArray, List.nil_append, List.cons_append]
  gi_wp2
  have bO := Boxed.new w 29 (.slice none 0 0)
  have hB0 : Below w.heap.size w (w.alloc (.cells #[.slice none 0 0] 29)) := (Below.refl _ w).alloc (Nat.le_refl _) _
  have hcB : (w.alloc (.cells #[.slice none 0 0] 29)).cell? ⟨Bs, 0, none⟩ = some sv := (hB0.cell (p := ⟨Bs, 0, none⟩) hBs).trans hc0
  refine wpIn_rangeFunc_ownG hro h1 (gf := 129) (lb := #[.pointer (some ⟨Bs, 0, none⟩)]) rfl h5 (enters_of Try.func129 (by kernel_rfl) rfl)
    (values_stops F (n - 1) h5 hro (by omega) Bs w.heap.size sv xs hbytes _ (by simp; omega) (by simp) hcB (hL.below hB0)) belowK_t (belowK_b (by simp)) (Below.refl _ _) (fun _ => rfl)
    (fun pre W => (∃ v, Boxed W w.heap.size 29 v ∧ W.ownsRow w.heap.size 3 1 v pre.length (pre.map (Value.int .i64)) ∧ (v = .slice none 0 0 ↔ pre = [])) ∧ Below w.heap.size w W)
    (fun _ _ _ => False)
    (OwnFrom.and (Own.from (holdsRow_own w.heap.size w.heap.size 29 3 1 (fun pre : List Int => pre.length) (fun pre => pre.map (Value.int .i64)) (fun pre v => v = .slice none 0 0 ↔ pre = [])) _) (ownFrom_below (Nat.le_refl _) (by simp)))
    (fun _ _ _ _ _ hs _ _ => hs)
    ⟨⟨_, bO, World.ownsRow_nil _ _ _ _, by simp⟩, hB0⟩
    (fun x => { tmps := #[.slice none 0 0, .func (.func 129) #[] #[.pointer (some ⟨Bs, 0, none⟩)], .pointer (some ⟨w.heap.size, 0, none⟩), undef, .slice none 0 0, .int .i64 x, .func (.func 129) #[] #[.pointer (some ⟨Bs, 0, none⟩)], .int .i64 x, undef, undef, undef, undef, undef], defers := [] }) ?assign ?body ?done ?stop
  case assign =>
    intro l x W K hK
    gi_wp2
    exact hK
  case body =>
    rintro l pre x W ⟨⟨v, hv, hrow, hnil⟩, hB⟩ hlt
    have hc := hv.cell
    gi_wp2_with (gi_at_builtin; refine wpListIn_append_own _ rfl _ _ 29 rfl w.heap.size 3 i0 (.int .i64 0) 1 8 Try.underlying29 hi hz0 hz1 hz2 rfl (by decide) _ _ _ rfl (hrow.alloc _) ⟨W.heap.size, 0, none⟩ 1 1 [.int .i64 x] rfl rfl (cell_one_new _ _ _) (by simp [Value.oneCell']) (by omega) (by omega) (by have := hB.size; simp; omega) ?_; intro v' w1 hown' hgrow _; obtain ⟨g', cap', rfl⟩ := ownsRow_succ hown'; obtain ⟨hv1, hv2, hr2, hk2, hb2⟩ := hv.appended (by decide) hrow hB.size (Nat.le_refl _) hown' hgrow; have hc1 := hv1.cell; have hf1 := hv1.frozen)
    exact ⟨hk2.from _, hb2, ⟨_, hv2, by simpa using hr2, by simp⟩, hB.trans hb2⟩
  case done =>
    rintro D ys W hD rfl ⟨⟨v, hv, hrow, hnil⟩, hB⟩ hK
    have hc := hv.cell
    gi_wp2
    refine ⟨by simp, .inl ⟨_, _, rfl, run_takeDeferred hK, ?_⟩⟩
    exact ⟨_, results_tmp rfl _ _ _, v, rfl, ownsRow_putObj hrow _ hK rfl, hnil, hB.trans (belowK_b (w := w) (Nat.le_refl _) W D _ _ (by simp at hD; omega) hK rfl rfl)⟩
  case stop =>
    rintro D c pre W _ _ h _
    exact h.elim

/-! ### Outside a fence -/
theorem appendVals (Bs : Nat) (sv : Value) (xs : List Int) (hlen : xs.length ≤ 1000) (w : World) (hBs : Bs < w.heap.size) (hc0 : w.cell? ⟨Bs, 0, none⟩ = some sv) (hL : ValsAt w.heap.size w sv xs) :
    Calls Try.prog 138 #[.slice none 0 0, .func (.func 129) #[] #[.pointer (some ⟨Bs, 0, none⟩)]] w fun e W' => ∃ v, e = .returned v ∧ W'.ownsRow w.heap.size 3 1 v xs.length (xs.map (Value.int .i64)) ∧ (v = .slice none 0 0 ↔ xs = []) ∧ Below w.heap.size w W' :=
  callsIn_wide.1 (appendVals_in Fence.wide 3 trivial trivial rfl (Nat.le_refl _) Bs sv xs (by unfold maxLen; omega) (by omega) w hBs hc0 hL)
theorem valuesOf (a : Option Addr) (len cap : Nat) (w : World) :
    Calls Try.prog 106 #[.slice a len cap] w fun e w' => e = .returned (.func (.func 129) #[] #[.pointer (some ⟨w.heap.size, 0, none⟩)]) ∧ w' = w.alloc (.cells #[.slice a len cap] 29) :=
  callsIn_wide.1 (values_in Fence.wide 1 trivial rfl a len cap w)

set_option maxHeartbeats 1000000 in
theorem collectVals (Bs : Nat) (sv : Value) (xs : List Int) (hlen : xs.length ≤ 1000) (w : World) (hBs : Bs < w.heap.size) (hc0 : w.cell? ⟨Bs, 0, none⟩ = some sv) (hL : ValsAt w.heap.size w sv xs) :
    Calls Try.prog 128 #[.func (.func 129) #[] #[.pointer (some ⟨Bs, 0, none⟩)]] w fun e W' => ∃ v, e = .returned v ∧ W'.ownsRow w.heap.size 3 1 v xs.length (xs.map (Value.int .i64)) ∧ (v = .slice none 0 0 ↔ xs = []) ∧ Below w.heap.size w W' := by
  have hA := appendVals Bs sv xs hlen w hBs hc0 hL
  clear hc0 hL
  go_enter Try.func128, Try.ntmps128
  go_wp2_with (go_at_call 138; refine hA.mono ?_; rintro e w1 ⟨v, rfl, hown, hnil, hb⟩)
  go_ret
  exact ⟨v, rfl, hown, hnil, hb⟩

set_option maxHeartbeats 2000000 in
theorem sortedVals (Bs : Nat) (sv : Value) (xs : List Int) (hlen : xs.length ≤ 1000) (hne : xs ≠ []) (w : World) (hBs : Bs < w.heap.size) (hc0 : w.cell? ⟨Bs, 0, none⟩ = some sv) (hL : ValsAt w.heap.size w sv xs) :
    Calls Try.prog 105 #[.func (.func 129) #[] #[.pointer (some ⟨Bs, 0, none⟩)]] w fun e W' => ∃ g cap, e = .returned (.slice (some ⟨g, 0, none⟩) xs.length cap) ∧ w.heap.size ≤ g ∧ W'.ownsRow w.heap.size 3 1 (.slice (some ⟨g, 0, none⟩) xs.length cap) xs.length ((xs.mergeSort fun x y => decide (x ≤ y)).map (Value.int .i64)) ∧ Below w.heap.size w W' := by
  have hA := collectVals Bs sv xs hlen w hBs hc0 hL
  clear hc0 hL
  go_enter Try.func105, Try.ntmps105
  go_wp2_with (go_at_call 128; refine hA.mono ?_; rintro e w1 ⟨v, rfl, hown, hnil, hb⟩)
  rcases hown.2 with ⟨rfl, _⟩ | ⟨g, cap, cur, rfl, hbg, hg, hnc, hcm, hcs, ht⟩
  · exact absurd (hnil.1 rfl) hne
  have hS := sortOwn w.heap.size g cap xs w1 hlen hown
  go_wp2_with (go_at_call 127; refine hS.mono ?_; rintro e w2 ⟨rfl, hown2, hg2⟩)
  go_ret
  exact ⟨g, cap, rfl, hbg, hown2, hb.grown hg2 hb.size (fun k hk => by cases hk; exact hbg)⟩

end Go.Proofs.Ytcjejcbikgcnbaa

/- slices.Sorted over slices.Values, and slices.Compact behind it, of any row of numbers, the empty one too. -/
namespace Go.Proofs.Ytcjejcbikgcnbaa
open Go.RowKit Go.Shelf

set_option maxRecDepth 100000 in
set_option maxHeartbeats 1000000 in
theorem len64Zero (w : World) : Calls Try.prog 152 #[.int .u64 0] w fun e w' => e = .returned (.int .i64 0) ∧ w = w' := by
  go_enter Try.func152, Try.ntmps152
  go_wp2_with fail
  go_ret
  exact ⟨ret_int (by kernel_rfl), rfl⟩
set_option maxRecDepth 100000 in
set_option maxHeartbeats 1000000 in
theorem lenZero (w : World) : Calls Try.prog 137 #[.int .u64 0] w fun e w' => e = .returned (.int .i64 0) ∧ w = w' := by
  have h := len64Zero w
  go_enter Try.func137, Try.ntmps137
  go_wp2_with (go_at_call 152; refine h.mono ?_; rintro e w1 ⟨rfl, rfl⟩)
  go_ret
  exact ⟨rfl, rfl⟩
set_option maxRecDepth 100000 in
set_option maxHeartbeats 1000000 in
theorem insertNil (w : World) : Calls Try.prog 142 #[.slice none 0 0, .int .i64 0, .int .i64 0] w fun e w' => e = .returned (.tuple #[]) ∧ w = w' := by
  go_enter Try.func142, Try.ntmps142
  go_wp2_with fail
  go_loopw [6] (fun i wr => i = .int .i64 1 ∧ w = wr) (fun _ _ => 0)
  case atStart => exact ⟨rfl, rfl⟩
  case round =>
    obtain ⟨rfl, rfl⟩ := hrel
    go_wp2_with fail
    go_end0
    exact ⟨rfl, rfl⟩
set_option maxRecDepth 100000 in
set_option maxHeartbeats 1000000 in
theorem pdqNil (w : World) : Calls Try.prog 136 #[.slice none 0 0, .int .i64 0, .int .i64 0, .int .i64 0] w fun e w' => e = .returned (.tuple #[]) ∧ w = w' := by
  have h := insertNil w
  go_enter Try.func136, Try.ntmps136
  go_wp2_with fail
  go_loopw [1, 2] (fun a b wr => a = .int .i64 0 ∧ b = .int .i64 0 ∧ w = wr) (fun _ _ _ => 0)
  case atStart => exact ⟨rfl, rfl, rfl⟩
  case round =>
    obtain ⟨rfl, rfl, rfl⟩ := hrel
    go_wp2_with (go_at_call 142; refine h.mono ?_; rintro e w1 ⟨rfl, rfl⟩)
    refine bodyPost_ret (results_none rfl _ _ _) rfl ?_
    exact ⟨rfl, rfl⟩
set_option maxRecDepth 100000 in
set_option maxHeartbeats 1000000 in
theorem sortNil (w : World) : Calls Try.prog 127 #[.slice none 0 0] w fun e w' => e = .returned (.tuple #[]) ∧ w = w' := by
  have h1 := lenZero w
  have h2 := pdqNil w
  go_enter Try.func127, Try.ntmps127
  go_wp2_with (first
    | (go_at_call 137; refine h1.mono ?_; rintro e w1 ⟨rfl, rfl⟩)
    | (go_at_call 136; refine h2.mono ?_; rintro e w1 ⟨rfl, rfl⟩))
  go_end0
  exact ⟨rfl, rfl⟩

/-- Numbers, sorted, in a row of the call's own; or none. -/
def SortedAt (w : World) (base : Nat) (v : Value) (xs : List Int) : Prop :=
  (xs = [] ∧ v = .slice none 0 0) ∨ ∃ g cap, v = .slice (some ⟨g, 0, none⟩) xs.length cap ∧ base ≤ g ∧ w.ownsRow base 3 1 (.slice (some ⟨g, 0, none⟩) xs.length cap) xs.length ((xs.mergeSort fun x y => decide (x ≤ y)).map (Value.int .i64))

set_option maxHeartbeats 2000000 in
theorem sortedAny (Bs : Nat) (sv : Value) (xs : List Int) (hlen : xs.length ≤ 1000) (w : World) (hBs : Bs < w.heap.size) (hc0 : w.cell? ⟨Bs, 0, none⟩ = some sv) (hL : ValsAt w.heap.size w sv xs) :
    Calls Try.prog 105 #[.func (.func 129) #[] #[.pointer (some ⟨Bs, 0, none⟩)]] w fun e W' => ∃ v, e = .returned v ∧ SortedAt W' w.heap.size v xs ∧ Below w.heap.size w W' := by
  by_cases hne : xs = []
  · have hA := collectVals Bs sv xs hlen w hBs hc0 hL
    clear hc0 hL
    go_enter Try.func105, Try.ntmps105
    go_wp2_with (go_at_call 128; refine hA.mono ?_; rintro e w1 ⟨v, rfl, hown, hnil, hb⟩)
    obtain rfl := hnil.2 hne
    have hS := sortNil w1
    have Hne := Lib.hid hne
    clear hne hnil hown
    go_wp2_with (go_at_call 127; refine hS.mono ?_; rintro e w2 ⟨rfl, rfl⟩)
    go_ret
    exact ⟨_, rfl, .inl ⟨Hne.out, rfl⟩, hb⟩
  · refine (sortedVals Bs sv xs hlen hne w hBs hc0 hL).mono ?_
    rintro e w' ⟨g, cap, rfl, hg, hown, hb⟩
    exact ⟨_, rfl, .inr ⟨g, cap, rfl, hg, hown⟩, hb⟩

set_option maxRecDepth 100000 in
set_option maxHeartbeats 1000000 in
theorem compactNil (w : World) : Calls Try.prog 107 #[.slice none 0 0] w fun e w' => e = .returned (.slice none 0 0) ∧ w = w' := by
  go_enter Try.func107, Try.ntmps107
  go_wp2_with fail
  go_ret
  exact ⟨rfl, rfl⟩
/-- How many numbers Compact leaves tells whether one stands twice. -/
theorem compactAny (base : Nat) (v : Value) (xs : List Int) (hlen : xs.length ≤ 1000) (w : World) (hb : base ≤ w.heap.size) (h : SortedAt w base v xs) :
    Calls Try.prog 107 #[v] w fun e w' => ∃ A m cap, e = .returned (.slice A m cap) ∧ decide ((m : Int) < xs.length) = decide (¬ xs.Nodup) ∧ Below base w w' := by
  rcases h with ⟨rfl, rfl⟩ | ⟨g, cap, rfl, hg, hown⟩
  · refine (compactNil w).mono ?_
    rintro e w' ⟨rfl, rfl⟩
    exact ⟨none, 0, 0, rfl, by simp, Below.refl _ _⟩
  · have hp := List.mergeSort_perm xs fun x y => decide (x ≤ y)
    have hl := hp.length_eq
    have hc := compact_lt xs
    generalize xs.mergeSort (fun x y => decide (x ≤ y)) = s at *
    rw [← hl] at hown hlen hc ⊢
    refine (compactOwn base g cap s w hlen hown).mono ?_
    rintro e w' ⟨rfl, hgr⟩
    refine ⟨_, _, _, rfl, ?_, ⟨hgr.os, hgr.tape, hgr.output, hgr.size, fun i hi => hgr.block i (by omega) (fun e => by injection e with e; omega)⟩⟩
    rw [← hc]
    exact decide_eq_decide.2 (by omega)

end Go.Proofs.Ytcjejcbikgcnbaa

/- The starts of an order: plain. -/
namespace Go.Proofs.Ytcjejcbikgcnbaa
open Go.RowKit Go.Shelf

def natsOf (xs : List Int) : List Nat := xs.map Int.toNat
def outN (n : Nat) (x : Int) : Bool := decide (x < 0) || decide ((n : Int) ≤ x)
/-- All tasks of an order stand behind those that they wait for. -/
def readyAll (l : List Task) (y : List Nat) (k : Nat) : Bool := (List.range k).all fun j => readyB l (y.take j) (y.getD j 0)
/-- What is wrong with an order. -/
def orderN (l : List Task) (xs : List Int) : Int :=
  if xs.length ≠ l.length then 3 else if xs.any (outN l.length) = true then 2 else if ¬ xs.Nodup then 10 else if readyAll l (natsOf xs) l.length = true then 0 else 17

theorem natsOf_len {xs : List Int} : (natsOf xs).length = xs.length := by simp [natsOf]
theorem natsOf_get {xs : List Int} {k : Nat} (h : k < xs.length) : (natsOf xs)[k]'(by rw [natsOf_len]; exact h) = xs[k].toNat := by simp [natsOf]
theorem outN_no {n : Nat} {x : Int} (h : outN n x = false) : 0 ≤ x ∧ x < n := by
  unfold outN at h
  simp only [Bool.or_eq_false_iff, decide_eq_false_iff_not] at h
  omega
theorem out_none {n : Nat} {xs : List Int} (h : xs.any (outN n) = false) : ∀ x ∈ xs, 0 ≤ x ∧ x < n := fun x hx => by
  rw [List.any_eq_false] at h
  exact outN_no (by simpa using h x hx)
theorem ints_natsOf {n : Nat} {xs : List Int} (h : xs.any (outN n) = false) : ints (natsOf xs) = xs := by
  unfold ints natsOf
  rw [List.map_map]
  conv => rhs; rw [← List.map_id xs]
  refine List.map_congr_left fun x hx => ?_
  have := (out_none h x hx).1
  simp only [Function.comp_apply, id_eq]
  show ((x.toNat : Nat) : Int) = x
  omega
theorem natsOf_nodup {n : Nat} {xs : List Int} (h : xs.any (outN n) = false) (hn : xs.Nodup) : (natsOf xs).Nodup := by
  rw [← ints_natsOf h] at hn
  unfold ints at hn
  exact List.Pairwise.of_map Int.ofNat (fun a b h e => h (by rw [e])) hn
theorem natsOf_lt {n : Nat} {xs : List Int} (h : xs.any (outN n) = false) : ∀ i ∈ natsOf xs, i < n := fun i hi => by
  unfold natsOf at hi
  obtain ⟨x, hx, rfl⟩ := List.mem_map.1 hi
  have := out_none h x hx
  omega
theorem readyAll_succ {l : List Task} {y : List Nat} {k : Nat} (hk : k < y.length) : readyAll l y (k + 1) = (readyAll l y k && readyB l (y.take k) y[k]) := by
  unfold readyAll
  rw [List.range_succ, List.all_append]
  simp [List.getD_eq_getElem?_getD, hk]
theorem readyAll_front {l : List Task} {y : List Nat} {k : Nat} : ∀ m, k ≤ m → readyAll l y m = true → readyAll l y k = true := fun m hm h => by
  unfold readyAll at *
  rw [List.all_eq_true] at *
  exact fun j hj => h j (by simp at hj ⊢; omega)
theorem placed_of {l : List Task} {y : List Nat} (hn : y.Nodup) (hlt : ∀ i ∈ y, i < l.length) (hr : readyAll l y y.length = true) : Placed l y :=
  ⟨hn, hlt, fun k hk => by
    have h := readyAll_front _ (show k + 1 ≤ y.length from hk) hr
    rw [readyAll_succ hk] at h
    simp at h
    exact h.2⟩

/-- The tasks y are placed at the starts s. -/
structure PutSt (l : List Task) (c p : Int) (y : List Nat) (s : List Int) : Prop where
  tied : Tied l s (listAll l c p y) y
  bd : ∀ x ∈ s, -1 ≤ x ∧ x ≤ 10000 * (y.length : Int)
theorem PutSt.nil (l : List Task) (c p : Int) : PutSt l c p [] (List.replicate l.length (-1)) :=
  ⟨tied_nil, fun x hx => by rw [(List.mem_replicate.1 hx).2]; simp⟩
theorem PutSt.un {l : List Task} {c p : Int} {y : List Nat} {s : List Int} {i : Nat} (hR : RightT l) (h : PutSt l c p y s) (hi : i < l.length) (hy : i ∉ y) : (rowAt l i).any (unB s) = !readyB l y i := by
  have h1 := h.tied.skip hR hi
  have h2 := h.tied.off i hi hy
  unfold skipB at h1
  rw [h2, decide_eq_false hy] at h1
  simpa using h1
theorem PutSt.step {l : List Task} {c p : Int} {y : List Nat} {s : List Int} {i : Nat} (hR : RightT l) (hc : 0 ≤ c ∧ 0 ≤ p) (hfit : l.any (tooMuch c p) = false) (h : PutSt l c p y s) (hi : i < l.length) (hy : i ∉ y) (hr : readyB l y i = true) :
    PutT l c p s i (putN l c p s i) ∧ PutSt l c p (y ++ [i]) (s.set i (putN l c p s i)) := by
  have hrow : (rowAt l i).any (unB s) = false := by rw [h.un hR hi hy, hr]; rfl
  have hput := put_exists (s := s) hR hc hfit h.tied.len hi
  have he := h.tied.early hR hi hy hrow hput
  have hbd := putN_bd (count := y.length) hR h.tied.len hi (fun x hx => (h.bd x hx).2) hput
  refine ⟨hput, by rw [listAll_snoc, he]; exact h.tied.snoc hi hy hbd.1, fun x hx => ?_⟩
  rw [List.length_append, List.length_singleton]
  rcases List.mem_or_eq_of_mem_set hx with hx | rfl
  · have := h.bd x hx; omega
  · omega
theorem PutSt.done {l : List Task} {c p : Int} {y : List Nat} {s : List Int} (h : PutSt l c p y s) (hy : y.length = l.length) : s = listAll l c p y :=
  list_atI h.tied.len h.tied.lenR fun j hj => (h.tied.on j (h.tied.all_on hy hj)).1

end Go.Proofs.Ytcjejcbikgcnbaa

/- schedule.List. -/
namespace Go.Proofs.Ytcjejcbikgcnbaa
open Go.RowKit Go.Shelf

theorem entersList1 : ∀ args w, (callFunc 104 args).run Try.prog w = .ok (.enter 104 args) w := enters_of Try.func104 (by kernel_rfl) rfl
theorem entersList2 : ∀ args w, (callFunc 108 args).run Try.prog w = .ok (.enter 108 args) w := enters_of Try.func108 (by kernel_rfl) rfl

set_option maxRecDepth 100000 in
set_option maxHeartbeats 1000000 in
theorem listClosure1 (x : Int) (D n cap : Nat) (A : Option Addr) (w : World) (_hn : n ≤ 1000) (hD : w.cell? ⟨D, 0, none⟩ = some (.slice A n cap)) :
    Calls Try.prog 104 #[.int .i64 x, .pointer (some ⟨D, 0, none⟩)] w fun e w' => e = .returned (.bool (outN n x)) ∧ Below w.heap.size w w' := by
  by_cases h : x < 0
  · have hb : decide (x < 0) = true := decide_eq_true h
    have HV : Hid (outN n x = true) := by unfold Hid outN; simp [h]
    clear h
    go_enter Try.func104, Try.ntmps104
    go_wp2_with fail
    go_ret
    exact ⟨ret_bool HV.out.symm, Below.refl _ _⟩
  · have hb : decide (x < 0) = false := decide_eq_false h
    have HV : Hid (outN n x = decide ((n : Int) ≤ x)) := by unfold Hid outN; simp [h]
    clear h
    go_enter Try.func104, Try.ntmps104
    go_wp2_with fail
    go_ret
    exact ⟨ret_bool HV.out.symm, Below.refl _ _⟩

set_option maxRecDepth 100000 in
set_option maxHeartbeats 1000000 in
theorem listClosure2 (g S Pb n : Nat) (k : Nat) (y : Int) (w : World) (hP : w.cell? ⟨Pb, 0, none⟩ = some (.pointer (some ⟨g, 0, none⟩))) (hg : w.cell? ⟨g, 4, none⟩ = some (.slice (some ⟨S, 0, none⟩) n n)) (hk : k < n) (_h8 : n ≤ 8)
    (hS : w.cell? ⟨S, k, none⟩ = some (.int .i64 y)) : Calls Try.prog 108 #[.int .i64 k, .pointer (some ⟨Pb, 0, none⟩)] w fun e w' => e = .returned (.bool (decide (y < 0))) ∧ Below w.heap.size w w' := by
  have i1 : (0 : Int) ≤ (k : Int) := Int.natCast_nonneg _
  have i2 : (k : Int) < (n : Int) := by omega
  go_enter Try.func108, Try.ntmps108
  go_wp2_with fail
  go_ret
  exact ⟨rfl, Below.refl _ _⟩

/-- What List gives. -/
def ListWPost (l : List Task) (c p : Int) (xs : List Int) (w : World) (e : Ending) (w' : World) : Prop :=
  Below w.heap.size w w' ∧
    ((validB l c p = false ∧ e = .returned (.tuple #[.slice none 0 0, .int .i64 1])) ∨
     (validB l c p = true ∧ l.any (tooMuch c p) = true ∧ e = .returned (.tuple #[.slice none 0 0, .int .i64 22])) ∨
     (validB l c p = true ∧ l.any (tooMuch c p) = false ∧ orderN l xs ≠ 0 ∧ e = .returned (.tuple #[.slice none 0 0, .int .i64 (orderN l xs)])) ∨
     (validB l c p = true ∧ l.any (tooMuch c p) = false ∧ orderN l xs = 0 ∧ ∃ S, e = .returned (.tuple #[.slice (some ⟨S, 0, none⟩) l.length l.length, .int .i64 0]) ∧
       w'.ownsRow w.heap.size 3 1 (.slice (some ⟨S, 0, none⟩) l.length l.length) l.length ((listAll l c p (natsOf xs)).map (Value.int .i64))))

/-- The loop's state: the tasks of the order's beginning are placed. -/
structure ListSt (w0 w : World) (B g O S D : Nat) (l : List Task) (c p : Int) (tv : Value) (cs : List Value) (y : List Nat) (s : List Int) : Prop where
  plan : PlanO w B g l c p tv O S cs s
  P : Blk w D 94 #[.pointer (some ⟨g, 0, none⟩)]
  put : PutSt l c p y s
  bel : Below w0.heap.size w0 w
  base : w0.heap.size ≤ B

theorem vals_of {w : World} {B : Nat} {v : Value} {xs : List Int} (h : IntsAt w B v xs) : ValsAt B w v xs := by
  obtain ⟨A, c, rfl, -, -, hc⟩ := h.open_
  by_cases h0 : xs = []
  · subst h0
    exact .inl ⟨A, c, rfl, rfl⟩
  · have hpos : 0 < xs.length := List.length_pos_iff.2 h0
    obtain ⟨b, off, rfl, hb, hcc⟩ := hc 0 hpos
    exact .inr ⟨b, off, c, rfl, hb, fun j hj => by rw [hcc j hj, List.getElem?_eq_getElem hj]; rfl⟩

theorem Blk.ne {w : World} {g g' : Nat} {t t' : TypeId} {cs cs' : Array Value} (h : Blk w g t cs) (h' : Blk w g' t' cs') (hne : t ≠ t') : g ≠ g' := fun e => by
  subst e
  unfold Blk at h h'
  rw [h] at h'
  injection h' with h'
  injection h' with _ h3
  exact hne h3
theorem ListSt.below {w0 w w' : World} {B g O S D : Nat} {l : List Task} {c p : Int} {tv : Value} {cs : List Value} {y : List Nat} {s : List Int} (h : ListSt w0 w B g O S D l c p tv cs y s) (hb : Below w.heap.size w w') : ListSt w0 w' B g O S D l c p tv cs y s :=
  ⟨h.plan.below hb, h.P.below hb h.P.lt, h.put, h.bel.trans (hb.mono h.bel.size), h.base⟩

set_option maxRecDepth 100000 in
set_option maxHeartbeats 8000000 in
theorem schedList (v u : Value) (l : List Task) (c p : Int) (xs : List Int) (w : World) (hl : TasksAt w w.heap.size v l) (hs : IntsAt w w.heap.size u xs) (hw : Wide xs) (hx12 : xs.length ≤ 1000) :
    Calls Try.prog 56 #[v, .int .i64 c, .int .i64 p, u] w (ListWPost l c p xs w) := by
  have HT : Hid (∀ w1, Below w.heap.size w w1 → TasksAt w1 w1.heap.size v l) := fun w1 hb => (hl.below hb (Nat.le_refl _)).mono hb.size
  have HS : Hid (∀ w1, Below w.heap.size w w1 → IntsAt w1 w1.heap.size u xs) := fun w1 hb => (hs.below hb (Nat.le_refl _)).mono hb.size
  have hV : ∀ o, Calls Try.prog 52 #[v, .int .i64 c, .int .i64 p] (w.alloc o) fun e w' => e = .returned (.bool (validB l c p)) ∧ Below (w.alloc o).heap.size (w.alloc o) w' := fun o => schedValid v l c p _ (HT.out _ ((Below.refl _ _).alloc (Nat.le_refl _) o))
  have HN : Hid (∀ w1, Below w.heap.size w w1 → Calls Try.prog 95 #[v, .int .i64 c, .int .i64 p] w1 fun e w' => e = .returned (.bool (l.any (tooMuch c p))) ∧ Below w1.heap.size w1 w') := fun w1 hb => schedNeeds v l c p w1 (HT.out w1 hb)
  have hb0 : ∀ o, Below w.heap.size w (w.alloc o) := fun o => (Below.refl _ _).alloc (Nat.le_refl _) o
  have HW := Lib.hid hw
  obtain ⟨A, cc, rfl, hA1, hA2, -⟩ := hl.open_
  obtain ⟨A1, c1, rfl, hB1, hB2, hBc⟩ := hs.open_
  have HXC : Hid (∀ k (hk : k < xs.length), ∃ b off, A1 = some ⟨b, off, none⟩ ∧ b < w.heap.size ∧ w.cell? ⟨b, off + k, none⟩ = some (.int .i64 xs[k])) := fun k hk => by
    obtain ⟨b, off, e, hb, hc⟩ := hBc k hk
    exact ⟨b, off, e, hb, hc k hk⟩
  unfold maxLen at hA2 hB2
  clear hl hs hw hBc
  cases hv : validB l c p with
  | false =>
    have Hv := Lib.hid hv
    rw [hv] at hV
    clear hv HN
    go_enter Try.func56, Try.ntmps56
    go_wp2_with (go_at_call 52; refine (hV _).mono ?_; rintro e w1 ⟨rfl, hb1⟩)
    refine bodyPost_ret (results_tmp2 rfl _ _ _) (by rfl) ?_
    exact ⟨(hb0 _).trans (hb1.mono (by simp)), .inl ⟨Hv.out, rfl⟩⟩
  | true =>
    obtain ⟨hR, hc0, hc1', hp0, hp1⟩ := valid_right hv
    have Hv := Lib.hid hv
    have HR := Lib.hid hR
    have h8 := hR.len
    rw [hv] at hV
    clear hv hR
    cases hn : l.any (tooMuch c p) with
    | true =>
      have Hn := Lib.hid hn
      rw [hn] at HN
      clear hn
      go_enter Try.func56, Try.ntmps56
      go_wp2_with (first
        | (go_at_call 52; refine (hV _).mono ?_; rintro e w1 ⟨rfl, hb1⟩; have hbx := (hb0 (.cells #[.slice A l.length cc] 22)).trans (hb1.mono (by simp)); have z1 := hb1.cell (p := ⟨w.heap.size, 0, none⟩) (by simp); rw [World.cell?_alloc_new] at z1; simp only [List.getElem?_toArray, List.getElem?_cons_zero] at z1; have hN := HN.out w1 hbx)
        | (go_at_call 95; refine hN.mono ?_; rintro e w2 ⟨rfl, hb2⟩))
      refine bodyPost_ret (results_tmp2 rfl _ _ _) (by rfl) ?_
      exact ⟨hbx.trans (hb2.mono hbx.size), .inr (.inl ⟨Hv.out, Hn.out, rfl⟩)⟩
    | false =>
      have Hn := Lib.hid hn
      rw [hn] at HN
      clear hn
      by_cases hlen : xs.length = l.length
      rotate_left
      · have HO : Hid (orderN l xs = 3) := by unfold Hid orderN; rw [if_pos hlen]
        have hlb : ((xs.length : Int) != (l.length : Int)) = true := bne_iff_ne.2 (by omega)
        clear hlen
        go_enter Try.func56, Try.ntmps56
        go_wp2_with (first
          | (go_at_call 52; refine (hV _).mono ?_; rintro e w1 ⟨rfl, hb1⟩; have hbx := (hb0 (.cells #[.slice A l.length cc] 22)).trans (hb1.mono (by simp)); have hl0 := Blk.new w 22 #[.slice A l.length cc]; have hl1 := hl0.below hb1 hl0.lt; have z1 := hl1.cell 0; simp only [List.getElem?_toArray, List.getElem?_cons_zero] at z1; have hN := HN.out w1 hbx)
          | (go_at_call 95; refine hN.mono ?_; rintro e w2 ⟨rfl, hb2⟩; have hl2 := hl1.below hb2 hl1.lt; have hbx2 := hbx.trans (hb2.mono hbx.size); clear z1; have z1 := hl2.cell 0; simp only [List.getElem?_toArray, List.getElem?_cons_zero] at z1))
        refine bodyPost_ret (results_tmp2 rfl _ _ _) (by rfl) ?_
        exact ⟨hbx2, .inr (.inr (.inl ⟨Hv.out, Hn.out, by rw [HO.out]; decide, by rw [HO.out]; rfl⟩))⟩
      have hlb : ((xs.length : Int) != (l.length : Int)) = false := by simp; omega
      have Hlen := Lib.hid hlen
      have hx8 : xs.length ≤ 8 := by omega
      clear hlen
      have HC1 : Hid (∀ w1, Below w.heap.size w w1 → w1.cell? ⟨w.heap.size, 0, none⟩ = some (.slice A l.length cc) → w.heap.size < w1.heap.size →
          Calls Try.prog 82 #[.slice A1 xs.length c1, .func (.func 104) #[] #[.pointer (some ⟨w.heap.size, 0, none⟩)]] w1 fun e w'' => e = .returned (.bool (xs.any (outN l.length))) ∧ Below w1.heap.size w1 w'') := fun w1 hb hD hDl =>
        containsFuncInt _ xs 104 #[.pointer (some ⟨w.heap.size, 0, none⟩)] (outN l.length) entersList1 w1 (HS.out w1 hb) fun x hx w' hb' =>
          listClosure1 x w.heap.size l.length cc A w' (by omega) ((hb'.cell (p := ⟨w.heap.size, 0, none⟩) hDl).trans hD)
      cases ho : xs.any (outN l.length) with
      | true =>
        have HO : Hid (orderN l xs = 2) := by unfold Hid orderN; rw [if_neg (by simpa using Hlen.out), if_pos ho]
        rw [ho] at HC1
        clear ho
        go_enter Try.func56, Try.ntmps56
        go_wp2_with (first
          | (go_at_call 52; refine (hV _).mono ?_; rintro e w1 ⟨rfl, hb1⟩; have hbx := (hb0 (.cells #[.slice A l.length cc] 22)).trans (hb1.mono (by simp)); have hl0 := Blk.new w 22 #[.slice A l.length cc]; have hl1 := hl0.below hb1 hl0.lt; have z1 := hl1.cell 0; simp only [List.getElem?_toArray, List.getElem?_cons_zero] at z1; have hN := HN.out w1 hbx)
          | (go_at_call 95; refine hN.mono ?_; rintro e w2 ⟨rfl, hb2⟩; have hl2 := hl1.below hb2 hl1.lt; have hbx2 := hbx.trans (hb2.mono hbx.size); clear z1; have z1 := hl2.cell 0; simp only [List.getElem?_toArray, List.getElem?_cons_zero] at z1; have hC := HC1.out w2 hbx2 z1 hl2.lt)
          | (go_at_call 82; refine hC.mono ?_; rintro e w3 ⟨rfl, hb3⟩))
        refine bodyPost_ret (results_tmp2 rfl _ _ _) (by rfl) ?_
        exact ⟨hbx2.trans (hb3.mono hbx2.size), .inr (.inr (.inl ⟨Hv.out, Hn.out, by rw [HO.out]; decide, by rw [HO.out]; rfl⟩))⟩
      | false =>
        have Ho := Lib.hid ho
        rw [ho] at HC1
        clear ho
        go_enter Try.func56, Try.ntmps56
        go_wp2_with (first
          | (go_at_call 52; refine (hV _).mono ?_; rintro e w1 ⟨rfl, hb1⟩; have hbx := (hb0 (.cells #[.slice A l.length cc] 22)).trans (hb1.mono (by simp)); have hl0 := Blk.new w 22 #[.slice A l.length cc]; have hl1 := hl0.below hb1 hl0.lt; have z1 := hl1.cell 0; simp only [List.getElem?_toArray, List.getElem?_cons_zero] at z1; have hN := HN.out w1 hbx)
          | (go_at_call 95; refine hN.mono ?_; rintro e w2 ⟨rfl, hb2⟩; have hl2 := hl1.below hb2 hl1.lt; have hbx2 := hbx.trans (hb2.mono hbx.size); clear z1; have z1 := hl2.cell 0; simp only [List.getElem?_toArray, List.getElem?_cons_zero] at z1; have hC := HC1.out w2 hbx2 z1 hl2.lt)
          | (go_at_call 82; refine hC.mono ?_; rintro e w3 ⟨rfl, hb3⟩; have hl3 := hl2.below hb3 hl2.lt; have hbx3 := hbx2.trans (hb3.mono hbx2.size)))
        have z3 := hl3.cell 0
        simp only [List.getElem?_toArray, List.getElem?_cons_zero] at z3
        have hval : ValsAt (w3.alloc (.cells #[.slice A1 xs.length c1] 29)).heap.size (w3.alloc (.cells #[.slice A1 xs.length c1] 29)) (.slice A1 xs.length c1) xs := vals_of (HS.out _ (hbx3.alloc hbx3.size _))
        have hSrt := sortedAny w3.heap.size (.slice A1 xs.length c1) xs (by omega) (w3.alloc (.cells #[.slice A1 xs.length c1] 29)) (by simp) (by rw [World.cell?_alloc_new]; rfl) hval
        have hbx4 := hbx3.alloc hbx3.size (.cells #[.slice A1 xs.length c1] 29)
        have hl4 := hl3.alloc (.cells #[.slice A1 xs.length c1] 29)
        have hl3lt := hl3.lt
        clear hval z3 z1 hC hN hV hb1 hb2 hb3 hl0 hl1 hl2 hl3 hbx hbx2
        refine (valuesOf A1 xs.length c1 w3).mono ?_
        rintro e w4 ⟨rfl, rfl⟩
        go_wp2_with fail
        refine hSrt.mono ?_
        rintro e w5 ⟨sv, rfl, hSA, hb5⟩
        have hl5 := hl4.below hb5 hl4.lt
        have hbx5 := hbx4.trans (hb5.mono hbx4.size)
        have hsz5 : w3.heap.size + 1 ≤ w5.heap.size := by have := hb5.size; simpa using this
        simp only [World.size_alloc] at hSA hb5
        have HK : Hid (∀ q, Calls Try.prog 107 #[sv] (w5.drewN q) fun e w' => ∃ A m cap, e = .returned (.slice A m cap) ∧ decide ((m : Int) < xs.length) = decide (¬ xs.Nodup) ∧ Below (w3.heap.size + 1) (w5.drewN q) w') := fun q => compactAny (w3.heap.size + 1) sv xs (by omega) (w5.drewN q) hsz5 hSA
        have z5 := hl5.cell 0
        simp only [List.getElem?_toArray, List.getElem?_cons_zero] at z5
        have hD3 : w.heap.size < w3.heap.size + 1 := by omega
        clear hSA hSrt hl4 hbx3 hbx4 hb5
        obtain ⟨tw, htw⟩ : ∃ tw, decide (¬ xs.Nodup) = tw := ⟨_, rfl⟩
        have Htw := Lib.hid htw
        clear htw
        go_upto_region 10 with fail
        go_cut [43] (fun s wx => s = .bool tw ∧ Hid (Below (w3.heap.size + 1) w5 wx))
        case first =>
          go_region_with (go_at_call 107; refine (HK.out _).mono ?_; rintro e w6 ⟨A6, m6, c6, rfl, hm6, hb6⟩; have Hm6 := Lib.hid hm6; have Hb6 := Lib.hid hb6; have z6 := (hb6.cell (p := ⟨w.heap.size, 0, none⟩) hD3).trans z5; clear hm6 hb6)
          all_goals
            go_wp2_with fail
            go_meet
            exact ⟨congrArg Value.bool (by rw [← Hlen.out]; exact (decide_eq_decide.2 (show (m6 < xs.length) ↔ ((m6 : Int) < xs.length) by omega)).trans (Hm6.out.trans Htw.out)), (below_drewN (Below.refl _ _) _).trans Hb6.out⟩
        case rest =>
          obtain ⟨rfl, HB6⟩ := hcut
          have hbx6 := hbx5.trans (HB6.out.mono (by omega))
          cases tw with
          | true =>
            have hnd : ¬ xs.Nodup := by simpa using Htw.out
            have HO : Hid (orderN l xs = 10) := by unfold Hid orderN; rw [if_neg (by simpa using Hlen.out), if_neg (by rw [Ho.out]; decide), if_pos hnd]
            clear hnd
            go_wp2_with fail
            refine bodyPost_ret (results_tmp2 rfl _ _ _) (by rfl) ?_
            exact ⟨hbx6, .inr (.inr (.inl ⟨Hv.out, Hn.out, by rw [HO.out]; decide, by rw [HO.out]; rfl⟩))⟩
          | false =>
            have hnd : xs.Nodup := by simpa using Htw.out
            have HND := Lib.hid hnd
            have HOr : Hid (orderN l xs = if readyAll l (natsOf xs) l.length = true then 0 else 17) := by unfold Hid orderN; rw [if_neg (by simpa using Hlen.out), if_neg (by rw [Ho.out]; decide), if_neg (by simpa using hnd)]
            have hl6 := hl5.below HB6.out hD3
            have z6 := hl6.cell 0
            simp only [List.getElem?_toArray, List.getElem?_cons_zero] at z6
            clear hnd HK z5 hl5 hbx5
            go_wp2_with fail
            refine (schedNewPlanA (.slice A l.length cc) l c p wc HR.out (HT.out wc hbx6)).mono ?_
            rintro e w7 ⟨g, O, S, cs, rfl, hnp, hb7, hap⟩
            have hbx7 := hbx6.trans (hb7.mono hbx6.size)
            have hST : ListSt w (w7.alloc (.cells #[.pointer (some ⟨g, 0, none⟩)] 94)) wc.heap.size g O S w7.heap.size l c p (.slice A l.length cc) cs ((natsOf xs).take 0) (List.replicate l.length (-1)) :=
              ⟨(PlanO.of_new hnp ((HT.out wc hbx6).below hb7 (Nat.le_refl _)) hb7.size hap).below ((Below.refl _ _).alloc (Nat.le_refl _) _), Blk.new _ _ _, PutSt.nil l c p, hbx7.alloc hbx7.size _, hbx6.size⟩
            have HST0 := Lib.hid hST
            clear hST hnp hap hb7 hbx7 hl6 z6 hbx6
            go_wp2_with fail
            generalize w7.alloc (.cells #[.pointer (some ⟨g, 0, none⟩)] 94) = w8 at *
            generalize w7.heap.size = D at *
            generalize wc.heap.size = BB at *
            go_loopw [50] (fun ix wr => ∃ (k : Nat) (s : List Int), k ≤ xs.length ∧ ix = .int .i64 k ∧ Hid (readyAll l (natsOf xs) k = true) ∧ Hid (ListSt w wr BB g O S D l c p (.slice A l.length cc) cs ((natsOf xs).take k) s)) (fun ix _ => xs.length - (intOf ix).toNat)
            case atStart => exact ⟨0, _, Nat.zero_le _, rfl, rfl, HST0⟩
            case round =>
              clear HST0
              obtain ⟨k, s, hk, rfl, HRd, HST⟩ := hrel
              by_cases hkl : k < xs.length
              · obtain ⟨b1, off1, rfl, hb1, hxc⟩ := HXC.out k hkl
                have x1 := (HST.out.bel.cell (p := ⟨b1, off1 + k, none⟩) hb1).trans hxc
                obtain ⟨i, hi, hxi, hyi⟩ : ∃ i : Nat, i < l.length ∧ xs[k] = (i : Int) ∧ (natsOf xs)[k]'(by rw [natsOf_len]; exact hkl) = i := by
                  have := out_none Ho.out _ (List.getElem_mem hkl)
                  exact ⟨xs[k].toNat, by omega, by omega, natsOf_get hkl⟩
                rw [hxi] at x1
                have htk : (natsOf xs).take (k + 1) = (natsOf xs).take k ++ [i] := by rw [take_snoc _ k (by rw [natsOf_len]; exact hkl), hyi]
                have hndn := natsOf_nodup Ho.out HND.out
                have hiy : i ∉ (natsOf xs).take k := by
                  have h1 : ((natsOf xs).take k ++ [i]).Nodup := by rw [← htk]; exact hndn.sublist (List.take_sublist _ _)
                  exact (nodup_snocN h1).2
                have hun := HST.out.put.un HR.out hi hiy
                have hrA : rowAt l i = pls l l[i].bef := getD_rows hi
                rw [hrA] at hun
                have hmem : ∀ x ∈ pls l l[i].bef, ∃ j : Nat, j < l.length ∧ x = (j : Int) := fun x hx => mem_row HR.out hi hx
                have y1 := HST.out.P.cell 0
                have y2 := HST.out.plan.blk.cell 1
                obtain ⟨vr, y5, hrow⟩ := HST.out.plan.row hi
                simp only [List.getElem?_toArray, List.getElem?_cons_succ, List.getElem?_cons_zero] at y1 y2
                have hC : Calls Try.prog 82 #[vr, .func (.func 108) #[] #[.pointer (some ⟨D, 0, none⟩)]] wr fun e w'' => e = .returned (.bool ((pls l l[i].bef).any (unB s))) ∧ Below wr.heap.size wr w'' := by
                  refine containsFuncInt vr (pls l l[i].bef) 108 #[.pointer (some ⟨D, 0, none⟩)] (unB s) entersList2 wr hrow ?_
                  intro x hx w' hb
                  obtain ⟨j, hj, rfl⟩ := hmem x hx
                  have HST' := HST.out.below hb
                  have z1 := HST'.P.cell 0
                  have z3 := HST'.plan.blk.cell 4
                  simp only [List.getElem?_toArray, List.getElem?_cons_succ, List.getElem?_cons_zero] at z1 z3
                  exact listClosure2 g S D l.length j (atI s j) w' z1 z3 hj h8 (HST'.plan.cell hj).1
                rw [hun] at hC
                have HNext : Hid (readyAll l (natsOf xs) (k + 1) = readyB l ((natsOf xs).take k) i) := by
                  unfold Hid
                  rw [readyAll_succ (by rw [natsOf_len]; exact hkl), HRd.out, hyi]
                  rfl
                have HStep : Hid (readyB l ((natsOf xs).take k) i = true → PutT l c p s i (putN l c p s i) ∧ PutSt l c p ((natsOf xs).take (k + 1)) (s.set i (putN l c p s i))) := fun h => by
                  rw [htk]
                  exact HST.out.put.step HR.out ⟨hc0, hp0⟩ Hn.out hi hiy h
                have HYL : Hid ((((natsOf xs).take k).length : Int) ≤ 8) := by unfold Hid; rw [List.length_take, natsOf_len]; omega
                have HL8 := Hlen.out
                obtain ⟨A', c', rfl, hr1, hr2, -⟩ := hrow.open_
                unfold maxLen at hr2
                clear hun hrA hmem hrow htk hndn hiy hyi hxc hxi HL8
                generalize (pls l l[i].bef).length = rl at *
                have j1 : (0 : Int) ≤ (i : Int) := Int.natCast_nonneg _
                have j2 : (i : Int) < (l.length : Int) := by omega
                have j3 : (0 : Int) ≤ (k : Int) := Int.natCast_nonneg _
                have j4 : (k : Int) < (xs.length : Int) := by omega
                generalize readyB l ((natsOf xs).take k) i = rd at *
                cases rd with
                | false =>
                  have HO : Hid (orderN l xs = 17) := by
                    unfold Hid
                    rw [HOr.out, if_neg]
                    intro h
                    have := readyAll_front (k := k + 1) _ (by have := Hlen.out; omega) h
                    rw [HNext.out] at this
                    cases this
                  clear HNext HStep HOr
                  simp only [Bool.not_false] at hC
                  go_wp2_with (go_at_call 82; refine hC.mono ?_; rintro e w9 ⟨rfl, hb9⟩)
                  refine bodyPost_ret (results_tmp2 rfl _ _ _) (by rfl) ?_
                  exact ⟨(HST.out.below hb9).bel, .inr (.inr (.inl ⟨Hv.out, Hn.out, by rw [HO.out]; decide, by rw [HO.out]; rfl⟩))⟩
                | true =>
                  simp only [Bool.not_true] at hC
                  obtain ⟨hput, hPS⟩ := HStep.out rfl
                  have HPS := Lib.hid hPS
                  have HPut := Lib.hid hput
                  clear hput hPS HStep
                  go_wp2_with fail
                  refine hC.mono ?_
                  rintro e w9 ⟨rfl, hb9⟩
                  have HST9 := Lib.hid (HST.out.below hb9)
                  have y9 := HST9.out.P.cell 0
                  simp only [List.getElem?_toArray, List.getElem?_cons_zero] at y9
                  clear y1 y2 y5 x1 hC hb9
                  go_wp2_with fail
                  refine (planPut BB g O S l c p (.slice A l.length cc) cs s i (putN l c p s i) w9 HR.out HST9.out.plan hi (fun x hx => by have := HST9.out.put.bd x hx; have := HYL.out; omega) HPut.out).mono ?_
                  rintro e w10 ⟨rfl, hpl, hgr⟩
                  have HST10 : Hid (ListSt w w10 BB g O S D l c p (.slice A l.length cc) cs ((natsOf xs).take (k + 1)) (s.set i (putN l c p s i))) :=
                    ⟨hpl, HST9.out.P.kept hgr (fun e => (Blk.ne HST9.out.P HST9.out.plan.st (by decide)) (by injection e)), HPS.out, HST9.out.bel.grown hgr HST9.out.bel.size (fun k hk => by cases hk; exact Nat.le_trans HST9.out.base HST9.out.plan.low.2.1), HST9.out.base⟩
                  clear hpl hgr y9
                  go_wp2_with fail
                  go_roundw
                  case rel => exact ⟨k + 1, _, by omega, by go_num, HNext.out, HST10⟩
                  case measure => simp [intOf]; omega
              · have hke : k = xs.length := by omega
                subst hke
                have hlen := Hlen.out
                have hyl : (natsOf xs).take xs.length = natsOf xs := by rw [List.take_of_length_le (by rw [natsOf_len]; omega)]
                have HO : Hid (orderN l xs = 0) := by
                  unfold Hid
                  rw [HOr.out, if_pos (by rw [← hlen]; exact HRd.out)]
                have hpd := HST.out.put.done (by rw [hyl, natsOf_len]; exact hlen)
                rw [hyl] at hpd
                have HOwn : Hid (wr.ownsRow w.heap.size 3 1 (.slice (some ⟨S, 0, none⟩) l.length l.length) l.length ((listAll l c p (natsOf xs)).map (Value.int .i64))) := by
                  rw [← hpd]
                  exact own_of_whole HST.out.plan.st (Nat.le_trans HST.out.base HST.out.plan.low.2.1) (by rw [List.length_map]; exact HST.out.plan.len) (by unfold maxLen; omega)
                have y1 := HST.out.P.cell 0
                have y3 := HST.out.plan.blk.cell 4
                simp only [List.getElem?_toArray, List.getElem?_cons_succ, List.getElem?_cons_zero] at y1 y3
                clear hlen hyl hpd
                go_wp2_with fail
                refine bodyPost_ret (results_tmp2 rfl _ _ _) (by rfl) ?_
                exact ⟨HST.out.bel, .inr (.inr (.inr ⟨Hv.out, Hn.out, HO.out, S, rfl, HOwn.out⟩))⟩

end Go.Proofs.Ytcjejcbikgcnbaa

/- the reference's Order. -/
namespace Go.Proofs.Ytcjejcbikgcnbaa
open Go.RowKit Go.Shelf

theorem between_out (n : Nat) (x : Int) : betweenB x 0 ((n : Int) - 1) = !outN n x := by
  unfold betweenB outN
  by_cases h1 : x < 0
  · rw [decide_eq_true h1, decide_eq_false (by omega)]; rfl
  · by_cases h2 : (n : Int) ≤ x
    · rw [decide_eq_false h1, decide_eq_true h2, decide_eq_false (by omega)]; rfl
    · rw [decide_eq_false h1, decide_eq_false h2, decide_eq_true (by omega)]; rfl
theorem any_take_succ {α : Type} {q : α → Bool} {xs : List α} {k : Nat} (h : k < xs.length) : (xs.take (k + 1)).any q = ((xs.take k).any q || q xs[k]) := by
  rw [take_snoc _ k h, List.any_append]
  simp
theorem any_of_take {α : Type} {q : α → Bool} {xs : List α} {k : Nat} (h : k < xs.length) (hq : q xs[k] = true) : xs.any q = true := List.any_eq_true.2 ⟨xs[k], List.getElem_mem h, hq⟩
theorem nodup_take_succ {xs : List Int} {k : Nat} (h : k < xs.length) (hn : (xs.take k).Nodup) (hx : xs[k] ∉ xs.take k) : (xs.take (k + 1)).Nodup := by
  rw [take_snoc _ k h]
  exact nodup_snoc.2 ⟨hn, hx⟩
theorem notnodup {xs : List Int} {j k : Nat} (hjk : j < k) (hk : k < xs.length) (e : xs[j] = xs[k]) : ¬ xs.Nodup := fun hn => (List.pairwise_iff_getElem.1 hn) j k (by omega) hk hjk e

set_option maxRecDepth 100000 in
set_option maxHeartbeats 8000000 in
theorem refOrder (v u : Value) (l : List Task) (xs : List Int) (w : World) (hR : RightT l) (hl : TasksAt w w.heap.size v l) (hs : IntsAt w w.heap.size u xs) (hw : Wide xs) :
    Calls Try.prog 57 #[v, u] w fun e w' => e = .returned (.int .i64 (orderN l xs)) ∧ ∃ q, w.drewN q = w' := by
  have h8 := hR.len
  have HR := Lib.hid hR
  have HL := Lib.hid hl
  have HS := Lib.hid hs
  have HW := Lib.hid hw
  obtain ⟨A, cc, rfl, hA1, hA2, -⟩ := hl.open_
  obtain ⟨A1, c1, rfl, hB1, hB2, hBc⟩ := hs.open_
  have HXC : Hid (∀ k (hk : k < xs.length), ∃ b off, A1 = some ⟨b, off, none⟩ ∧ ∀ j (hj : j < xs.length), w.cell? ⟨b, off + j, none⟩ = some (.int .i64 xs[j])) := fun k hk => by
    obtain ⟨b, off, e, hb, hc⟩ := hBc k hk
    exact ⟨b, off, e, hc⟩
  unfold maxLen at hA2 hB2
  clear hl hs hw hBc hR
  by_cases hlen : xs.length = l.length
  rotate_left
  · have HO : Hid (orderN l xs = 3) := by unfold Hid orderN; rw [if_pos hlen]
    have hlb : ((xs.length : Int) != (l.length : Int)) = true := bne_iff_ne.2 (by omega)
    clear hlen
    go_enter Try.func57, Try.ntmps57
    go_wp2_with fail
    go_ret
    exact ⟨ret_int HO.out.symm, 0, rfl⟩
  have hlb : ((xs.length : Int) != (l.length : Int)) = false := by simp; omega
  have Hlen := Lib.hid hlen
  have hx8 : xs.length ≤ 8 := by omega
  clear hlen
  go_enter Try.func57, Try.ntmps57
  go_wp2_with fail
  go_loopw [5] (fun ix wr => ∃ k : Nat, k ≤ xs.length ∧ ix = .int .i64 k ∧ Hid ((xs.take k).any (outN l.length) = false) ∧ w = wr) (fun ix _ => xs.length - (intOf ix).toNat)
  case atStart => exact ⟨0, Nat.zero_le _, rfl, rfl, rfl⟩
  case round =>
    obtain ⟨k, hk, rfl, HN, rfl⟩ := hrel
    have i1 : (0 : Int) ≤ (k : Int) := Int.natCast_nonneg _
    by_cases hkl : k < xs.length
    · obtain ⟨b1, off1, rfl, hc⟩ := HXC.out k hkl
      have x1 := hc k hkl
      have hB := refBetween xs[k] 0 ((l.length : Int) - 1) w
      rw [between_out] at hB
      have HNext : Hid (outN l.length xs[k] = false → (xs.take (k + 1)).any (outN l.length) = false) := fun h => by rw [any_take_succ hkl, HN.out, h]; rfl
      have HBad : Hid (outN l.length xs[k] = true → orderN l xs = 2) := fun h => by
        unfold orderN
        rw [if_neg (by simpa using Hlen.out), if_pos (any_of_take hkl h)]
      have i2 : (k : Int) < (xs.length : Int) := by omega
      clear hc HN
      generalize outN l.length xs[k] = ob at *
      cases ob with
      | true =>
        have HB := Lib.hid (HBad.out rfl)
        simp only [Bool.not_true] at hB
        clear HBad HNext
        go_wp2_with (go_at_call 68; refine hB.mono ?_; rintro e w' ⟨rfl, rfl⟩)
        go_ret
        exact ⟨ret_int HB.out.symm, 0, rfl⟩
      | false =>
        have HB := Lib.hid (HNext.out rfl)
        simp only [Bool.not_false] at hB
        clear HBad HNext
        go_wp2_with (go_at_call 68; refine hB.mono ?_; rintro e w' ⟨rfl, rfl⟩)
        go_roundw
        case rel => exact ⟨k + 1, by omega, by go_num, HB, by trivial⟩
        case measure => simp [intOf]; omega
    · obtain rfl : k = xs.length := by omega
      have HAny : Hid (xs.any (outN l.length) = false) := by have := HN.out; rwa [List.take_length] at this
      clear HN
      go_wp2_with fail
      obtain ⟨wo, rfl⟩ : ∃ wo : World, wo = w := ⟨_, rfl⟩
      go_loopw [6] (fun ix wr => ∃ k : Nat, k ≤ xs.length ∧ ix = .int .i64 k ∧ Hid ((xs.take k).Nodup) ∧ ∃ q, wo.drewN q = wr) (fun ix _ => xs.length - (intOf ix).toNat)
      case atStart => exact ⟨0, Nat.zero_le _, rfl, List.nodup_nil, 0, rfl⟩
      case round =>
        obtain ⟨k, hk, rfl, HN, q, rfl⟩ := hrel
        have j1 : (0 : Int) ≤ (k : Int) := Int.natCast_nonneg _
        by_cases hkl : k < xs.length
        · have j2 : (k : Int) < (xs.length : Int) := by omega
          go_wp2_with fail
          go_loopw [7] (fun ix wr => ∃ j : Nat, j ≤ k ∧ ix = .int .i64 j ∧ Hid (xs[k] ∉ xs.take j) ∧ ∃ q, wo.drewN q = wr) (fun ix _ => xs.length - (intOf ix).toNat)
          case atStart => exact ⟨0, Nat.zero_le _, rfl, by unfold Hid; simp, q, rfl⟩
          case round =>
            obtain ⟨j, hj, rfl, HJ, q, rfl⟩ := hrel
            have j3 : (0 : Int) ≤ (j : Int) := Int.natCast_nonneg _
            by_cases hjl : j < k
            · have j4 : (j : Int) < (xs.length : Int) := by omega
              obtain ⟨b1, off1, rfl, hc⟩ := HXC.out k hkl
              have x1 := hc k hkl
              have x2 := hc j (by omega)
              have HBad : Hid (xs[j] = xs[k] → orderN l xs = 10) := fun h => by
                unfold orderN
                rw [if_neg (by simpa using Hlen.out), if_neg (by rw [HAny.out]; decide), if_pos (notnodup hjl hkl h)]
              have HNext : Hid (¬ xs[j] = xs[k] → xs[k] ∉ xs.take (j + 1)) := fun h => notin_snoc (by omega) HJ.out h
              clear hc HJ
              by_cases he : xs[j] = xs[k]
              · have HB := Lib.hid (HBad.out he)
                have heb : (xs[j] == xs[k]) = true := beq_iff_eq.2 he
                clear he HBad HNext
                generalize xs[j] = xj at *
                generalize xs[k] = xk at *
                go_wp2_with fail
                go_quiet (fail)
                go_wp2
                go_ret
                exact ⟨ret_int HB.out.symm, _, (World.drewN_drewN ..).symm⟩
              · have HB := Lib.hid (HNext.out he)
                have heb : (xs[j] == xs[k]) = false := beq_eq_false_iff_ne.2 he
                clear he HBad HNext
                generalize xs[j] = xj at *
                generalize hxk : xs[k] = xk at *
                have Hxk := Lib.hid hxk
                clear hxk
                go_wp2_with fail
                go_quiet (fail)
                go_wp2
                go_roundw
                case rel => exact ⟨j + 1, by omega, by go_num, HB, _, rfl⟩
                case measure => simp [intOf]; omega
            · obtain rfl : j = k := by omega
              have HB : Hid ((xs.take (j + 1)).Nodup) := nodup_take_succ hkl HN.out HJ.out
              clear HJ HN
              go_wp2_with fail
              go_roundw
              case rel => exact ⟨j + 1, by omega, by go_num, HB, q, rfl⟩
              case measure => simp [intOf]; omega
        · obtain rfl : k = xs.length := by omega
          have HND : Hid (xs.Nodup) := by have := HN.out; rwa [List.take_length] at this
          have HOr : Hid (orderN l xs = if readyAll l (natsOf xs) l.length = true then 0 else 17) := by unfold Hid orderN; rw [if_neg (by simpa using Hlen.out), if_neg (by rw [HAny.out]; decide), if_neg (by simpa using HND.out)]
          clear HN HND
          go_wp2_with fail
          go_loopw [8] (fun ix wr => ∃ k : Nat, k ≤ xs.length ∧ ix = .int .i64 k ∧ Hid (readyAll l (natsOf xs) k = true) ∧ ∃ q, wo.drewN q = wr) (fun ix _ => xs.length - (intOf ix).toNat)
          case atStart => exact ⟨0, Nat.zero_le _, rfl, rfl, q, rfl⟩
          case round =>
            obtain ⟨k, hk, rfl, HN, q, rfl⟩ := hrel
            have j3 : (0 : Int) ≤ (k : Int) := Int.natCast_nonneg _
            by_cases hkl : k < xs.length
            · have j4 : (k : Int) < (xs.length : Int) := by omega
              have j5 : (k : Int) ≤ (c1 : Int) := by omega
              obtain ⟨b1, off1, rfl, hc⟩ := HXC.out k hkl
              have x1 := hc k hkl
              obtain ⟨i, hi, hxi, hyi⟩ : ∃ i : Nat, i < l.length ∧ xs[k] = (i : Int) ∧ (natsOf xs)[k]'(by rw [natsOf_len]; exact hkl) = i := by
                have := out_none HAny.out _ (List.getElem_mem hkl)
                exact ⟨xs[k].toNat, by omega, by omega, natsOf_get hkl⟩
              rw [hxi] at x1
              have hzz : ∀ q', IntsAt (wo.drewN q') wo.heap.size (.slice (some ⟨b1, off1, none⟩) k c1) (ints ((natsOf xs).take k)) := fun q' => by
                rw [ints_take, ints_natsOf HAny.out]
                exact RowAt.take (HS.out.below (below_drewN (Below.refl _ _) q') (Nat.le_refl _)) k (by omega)
              have hC : ∀ q', Calls Try.prog 109 #[.slice A l.length cc, .slice (some ⟨b1, off1, none⟩) k c1, .int .i64 i] (wo.drewN q') fun e w' => e = .returned (.bool (readyB l ((natsOf xs).take k) i)) ∧ wo.drewN q' = w' := fun q' => by
                have := refReady (.slice A l.length cc) (.slice (some ⟨b1, off1, none⟩) k c1) l ((natsOf xs).take k) i wo.heap.size (wo.drewN q') HR.out (HL.out.drewN q') (hzz q') hi
                exact this
              have HNext : Hid (readyAll l (natsOf xs) (k + 1) = readyB l ((natsOf xs).take k) i) := by
                unfold Hid
                rw [readyAll_succ (by rw [natsOf_len]; exact hkl), HN.out, hyi]
                rfl
              clear hc HN hxi hyi hzz
              generalize readyB l ((natsOf xs).take k) i = rd at *
              cases rd with
              | false =>
                have HO : Hid (orderN l xs = 17) := by
                  unfold Hid
                  rw [HOr.out, if_neg]
                  intro h
                  have := readyAll_front (k := k + 1) _ (by have := Hlen.out; omega) h
                  rw [HNext.out] at this
                  cases this
                clear HNext HOr
                go_wp2_with fail
                go_quiet ((go_at_call 109; exact quiet_add (hC _)))
                go_wp2
                go_ret
                exact ⟨ret_int HO.out.symm, _, (World.drewN_drewN ..).symm⟩
              | true =>
                have HNx : Hid (readyAll l (natsOf xs) (k + 1) = true) := HNext.out
                clear HNext
                go_wp2_with fail
                go_quiet ((go_at_call 109; exact quiet_add (hC _)))
                go_wp2
                go_roundw
                case rel => exact ⟨k + 1, by omega, by go_num, HNx, _, rfl⟩
                case measure => simp [intOf]; omega
            · obtain rfl : k = xs.length := by omega
              have HO : Hid (orderN l xs = 0) := by
                unfold Hid
                rw [HOr.out, if_pos (by rw [← Hlen.out]; exact HN.out)]
              clear HOr HN
              go_wp2_with fail
              go_ret
              exact ⟨ret_int HO.out.symm, q, rfl⟩

end Go.Proofs.Ytcjejcbikgcnbaa
