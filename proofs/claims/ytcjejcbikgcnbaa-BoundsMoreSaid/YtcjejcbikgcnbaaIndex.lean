/- schedule.index: names to indices. -/
import Derived.Test.YtcjejcbikgcnbaaFind
import Derived.Maps.Own
import Derived.Maps.OwnOps
import Derived.Maps.OwnSet
import Derived.Maps.Views
namespace Go.Proofs.Ytcjejcbikgcnbaa
open Go.RowKit Go.Shelf Go.WideMaps Go.Maps

def keyS (s : ByteArray) : Lit := .string s.data.toList
theorem keyS_inj {a b : ByteArray} (h : keyS a = keyS b) : a = b := by
  unfold keyS at h
  injection h with h
  cases a; cases b
  simp at h
  rw [h]
theorem keyS_key (s : ByteArray) : WideAt.IsKeyLit (keyS s) := trivial
theorem keyLaw : Keyed Try.prog 9 := string_keyed Try.underlying9
theorem keyOf_s {s : ByteArray} (h : s.size ≤ maxLen) : keyOf Try.prog 9 (.string s) = some (keyS s) := keyOf_string_mk Try.underlying9 h
theorem zeroInt (w : World) : (zeroValue 3).run Try.prog w = .ok (.int .i64 0) w := by kernel_rfl

/-- The datum of a map from the names of the first j tasks to their indices. -/
structure NamesD (l : List Task) (j : Nat) (D : DataW Unit) : Prop where
  has : ∀ s, Maps.has D (keyS s) = decide (s ∈ names (l.take j))
  at_ : (names (l.take j)).Nodup → ∀ i (hi : i < l.length), i < j → ∀ z, D.atKey (keyS l[i].name) z = .lit (.int .i64 i)
  size : Maps.size D = j ↔ (names (l.take j)).Nodup
  le : Maps.size D ≤ j

def NamesMap (w : World) (b : Nat) (l : List Task) (j : Nat) : Prop := ∃ D, w.ownsMap Try.prog 9 (plainElem Try.prog 3) b j D ∧ NamesD l j D

theorem NamesD.start (l : List Task) : NamesD l 0 (.map []) :=
  ⟨fun s => by simp [Maps.has, names], fun _ i _ hi => absurd hi (Nat.not_lt_zero i), by simp [Maps.size, names], Nat.le_refl _⟩

theorem names_snoc (l : List Task) {j : Nat} (hj : j < l.length) : names (l.take (j + 1)) = names (l.take j) ++ [l[j].name] := by
  unfold names; rw [take_snoc l j hj, List.map_append]; rfl
theorem nodup_snoc {α : Type} {x : α} {l : List α} : (l ++ [x]).Nodup ↔ l.Nodup ∧ x ∉ l := by
  rw [List.nodup_append]
  constructor
  · rintro ⟨h1, -, h3⟩
    exact ⟨h1, fun hx => h3 x hx x (by simp) rfl⟩
  · rintro ⟨h1, h2⟩
    refine ⟨h1, by simp, fun a ha b hb => ?_⟩
    simp only [List.mem_singleton] at hb
    subst hb
    exact fun e => h2 (e ▸ ha)

theorem NamesD.step {l : List Task} {j : Nat} {D : DataW Unit} (h : NamesD l j D) (hj : j < l.length) (hm : IsMap D) (ht : Tidy D) : NamesD l (j + 1) (D.put (keyS l[j].name) (.lit (.int .i64 j))) := by
  have hn := names_snoc l hj
  refine ⟨fun s => ?_, fun hnd i hi hij z => ?_, ?_, ?_⟩
  · rw [hn]
    by_cases e : s = l[j].name
    · subst e
      rw [Maps.has_put_same hm (keyS_key _)]
      simp
    · rw [Maps.has_put_other (fun e' => e (keyS_inj e')), h.has, Bool.eq_iff_iff]
      simp [e]
  · rw [hn, nodup_snoc] at hnd
    by_cases e : i = j
    · subst e
      rw [Maps.atKey_put_same hm (keyS_key _)]
    · have hlt : i < j := by omega
      rw [Maps.atKey_put_other, h.at_ hnd.1 i hi hlt]
      intro e'
      apply hnd.2
      have e2 := keyS_inj e'
      rw [← e2]
      exact List.mem_map.2 ⟨l[i], by rw [List.mem_take_iff_getElem]; exact ⟨i, by omega, rfl⟩, rfl⟩
  · have hle := h.le
    have hs := h.size
    rw [Maps.size_put ht, h.has, hn, nodup_snoc, ← hs]
    by_cases e : l[j].name ∈ names (l.take j)
    · simp [e]; omega
    · simp [e]
  · have hle := h.le
    rw [Maps.size_put ht]
    split
    · omega
    · omega

theorem NamesD.all {l : List Task} {D : DataW Unit} (h : NamesD l l.length D) : (((Maps.size D : Nat) : Int) == (l.length : Int)) = distinct l := by
  have := h.size
  rw [List.take_length] at this
  unfold distinct
  rw [Bool.eq_iff_iff, beq_iff_eq, decide_eq_true_iff, ← this]
  omega

/-- What a look-up in the map comes to. -/
theorem NamesMap.look {w : World} {b : Nat} {l : List Task} (h : NamesMap w b l l.length) (hd : distinct l = true) {s : ByteArray} (hs : s.size ≤ maxLen) :
    (Instr.lookup 126 (.map (some b)) (.string s) true).run Try.prog w = .ok (.tuple #[.int .i64 (if s ∈ names l then pl l s else 0), .bool (decide (s ∈ names l))]) w := by
  obtain ⟨D, hown, hD⟩ := h
  obtain ⟨v, ps, hrun, hR⟩ := hown.look_ok keyLaw Try.underlying126 (zeroInt w) (plainElem_int Try.underlying3 (by decide)) (keyOf_s hs)
  obtain ⟨a, rfl, hz, hw⟩ := plainElem_int_inv Try.underlying3 hR
  have hn : (names l).Nodup := by simpa [distinct] using hd
  have hh := hD.has s
  have ha := hD.at_
  rw [List.take_length] at hh ha
  rw [hrun, hh]
  simp only [Prod.mk.injEq] at hz
  obtain ⟨hz, -⟩ := hz
  by_cases hm : s ∈ names l
  · rw [if_pos hm]
    obtain ⟨i, hi, e, rfl⟩ := pl_mem hm
    rw [ha hn i hi hi] at hz
    simp only [DataW.lit.injEq, Lit.int.injEq, true_and] at hz
    rw [e, ← hz]
  · rw [if_neg hm]
    rw [Maps.atKey_of_not_has (by rw [hh]; simpa using hm)] at hz
    simp only [DataW.lit.injEq, Lit.int.injEq, true_and] at hz
    rw [← hz]
theorem NamesMap.kept {w w' : World} {b : Nat} {l : List Task} {j : Nat} (h : NamesMap w b l j) {row : Option Nat} (hg : w.grownBy w' row) (hne : some b ≠ row) : NamesMap w' b l j := by
  obtain ⟨D, hown, hD⟩ := h
  exact ⟨D, hown.kept hg hne, hD⟩
theorem NamesMap.lt {w : World} {b : Nat} {l : List Task} {j : Nat} (h : NamesMap w b l j) : b < w.heap.size := by
  obtain ⟨D, hown, -⟩ := h
  exact hown.lt

set_option maxRecDepth 100000 in
set_option maxHeartbeats 1000000 in
theorem schedIndex (v : Value) (l : List Task) (w : World) (hl : TasksAt w w.heap.size v l) :
    Calls Try.prog 124 #[v] w fun e w' => ∃ b, e = .returned (.tuple #[.map (some b), .bool (distinct l)]) ∧ w.heap.size ≤ b ∧ NamesMap w' b l l.length ∧ Below w.heap.size w w' := by
  have hok := fun k (hk : k < l.length) => (hl.ok hk).name
  have Hok := Lib.hid hok
  obtain ⟨A, c, rfl, hc1, hc2, hcell⟩ := hl.open_
  clear hl hok
  have hmm := @run_makeMap Try.prog
  go_enter Try.func124, Try.ntmps124
  go_wp2
  go_loopw [10] (fun x wr => ∃ j : Nat, j ≤ l.length ∧ x = .int .i64 j ∧ NamesMap wr w.heap.size l j ∧ Below w.heap.size w wr) (fun x _ => l.length - (intOf x).toNat)
  case atStart => exact ⟨0, Nat.zero_le _, rfl, ⟨_, World.ownsMap_made _ _ _ _, NamesD.start l⟩, (Below.refl _ _).alloc (Nat.le_refl _) _⟩
  case round =>
    obtain ⟨j, hj, rfl, ⟨D, hown, hD⟩, hbel⟩ := hrel
    by_cases hlt : j < l.length
    · obtain ⟨b, off, rfl, hb, hcell⟩ := hcell j hlt
      obtain ⟨h0, h1, h2, h3, h4⟩ := (hcell j hlt).below hbel hb
      clear hcell
      have hkey := keyOf_s (Hok.out j hlt)
      have hc2' := hc2
      unfold maxLen at hc2'
      have HS := Lib.hid (hD.step hlt hown.isMap (hown.tidy keyLaw))
      clear hD
      go_wp2_with (at_mapUpdate; refine wpList_mapUpdate_own _ rfl _ _ _ 126 rfl 9 3 keyLaw Try.underlying126 _ w.heap.size j _ rfl (hown.alloc _) (by omega) _ _ _ rfl rfl hkey _ [] (plainElem_int Try.underlying3 (WalkArith.wf_i64 (by omega))) ?_; intro w1 hown1 hgrow1)
      go_roundw
      case rel => exact ⟨j + 1, by omega, by go_num, ⟨_, hown1, HS.out⟩, (hbel.alloc hbel.size _).grown hgrow1 (by simp; have := hbel.size; omega) (fun k hk => by cases hk; exact Nat.le_refl _)⟩
      case measure => simp [intOf]; omega
    · have hje : j = l.length := by omega
      subst hje
      have hlen := hown.len Try.underlying126 3
      have HA := Lib.hid hD.all
      generalize ((Maps.size D : Nat) : Int) = z at *
      go_wp2
      go_ret2
      exact ⟨w.heap.size, ret_xb HA.out, Nat.le_refl _, ⟨D, hown, hD⟩, hbel⟩

end Go.Proofs.Ytcjejcbikgcnbaa
