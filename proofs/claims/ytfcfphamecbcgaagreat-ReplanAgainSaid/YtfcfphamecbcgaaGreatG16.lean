/- Parts of the proof, laid into one text: RpWithout, RpState, RpStateW. -/
import Derived.Deep.AppendLies
import Derived.Test.YtfcfphamecbcgaaGreatG1
import Derived.Test.YtfcfphamecbcgaaGreatG14
import Derived.Test.YtfcfphamecbcgaaGreatG15
import Derived.Test.YtfcfphamecbcgaaGreatG2
import Derived.Test.YtfcfphamecbcgaaGreatG4

/- replan.without. -/
namespace Go.Proofs.YtfcfphamecbcgaaGreat
open Go.RowKit Go.Shelf

theorem filter_snoc {α : Type} {q : α → Bool} {L : List α} {k : Nat} (h : k < L.length) : (L.take (k + 1)).filter q = (L.take k).filter q ++ if q L[k] then [L[k]] else [] := by
  rw [take_snoc _ k h, List.filter_append]
  congr 1
  cases hq : q L[k] <;> simp [hq]

theorem own_past {w w' : World} {B e size n : Nat} {v : Value} {xs : List Value} (h : w.ownsRow B e size v n xs) (hb : Below w.heap.size w w') : w'.ownsRow B e size v n xs :=
  h.kept (grown_below (row := none) hb) (by
    by_cases e : v.ownBlock = none
    · exact .inl e
    · exact .inr e)

set_option maxRecDepth 100000 in
set_option maxHeartbeats 2000000 in
theorem rpWithout (v : Value) (L : List ByteArray) (K : Nat) (C : Array Value) (p : ByteArray → Bool) (eg : ∀ args w, (callFunc K args).run Tryz.prog w = .ok (.enter K args) w) (w : World) (hl : StrsAt w w.heap.size v L) (h1000 : L.length ≤ 1000)
    (hf : ∀ t ∈ L, ∀ w', Below w.heap.size w w' → Calls Tryz.prog K (#[(Value.string) t] ++ C) w' fun e w'' => e = .returned (.bool (p t)) ∧ Below w'.heap.size w' w'') :
    Calls Tryz.prog 48 #[v, .func (.func K) #[] C] w fun e w' => (∃ A cap, e = .returned (.slice A (L.filter fun s => !p s).length cap) ∧ w'.ownsRow w.heap.size 9 1 (.slice A (L.filter fun s => !p s).length cap) (L.filter fun s => !p s).length ((L.filter fun s => !p s).map Value.string)) ∧ Below w.heap.size w w' := by
  obtain ⟨A, c, rfl, hc1, hc2, hcell⟩ := hl.open_
  unfold maxLen at hc2
  have HF := Lib.hid hf
  clear hf
  go_enter Tryz.func48, Tryz.ntmps48
  go_wp2_with fail
  go_loopw [10, 5] (fun x ov wr => ∃ (j : Nat) (A2 : Option Addr) (cap2 m : Nat), j ≤ L.length ∧ x = .int .i64 j ∧ ov = .slice A2 m cap2 ∧ Hid (m = ((L.take j).filter fun s => !p s).length) ∧ Hid (wr.ownsRow w.heap.size 9 1 (.slice A2 m cap2) m (((L.take j).filter fun s => !p s).map Value.string)) ∧ Below w.heap.size w wr) (fun x _ _ => L.length - (intOf x).toNat)
  case atStart => exact ⟨0, none, 0, 0, Nat.zero_le _, rfl, rfl, rfl, (World.ownsRow_nil _ _ _ _ : w.ownsRow w.heap.size 9 1 (.slice none 0 0) 0 []), Below.refl _ _⟩
  case round =>
    obtain ⟨j, A2, cap2, m, hj, rfl, rfl, Hm, Hown, hbel⟩ := hrel
    have j1 : (0 : Int) ≤ (j : Int) := Int.natCast_nonneg _
    by_cases hlt : j < L.length
    · obtain ⟨b, off, rfl, hb, hcell⟩ := hcell j hlt
      have h0 := (hbel.cell (p := ⟨b, off + j, none⟩) hb).trans (hcell j hlt)
      have hcall := HF.out L[j] (List.getElem_mem hlt)
      have HS := Lib.hid (filter_snoc (q := fun s => !p s) hlt)
      have hmj : m ≤ 1000 := by
        have h1 := Hm.out
        have h2 := List.length_filter_le (fun s => !p s) (L.take j)
        rw [List.length_take] at h2
        omega
      clear hcell
      cases hq : p L[j] with
      | true =>
        rw [hq] at hcall HS
        have HE : Hid ((L.take (j + 1)).filter (fun s => !p s) = (L.take j).filter (fun s => !p s)) := by unfold Hid; rw [HS.out]; simp
        have Hown' : Hid (∀ w', Below wr.heap.size wr w' → w'.ownsRow w.heap.size 9 1 (.slice A2 m cap2) m (((L.take (j + 1)).filter fun s => !p s).map Value.string)) := fun w' hb' => by
          rw [HE.out]; exact own_past Hown.out hb'
        have Hm' : Hid (m = ((L.take (j + 1)).filter fun s => !p s).length) := by unfold Hid; rw [HE.out]; exact Hm.out
        clear HS HE Hown Hm hq
        go_wp2_with (go_at_fn K; refine (hcall _ hbel).mono ?_; rintro e w' ⟨rfl, hb'⟩)
        go_roundw
        case rel => exact ⟨j + 1, A2, cap2, m, by omega, by go_num, rfl, Hm', Hown'.out _ hb', hbel.trans (hb'.mono hbel.size)⟩
        case measure => simp [intOf]; omega
      | false =>
        rw [hq] at hcall HS
        have HE : Hid ((L.take (j + 1)).filter (fun s => !p s) = (L.take j).filter (fun s => !p s) ++ [L[j]]) := by unfold Hid; rw [HS.out]; simp
        have Hm' : Hid (m + 1 = ((L.take (j + 1)).filter fun s => !p s).length) := by unfold Hid; rw [HE.out, List.length_append, List.length_singleton, ← Hm.out]
        have HNext : Hid (∀ (w' : World) (g cap : Nat), w'.ownsRow w.heap.size 9 1 (.slice (some ⟨g, 0, none⟩) (m + 1) cap) (m + 1) (((L.take j).filter fun s => !p s).map Value.string ++ [.string L[j]]) → w'.ownsRow w.heap.size 9 1 (.slice (some ⟨g, 0, none⟩) (m + 1) cap) (m + 1) (((L.take (j + 1)).filter fun s => !p s).map Value.string)) := fun w' g cap h => by
          rw [HE.out, List.map_append]; exact h
        generalize ((L.take j).filter fun s => !p s).map Value.string = us at *
        clear HS HE Hm hq
        generalize L[j] = sj at *
        go_wp2_with fail
        refine (hcall _ hbel).mono ?_
        rintro e w5 ⟨rfl, hb5⟩
        have hbel5 := hbel.trans (hb5.mono hbel.size)
        have hown5 := own_past Hown.out hb5
        have Hown5 := Lib.hid hown5
        have hsz := hbel5.size
        clear hown5 Hown hb5 hbel hcall h0
        go_wp2_with (at_builtin; refine wpList_pushN _ rfl (.tmp 18) (.tmp 20) 38 rfl w.heap.size 9 info_str Tryz.underlying38 rfl _ m _ rfl Hown5.out (.string sj) rfl w5.heap.size rfl rfl (by unfold maxLen; omega) (by omega) hsz ?_; intro g3 cap3 w6 hown6 hg6 hbg6 hgg6)
        have hb6 := hbel5.grown hg6 hsz (fun k hk => (Hown5.out.lt k hk).1)
        have Hown6 := Lib.hid (HNext.out _ _ _ hown6)
        clear hown6 hg6 hgg6
        go_wp2_with fail
        go_roundw
        case rel => exact ⟨j + 1, some ⟨g3, 0, none⟩, cap3, m + 1, by omega, by go_num, rfl, Hm', Hown6, hb6⟩
        case measure => simp [intOf]; omega
    · have hje : j = L.length := by omega
      subst hje
      have hm := Hm.out
      have hown := Hown.out
      rw [List.take_length] at hm hown
      have HP : Hid (m = (L.filter fun s => !p s).length ∧ wr.ownsRow w.heap.size 9 1 (.slice A2 m cap2) m ((L.filter fun s => !p s).map Value.string)) := ⟨hm, hown⟩
      clear hm hown Hm Hown
      go_wp2_with fail
      go_ret
      obtain ⟨e, h⟩ := HP.out
      subst e
      exact ⟨⟨A2, cap2, rfl, h⟩, hbel⟩

end Go.Proofs.YtfcfphamecbcgaaGreat

/- replan.state. -/
namespace Go.Proofs.YtfcfphamecbcgaaGreat
open Go.RowKit Go.Shelf

theorem entersState1 : ∀ args w, (callFunc 49 args).run Tryz.prog w = .ok (.enter 49 args) w := enters_of Tryz.func49 (by kernel_rfl) rfl

/-- A task that lies whole in a block is appended to a row of the call's own. -/
theorem wpList_appT {ops : Array Oper} {rest : List Oper} {o : Oper} {a : Act} {Q : Exit → Act → World → Prop} (w : World) (hgd : o.guard = none) (s x : Operand)
    (ho : o.op = .call { callee := .builtin .append, args := #[s, x], argTypes := #[22, 22] }) (B : Nat) (v1 : Value) (ts : List Task) (h1 : w.ownsRow B 40 5 v1 ts.length (ts.flatMap Task.cells)) (hB : B ≤ w.heap.size) (t : Task) (a1 : Nat) (N : Blk w a1 40 t.cells.toArray)
    (hs : a.eval s = v1) (hx : a.eval x = .slice (some ⟨a1, 0, none⟩) 1 1) (hlen : ts.length ≤ 100)
    (h : ∀ g cap w', w'.ownsRow B 40 5 (.slice (some ⟨g, 0, none⟩) (ts.length + 1) cap) (ts.length + 1) ((ts ++ [t]).flatMap Task.cells) → w.grownBy w' v1.ownBlock → wpList Tryz.prog ops Q rest (a.put o.dst (.slice (some ⟨g, 0, none⟩) (ts.length + 1) cap)) w') : wpList Tryz.prog ops Q (o :: rest) a w := by
  obtain ⟨i0, hi0, hz0, hz1, hz2⟩ := info_parts info_task
  refine wpList_append_lies w hgd s x 22 ho B 40 i0 _ 5 64 Tryz.underlying22 hi0 hz0 hz1 hz2 rfl (by decide) v1 ts.length (ts.flatMap Task.cells) hs h1 ⟨a1, 0, none⟩ 1 1 t.cells hx rfl
    (fun j u hu => by rw [Addr.add_lit, Nat.zero_add]; exact (N.cell j).trans (by simpa using hu)) (fun u hu => flat_one [t] u (by simpa using hu)) (by omega) (by unfold maxLen; omega) (by omega) hB _ rfl ?_
  intro g cap w' hown hgrow _ _
  exact h g cap w' (by simpa using hown) hgrow

section
variable {l : List Task} {s : List Int} {a : Int}
/-- Whether a task with a name has ended. -/
def goneB (l : List Task) (s : List Int) (a : Int) (x : ByteArray) : Bool := decide (endN l s (pl l x).toNat ≤ a)
theorem gone_live (x : ByteArray) : (!goneB l s a x) = liveB l s a (pl l x).toNat := by
  unfold goneB liveB
  rw [Bool.eq_iff_iff, Bool.not_eq_true', decide_eq_false_iff_not, decide_eq_true_iff]
  omega

/-- The state so far. -/
structure StSt (W w : World) (l : List Task) (s : List Int) (a : Int) (k : Nat) (v u ov : Value) (ms : List Task) : Prop where
  out : w.ownsRow W.heap.size 40 5 ov ms.length (ms.flatMap Task.cells)
  strs : ∀ t ∈ ms, w.ownsRow W.heap.size 9 1 t.bv t.bef.length (t.bef.map Value.string)
  ok : ∀ t ∈ ms, t.ok
  norm : norms ms = ((List.range k).filter (liveB l s a)).map (stTask l s a)
  B0 : Blk w W.heap.size 22 #[v]
  B1 : Blk w (W.heap.size + 1) 23 #[u]
  B2 : Blk w (W.heap.size + 1 + 1) 3 #[.int .i64 a]
  bel : Below W.heap.size W w
theorem StSt.below {W w w' : World} {k : Nat} {v u ov : Value} {ms : List Task} (h : StSt W w l s a k v u ov ms) (hb : Below w.heap.size w w') : StSt W w' l s a k v u ov ms :=
  ⟨own_past h.out hb, fun t ht => own_past (h.strs t ht) hb, h.ok, h.norm, h.B0.below hb h.B0.lt, h.B1.below hb h.B1.lt, h.B2.below hb h.B2.lt, h.bel.trans (hb.mono h.bel.size)⟩
theorem StSt.short {W w : World} {k : Nat} {v u ov : Value} {ms : List Task} (h : StSt W w l s a k v u ov ms) : ms.length ≤ k := by
  have h1 := norms_len ms
  rw [h.norm, List.length_map] at h1
  have h2 := List.length_filter_le (liveB l s a) (List.range k)
  rw [List.length_range] at h2
  omega
theorem live_snoc {k : Nat} : ((List.range (k + 1)).filter (liveB l s a)).map (stTask l s a) = ((List.range k).filter (liveB l s a)).map (stTask l s a) ++ if liveB l s a k then [stTask l s a k] else [] := by
  rw [List.range_succ, List.filter_append, List.map_append]
  congr 1
  cases h : liveB l s a k <;> simp [h]
theorem StSt.skip {W w : World} {k : Nat} {v u ov : Value} {ms : List Task} (h : StSt W w l s a k v u ov ms) (hl : liveB l s a k = false) : StSt W w l s a (k + 1) v u ov ms :=
  ⟨h.out, h.strs, h.ok, by rw [live_snoc, hl, h.norm]; simp, h.B0, h.B1, h.B2, h.bel⟩
theorem StSt.push {W w w' : World} {k : Nat} {v u ov nv : Value} {ms : List Task} {t : Task} (h : StSt W w l s a k v u ov ms) (hl : liveB l s a k = true) (hgrow : w.grownBy w' ov.ownBlock) (ho : w'.ownsRow W.heap.size 40 5 nv (ms.length + 1) ((ms ++ [t]).flatMap Task.cells))
    (hs : w.ownsRow W.heap.size 9 1 t.bv t.bef.length (t.bef.map Value.string)) (hok : t.ok) (hn : t.norm = stTask l s a k) : StSt W w' l s a (k + 1) v u nv (ms ++ [t]) := by
  have hgr : Below W.heap.size W w' := h.bel.grown hgrow h.bel.size (fun k hk => (h.out.lt k hk).1)
  have hk : ∀ {e : TypeId} {n : Nat} {x : Value} {xs : List Value}, e ≠ 40 → w.ownsRow W.heap.size e 1 x n xs → w'.ownsRow W.heap.size e 1 x n xs := fun he hx => hx.kept hgrow (own_ne hx h.out he)
  refine ⟨by rw [List.length_append, List.length_singleton]; exact ho, fun t' ht' => ?_, fun t' ht' => ?_, ?_, h.B0.kept hgrow (h.B0.ne_own h.out (by decide)), h.B1.kept hgrow (h.B1.ne_own h.out (by decide)), h.B2.kept hgrow (h.B2.ne_own h.out (by decide)), hgr⟩
  · rcases List.mem_append.1 ht' with ht' | ht'
    · exact hk (by decide) (h.strs t' ht')
    · rw [List.mem_singleton.1 ht']; exact hk (by decide) hs
  · rcases List.mem_append.1 ht' with ht' | ht'
    · exact h.ok t' ht'
    · rw [List.mem_singleton.1 ht']; exact hok
  · rw [live_snoc, hl, if_pos rfl, ← h.norm]
    unfold norms
    rw [List.map_append, List.map_singleton, hn]
theorem StSt.tasks {W w : World} {k : Nat} {v u ov : Value} {ms : List Task} (h : StSt W w l s a k v u ov ms) : TasksAt w w.heap.size ov ms :=
  TasksAt.of_own h.out (fun t ht => RowAt.of_own (h.strs t ht)) (Nat.le_refl _) h.ok

set_option maxRecDepth 100000 in
set_option maxHeartbeats 2000000 in
theorem stateClosure (x : ByteArray) (D0 D1 D2 : Nat) (A A1 : Option Addr) (cc c1 : Nat) (w : World) (hR : RightT l) (hl : TasksAt w w.heap.size (.slice A l.length cc) l) (hs : IntsAt w w.heap.size (.slice A1 s.length c1) s) (hlen : s.length = l.length) (hbd : ∀ x ∈ s, 0 ≤ x ∧ x ≤ 1000000) (hx : ∃ j : Nat, j < l.length ∧ pl l x = (j : Int))
    (h0 : w.cell? ⟨D0, 0, none⟩ = some (.slice A l.length cc)) (h1 : w.cell? ⟨D1, 0, none⟩ = some (.slice A1 s.length c1)) (h2 : w.cell? ⟨D2, 0, none⟩ = some (.int .i64 a)) :
    Calls Tryz.prog 49 #[.string x, .pointer (some ⟨D0, 0, none⟩), .pointer (some ⟨D1, 0, none⟩), .pointer (some ⟨D2, 0, none⟩)] w fun e w' => e = .returned (.bool (goneB l s a x)) ∧ Below w.heap.size w w' := by
  have hF := rpFind (.slice A l.length cc) l x w hl
  obtain ⟨j, hj, hje⟩ := hx
  have HV : Hid (goneB l s a x = decide (s[j]'(by omega) + l[j].len ≤ a)) := by unfold Hid goneB; rw [hje, Int.toNat_natCast]; unfold endN; rw [atI_get (by omega), lenAt_eq hj]
  rw [hje] at hF
  obtain ⟨b0, off0, rfl, hb0, hct⟩ := hl.cells hj
  obtain ⟨t0, t1, t2, t3, t4⟩ := hct j hj
  obtain ⟨A', cc', e', hA1, hA2, -⟩ := hl.open_
  injection e' with ea _ e'
  subst ea e'
  obtain ⟨A9, c9, e9, hB1, hB2, hBc⟩ := hs.open_
  injection e9 with e9 _ e10
  subst e9 e10
  obtain ⟨b1, off1, rfl, hb1, hsc⟩ := hBc j (by omega)
  have s1 := hsc j (by omega)
  have hln := fieldB_len (hR.field j hj)
  have hxb := hbd _ (List.getElem_mem (show j < s.length by omega))
  have HE : Hid (∀ w', Below w.heap.size w w' → Calls Tryz.prog 47 #[l[j].val, .int .i64 (s[j]'(by omega)), .int .i64 a] w' fun e w'' => e = .returned (.bool (decide (s[j]'(by omega) + l[j].len ≤ a))) ∧ Below w'.heap.size w' w'') := fun w' _ => rpEnded l[j] (s[j]'(by omega)) a w' (by omega) (by omega)
  unfold Task.val at HE
  unfold maxLen at hA2 hB2
  have i1 : (0 : Int) ≤ (j : Int) := Int.natCast_nonneg _
  have i2 : (j : Int) < (l.length : Int) := by omega
  have i3 : (j : Int) < (s.length : Int) := by omega
  rw [HV.out]
  clear hl hs hct hBc hsc hbd hR HV hln hxb
  generalize decide (s[j]'(by omega) + l[j].len ≤ a) = r at *
  generalize s[j]'(by omega) = sx at *
  generalize l[j] = t at *
  clear hje
  go_enter Tryz.func49, Tryz.ntmps49
  go_wp2_with fail
  refine hF.mono ?_
  rintro e w1 ⟨rfl, hb⟩
  have hk := fun {b o : Nat} {z : Value} (h : w.cell? ⟨b, o, none⟩ = some z) => (hb.cell (p := ⟨b, o, none⟩) (World.block_lt_of_cell? _ _ h)).trans h
  have y0 := HeldB.cell (hk h0)
  have y1 := HeldB.cell (hk h1)
  have y2 := HeldB.cell (hk h2)
  have u0 := HeldB.cell (hk t0)
  have u1 := HeldB.cell (hk t1)
  have u2 := HeldB.cell (hk t2)
  have u3 := HeldB.cell (hk t3)
  have u4 := HeldB.cell (hk t4)
  have v1 := HeldB.cell (hk s1)
  have hC := HeldB.call (fun w' (hb' : Below w1.heap.size w1 w') => HE.out w' (hb.trans (hb'.mono hb.size)))
  clear hk h0 h1 h2 t0 t1 t2 t3 t4 s1 HE hF
  go_wp2_with fail
  refine wp_region_heldb (by kernel_rfl) (by kernel_rfl) ?_
  repeat (go_big_quiet_step ((go_at_call 47; exact hC _)))
  refine wpQuiet_nil ?_
  rintro _ ⟨⟨w5, hb5⟩, rfl⟩
  clear y0 y1 y2 u0 u1 u2 u3 u4 v1 hC
  go_wp2_with fail
  go_ret
  exact ⟨rfl, hb.trans (hb5.mono hb.size)⟩
end

end Go.Proofs.YtfcfphamecbcgaaGreat

/- replan.state: the loop. -/
namespace Go.Proofs.YtfcfphamecbcgaaGreat
open Go.RowKit Go.Shelf

/-- What state gives. -/
def StatePost (l : List Task) (s : List Int) (a : Int) (w : World) (e : Ending) (w' : World) : Prop :=
  Below w.heap.size w w' ∧ ∃ ov ms, e = .returned ov ∧ TasksAt w' w'.heap.size ov ms ∧ norms ms = stateN l s a

theorem befs_mem {l : List Task} (hR : RightT l) {k : Nat} (hk : k < l.length) : ∀ x ∈ l[k].bef, ∃ j : Nat, j < l.length ∧ pl l x = (j : Int) := fun x hx => mem_row hR hk (by unfold pls; exact List.mem_map.2 ⟨x, hx, rfl⟩)

set_option maxRecDepth 100000 in
set_option maxHeartbeats 8000000 in
theorem rpState (v u : Value) (l : List Task) (s : List Int) (a : Int) (w : World) (hR : RightT l) (hl : TasksAt w w.heap.size v l) (hs : IntsAt w w.heap.size u s) (hlen : s.length = l.length) (hbd : ∀ x ∈ s, 0 ≤ x ∧ x ≤ 1000000) (ha : 0 ≤ a ∧ a ≤ 2000000) :
    Calls Tryz.prog 33 #[v, u, .int .i64 a] w (StatePost l s a w) := by
  have h8 := hR.len
  have HR := Lib.hid hR
  have HT : Hid (∀ w1, Below w.heap.size w w1 → TasksAt w1 w1.heap.size v l) := fun w1 hb => (hl.below hb (Nat.le_refl _)).mono hb.size
  have HTw : Hid (∀ w1, Below w.heap.size w w1 → TasksAt w1 w.heap.size v l) := fun w1 hb => hl.below hb (Nat.le_refl _)
  have HS : Hid (∀ w1, Below w.heap.size w w1 → IntsAt w1 w1.heap.size u s) := fun w1 hb => (hs.below hb (Nat.le_refl _)).mono hb.size
  have HBd := Lib.hid hbd
  have HOk := Lib.hid hl.2.2
  obtain ⟨A, cc, rfl, hA1, hA2, -⟩ := hl.open_
  obtain ⟨A1, c1, rfl, hB1, hB2, hBc⟩ := hs.open_
  unfold maxLen at hA2 hB2
  have HSt : Hid (∀ (k : Nat), k < l.length → ∃ b1 off1, A1 = some ⟨b1, off1, none⟩ ∧ ∀ w', Below w.heap.size w w' → w'.cell? ⟨b1, off1 + k, none⟩ = some (.int .i64 (atI s k))) := fun k hk => by
    obtain ⟨b1, off1, e, hb, hc⟩ := hBc k (by omega)
    exact ⟨b1, off1, e, fun w' hb' => by rw [atI_get (by omega)]; exact (hb'.cell (p := ⟨b1, off1 + k, none⟩) hb).trans (hc k (by omega))⟩
  have Hlen := Lib.hid hlen
  have hsl : (s.length : Int) = (l.length : Int) := by omega
  have Hsl := Lib.hid hsl
  have H0 : Hid (StSt w (((w.alloc (.cells #[.slice A l.length cc] 22)).alloc (.cells #[.slice A1 s.length c1] 23)).alloc (.cells #[.int .i64 a] 3)) l s a 0 (.slice A l.length cc) (.slice A1 s.length c1) (.slice none 0 0) []) := by
    refine ⟨World.ownsRow_nil _ _ _ _, by simp, by simp, rfl, ?_, ?_, ?_, ?_⟩
    · exact ((Blk.new w _ _).alloc _).alloc _
    · have := (Blk.new (w.alloc (.cells #[.slice A l.length cc] 22)) 23 #[.slice A1 s.length c1]).alloc (.cells #[.int .i64 a] 3)
      simpa using this
    · have := Blk.new ((w.alloc (.cells #[.slice A l.length cc] 22)).alloc (.cells #[.slice A1 s.length c1] 23)) 3 #[.int .i64 a]
      simpa using this
    · exact (((Below.refl _ _).alloc (Nat.le_refl _) _).alloc (by simp) _).alloc (by simp; omega) _
  obtain ⟨ha0, ha1⟩ := ha
  clear hl hs hBc hlen hbd hR hsl
  go_enter Tryz.func33, Tryz.ntmps33
  go_wp2_with fail
  generalize ((w.alloc (.cells #[.slice A l.length cc] 22)).alloc (.cells #[.slice A1 s.length c1] 23)).alloc (.cells #[.int .i64 a] 3) = w3 at *
  go_loopw [12, 7] (fun ix ov wr => ∃ (k : Nat) (ms : List Task), k ≤ l.length ∧ ix = .int .i64 k ∧ Hid (StSt w wr l s a k (.slice A l.length cc) (.slice A1 s.length c1) ov ms)) (fun ix _ _ => l.length - (intOf ix).toNat)
  case atStart => exact ⟨0, [], Nat.zero_le _, rfl, H0⟩
  case round =>
    clear H0
    obtain ⟨k, ms, hk, rfl, HSS⟩ := hrel
    have k1 : (0 : Int) ≤ (k : Int) := Int.natCast_nonneg _
    by_cases hkl : k < l.length
    · have hTr := HTw.out wr HSS.out.bel
      obtain ⟨b0, off0, rfl, hb0, hct⟩ := hTr.cells hkl
      obtain ⟨t0, t1, t2, t3, t4⟩ := hct k hkl
      have hbef := HSS.out.bel
      obtain ⟨hm1, hm2, -⟩ := hTr.open_bef hkl
      unfold maxLen at hm2
      obtain ⟨b1, off1, rfl, hs1⟩ := HSt.out k hkl
      have hln := fieldB_len (HR.out.field k hkl)
      have hxb : 0 ≤ atI s k ∧ atI s k ≤ 1000000 := by rw [atI_get (by have := Hlen.out; omega)]; exact HBd.out _ (List.getElem_mem _)
      have HEn : Hid (endN l s k = atI s k + l[k].len) := by unfold Hid endN; rw [lenAt_eq hkl]
      have hE := fun (w' : World) => rpEnded l[k] (atI s k) a w' (by omega) (by omega)
      have HStr : Hid (∀ w', Below w.heap.size w w' → StrsAt w' w'.heap.size l[k].bv l[k].bef) := fun w' hb => (HT.out w' hb).bef hkl
      have HMemB := Lib.hid (befs_mem HR.out hkl)
      have hb8 : l[k].bef.length ≤ 1000 := by
        have := (((befOK_iff l).1 HR.out.bef _ (List.getElem_mem hkl))).le
        omega
      have hokk := HOk.out _ (List.getElem_mem hkl)
      have HTk : Hid ((tk l k) = l[k]) := tk_get hkl
      -- the box
      have hbG : Below wr.heap.size wr (wr.alloc (.cells #[.string l[k].name, .int .i64 l[k].len, .int .i64 l[k].crew, .int .i64 l[k].pow, .slice l[k].ba l[k].bef.length l[k].bc] 40)) := (Below.refl _ _).alloc (Nat.le_refl _) _
      have HG := Lib.hid (Blk.new wr 40 #[.string l[k].name, .int .i64 l[k].len, .int .i64 l[k].crew, .int .i64 l[k].pow, .slice l[k].ba l[k].bef.length l[k].bc])
      have g0 := HG.out.cell 0
      have g1 := HG.out.cell 1
      have g2 := HG.out.cell 2
      have g3 := HG.out.cell 3
      have g4 := HG.out.cell 4
      have d1 := (HSS.out.below hbG).B1.cell 0
      have d2 := (HSS.out.below hbG).B2.cell 0
      have hs1' := hs1 _ (HSS.out.below hbG).bel
      have d0 := HSS.out.B0.cell 0
      simp only [List.getElem?_toArray, List.getElem?_cons_succ, List.getElem?_cons_zero] at g0 g1 g2 g3 g4 d0 d1 d2
      have i2 : (k : Int) < (l.length : Int) := by omega
      have i3 : (k : Int) < (s.length : Int) := by have := Hsl.out; omega
      have HKeep := Lib.hid (fun w' (hb : Below wr.heap.size wr w') => HSS.out.below hb)
      have hGx := HG.out.lt
      have hms := HSS.out.short
      have HWo : Hid (∀ w', Below wr.heap.size wr w' → Calls Tryz.prog 48 #[.slice l[k].ba l[k].bef.length l[k].bc, .func (.func 49) #[] #[.pointer (some ⟨w.heap.size, 0, none⟩), .pointer (some ⟨w.heap.size + 1, 0, none⟩), .pointer (some ⟨w.heap.size + 1 + 1, 0, none⟩)]] w' fun e w'' =>
          (∃ A8 cap8, e = .returned (.slice A8 (l[k].bef.filter fun x => !goneB l s a x).length cap8) ∧ w''.ownsRow w.heap.size 9 1 (.slice A8 (l[k].bef.filter fun x => !goneB l s a x).length cap8) (l[k].bef.filter fun x => !goneB l s a x).length ((l[k].bef.filter fun x => !goneB l s a x).map Value.string)) ∧ Below w'.heap.size w' w'') := fun w' hb => by
        have hK := HKeep.out w' hb
        refine (rpWithout l[k].bv l[k].bef 49 _ (goneB l s a) entersState1 w' (HStr.out w' hK.bel) hb8 (fun x hx w'' hb'' => ?_)).mono ?_
        · have hK2 := hK.below hb''
          have q0 := hK2.B0.cell 0
          have q1 := hK2.B1.cell 0
          have q2 := hK2.B2.cell 0
          simp only [List.getElem?_toArray, List.getElem?_cons_zero] at q0 q1 q2
          exact stateClosure x _ _ _ _ _ cc c1 w'' HR.out (HT.out w'' hK2.bel) (HS.out w'' hK2.bel) Hlen.out HBd.out (HMemB.out x hx) q0 q1 q2
        · rintro e w'' ⟨⟨A8, cap8, he, ho⟩, hb2⟩
          exact ⟨⟨A8, cap8, he, own_mono ho hK.bel.size⟩, hb2⟩
      have HNorm : Hid (∀ A8 cap8 ln, ln = (if atI s k < a then atI s k + l[k].len - a else l[k].len) → (⟨l[k].name, ln, l[k].crew, l[k].pow, A8, cap8, l[k].bef.filter fun x => !goneB l s a x⟩ : Task).norm = stTask l s a k) := fun A8 cap8 ln h => by
        unfold Task.norm stTask
        rw [HTk.out, HEn.out, h]
        have : (fun x => !goneB l s a x) = fun x => liveB l s a (pl l x).toNat := funext gone_live
        rw [this]
      have HOkT : Hid (∀ A8 cap8 ln, 1 ≤ ln ∧ ln ≤ 10000 → (⟨l[k].name, ln, l[k].crew, l[k].pow, A8, cap8, l[k].bef.filter fun x => !goneB l s a x⟩ : Task).ok) := fun A8 cap8 ln h =>
        ⟨hokk.name, fun x hx => hokk.bef x (List.mem_filter.1 hx).1, by show _ ≤ ln ∧ ln ≤ _; omega, hokk.crew, hokk.pow⟩
      clear hct hTr hbef HSS hokk
      unfold Task.val at hE
      go_wp2_with fail
      clear t0 t1 t2 t3 t4 d0
      generalize hwx : wr.alloc (.cells #[.string l[k].name, .int .i64 l[k].len, .int .i64 l[k].crew, .int .i64 l[k].pow, .slice l[k].ba l[k].bef.length l[k].bc] 40) = wx at *
      clear hwx
      generalize hG : wr.heap.size = G at *
      clear hG
      have u0 := HeldB.cell g0
      have u1 := HeldB.cell g1
      have u2 := HeldB.cell g2
      have u3 := HeldB.cell g3
      have u4 := HeldB.cell g4
      have v1 := HeldB.cell d1
      have v2 := HeldB.cell d2
      have z1 := HeldB.cell hs1'
      have hC := HeldB.call (W := wx) (fun w' (_ : Below wx.heap.size wx w') => hE w')
      clear g0 g1 g2 g3 g4 d1 d2 hs1' hE
      by_cases hlv : atI s k + l[k].len ≤ a
      · have hd : decide (atI s k + l[k].len ≤ a) = true := decide_eq_true hlv
        have HDead : Hid (liveB l s a k = false) := by unfold Hid liveB; rw [HEn.out]; exact decide_eq_false (by omega)
        rw [hd] at hC
        clear hlv hd
        refine wp_region_heldb (by kernel_rfl) (by kernel_rfl) ?_
        repeat (go_big_quiet_step ((go_at_call 47; exact hC _)))
        refine wpQuiet_nil ?_
        rintro w5 ⟨⟨w6, hb5⟩, rfl⟩
        have HS5 := Lib.hid ((HKeep.out w5 (hbG.trans (hb5.mono (Nat.le_of_lt hGx)))).skip HDead.out)
        clear u0 u1 u2 u3 u4 v1 v2 z1 hC
        go_wp2_with fail
        go_roundw
        case rel => exact ⟨k + 1, ms, by omega, by go_num, HS5⟩
        case measure => simp [intOf]; omega
      · have hd : decide (atI s k + l[k].len ≤ a) = false := decide_eq_false hlv
        have HLive : Hid (liveB l s a k = true) := by unfold Hid liveB; rw [HEn.out]; exact decide_eq_true (by omega)
        rw [hd] at hC
        clear hd
        refine wp_region_heldb (by kernel_rfl) (by kernel_rfl) ?_
        repeat (go_big_quiet_step ((go_at_call 47; exact hC _)))
        refine wpQuiet_nil ?_
        rintro w5 ⟨⟨w6, hb5⟩, rfl⟩
        have hbx := hbG.trans (hb5.mono (Nat.le_of_lt hGx))
        have HG5 := Lib.hid (HG.out.below hb5 HG.out.lt)
        have u0 := u0 ⟨w5, hb5⟩
        have u1 := u1 ⟨w5, hb5⟩
        have u2 := u2 ⟨w5, hb5⟩
        have u3 := u3 ⟨w5, hb5⟩
        have u4 := u4 ⟨w5, hb5⟩
        have v1 := v1 ⟨w5, hb5⟩
        have v2 := v2 ⟨w5, hb5⟩
        have z1 := z1 ⟨w5, hb5⟩
        have f1 := HG5.out.frozen 1
        simp only at u0 u1 u2 u3 u4 v1 v2 z1
        have hGl : G < w5.heap.size := HG5.out.lt
        clear hC hb5 hbG HG hGx
        generalize (l[k].bef.filter fun x => !goneB l s a x) = bf at *
        generalize atI s k = sx at *
        by_cases hsa : sx < a
        case' pos =>
          have hsb : decide (sx < a) = true := decide_eq_true hsa
          have w1 : IntKind.i64.wrap (a - sx) = a - sx := IntWalk.i64_in _ (by omega)
          have w2 : IntKind.i64.wrap (l[k].len - (a - sx)) = l[k].len - (a - sx) := IntWalk.i64_in _ (by omega)
          go_wp2_with fail
          go_quiet (fail)
          go_wp2_with fail
          refine wp_region_tail 10 (by kernel_rfl) (by kernel_rfl) ?_
          simp only [List.take_succ_cons, List.take_zero, List.drop_succ_cons, List.drop_zero]
          repeat (go_big_quiet_step (fail))
          refine wpQuiet_nil ?_
          go_wp2_with fail
          have hb7 : Below G wr ((w5.drewN (nq + 1)).setCell ⟨G, 1, none⟩ (.int .i64 (l[k].len - (a - sx)))) := (below_drewN hbx _).setCell (p := ⟨G, 1, none⟩) (Nat.le_refl _) _
          have HG7 : Hid (Blk ((w5.drewN (nq + 1)).setCell ⟨G, 1, none⟩ (.int .i64 (l[k].len - (a - sx)))) G 40 #[.string l[k].name, .int .i64 (l[k].len - (a - sx)), .int .i64 l[k].crew, .int .i64 l[k].pow, .slice l[k].ba l[k].bef.length l[k].bc]) := by
            have := (HG5.out.drewN (nq + 1)).set_ 1 (.int .i64 (l[k].len - (a - sx)))
            unfold Hid
            simpa using this
          have HLn : Hid (l[k].len - (a - sx) = if sx < a then sx + l[k].len - a else l[k].len) := by unfold Hid; rw [if_pos hsa]; omega
          have hlb : 1 ≤ l[k].len - (a - sx) ∧ l[k].len - (a - sx) ≤ 10000 := by omega
          generalize (w5.drewN (nq + 1)).setCell ⟨G, 1, none⟩ (.int .i64 (l[k].len - (a - sx))) = w7 at *
          generalize l[k].len - (a - sx) = ln at *
        case' neg =>
          have hsb : decide (sx < a) = false := decide_eq_false hsa
          go_wp2_with fail
          go_quiet (fail)
          go_wp2_with fail
          have hb7 : Below G wr (w5.drewN nq) := below_drewN hbx _
          obtain ⟨ln, hln2⟩ : ∃ ln, ln = l[k].len := ⟨_, rfl⟩
          have HG7 : Hid (Blk (w5.drewN nq) G 40 #[.string l[k].name, .int .i64 ln, .int .i64 l[k].crew, .int .i64 l[k].pow, .slice l[k].ba l[k].bef.length l[k].bc]) := by
            rw [hln2]; exact HG5.out.drewN nq
          have HLn : Hid (ln = if sx < a then sx + l[k].len - a else l[k].len) := by unfold Hid; rw [if_neg (by omega)]; exact hln2
          have hlb : 1 ≤ ln ∧ ln ≤ 10000 := by omega
          clear hln2
          generalize w5.drewN nq = w7 at *
        all_goals
          clear u0 u1 u2 u3 u4 v1 v2 z1 f1 HG5 hbx
          refine (HWo.out _ hb7).mono ?_
          rintro e w8 ⟨⟨A8, cap8, rfl, hown8⟩, hb8'⟩
          have hGl7 := HG7.out.lt
          have HG8 := Lib.hid (HG7.out.below hb8' hGl7)
          have hbx8 : Below G wr w8 := hb7.trans (hb8'.mono (Nat.le_of_lt hGl7))
          have HOw8 := Lib.hid hown8
          have u0 := HG8.out.cell 0
          have u1 := HG8.out.cell 1
          have u2 := HG8.out.cell 2
          have u3 := HG8.out.cell 3
          have u4 := HG8.out.cell 4
          have f4 := HG8.out.frozen 4
          simp only [List.getElem?_toArray, List.getElem?_cons_succ, List.getElem?_cons_zero] at u0 u1 u2 u3 u4
          have HG9 : Hid (Blk (w8.setCell ⟨G, 4, none⟩ (.slice A8 bf.length cap8)) G 40 #[.string l[k].name, .int .i64 ln, .int .i64 l[k].crew, .int .i64 l[k].pow, .slice A8 bf.length cap8]) := by
            have := HG8.out.set_ 4 (.slice A8 bf.length cap8)
            unfold Hid
            simpa using this
          have hb9 : Below G wr (w8.setCell ⟨G, 4, none⟩ (.slice A8 bf.length cap8)) := hbx8.setCell (p := ⟨G, 4, none⟩) (Nat.le_refl _) _
          have x0 := HG9.out.cell 0
          have x1 := HG9.out.cell 1
          have x2 := HG9.out.cell 2
          have x3 := HG9.out.cell 3
          have x4 := HG9.out.cell 4
          simp only [List.getElem?_toArray, List.getElem?_cons_succ, List.getElem?_cons_zero] at x0 x1 x2 x3 x4
          have HS9 := Lib.hid (HKeep.out _ hb9)
          have hOs : (w8.setCell ⟨G, 4, none⟩ (.slice A8 bf.length cap8)).ownsRow w.heap.size 9 1 (.slice A8 bf.length cap8) bf.length (bf.map Value.string) := own_setBlk HOw8.out HG8.out (by decide)
          have HOs := Lib.hid hOs
          have HNw : Hid (Blk ((w8.setCell ⟨G, 4, none⟩ (.slice A8 bf.length cap8)).alloc (.cells #[.string l[k].name, .int .i64 ln, .int .i64 l[k].crew, .int .i64 l[k].pow, .slice A8 bf.length cap8] 40)) w8.heap.size 40 (Task.cells ⟨l[k].name, ln, l[k].crew, l[k].pow, A8, cap8, bf⟩).toArray) := by
            have e : (w8.setCell ⟨G, 4, none⟩ (.slice A8 bf.length cap8)).heap.size = w8.heap.size := by simp [World.setCell]
            unfold Hid
            rw [← e]
            exact Blk.new _ _ _
          clear hown8 hOs hb8' hb7 HG7 hGl7
          go_wp2_with (at_builtin; refine wpList_appT _ rfl (.tmp 45) (.tmp 47) rfl w.heap.size _ ms (HS9.out.out.alloc _) (Nat.le_trans HS9.out.bel.size (by simp)) ⟨l[k].name, ln, l[k].crew, l[k].pow, A8, cap8, bf⟩ w8.heap.size HNw.out rfl rfl (by omega) ?_; intro g9 cap9 w9 hown9 hgr9)
          have HPush := Lib.hid (StSt.push (HS9.out.below ((Below.refl _ _).alloc (Nat.le_refl _) _)) HLive.out hgr9 hown9 (HOs.out.alloc _) (HOkT.out _ _ _ hlb) (HNorm.out _ _ _ HLn.out))
          clear hown9 hgr9 u0 u1 u2 u3 u4 f4 x0 x1 x2 x3 x4
          go_wp2_with fail
          go_roundw
          case rel => exact ⟨k + 1, _, by omega, by go_num, HPush⟩
          case measure => simp [intOf]; omega
    · have hke : k = l.length := by omega
      subst hke
      have HP := Lib.hid HSS.out.tasks
      have HN : Hid (norms ms = stateN l s a) := HSS.out.norm
      have HB := Lib.hid HSS.out.bel
      go_wp2_with fail
      go_ret
      exact ⟨HB.out, _, ms, rfl, HP.out, HN.out⟩

end Go.Proofs.YtfcfphamecbcgaaGreat
