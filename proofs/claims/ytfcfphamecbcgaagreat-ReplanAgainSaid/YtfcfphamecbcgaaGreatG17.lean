/- Parts of the proof, laid into one text: RefState, RefStateW. -/
import Derived.Deep.RegionLaw
import Derived.Test.YtfcfphamecbcgaaGreatG16

/- The reference's State of layer 45. -/
namespace Go.Proofs.YtfcfphamecbcgaaGreat
open Go.RowKit Go.Shelf

theorem Blk.drew1 {w : World} {g : Nat} {t : TypeId} {cs : Array Value} (h : Blk w g t cs) : Blk w.drew g t cs := h
/-- A string, just laid in a block of its own, is appended. -/
theorem step_appS {ops : Array Oper} {o : Oper} {a : Act} {w : World} {K : Act → World → Prop} {Q : Exit → Act → World → Prop} {E : Prop} (hgd : o.guard = none) (s x : Operand)
    (ho : o.op = .call { callee := .builtin .append, args := #[s, x], argTypes := #[38, 38] }) {B m : Nat} {v : Value} {xs : List Value} (T : w.ownsRow B 9 1 v m xs) (hB : B ≤ w.heap.size) {t : ByteArray} {a1 : Nat} (N : Blk w a1 9 #[.string t])
    (hs : a.eval s = v) (hx : a.eval x = .slice (some ⟨a1, 0, none⟩) 1 1) (hlen : m ≤ 1000)
    (h : ∀ g cap w', w'.ownsRow B 9 1 (.slice (some ⟨g, 0, none⟩) (m + 1) cap) (m + 1) (xs ++ [.string t]) → w.grownBy w' v.ownBlock → K (a.put o.dst (.slice (some ⟨g, 0, none⟩) (m + 1) cap)) w') :
    if Region.wanted o (yielded ops a.tmps) = true then Oper.wp Tryz.prog o a w K Q else E := by
  obtain ⟨i0, hi0, hz0, hz1, hz2⟩ := info_parts info_str
  refine step_append_lies w hgd s x 38 ho B 9 i0 _ 1 16 Tryz.underlying38 hi0 hz0 hz1 hz2 rfl (by decide) v m xs hs T ⟨a1, 0, none⟩ 1 1 [.string t] hx rfl
    (fun j u hu => by rw [Addr.add_lit, Nat.zero_add]; exact (N.cell j).trans (by simpa using hu)) (fun u hu => by rw [List.mem_singleton.1 hu]; rfl) (by omega) (by unfold maxLen; omega) (by omega) hB _ rfl ?_
  intro g cap w' hown hgrow _ _
  exact h g cap w' hown hgrow

section
variable {l : List Task} {s : List Int} {a : Int}
/-- The state so far. -/
structure StR (W w : World) (l : List Task) (s : List Int) (a : Int) (k : Nat) (ov : Value) (ms : List Task) : Prop where
  out : w.ownsRow W.heap.size 40 5 ov ms.length (ms.flatMap Task.cells)
  strs : ∀ t ∈ ms, w.ownsRow W.heap.size 9 1 t.bv t.bef.length (t.bef.map Value.string)
  ok : ∀ t ∈ ms, t.ok
  norm : norms ms = ((List.range k).filter (liveB l s a)).map (stTask l s a)
  bel : Below W.heap.size W w
theorem StR.below {W w w' : World} {k : Nat} {ov : Value} {ms : List Task} (h : StR W w l s a k ov ms) (hb : Below w.heap.size w w') : StR W w' l s a k ov ms :=
  ⟨own_past h.out hb, fun t ht => own_past (h.strs t ht) hb, h.ok, h.norm, h.bel.trans (hb.mono h.bel.size)⟩
theorem StR.short {W w : World} {k : Nat} {ov : Value} {ms : List Task} (h : StR W w l s a k ov ms) : ms.length ≤ k := by
  have h1 := norms_len ms
  rw [h.norm, List.length_map] at h1
  have h2 := List.length_filter_le (liveB l s a) (List.range k)
  rw [List.length_range] at h2
  omega
theorem StR.skip {W w : World} {k : Nat} {ov : Value} {ms : List Task} (h : StR W w l s a k ov ms) (hl : liveB l s a k = false) : StR W w l s a (k + 1) ov ms :=
  ⟨h.out, h.strs, h.ok, by rw [live_snoc, hl, h.norm]; simp, h.bel⟩
theorem StR.push {W w w' : World} {k : Nat} {ov nv : Value} {ms : List Task} {t : Task} (h : StR W w l s a k ov ms) (hl : liveB l s a k = true) (hgrow : w.grownBy w' ov.ownBlock) (ho : w'.ownsRow W.heap.size 40 5 nv (ms.length + 1) ((ms ++ [t]).flatMap Task.cells))
    (hs : w.ownsRow W.heap.size 9 1 t.bv t.bef.length (t.bef.map Value.string)) (hok : t.ok) (hn : t.norm = stTask l s a k) : StR W w' l s a (k + 1) nv (ms ++ [t]) := by
  have hgr : Below W.heap.size W w' := h.bel.grown hgrow h.bel.size (fun k hk => (h.out.lt k hk).1)
  have hk : ∀ {e : TypeId} {n : Nat} {x : Value} {xs : List Value}, e ≠ 40 → w.ownsRow W.heap.size e 1 x n xs → w'.ownsRow W.heap.size e 1 x n xs := fun he hx => hx.kept hgrow (own_ne hx h.out he)
  refine ⟨by rw [List.length_append, List.length_singleton]; exact ho, fun t' ht' => ?_, fun t' ht' => ?_, ?_, hgr⟩
  · rcases List.mem_append.1 ht' with ht' | ht'
    · exact hk (by decide) (h.strs t' ht')
    · rw [List.mem_singleton.1 ht']; exact hk (by decide) hs
  · rcases List.mem_append.1 ht' with ht' | ht'
    · exact h.ok t' ht'
    · rw [List.mem_singleton.1 ht']; exact hok
  · rw [live_snoc, hl, if_pos rfl, ← h.norm]
    unfold norms
    rw [List.map_append, List.map_singleton, hn]
theorem StR.tasks {W w : World} {k : Nat} {ov : Value} {ms : List Task} (h : StR W w l s a k ov ms) : TasksAt w w.heap.size ov ms :=
  TasksAt.of_own h.out (fun t ht => RowAt.of_own (h.strs t ht)) (Nat.le_refl _) h.ok

/-- The Before of a task that is being made: what has not ended of the first j. -/
structure BefSt (wr w : World) (G : Nat) (t : Task) (ln : Int) (q : ByteArray → Bool) (j : Nat) (bA : Option Addr) (m cap : Nat) : Prop where
  bel : Below wr.heap.size wr w
  blk : Blk w G 40 #[.string t.name, .int .i64 ln, .int .i64 t.crew, .int .i64 t.pow, .slice bA m cap]
  len : m = ((t.bef.take j).filter q).length
  own : w.ownsRow wr.heap.size 9 1 (.slice bA m cap) m (((t.bef.take j).filter q).map Value.string)
theorem BefSt.drewN {wr w : World} {G : Nat} {t : Task} {ln : Int} {q : ByteArray → Bool} {j : Nat} {bA : Option Addr} {m cap : Nat} (h : BefSt wr w G t ln q j bA m cap) (n : Nat) : BefSt wr (w.drewN n) G t ln q j bA m cap :=
  ⟨below_drewN h.bel n, h.blk.drewN n, h.len, own_drewN h.own n⟩
theorem BefSt.allocDrew {wr w : World} {G : Nat} {t : Task} {ln : Int} {q : ByteArray → Bool} {j : Nat} {bA : Option Addr} {m cap : Nat} (h : BefSt wr w G t ln q j bA m cap) (o : Obj) : BefSt wr (w.alloc o).drew G t ln q j bA m cap :=
  ⟨(h.bel.alloc h.bel.size o).drew, h.blk.alloc o, h.len, h.own.alloc o⟩
theorem BefSt.skip {wr w : World} {G : Nat} {t : Task} {ln : Int} {q : ByteArray → Bool} {j : Nat} {bA : Option Addr} {m cap : Nat} (h : BefSt wr w G t ln q j bA m cap) (hj : j < t.bef.length) (hq : q t.bef[j] = false) : BefSt wr w G t ln q (j + 1) bA m cap := by
  have e : (t.bef.take (j + 1)).filter q = (t.bef.take j).filter q := by rw [filter_snoc hj, hq]; simp
  exact ⟨h.bel, h.blk, by rw [e]; exact h.len, by rw [e]; exact h.own⟩
theorem BefSt.push {wr w w' : World} {G g : Nat} {t : Task} {ln : Int} {q : ByteArray → Bool} {j : Nat} {bA : Option Addr} {m cap cap' : Nat} (h : BefSt wr w G t ln q j bA m cap) (hj : j < t.bef.length) (hq : q t.bef[j] = true) (hG : wr.heap.size ≤ G)
    (hg : w.grownBy w' (Value.slice bA m cap).ownBlock) (ho : w'.ownsRow wr.heap.size 9 1 (.slice (some ⟨g, 0, none⟩) (m + 1) cap') (m + 1) (((t.bef.take j).filter q).map Value.string ++ [.string t.bef[j]])) :
    BefSt wr (w'.setCell ⟨G, 4, none⟩ (.slice (some ⟨g, 0, none⟩) (m + 1) cap')) G t ln q (j + 1) (some ⟨g, 0, none⟩) (m + 1) cap' := by
  have e : (t.bef.take (j + 1)).filter q = (t.bef.take j).filter q ++ [t.bef[j]] := by rw [filter_snoc hj, hq]; simp
  have hb : Blk w' G 40 #[.string t.name, .int .i64 ln, .int .i64 t.crew, .int .i64 t.pow, .slice bA m cap] := h.blk.kept hg (h.blk.ne_own h.own (by decide))
  refine ⟨(h.bel.grown hg h.bel.size (fun k hk => (h.own.lt k hk).1)).setCell (p := ⟨G, 4, none⟩) hG _, ?_, by rw [e, List.length_append, List.length_singleton, ← h.len], ?_⟩
  · have := hb.set_ 4 (.slice (some ⟨g, 0, none⟩) (m + 1) cap')
    simpa using this
  · rw [e, List.map_append]
    exact own_setBlk ho hb (by decide)
end

end Go.Proofs.YtfcfphamecbcgaaGreat

/- The reference's State of layer 45: the loops. -/
namespace Go.Proofs.YtfcfphamecbcgaaGreat
open Go.RowKit Go.Shelf

set_option maxRecDepth 100000 in
set_option maxHeartbeats 8000000 in
theorem refState (v u : Value) (l : List Task) (s : List Int) (a : Int) (w : World) (hR : RightT l) (hl : TasksAt w w.heap.size v l) (hs : IntsAt w w.heap.size u s) (hlen : s.length = l.length) (hbd : ∀ x ∈ s, 0 ≤ x ∧ x ≤ 1000000) (ha : 0 ≤ a ∧ a ≤ 2000000) :
    Calls Tryz.prog 28 #[v, u, .int .i64 a] w (StatePost l s a w) := by
  have h8 := hR.len
  have HR := Lib.hid hR
  have HTw : Hid (∀ w1, Below w.heap.size w w1 → TasksAt w1 w.heap.size v l) := fun w1 hb => hl.below hb (Nat.le_refl _)
  have HBd := Lib.hid hbd
  have HOk := Lib.hid hl.2.2
  have HFind : Hid (∀ x w1, Below w.heap.size w w1 → Calls Tryz.prog 45 #[v, .string x] w1 fun e w'' => e = .returned (.int .i64 (pl l x)) ∧ w1 = w'') := fun x w1 hb => refFind v l x w1 w.heap.size (hl.below hb (Nat.le_refl _))
  have HEnd : Hid (∀ i w1, i < l.length → Below w.heap.size w w1 → Calls Tryz.prog 30 #[v, u, .int .i64 a, .int .i64 i] w1 fun e w' => e = .returned (.bool (decide (endN l s i ≤ a))) ∧ ∃ q, w1.drewN q = w') := fun i w1 hi hb => refEnded v u l s a i w.heap.size w1 hR (hl.below hb (Nat.le_refl _)) (hs.below hb (Nat.le_refl _)) hlen hbd hi
  obtain ⟨A, cc, rfl, hA1, hA2, -⟩ := hl.open_
  obtain ⟨A1, c1, rfl, hB1, hB2, hBc⟩ := hs.open_
  unfold maxLen at hA2 hB2
  have HSt : Hid (∀ (k : Nat), k < l.length → ∃ b1 off1, A1 = some ⟨b1, off1, none⟩ ∧ ∀ w', Below w.heap.size w w' → w'.cell? ⟨b1, off1 + k, none⟩ = some (.int .i64 (atI s k))) := fun k hk => by
    obtain ⟨b1, off1, e, hb, hc⟩ := hBc k (by omega)
    exact ⟨b1, off1, e, fun w' hb' => by rw [atI_get (by omega)]; exact (hb'.cell (p := ⟨b1, off1 + k, none⟩) hb).trans (hc k (by omega))⟩
  have Hlen := Lib.hid hlen
  have hsl : (s.length : Int) = (l.length : Int) := by omega
  have Hsl := Lib.hid hsl
  have H0 : Hid (StR w w l s a 0 (.slice none 0 0) []) := ⟨World.ownsRow_nil _ _ _ _, by simp, by simp, rfl, Below.refl _ _⟩
  obtain ⟨ha0, ha1⟩ := ha
  clear hl hs hBc hlen hbd hR hsl
  go_enter Tryz.func28, Tryz.ntmps28
  go_wp2_with fail
  go_loopw [8, 7] (fun ix ov wr => ∃ (k : Nat) (ms : List Task), k ≤ l.length ∧ ix = .int .i64 k ∧ Hid (StR w wr l s a k ov ms)) (fun ix _ _ => l.length - (intOf ix).toNat)
  case atStart => exact ⟨0, [], Nat.zero_le _, rfl, H0⟩
  case round =>
    clear H0
    obtain ⟨k, ms, hk, rfl, HSS⟩ := hrel
    have k1 : (0 : Int) ≤ (k : Int) := Int.natCast_nonneg _
    by_cases hkl : k < l.length
    · have hTr := HTw.out wr HSS.out.bel
      have hEk := HEnd.out k wr hkl HSS.out.bel
      have HLv : Hid (decide (endN l s k ≤ a) = !liveB l s a k) := by
        unfold Hid liveB
        rw [Bool.eq_iff_iff, Bool.not_eq_true', decide_eq_false_iff_not, decide_eq_true_iff]
        omega
      rw [HLv.out] at hEk
      have i2 : (k : Int) < (l.length : Int) := by omega
      cases hlv : liveB l s a k with
      | false =>
        have HSk := Lib.hid (fun q => (HSS.out.below (below_drewN (Below.refl _ _) q)).skip hlv)
        rw [hlv] at hEk
        clear hlv hTr HLv HSS
        go_wp2_with (go_at_call 30; refine hEk.mono ?_; rintro e w' ⟨rfl, q, rfl⟩)
        go_roundw
        case rel => exact ⟨k + 1, ms, by omega, by go_num, HSk.out q⟩
        case measure => simp [intOf]; omega
      | true =>
        have HLive := Lib.hid hlv
        rw [hlv] at hEk
        obtain ⟨b0, off0, rfl, hb0, hct⟩ := hTr.cells hkl
        obtain ⟨t0, t1, t2, t3, t4⟩ := hct k hkl
        obtain ⟨hm1, hm2, -⟩ := hTr.open_bef hkl
        unfold maxLen at hm2
        obtain ⟨b1, off1, rfl, hs1⟩ := HSt.out k hkl
        have z1 := hs1 wr HSS.out.bel
        have hln := fieldB_len (HR.out.field k hkl)
        have hxb : 0 ≤ atI s k ∧ atI s k ≤ 1000000 := by rw [atI_get (by have := Hlen.out; omega)]; exact HBd.out _ (List.getElem_mem _)
        have HEn : Hid (endN l s k = atI s k + l[k].len) := by unfold Hid endN; rw [lenAt_eq hkl]
        have hlt : a < atI s k + l[k].len := by
          have := hlv
          unfold liveB at this
          rw [HEn.out] at this
          simpa using this
        have HMemB := Lib.hid (befs_mem HR.out hkl)
        have hb8 : l[k].bef.length ≤ 1000 := by
          have := (((befOK_iff l).1 HR.out.bef _ (List.getElem_mem hkl))).le
          omega
        have hokk := HOk.out _ (List.getElem_mem hkl)
        have HTk : Hid ((tk l k) = l[k]) := tk_get hkl
        have hms := HSS.out.short
        have HKeep := Lib.hid (fun w' (hb : Below wr.heap.size wr w') => HSS.out.below hb)
        have HNorm : Hid (∀ A8 cap8 ln, ln = (if atI s k < a then atI s k + l[k].len - a else l[k].len) → (⟨l[k].name, ln, l[k].crew, l[k].pow, A8, cap8, l[k].bef.filter fun x => liveB l s a (pl l x).toNat⟩ : Task).norm = stTask l s a k) := fun A8 cap8 ln h => by
          unfold Task.norm stTask
          rw [HTk.out, HEn.out, h]
        have HOkT : Hid (∀ A8 cap8 ln, 1 ≤ ln ∧ ln ≤ 10000 → (⟨l[k].name, ln, l[k].crew, l[k].pow, A8, cap8, l[k].bef.filter fun x => liveB l s a (pl l x).toNat⟩ : Task).ok) := fun A8 cap8 ln h =>
          ⟨hokk.name, fun x hx => hokk.bef x (List.mem_filter.1 hx).1, by show _ ≤ ln ∧ ln ≤ _; omega, hokk.crew, hokk.pow⟩
        have HBf : Hid (∀ i (_ : i < l[k].bef.length), ∃ b off, l[k].ba = some ⟨b, off, none⟩ ∧ ∀ w', Below w.heap.size w w' → ∀ j (hj : j < l[k].bef.length), w'.cell? ⟨b, off + j, none⟩ = some (.string l[k].bef[j])) := fun i hi => by
          obtain ⟨-, -, h⟩ := (HTw.out w (Below.refl _ _)).open_bef hkl
          obtain ⟨b, off, e, hb, hc⟩ := h i hi
          exact ⟨b, off, e, fun w' hb' j hj => (hb'.cell (p := ⟨b, off + j, none⟩) hb).trans (hc j hj)⟩
        have HB4 : Hid (∀ w', Below w.heap.size w w' → w'.cell? ⟨b0, off0 + k * 5 + 4, none⟩ = some (.slice l[k].ba l[k].bef.length l[k].bc)) := fun w' hb => by
          obtain ⟨b9, off9, e9, -, h9⟩ := (HTw.out w' hb).cells hkl
          injection e9 with e9
          injection e9 with e10 e11
          subst e10 e11
          exact (h9 k hkl).2.2.2.2
        have HWr := Lib.hid HSS.out.bel
        have i3 : (k : Int) < (s.length : Int) := by have := Hsl.out; omega
        clear hct hTr HSS hokk hlv HLv
        generalize l[k].ba = ba at *
        go_wp2_with fail
        refine hEk.mono ?_
        rintro e w1 ⟨rfl, q1, rfl⟩
        have HWq := Lib.hid (below_drewN HWr.out q1)
        have HKq : Hid (∀ w', Below (wr.drewN q1).heap.size (wr.drewN q1) w' → StR w w' l s a k _ ms) := fun w' hb => HKeep.out w' (show Below wr.heap.size wr w' from (below_drewN (Below.refl _ _) q1).trans hb)
        have hms2 := hms
        have t0 : (wr.drewN q1).cell? ⟨b0, off0 + k * 5, none⟩ = some (.string l[k].name) := t0
        have t1 : (wr.drewN q1).cell? ⟨b0, off0 + k * 5 + 1, none⟩ = some (.int .i64 l[k].len) := t1
        have t2 : (wr.drewN q1).cell? ⟨b0, off0 + k * 5 + 2, none⟩ = some (.int .i64 l[k].crew) := t2
        have t3 : (wr.drewN q1).cell? ⟨b0, off0 + k * 5 + 3, none⟩ = some (.int .i64 l[k].pow) := t3
        have t4 : (wr.drewN q1).cell? ⟨b0, off0 + k * 5 + 4, none⟩ = some (.slice ba l[k].bef.length l[k].bc) := t4
        clear hEk HKeep HWr z1 hms
        generalize wr.drewN q1 = wq at *
        have hbG : Below wq.heap.size wq (wq.alloc (.cells #[.string l[k].name, .int .i64 l[k].len, .int .i64 l[k].crew, .int .i64 l[k].pow, .slice ba l[k].bef.length l[k].bc] 40)) := (Below.refl _ _).alloc (Nat.le_refl _) _
        have HG := Lib.hid (Blk.new wq 40 #[.string l[k].name, .int .i64 l[k].len, .int .i64 l[k].crew, .int .i64 l[k].pow, .slice ba l[k].bef.length l[k].bc])
        have z1 := hs1 _ (HKq.out _ hbG).bel
        have u0 := HG.out.cell 0
        have u1 := HG.out.cell 1
        have u2 := HG.out.cell 2
        have u3 := HG.out.cell 3
        have u4 := HG.out.cell 4
        have f1 := HG.out.frozen 1
        have f4 := HG.out.frozen 4
        simp only [List.getElem?_toArray, List.getElem?_cons_succ, List.getElem?_cons_zero] at u0 u1 u2 u3 u4
        clear hs1
        generalize hsx : atI s k = sx at *
        clear hsx
        by_cases hsa : sx < a
        case' pos =>
          have hsb : decide (sx < a) = true := decide_eq_true hsa
          have w1 : IntKind.i64.wrap (sx + l[k].len) = sx + l[k].len := IntWalk.i64_in _ (by omega)
          have w2 : IntKind.i64.wrap (sx + l[k].len - a) = sx + l[k].len - a := IntWalk.i64_in _ (by omega)
          go_wp2_with fail
          refine wp_region_tail 10 (by kernel_rfl) (by kernel_rfl) ?_
          simp only [List.take_succ_cons, List.take_zero, List.drop_succ_cons, List.drop_zero]
          repeat (go_big_quiet_step (fail))
          refine wpQuiet_nil ?_
          go_wp2_with fail
          have HBS : Hid (BefSt wq ((wq.alloc (.cells #[.string l[k].name, .int .i64 (sx + l[k].len - a), .int .i64 l[k].crew, .int .i64 l[k].pow, .slice none 0 0] 40)).drew) wq.heap.size l[k] (sx + l[k].len - a) (fun x => liveB l s a (pl l x).toNat) 0 none 0 0) := ⟨((Below.refl _ _).alloc (Nat.le_refl _) _).drew, Blk.new _ _ _, rfl, World.ownsRow_nil _ _ _ _⟩
          have HLn : Hid (sx + l[k].len - a = if sx < a then sx + l[k].len - a else l[k].len) := by unfold Hid; rw [if_pos hsa]
          have hlb : 1 ≤ sx + l[k].len - a ∧ sx + l[k].len - a ≤ 10000 := by omega
          clear hbG HG z1 u0 u1 u2 u3 u4 f1 f4 w1 w2 t0 t1 t2 t3 t4
          generalize (wq.alloc (.cells #[.string l[k].name, .int .i64 (sx + l[k].len - a), .int .i64 l[k].crew, .int .i64 l[k].pow, .slice none 0 0] 40)).drew = w4 at *
          obtain ⟨ln, hln2⟩ : ∃ ln, sx + l[k].len - a = ln := ⟨_, rfl⟩
          have HLn : Hid (ln = if sx < a then sx + l[k].len - a else l[k].len) := hln2.symm.trans HLn.out
          rw [hln2] at HBS hlb
          clear hln2
        case' neg =>
          have hsb : decide (sx < a) = false := decide_eq_false hsa
          go_wp2_with fail
          obtain ⟨ln, hln2⟩ : ∃ ln, ln = l[k].len := ⟨_, rfl⟩
          have HBS : Hid (BefSt wq (wq.alloc (.cells #[.string l[k].name, .int .i64 l[k].len, .int .i64 l[k].crew, .int .i64 l[k].pow, .slice none 0 0] 40)) wq.heap.size l[k] ln (fun x => liveB l s a (pl l x).toNat) 0 none 0 0) := ⟨(Below.refl _ _).alloc (Nat.le_refl _) _, by rw [hln2]; exact Blk.new _ _ _, rfl, World.ownsRow_nil _ _ _ _⟩
          have HLn : Hid (ln = if sx < a then sx + l[k].len - a else l[k].len) := by unfold Hid; rw [if_neg (by omega)]; exact hln2
          have hlb : 1 ≤ ln ∧ ln ≤ 10000 := by omega
          clear hln2 hbG HG z1 u0 u1 u2 u3 u4 f1 f4 t0 t1 t2 t3 t4
          generalize wq.alloc (.cells #[.string l[k].name, .int .i64 l[k].len, .int .i64 l[k].crew, .int .i64 l[k].pow, .slice none 0 0] 40) = w4 at *
        all_goals
          have HWq2 := Lib.hid (fun w' (hb : Below wq.heap.size wq w') => HWq.out.trans (hb.mono HWq.out.size))
          have hGW : w.heap.size ≤ wq.heap.size := HWq.out.size
          obtain ⟨G, hG⟩ : ∃ G, wq.heap.size = G := ⟨_, rfl⟩
          rw [hG] at HBS
          have hGq : wq.heap.size ≤ G := Nat.le_of_eq hG
          have HGq := Lib.hid hGq
          simp only [hG]
          clear hG hGq HWq
          go_loopw [10] (fun ix wx => ∃ (j m cap : Nat) (bA : Option Addr), j ≤ l[k].bef.length ∧ ix = .int .i64 j ∧ Hid (BefSt wq wx G l[k] ln (fun x => liveB l s a (pl l x).toNat) j bA m cap)) (fun ix _ => l[k].bef.length - (intOf ix).toNat)
          case atStart => exact ⟨0, 0, 0, none, Nat.zero_le _, rfl, HBS⟩
          case round =>
            clear HBS
            obtain ⟨j, m, cap, bA, hj, rfl, HBS⟩ := hrel
            have j0 : (0 : Int) ≤ (j : Int) := Int.natCast_nonneg _
            have c4 := HB4.out _ (HWq2.out _ HBS.out.bel)
            by_cases hjl : j < l[k].bef.length
            · obtain ⟨b', off', rfl, hs'⟩ := HBf.out j hjl
              have hst := hs' _ (HWq2.out _ HBS.out.bel) j hjl
              obtain ⟨i, hi, hie⟩ := HMemB.out _ (List.getElem_mem hjl)
              have hF := HFind.out l[k].bef[j] _ (HWq2.out _ HBS.out.bel)
              have hE := HEnd.out i _ hi (HWq2.out _ HBS.out.bel)
              rw [hie] at hF
              have j1 : (j : Int) < (l[k].bef.length : Int) := by omega
              have HQ : Hid (liveB l s a (pl l l[k].bef[j]).toNat = liveB l s a i) := by unfold Hid; rw [hie, Int.toNat_natCast]
              have hLv : decide (endN l s i ≤ a) = !liveB l s a i := by
                unfold liveB
                rw [Bool.eq_iff_iff, Bool.not_eq_true', decide_eq_false_iff_not, decide_eq_true_iff]
                omega
              rw [hLv] at hE
              clear hLv hie
              cases hq : liveB l s a i with
              | false =>
                rw [hq] at hE
                have HSk := Lib.hid (fun q => (HBS.out.drewN q).skip hjl (by show liveB l s a _ = false; rw [HQ.out, hq]))
                clear hq HQ HBS hs'
                go_wp2_with (first
                  | (go_at_call 45; refine hF.mono ?_; rintro e w' ⟨rfl, rfl⟩)
                  | (go_at_call 30; refine hE.mono ?_; rintro e w' ⟨rfl, q, rfl⟩))
                go_roundw
                case rel => exact ⟨j + 1, m, cap, bA, by omega, by go_num, HSk.out q⟩
                case measure => simp [intOf]; omega
              | true =>
                rw [hq] at hE
                have hqq : liveB l s a (pl l l[k].bef[j]).toNat = true := by rw [HQ.out, hq]
                have Hqq := Lib.hid hqq
                clear hq HQ hqq
                go_wp2_with fail
                refine hF.mono ?_
                rintro e w5 ⟨rfl, rfl⟩
                go_wp2_with fail
                refine hE.mono ?_
                rintro e w6 ⟨rfl, q2, rfl⟩
                have HBy := Lib.hid (HBS.out.drewN q2)
                clear hF hE c4 hst HBS
                generalize wr.drewN q2 = wy at *
                have c4 := HB4.out _ (HWq2.out _ HBy.out.bel)
                have d4 := fun o => HB4.out _ (HWq2.out _ (HBy.out.bel.alloc HBy.out.bel.size o))
                have hst := hs' _ (HWq2.out _ HBy.out.bel) j hjl
                have e4 := HBy.out.blk.cell 4
                have e4' := fun o => (HBy.out.blk.alloc o).cell 4
                simp only [List.getElem?_toArray, List.getElem?_cons_succ, List.getElem?_cons_zero] at e4 e4'
                have hmj : m ≤ 1000 := by
                  have h1 := HBy.out.len
                  have h2 := List.length_filter_le (fun x => liveB l s a (pl l x).toNat) (l[k].bef.take j)
                  rw [List.length_take] at h2
                  omega
                have HSz := HBy.out.bel.size
                have HBa : BefSt wq ((wy.alloc (.cells #[.string l[k].bef[j]] 9)).drew) G l[k] ln (fun x => liveB l s a (pl l x).toNat) j bA m cap := HBy.out.allocDrew _
                have HStore : Hid (∀ wz, ((wy.alloc (.cells #[.string l[k].bef[j]] 9)).drew).grownBy wz (Value.slice bA m cap).ownBlock → wz.frozen? ⟨G, 4, none⟩ = false ∧ wz.cell? ⟨G, 4, none⟩ = some (.slice bA m cap)) := fun wz hgz => by
                  have HGz := HBa.blk.kept hgz (HBa.blk.ne_own HBa.own (by decide))
                  exact ⟨HGz.frozen 4, HGz.cell 4⟩
                have HPush : Hid (∀ wz g3 cap3, ((wy.alloc (.cells #[.string l[k].bef[j]] 9)).drew).grownBy wz (Value.slice bA m cap).ownBlock → wz.ownsRow wq.heap.size 9 1 (.slice (some ⟨g3, 0, none⟩) (m + 1) cap3) (m + 1) (((l[k].bef.take j).filter fun x => liveB l s a (pl l x).toNat).map Value.string ++ [.string l[k].bef[j]]) →
                    BefSt wq (wz.setCell ⟨G, 4, none⟩ (.slice (some ⟨g3, 0, none⟩) (m + 1) cap3)) G l[k] ln (fun x => liveB l s a (pl l x).toNat) (j + 1) (some ⟨g3, 0, none⟩) (m + 1) cap3) := fun wz g3 cap3 hgz hoz => HBa.push hjl Hqq.out HGq.out hgz hoz
                have HOw : Hid (((wy.alloc (.cells #[.string l[k].bef[j]] 9)).drew).ownsRow wq.heap.size 9 1 (.slice bA m cap) m (((l[k].bef.take j).filter fun x => liveB l s a (pl l x).toNat).map Value.string) ∧ wq.heap.size ≤ ((wy.alloc (.cells #[.string l[k].bef[j]] 9)).drew).heap.size ∧ Blk ((wy.alloc (.cells #[.string l[k].bef[j]] 9)).drew) wy.heap.size 9 #[.string l[k].bef[j]]) := ⟨HBa.own, HBa.bel.size, Blk.drew1 (Blk.new _ _ _)⟩
                clear hs' HBa
                go_wp2_with fail
                go_region_law (refine step_appS rfl (.tmp 69) (.tmp 78) rfl HOw.out.1 HOw.out.2.1 HOw.out.2.2 (by go_simp) (by go_simp) hmj ?_; intro g3 cap3 wz hoz hgz; obtain ⟨fz, cz⟩ := HStore.out wz hgz; have HPu := Lib.hid (HPush.out wz g3 cap3 hgz hoz); clear hoz hgz)
                all_goals
                  clear c4 d4 e4 e4' hst fz cz HStore HPush HOw
                  go_simp
                  go_wp2_with fail
                  go_roundw
                  case rel => exact ⟨j + 1, m + 1, cap3, some ⟨g3, 0, none⟩, by omega, by go_num, HPu⟩
                  case measure => simp [intOf]; omega
            · have hje : j = l[k].bef.length := by omega
              subst hje
              have hlen := HBS.out.len
              have hown := HBS.out.own
              have hblk := HBS.out.blk
              have HKx := Lib.hid (HKq.out _ HBS.out.bel)
              rw [List.take_length] at hlen hown
              clear HBS
              generalize (l[k].bef.filter fun x => liveB l s a (pl l x).toNat) = bf at *
              subst hlen
              have u0 := hblk.cell 0
              have u1 := hblk.cell 1
              have u2 := hblk.cell 2
              have u3 := hblk.cell 3
              have u4 := hblk.cell 4
              simp only [List.getElem?_toArray, List.getElem?_cons_succ, List.getElem?_cons_zero] at u0 u1 u2 u3 u4
              have HOw := Lib.hid hown
              clear hblk hown
              go_wp2_with (at_builtin; refine wpList_appT _ rfl (.tmp 81) (.tmp 83) rfl w.heap.size _ ms (HKx.out.out.alloc _) (Nat.le_trans HKx.out.bel.size (by simp)) ⟨l[k].name, ln, l[k].crew, l[k].pow, bA, cap, bf⟩ _ (Blk.new _ _ _) rfl rfl (by omega) ?_; intro g9 cap9 w9 hown9 hgr9)
              have HPush := Lib.hid (StR.push (HKx.out.below ((Below.refl _ _).alloc (Nat.le_refl _) _)) HLive.out hgr9 hown9 (own_mono (HOw.out.alloc _) hGW) (HOkT.out _ _ _ hlb) (HNorm.out _ _ _ HLn.out))
              clear hown9 hgr9 u0 u1 u2 u3 u4 c4
              go_wp2_with fail
              go_roundw
              case rel => exact ⟨k + 1, _, by omega, by go_num, HPush⟩
              case measure => simp [intOf]; omega
    · have hke : k = l.length := by omega
      subst hke
      have HP := Lib.hid HSS.out.tasks
      have HN : Hid (norms ms = stateN l s a) := HSS.out.norm
      have HB := Lib.hid HSS.out.bel
      go_wp2_with fail
      go_ret
      exact ⟨HB.out, _, ms, rfl, HP.out, HN.out⟩

end Go.Proofs.YtfcfphamecbcgaaGreat
