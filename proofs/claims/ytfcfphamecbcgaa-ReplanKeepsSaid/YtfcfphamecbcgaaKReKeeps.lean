/- For every input the law returns true, and its arguments read as they did: KeepsP, LawReKeeps, RowReKeeps. -/
import Derived.Deep.CutRange
import Derived.Deep.DeepCutAuto
import Derived.Deep.RegionHeld3
import Derived.Test.YtfcfphamecbcgaaG10
import Derived.Test.YtfcfphamecbcgaaG15
import Derived.Test.YtfcfphamecbcgaaG17
import Derived.Test.YtfcfphamecbcgaaG18
import Derived.Test.YtfcfphamecbcgaaG19
import Derived.Test.YtfcfphamecbcgaaG7

/- New starts and what is left: what the law ReplanKeeps asks. No program in sight. -/
namespace Go.Proofs.Ytfcfphamecbcgaa
open Go.RowKit Go.Shelf

section
variable {l ms : List Task} {s : List Int} {a c p : Int}
/-- How many of the first tasks are not at an end. -/
def cntL (l : List Task) (s : List Int) (a : Int) (k : Nat) : Nat := ((List.range k).filter (liveB l s a)).length
theorem cntL_succ {k : Nat} : cntL l s a (k + 1) = cntL l s a k + if liveB l s a k then 1 else 0 := by
  unfold cntL
  rw [List.range_succ, List.filter_append, List.length_append]
  congr 1
  cases h : liveB l s a k <;> simp [h]
theorem cntL_all : cntL l s a l.length = (liveZ l s a).length := rfl
theorem live_front {k : Nat} : ∀ m, k ≤ m → ∃ t, (List.range m).filter (liveB l s a) = (List.range k).filter (liveB l s a) ++ t
  | 0, h => ⟨[], by rw [show k = 0 by omega]; rfl⟩
  | m + 1, h => by
    by_cases e : k = m + 1
    · exact ⟨[], by rw [e]; simp⟩
    · obtain ⟨t, ht⟩ := live_front (k := k) m (by omega)
      exact ⟨t ++ [m].filter (liveB l s a), by rw [List.range_succ, List.filter_append, ht, List.append_assoc]⟩
theorem live_at {k : Nat} (hk : k < l.length) (hl : liveB l s a k = true) : cntL l s a k < (liveZ l s a).length ∧ zAt (liveZ l s a) (cntL l s a k) = k := by
  obtain ⟨t, ht⟩ := live_front (l := l) (s := s) (a := a) (k := k + 1) l.length (by omega)
  rw [List.range_succ, List.filter_append, show [k].filter (liveB l s a) = [k] by simp [hl]] at ht
  have hz : liveZ l s a = (List.range k).filter (liveB l s a) ++ [k] ++ t := ht
  rw [hz]
  unfold cntL zAt
  constructor
  · simp
  · rw [List.getD_eq_getElem?_getD, List.append_assoc, List.getElem?_append_right (Nat.le_refl _)]
    simp
theorem again_live (hR : RightT l) {r : List Int} {k : Nat} (hk : k < l.length) (hl : liveB l s a k = true) : agI l s a r k = a + atI r (cntL l s a k) := by
  obtain ⟨h1, h2⟩ := live_at hk hl
  have h := (sub_state (s := s) (a := a) hR).pl hR h1
  rw [h2] at h
  unfold agI
  rw [h, if_pos (Int.natCast_nonneg _), Int.toNat_natCast]
theorem again_dead (hR : RightT l) {r : List Int} {k : Nat} (hk : k < l.length) (hl : liveB l s a k = false) : agI l s a r k = atI s k := by
  have hS := sub_state (s := s) (a := a) hR
  have hno : (tk l k).name ∉ names (stateN l s a) := fun h => by
    obtain ⟨b, hb, e⟩ := hS.names.1 h
    have h1 := hS.zlt hb
    rw [tk_get h1, tk_get hk] at e
    have h2 := distinct_inj hR.dist h1 hk e
    have h3 := (mem_live.1 (zAt_mem hb)).2
    rw [h2] at h3
    unfold liveB at hl
    rw [decide_eq_true h3] at hl
    cases hl
  unfold agI
  rw [pl_not hno, if_neg (by omega)]
theorem state_name (hN : norms ms = stateN l s a) {k : Nat} (hk : k < l.length) (hl : liveB l s a k = true) : ∃ h : cntL l s a k < ms.length, ms[cntL l s a k].name = l[k].name := by
  obtain ⟨h1, h2⟩ := live_at hk hl
  have hcn := norms_state.trans hN.symm
  have hlen := con_len hcn
  rw [state_len] at hlen
  have hm : cntL l s a k < ms.length := by omega
  refine ⟨hm, ?_⟩
  have h3 := (con_tk hcn (cntL l s a k)).1
  rw [tk_state h1, h2, tk_get hm] at h3
  rw [← h3]
  show (tk l k).name = _
  rw [tk_get hk]
theorem againN_at {k : Nat} (hk : k < l.length) : atI (againN l c p s a) k = agI l s a (leastN (stateN l s a) c p).2 k := by
  have : (againN l c p s a).length = l.length := by simp [againN]
  rw [atI_get (by omega)]
  simp [againN]
/-- What Least gives of the state. -/
theorem state_least (he : errR l c p s a = 0) (hN : norms ms = stateN l s a) : RightT ms ∧ validB ms c p = true ∧ (leastN (stateN l s a) c p) = leastN ms c p ∧ checkB ms c p (leastN ms c p).2 = true ∧ (leastN ms c p).2.length = ms.length ∧ (∀ x ∈ (leastN ms c p).2, 0 ≤ x ∧ x ≤ 80000) ∧ (leastN ms c p).1 = lenTo ms (leastN ms c p).2 ms.length ∧ ms.length = cntL l s a l.length := by
  obtain ⟨hv, hg, hn⟩ := errR_zero he
  obtain ⟨hR, hc0, hc1, hp0, hp1⟩ := valid_right hv
  have hcn : norms (stateN l s a) = norms ms := norms_state.trans hN.symm
  have hS := con_sub hcn (sub_state (s := s) (a := a) hR)
  rw [con_any hcn] at hn
  obtain ⟨h1, h2, h3, h4⟩ := least_keeps (hS.right hR) ⟨hc0, hp0⟩ hn
  exact ⟨hS.right hR, con_valid hR hN ⟨hc0, hc1⟩ ⟨hp0, hp1⟩, con_least hcn c p, h1, h2, h3, h4, by rw [cntL_all, ← con_len hcn, state_len]⟩
theorem lenTo_max {r : List Int} {k : Nat} : lenTo ms r (k + 1) = max (lenTo ms r k) (atI r k + lenAt ms k) := by
  rw [lenTo]
  unfold endN
  split <;> omega
end

end Go.Proofs.Ytfcfphamecbcgaa

/- The law ReplanKeeps: the walk. -/
namespace Go.Proofs.Ytfcfphamecbcgaa
open Go.RowKit Go.Shelf

set_option maxRecDepth 100000 in
set_option maxHeartbeats 8000000 in
theorem lawReplanKeeps (v u : Value) (l : List Task) (c p : Int) (s : List Int) (a : Int) (w : World) (hl : TasksAt w w.heap.size v l) (hs : IntsAt w w.heap.size u s) (hw : Wide s) :
    Calls Try.prog 5 #[v, .int .i64 c, .int .i64 p, u, .int .i64 a] w fun e w' => e = .returned (.bool true) ∧ Below w.heap.size w w' := by
  have hA := lawAwake45 w
  have HT : Hid (∀ w1, Below w.heap.size w w1 → TasksAt w1 w1.heap.size v l) := fun w1 hb => (hl.below hb (Nat.le_refl _)).mono hb.size
  have HTw : Hid (∀ w1, Below w.heap.size w w1 → TasksAt w1 w.heap.size v l) := fun w1 hb => hl.below hb (Nat.le_refl _)
  have HS : Hid (∀ w1, Below w.heap.size w w1 → IntsAt w1 w1.heap.size u s) := fun w1 hb => (hs.below hb (Nat.le_refl _)).mono hb.size
  have hLong := fun w1 hb => lawLarge v l w1 (HT.out w1 hb)
  have HEnd : Hid (∀ w1, Below w.heap.size w w1 → Calls Try.prog 18 #[v, .int .i64 c, .int .i64 p, u, .int .i64 a] w1 (EndPost l c p s a w1)) := fun w1 hb => rpEnd v u l c p s a w1 (HT.out w1 hb) (HS.out w1 hb) hw
  have HAg : Hid (∀ w1, Below w.heap.size w w1 → Calls Try.prog 16 #[v, .int .i64 c, .int .i64 p, u, .int .i64 a] w1 (AgainPost l c p s a w1)) := fun w1 hb => rpAgain v u l c p s a w1 (HT.out w1 hb) (HS.out w1 hb) hw
  have HSt : Hid (∀ w1, Below w.heap.size w w1 → Calls Try.prog 11 #[v, u, .int .i64 a] w1 (StateTop l s a w1)) := fun w1 hb => rpStateTop v u l s a w1 (HT.out w1 hb) (HS.out w1 hb) hw
  obtain ⟨A, cc, rfl, hA1, hA2, -⟩ := hl.open_
  obtain ⟨A1, c1, rfl, hB1, hB2, hBc⟩ := hs.open_
  unfold maxLen at hA2 hB2
  have HC0 : Hid (s.length = l.length → ∀ (k : Nat), k < l.length → ∃ b1 off1, A1 = some ⟨b1, off1, none⟩ ∧ ∀ w', Below w.heap.size w w' → w'.cell? ⟨b1, off1 + k, none⟩ = some (.int .i64 (atI s k))) := fun hlen k hk => by
    obtain ⟨b1, off1, e, hb, hc⟩ := hBc k (by omega)
    exact ⟨b1, off1, e, fun w' hb' => by rw [atI_get (by omega)]; exact (hb'.cell (p := ⟨b1, off1 + k, none⟩) hb).trans (hc k (by omega))⟩
  clear hl hs hw hBc
  cases hlg : largeB l with
  | true =>
    rw [hlg] at hLong
    clear hlg
    go_enter Try.func5, Try.ntmps5
    go_wp2_with (first
      | (go_at_call 9; refine hA.mono ?_; rintro e w1 ⟨rfl, hb1⟩)
      | (go_at_call 10; refine (hLong _ hb1).mono ?_; rintro e w2 ⟨rfl, hb2⟩))
    go_ret
    exact ⟨rfl, hb1.trans (hb2.mono hb1.size)⟩
  | false =>
    rw [hlg] at hLong
    clear hlg
    by_cases h20 : 20 < s.length
    · have h20b : decide ((20 : Int) < s.length) = true := by simp; omega
      go_enter Try.func5, Try.ntmps5
      go_wp2_with (first
        | (go_at_call 9; refine hA.mono ?_; rintro e w1 ⟨rfl, hb1⟩)
        | (go_at_call 10; refine (hLong _ hb1).mono ?_; rintro e w2 ⟨rfl, hb2⟩))
      go_ret
      exact ⟨rfl, hb1.trans (hb2.mono hb1.size)⟩
    have h20b : decide ((20 : Int) < s.length) = false := by simp; omega
    clear h20
    go_enter Try.func5, Try.ntmps5
    go_wp2_with (first
      | (go_at_call 9; refine hA.mono ?_; rintro e w1 ⟨rfl, hb1⟩)
      | (go_at_call 10; refine (hLong _ hb1).mono ?_; rintro e w2 ⟨rfl, hb2⟩; have hbx := hb1.trans (hb2.mono hb1.size); clear hb1 hb2 hA hLong))
    refine (HAg.out _ hbx).mono ?_
    rintro e w3 ⟨hb3, hp3⟩
    have hbx3 := hbx.trans (hb3.mono hbx.size)
    rcases hp3 with ⟨hx, rfl⟩ | ⟨he, vx, rfl, hown⟩
    · generalize errR l c p s a = x0 at *
      have hxb : (x0 != 0) = true := bne_iff_ne.2 hx
      clear hx
      go_wp2_with fail
      go_ret
      exact ⟨rfl, hbx3⟩
    obtain ⟨hv, hg, hn⟩ := errR_zero he
    obtain ⟨ha0, ha1, -, -⟩ := err_bd he
    obtain ⟨hR, hc0, hc1, hp0, hp1⟩ := valid_right hv
    have hst := (givenR_zero hg).2.1
    obtain ⟨hlen, hbd⟩ := startsN_zero hst
    have h8 := hR.len
    have HR := Lib.hid hR
    have Hlen := Lib.hid hlen
    have HC := Lib.hid (HC0.out hlen)
    have Hat : Hid (∀ i, i < l.length → 0 ≤ atI s i ∧ atI s i ≤ 1000000) := fun i hi => by rw [atI_get (by omega)]; exact hbd _ (List.getElem_mem _)
    have hxl : (againN l c p s a).length = l.length := by simp [againN]
    have hown' : w3.ownsRow 0 3 1 vx (againN l c p s a).length ((againN l c p s a).map (Value.int .i64)) := by rw [hxl]; exact own_mono hown (Nat.zero_le _)
    have hi3 : IntsAt w3 w3.heap.size vx (againN l c p s a) := RowAt.of_own hown'
    obtain ⟨A3, c3, rfl, -, -, hXc⟩ := hi3.open_
    have HXC : Hid (∀ (k : Nat), k < l.length → ∃ b1 off1, A3 = some ⟨b1, off1, none⟩ ∧ ∀ w', Below w3.heap.size w3 w' → w'.cell? ⟨b1, off1 + k, none⟩ = some (.int .i64 (agI l s a (leastN (stateN l s a) c p).2 k))) := fun k hk => by
      obtain ⟨b1, off1, e, hb, hc⟩ := hXc k (by omega)
      exact ⟨b1, off1, e, fun w' hb' => by rw [← againN_at hk, atI_get (by omega)]; exact (hb'.cell (p := ⟨b1, off1 + k, none⟩) hb).trans (hc k (by omega))⟩
    have HSt2 : Hid (∀ w1, Below w.heap.size w w1 → Calls Try.prog 11 #[.slice A l.length cc, .slice A1 s.length c1, .int .i64 a] w1 fun e w' => (∃ A5 c5 ms, e = .returned (.tuple #[.slice A5 ms.length c5, .int .i64 0]) ∧ Hid (TasksAt w' w'.heap.size (.slice A5 ms.length c5) ms) ∧ Hid (norms ms = stateN l s a)) ∧ Below w1.heap.size w1 w') := fun w1 hb => (HSt.out w1 hb).mono fun e w' ⟨h1, h2⟩ => by
      rcases h2 with ⟨h2, -⟩ | ⟨-, v5, ms, he, hT, hN⟩
      · exact absurd hg h2
      · obtain ⟨A5, c5, rfl, -, -, -⟩ := hT.open_
        exact ⟨⟨A5, c5, ms, he, hT, hN⟩, h1⟩
    have HEn2 : Hid (∀ w1, Below w.heap.size w w1 → Calls Try.prog 18 #[.slice A l.length cc, .int .i64 c, .int .i64 p, .slice A1 s.length c1, .int .i64 a] w1 fun e w' => e = .returned (.tuple #[.int .i64 (a + (leastN (stateN l s a) c p).1), .int .i64 0]) ∧ Below w1.heap.size w1 w') := fun w1 hb => (HEnd.out w1 hb).mono fun e w' ⟨h1, h2⟩ => by
      rw [if_pos he, he] at h2
      exact ⟨h2, h1⟩
    rw [hxl]
    have HE := Lib.hid he
    have hlb : ((s.length : Int) != (l.length : Int)) = false := by rw [hlen]; simp
    rw [Hlen.out] at hB1
    clear hv hg hn hR hst hlen hbd hown hown' hi3 hXc hxl HEnd HAg HSt HC0 he hb3
    go_wp2_with fail
    refine (HSt2.out _ hbx3).mono ?_
    rintro e w4 ⟨⟨A5, c5, ms, rfl, HTm, HNm⟩, hb4⟩
    have hbx4 := hbx3.trans (hb4.mono hbx3.size)
    obtain ⟨hRm, hvm, hle, hck, hrl, hrb, hlt, hml⟩ := state_least HE.out HNm.out
    rw [hle] at HXC HEn2
    have hm8 := hRm.len
    have HMT : Hid (∀ w1, Below w4.heap.size w4 w1 → TasksAt w1 w1.heap.size (.slice A5 ms.length c5) ms) := fun w1 hb => (HTm.out.below hb (Nat.le_refl _)).mono hb.size
    have HMw : Hid (∀ w1, Below w4.heap.size w4 w1 → TasksAt w1 w4.heap.size (.slice A5 ms.length c5) ms) := fun w1 hb => HTm.out.below hb (Nat.le_refl _)
    have HRb : Hid (∀ i, i < ms.length → 0 ≤ atI (leastN ms c p).2 i ∧ atI (leastN ms c p).2 i ≤ 80000) := fun i hi => by rw [atI_get (by omega)]; exact hrb _ (List.getElem_mem _)
    have HLB : Hid (∀ k, k ≤ ms.length → 0 ≤ lenTo ms (leastN ms c p).2 k ∧ lenTo ms (leastN ms c p).2 k ≤ 1010000) := fun k hk => lenTo_bd hRm hrl (fun x hx => by have := hrb x hx; omega) k hk
    have HNm2 : Hid (∀ k (_ : k < l.length), liveB l s a k = true → ∃ h : cntL l s a k < ms.length, ms[cntL l s a k].name = l[k].name) := fun k hk h => state_name HNm.out hk h
    have HLf : Hid (∀ i (_ : i < ms.length), 1 ≤ ms[i].len ∧ ms[i].len ≤ 10000) := fun i hi => fieldB_len (hRm.field i hi)
    have HRl := Lib.hid hrl
    have HRB := Lib.hid hrb
    have HLt : Hid ((leastN ms c p).1 = lenTo ms (leastN ms c p).2 ms.length) := hlt
    have HMl := Lib.hid hml
    have HVm := Lib.hid hvm
    have HCk := Lib.hid hck
    have HLive : Hid (∀ k (hk : k < l.length), liveB l s a k = decide (a < atI s k + l[k].len)) := fun k hk => by unfold liveB endN; rw [lenAt_eq hk]
    clear hRm hvm hle hck hrl hrb hlt hml HSt2 HE
    generalize hr : (leastN ms c p).2 = r at *
    generalize (leastN ms c p).1 = n at *
    clear hr
    have hx34 := hb4
    clear hb4
    go_wp2_with fail
    go_loopw [73, 15, 16, 17] (fun ix rv kv ev wr => ∃ (k : Nat) (A4 : Option Addr) (cap4 : Nat), k ≤ l.length ∧ ix = .int .i64 k ∧ rv = .slice A4 (cntL l s a k) cap4 ∧ kv = .int .i64 (cntL l s a k) ∧ ev = .int .i64 (a + lenTo ms r (cntL l s a k)) ∧ cntL l s a k ≤ ms.length ∧
      Hid (wr.ownsRow w4.heap.size 3 1 (.slice A4 (cntL l s a k) cap4) (cntL l s a k) ((r.take (cntL l s a k)).map (Value.int .i64))) ∧ Below w4.heap.size w4 wr) (fun ix _ _ _ _ => l.length - (intOf ix).toNat)
    case atStart => exact ⟨0, none, 0, Nat.zero_le _, rfl, rfl, rfl, by rw [show cntL l s a 0 = 0 from rfl, lenTo, Int.add_zero], Nat.zero_le _, World.ownsRow_nil _ _ _ _, Below.refl _ _⟩
    case round =>
      obtain ⟨k, A4, cap4, hk, rfl, rfl, rfl, rfl, hcl, Hown, hbe⟩ := hrel
      have hbw : Below w.heap.size w wr := hbx4.trans (hbe.mono hbx4.size)
      by_cases hkl : k < l.length
      · obtain ⟨b0, off0, rfl, hb0, hct⟩ := (HTw.out wr hbw).cells hkl
        obtain ⟨t0, t1, t2, t3, t4⟩ := hct k hkl
        obtain ⟨b1, off1, e1, hsc⟩ := HC.out k hkl
        subst e1
        obtain ⟨b2, off2, e2, hxc⟩ := HXC.out k hkl
        subst e2
        have hat := Hat.out k hkl
        have hln := fieldB_len (HR.out.field k hkl)
        have HLv := Lib.hid (HLive.out k hkl)
        have hsz := hbe.size
        have hlb0 := HLB.out _ hcl
        have i1 : (0 : Int) ≤ (k : Int) := Int.natCast_nonneg _
        have i2 : (k : Int) < (l.length : Int) := by omega
        have i3 : (k : Int) < (s.length : Int) := by have := Hlen.out; omega
        have hbA : Below w4.heap.size w4 (wr.alloc (.cells #[.string l[k].name, .int .i64 l[k].len, .int .i64 l[k].crew, .int .i64 l[k].pow, .slice l[k].ba l[k].bef.length l[k].bc] 38)) := hbe.alloc hsz _
        have HownA : Hid ((wr.alloc (.cells #[.string l[k].name, .int .i64 l[k].len, .int .i64 l[k].crew, .int .i64 l[k].pow, .slice l[k].ba l[k].bef.length l[k].bc] 38)).ownsRow w4.heap.size 3 1 (.slice A4 (cntL l s a k) cap4) (cntL l s a k) ((r.take (cntL l s a k)).map (Value.int .i64))) := Hown.out.alloc _
        have hbe2 : ∀ w', Below w4.heap.size w4 w' → Below w.heap.size w w' ∧ Below w3.heap.size w3 w' := fun w' hb => ⟨hbx4.trans (hb.mono hbx4.size), hx34.trans (hb.mono hx34.size)⟩
        have hs1 : (wr.alloc (.cells #[.string l[k].name, .int .i64 l[k].len, .int .i64 l[k].crew, .int .i64 l[k].pow, .slice l[k].ba l[k].bef.length l[k].bc] 38)).cell? ⟨b1, off1 + k, none⟩ = some (.int .i64 (atI s k)) := hsc _ (hbe2 _ hbA).1
        have hx1 : (wr.alloc (.cells #[.string l[k].name, .int .i64 l[k].len, .int .i64 l[k].crew, .int .i64 l[k].pow, .slice l[k].ba l[k].bef.length l[k].bc] 38)).cell? ⟨b2, off2 + k, none⟩ = some (.int .i64 (agI l s a r k)) := hxc _ (hbe2 _ hbA).2
        have HX1 : Hid (∀ w', Below w4.heap.size w4 w' → w'.cell? ⟨b2, off2 + k, none⟩ = some (.int .i64 (agI l s a r k))) := fun w' hb => hxc _ (hbe2 _ hb).2
        have HDead : Hid (liveB l s a k = false → agI l s a r k = atI s k) := fun h => again_dead HR.out hkl h
        have HLv2 : Hid (liveB l s a k = true → agI l s a r k = a + atI r (cntL l s a k)) := fun h => again_live HR.out hkl h
        have HCn : Hid (cntL l s a (k + 1) = cntL l s a k + if liveB l s a k then 1 else 0) := cntL_succ
        have HNm3 := Lib.hid (HNm2.out k hkl)
        rw [HLv.out] at HDead HLv2 HCn HNm3
        clear hct hsc hxc HLv hbw hbe2
        generalize l[k].ba = ba at *
        generalize atI s k = x at *
        generalize agI l s a r k = y at *
        generalize hll : l[k].len = ln at *
        have w1' : IntKind.i64.wrap (x + ln) = x + ln := IntWalk.i64_in _ (by omega)
        by_cases hq : a < x + ln
        · have hb : decide (x + ln ≤ a) = false := decide_eq_false (by omega)
          have hY := HLv2.out (decide_eq_true hq)
          obtain ⟨hcm, hnm⟩ := HNm3.out (decide_eq_true hq)
          have HCn' : Hid (cntL l s a (k + 1) = cntL l s a k + 1) := by unfold Hid; rw [HCn.out, decide_eq_true hq]; rfl
          have hrv := HRb.out _ hcm
          have hlm := HLf.out _ hcm
          have HCr : Hid (cntL l s a k < r.length ∧ ∀ h : cntL l s a k < r.length, r[cntL l s a k] = atI r (cntL l s a k)) := ⟨by have := HRl.out; omega, fun h => (atI_get h).symm⟩
          have HLM : Hid (lenTo ms r (cntL l s a k + 1) = max (lenTo ms r (cntL l s a k)) (atI r (cntL l s a k) + ms[cntL l s a k].len)) := by unfold Hid; rw [lenTo_max, lenAt_eq hcm]
          obtain ⟨b5, off5, e5, hb5, hmc⟩ := (HMw.out w4 (Below.refl _ _)).cells hcm
          subst e5
          have HMC : Hid (∀ w', Below w4.heap.size w4 w' → w'.cell? ⟨b5, off5 + cntL l s a k * 5, none⟩ = some (.string l[k].name) ∧ w'.cell? ⟨b5, off5 + cntL l s a k * 5 + 1, none⟩ = some (.int .i64 ms[cntL l s a k].len)) := fun w' hb => by
            obtain ⟨q0, q1, -, -, -⟩ := hmc _ hcm
            rw [← hnm]
            exact ⟨(hb.cell (p := ⟨b5, off5 + cntL l s a k * 5, none⟩) hb5).trans q0, (hb.cell (p := ⟨b5, off5 + cntL l s a k * 5 + 1, none⟩) hb5).trans q1⟩
          have j1 : (0 : Int) ≤ (cntL l s a k : Int) := Int.natCast_nonneg _
          have j2 : (cntL l s a k : Int) < (ms.length : Int) := by omega
          have j3 : decide ((ms.length : Int) ≤ (cntL l s a k : Int)) = false := decide_eq_false (by omega)
          obtain ⟨m0, m1⟩ := HMC.out _ hbA
          subst hY
          clear hmc hnm HNm3 HCn HDead HLv2 hq
          generalize ms[cntL l s a k].len = lm at *
          generalize atI r (cntL l s a k) = rv at *
          generalize lenTo ms r (cntL l s a k) = L at *
          generalize hcn : cntL l s a k = cn at *
          have d1 : decide (a + rv < a) = false := decide_eq_false (by omega)
          have w2' : IntKind.i64.wrap (a + rv - a) = a + rv - a := IntWalk.i64_in _ (by omega)
          have w3' : IntKind.i64.wrap (a + rv + lm) = a + rv + lm := IntWalk.i64_in _ (by omega)
          have w4' : IntKind.i64.wrap ((cn : Int) + 1) = (cn : Int) + 1 := IntWalk.i64_in _ (by omega)
          clear hcn
          go_wp2_with fail
          have hy := World.cell?_alloc_new wr #[.string l[k].name, .int .i64 ln, .int .i64 l[k].crew, .int .i64 l[k].pow, .slice ba l[k].bef.length l[k].bc] 38
          have y0 := hy 0
          have y1 := hy 1
          simp only [List.getElem?_toArray, List.getElem?_cons_succ, List.getElem?_cons_zero] at y0 y1
          generalize wr.alloc (.cells #[.string l[k].name, .int .i64 ln, .int .i64 l[k].crew, .int .i64 l[k].pow, .slice ba l[k].bef.length l[k].bc] 38) = wt at *
          clear hy t0 t1 t2 t3 t4
          generalize l[k].name = nm at *
          go_quiet (fail)
          go_wp2_with fail
          go_quiet (fail)
          go_wp2_with (at_builtin; refine wpList_pushN _ rfl (.tmp 118) (.tmp 125) 23 rfl w4.heap.size 3 info_int Try.underlying23 rfl _ cn _ rfl HownA.out (.int .i64 (a + rv - a)) rfl wt.heap.size (by simp) rfl (by unfold maxLen; omega) (by omega) hbA.size ?_; intro g3 cap6 w6 hown6 hg6 hbg6 hgg6)
          have hown6' : w6.ownsRow w4.heap.size 3 1 (.slice (some ⟨g3, 0, none⟩) (cntL l s a (k + 1)) cap6) (cntL l s a (k + 1)) ((r.take (cntL l s a (k + 1))).map (Value.int .i64)) := by
            obtain ⟨hcr, hrr⟩ := HCr.out
            rw [HCn'.out, take_snoc r cn hcr, hrr hcr, List.map_append]
            rw [show a + rv - a = rv by omega] at hown6
            exact hown6
          have hb6 := (below_drewN hbA _).grown hg6 (by simpa using hbA.size) (fun k hk => (HownA.out.lt k hk).1)
          have Hown6 := Lib.hid hown6'
          have hx6 := HX1.out _ hb6
          obtain ⟨-, m6⟩ := HMC.out _ hb6
          clear hown6 hown6' hg6 hgg6 m0 m1 y0 y1 hs1 hx1
          go_wp2_with fail
          go_quiet (fail)
          go_wp2_with fail
          go_roundw
          case rel => exact ⟨k + 1, some ⟨g3, 0, none⟩, cap6, by omega, by go_num, by rw [HCn'.out], by rw [HCn'.out]; rfl, by rw [HCn'.out, HLM.out]; congr 1; omega, by rw [HCn'.out]; exact hcm, Hown6, below_drewN hb6 _⟩
          case measure => simp [intOf]; omega
        · have hb : decide (x + ln ≤ a) = true := decide_eq_true (by omega)
          have hY := HDead.out (decide_eq_false hq)
          have HCn' : Hid (cntL l s a (k + 1) = cntL l s a k) := by unfold Hid; rw [HCn.out, decide_eq_false hq]; simp
          subst hY
          clear hq HDead HLv2 HCn HNm3 HX1
          go_wp2_with fail
          have hy := World.cell?_alloc_new wr #[.string l[k].name, .int .i64 ln, .int .i64 l[k].crew, .int .i64 l[k].pow, .slice ba l[k].bef.length l[k].bc] 38
          have y1 := hy 1
          simp only [List.getElem?_toArray, List.getElem?_cons_succ, List.getElem?_cons_zero] at y1
          generalize wr.alloc (.cells #[.string l[k].name, .int .i64 ln, .int .i64 l[k].crew, .int .i64 l[k].pow, .slice ba l[k].bef.length l[k].bc] 38) = wt at *
          clear hy t0 t1 t2 t3 t4
          go_quiet (fail)
          go_wp2_with fail
          go_quiet (fail)
          go_wp2_with fail
          go_roundw
          case rel => exact ⟨k + 1, A4, cap4, by omega, by go_num, by rw [HCn'.out], by rw [HCn'.out], by rw [HCn'.out], by rw [HCn'.out]; exact hcl, by rw [HCn'.out]; exact HownA.out, below_drewN hbA _⟩
          case measure => simp [intOf]; omega
      · obtain rfl : k = l.length := by omega
        rw [← HMl.out]
        rw [← HMl.out, show ms.length = r.length from HRl.out.symm, List.take_length] at Hown
        have HI : Hid (∀ w1, Below wr.heap.size wr w1 → IntsAt w1 w1.heap.size (.slice A4 r.length cap4) r) := fun w1 hb => ((RowAt.of_own (own_mono Hown.out (Nat.zero_le _))).below hb (Nat.le_refl _)).mono hb.size
        have hCk := schedCheck (.slice A5 ms.length c5) (.slice A4 r.length cap4) ms c p r wr (HMT.out wr hbe) (HI.out wr (Below.refl _ _)) (wide_of (M := 80000) (by omega) HRB.out)
        have hst5 : startsN ms r = 0 := startsN_ok HRl.out fun x hx => by have := HRB.out x hx; omega
        have hCk2 : Calls Try.prog 17 #[.slice A5 ms.length c5, .int .i64 c, .int .i64 p, .slice A4 ms.length cap4] wr fun e w' => e = .returned (.tuple #[.bool true, .int .i64 0]) ∧ Below wr.heap.size wr w' := by
          rw [show ms.length = r.length from HRl.out.symm] at hCk ⊢
          refine hCk.mono fun e w' h => ?_
          unfold CheckPost at h
          rw [checkE_yes HVm.out, hst5, HCk.out] at h
          exact ⟨h.2, h.1⟩
        have hEn := HLB.out _ (Nat.le_refl _)
        rw [HLt.out] at HEn2
        clear Hown HI hCk hst5 hkl hk HLt
        generalize lenTo ms r ms.length = L at *
        go_wp2_with fail
        refine hCk2.mono ?_
        rintro e w5 ⟨rfl, hb5⟩
        have hbx5 := hbw.trans (hb5.mono hbw.size)
        go_wp2_with fail
        refine (HEn2.out _ hbx5).mono ?_
        rintro e w6 ⟨rfl, hb6⟩
        go_wp2_with fail
        go_ret
        exact ⟨rfl, hbx5.trans (hb6.mono hbx5.size)⟩

end Go.Proofs.Ytfcfphamecbcgaa

/- ReplanKeeps: for every input the law returns true, and its arguments read as they did. -/
namespace Go.Proofs.Ytfcfphamecbcgaa
open Go.ChangeShapes Go.WideShapes Go.ChangeAt Go.RowKit

set_option maxRecDepth 100000 in
theorem replanKeeps_lifted (os : Os) (started : os.Started) (H : Type) (enc : TypeId × Value → H) :
    ReturnsInHanded {} Try.checked os 5 .any (Rows.replanKeepsSpec.pre6 enc Try.prog Try.f5 Rows.replanKeepsRow.domain false) (Rows.replanKeepsSpec.post enc Try.prog Try.f5 false true false false) := by
  refine law_lifted started (by kernel_rfl) Try.func5 rfl (by kernel_rfl) ?_ ?_ (ChangeSpec.witness6 (enc := enc) (C := Try.checked) false ⟨#[], #[.slice none 0 0, .int .i64 0, .int .i64 0, .slice none 0 0, .int .i64 0], []⟩ 8 (by kernel_rfl) (by kernel_rfl) (by kernel_rfl) (by kernel_rfl)) ?_
  · rw [Try.params5]
    intro t ht
    simp only [List.mem_cons, List.not_mem_nil, or_false] at ht
    rcases ht with rfl | rfl | rfl | rfl | rfl <;> exact ⟨by kernel_rfl, of_decide_eq_true (by kernel_rfl)⟩
  · intro ds hds
    match ds, hds with
    | [d0, d1, d2, d3, d4], _ => exact ⟨rfl, rfl, rfl⟩
  · intro W base args ds ps hval hA
    rw [Try.params5] at hA hval
    obtain ⟨v0, vs0, d0, ds0, p0, q0, hargs, rfl, rfl, h0, r0⟩ := trodAll_cons hA
    obtain ⟨v1, vs1, d1, ds1, p1, q1, rfl, rfl, rfl, h1, r1⟩ := trodAll_cons r0
    obtain ⟨v2, vs2, d2, ds2, p2, q2, rfl, rfl, rfl, h2, r2⟩ := trodAll_cons r1
    obtain ⟨v3, vs3, d3, ds3, p3, q3, rfl, rfl, rfl, h3, r3⟩ := trodAll_cons r2
    obtain ⟨v4, vs4, d4, ds4, p4, q4, rfl, rfl, rfl, h4, r4⟩ := trodAll_cons r3
    obtain ⟨rfl, rfl, rfl⟩ := trodAll_nil r4
    obtain rfl : args = #[v0, v1, v2, v3, v4] := by cases args; simp_all
    obtain ⟨a0, n0, c0, rfl⟩ := okWide_slice Try.underlying22 (hval 0 22 v0 rfl rfl)
    obtain ⟨fuel0, hf0⟩ := h0
    obtain ⟨x0, hx0⟩ := tasks_of_trod hf0
    obtain ⟨x1, rfl, -, -, wf1⟩ := open_int Try.underlying3 (hval 1 3 v1 rfl rfl) h1
    clear wf1
    obtain ⟨x2, rfl, -, -, wf2⟩ := open_int Try.underlying3 (hval 2 3 v2 rfl rfl) h2
    clear wf2
    obtain ⟨a3, n3, c3, rfl⟩ := okWide_slice Try.underlying23 (hval 3 23 v3 rfl rfl)
    obtain ⟨fuel3, hf3⟩ := h3
    obtain ⟨x3, hx3, hw3⟩ := ints_of_trod hf3
    obtain ⟨x4, rfl, -, -, wf4⟩ := open_int Try.underlying3 (hval 4 3 v4 rfl rfl) h4
    clear wf4
    exact lawReplanKeeps _ _ x0 x1 x2 x3 x4 W hx0 hx3 hw3

theorem replanKeeps_holds : Rows.ReplanKeepsSaid :=
  OpenClaim.holds_of_wide 5 Try.f5 rfl rfl rfl rfl rfl rfl rfl ⟨rfl, rfl, rfl, rfl, rfl⟩ rfl rfl rfl rfl rfl (by kernel_rfl) Try.func5 (by kernel_rfl)
    (of_decide_eq_true (by kernel_rfl)) (by unfold Func.isWrapper; first | (rw [if_pos (by decide +kernel)]; kernel_rfl) | (rw [if_neg (by decide +kernel)]; exact ⟨rfl, rfl⟩))
    (fun os started H enc _ => replanKeeps_lifted os started H enc)
#print axioms replanKeeps_holds

end Go.Proofs.Ytfcfphamecbcgaa
