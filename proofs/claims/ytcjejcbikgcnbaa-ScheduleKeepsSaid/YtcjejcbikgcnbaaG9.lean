/- Parts of the proof, laid into one text: LawLeast, RefKeeps, LawForms. -/
import Derived.Test.YtcjejcbikgcnbaaG4
import Derived.Test.YtcjejcbikgcnbaaG6
import Derived.Test.YtcjejcbikgcnbaaG7

/- The law ScheduleLeast: the walk. -/
namespace Go.Proofs.Ytcjejcbikgcnbaa
open Go.RowKit Go.Shelf

theorem noRows (w : World) : RowAt (id : Value → Value) w w.heap.size (.slice none 0 0) [] := ⟨none, 0, rfl, Nat.le_refl _, Nat.zero_le _, fun h => absurd h (by simp)⟩
theorem valid_not {l : List Task} {c p : Int} (h : rightR l = false) : validB l c p = false := by unfold validB; rw [h]; rfl

set_option maxRecDepth 100000 in
set_option maxHeartbeats 8000000 in
theorem lawScheduleLeast (v : Value) (l : List Task) (c p : Int) (w : World) (hl : TasksAt w w.heap.size v l) :
    Calls Try.prog 7 #[v, .int .i64 c, .int .i64 p] w fun e w' => e = .returned (.bool true) ∧ Below w.heap.size w w' := by
  have hA := lawAwake43 w
  have HT : Hid (∀ w1, Below w.heap.size w w1 → TasksAt w1 w1.heap.size v l) := fun w1 hb => (hl.below hb (Nat.le_refl _)).mono hb.size
  have hLong := fun w1 hb => lawShort v (.slice none 0 0) l [] w1 (HT.out w1 hb) (noRows w1) (by simp)
  have HCr : Hid (∀ w1, Below w.heap.size w w1 → Calls Try.prog 39 #[v] w1 (CritPost l w1)) := fun w1 hb => schedCritical v l w1 (HT.out w1 hb)
  have HRi : Hid (∀ w1, Below w.heap.size w w1 → Calls Try.prog 19 #[v] w1 fun e w' => e = .returned (.bool (rightR l)) ∧ Below w1.heap.size w1 w') := fun w1 hb => refRight v l w1 (HT.out w1 hb)
  have HLe : Hid (∀ w1, Below w.heap.size w w1 → Calls Try.prog 41 #[v, .int .i64 c, .int .i64 p] w1 (LeastPost l c p w1)) := fun w1 hb => schedLeast v l c p w1 (HT.out w1 hb)
  have HVa : Hid (∀ w1, Below w.heap.size w w1 → Calls Try.prog 42 #[v, .int .i64 c, .int .i64 p] w1 fun e w' => e = .returned (.bool (validB l c p)) ∧ Below w1.heap.size w1 w') := fun w1 hb => refValid v l c p w1 (HT.out w1 hb)
  have HNe : Hid (∀ w1, Below w.heap.size w w1 → Calls Try.prog 43 #[v, .int .i64 c, .int .i64 p] w1 fun e w' => e = .returned (.bool (l.any (tooMuch c p))) ∧ w1 = w') := fun w1 hb => refNeeded v l c p w1.heap.size w1 (HT.out w1 hb)
  obtain ⟨A, cc, rfl, hA1, hA2, -⟩ := hl.open_
  unfold maxLen at hA2
  clear hl
  cases hlg : shortB l [] with
  | false =>
    rw [hlg] at hLong
    clear hlg
    go_enter Try.func7, Try.ntmps7
    go_wp2_with (first
      | (go_at_call 37; refine hA.mono ?_; rintro e w1 ⟨rfl, hb1⟩)
      | (go_at_call 38; refine (hLong _ hb1).mono ?_; rintro e w2 ⟨rfl, hb2⟩))
    go_ret
    exact ⟨rfl, hb1.trans (hb2.mono hb1.size)⟩
  | true =>
    rw [hlg] at hLong
    clear hlg
    go_enter Try.func7, Try.ntmps7
    go_wp2_with (first
      | (go_at_call 37; refine hA.mono ?_; rintro e w1 ⟨rfl, hb1⟩)
      | (go_at_call 38; refine (hLong _ hb1).mono ?_; rintro e w2 ⟨rfl, hb2⟩))
    have hb := hb1.trans (hb2.mono hb1.size)
    clear hb1 hb2 hA hLong
    refine (HCr.out _ hb).mono ?_
    rintro e w3 ⟨hb3, hpost⟩
    have hbx := hb.trans (hb3.mono hb.size)
    have hRi := HRi.out _ hbx
    cases hr : rightR l with
    | false =>
      rcases hpost with ⟨_, rfl⟩ | ⟨hno, _⟩
      rotate_left
      · rw [hr] at hno; cases hno
      have hv : validB l c p = false := valid_not hr
      have HV := Lib.hid hv
      rw [hr] at hRi
      clear hr hb3 hb hv
      by_cases h6 : 6 < l.length
      · by_cases h8 : l.length ≤ 8
        · have h6b : decide ((6 : Int) < l.length) = true := by simp; omega
          have h8b : decide ((l.length : Int) ≤ 8) = true := by simp; omega
          go_wp2_with (go_at_call 19; refine hRi.mono ?_; rintro e w4 ⟨rfl, hb4⟩)
          go_ret
          exact ⟨rfl, hbx.trans (hb4.mono hbx.size)⟩
        · have h6b : decide ((6 : Int) < l.length) = true := by simp; omega
          have h8b : decide ((l.length : Int) ≤ 8) = false := by simp; omega
          go_wp2_with (go_at_call 19; refine hRi.mono ?_; rintro e w4 ⟨rfl, hb4⟩)
          have hbx := hbx.trans (hb4.mono hbx.size)
          clear hb4 hRi
          refine (HLe.out _ hbx).mono ?_
          rintro e w5 ⟨hb5, ⟨_, rfl⟩ | ⟨hno, _⟩ | ⟨hno, _⟩⟩
          rotate_left
          · rw [HV.out] at hno; cases hno
          · rw [HV.out] at hno; cases hno
          have hbx := hbx.trans (hb5.mono hbx.size)
          have hVa := HVa.out _ hbx
          rw [HV.out] at hVa
          go_wp2_with (go_at_call 42; refine hVa.mono ?_; rintro e w6 ⟨rfl, hb6⟩)
          go_ret
          exact ⟨rfl, hbx.trans (hb6.mono hbx.size)⟩
      · have h6b : decide ((6 : Int) < l.length) = false := by simp; omega
        go_wp2_with (go_at_call 19; refine hRi.mono ?_; rintro e w4 ⟨rfl, hb4⟩)
        have hbx := hbx.trans (hb4.mono hbx.size)
        clear hb4 hRi
        refine (HLe.out _ hbx).mono ?_
        rintro e w5 ⟨hb5, ⟨_, rfl⟩ | ⟨hno, _⟩ | ⟨hno, _⟩⟩
        rotate_left
        · rw [HV.out] at hno; cases hno
        · rw [HV.out] at hno; cases hno
        have hbx := hbx.trans (hb5.mono hbx.size)
        have hVa := HVa.out _ hbx
        rw [HV.out] at hVa
        go_wp2_with (go_at_call 42; refine hVa.mono ?_; rintro e w6 ⟨rfl, hb6⟩)
        go_ret
        exact ⟨rfl, hbx.trans (hb6.mono hbx.size)⟩
    | true =>
      rcases hpost with ⟨hno, _⟩ | ⟨_, A3, cap3, rfl, hown⟩
      · rw [hr] at hno; cases hno
      have hRT := (right_iff l).1 hr
      have h8 := hRT.len
      have HRT := Lib.hid hRT
      have hs3 : StrsAt w3 w3.heap.size (.slice A3 (critL l l.length).length cap3) (critL l l.length) := RowAt.of_own hown
      have HS3 := Lib.hid hs3
      rw [hr] at hRi
      clear hr hb3 hb hown hs3 hRT
      go_wp2_with (go_at_call 19; refine hRi.mono ?_; rintro e w4 ⟨rfl, hb4⟩)
      have HS3 := Lib.hid ((HS3.out.below hb4 (Nat.le_refl _)).mono hb4.size)
      have hbx := hbx.trans (hb4.mono hbx.size)
      clear hb4 hRi
      refine (refCritical _ l w4 HRT.out (HT.out _ hbx)).mono ?_
      rintro e w5 ⟨hb5, A5, cap5, rfl, hown5⟩
      have hbx := hbx.trans (hb5.mono hbx.size)
      have hE := equalStr _ _ _ _ w5.heap.size w5 ((HS3.out.below hb5 (Nat.le_refl _)).mono hb5.size) (RowAt.of_own hown5)
      rw [decide_eq_true rfl] at hE
      clear HS3 hb5 hown5
      generalize critL l l.length = cl at *
      go_wp2_with fail
      refine hE.mono ?_
      rintro e w6 ⟨rfl, q, rfl⟩
      have hbx : Below w.heap.size w (w5.drewN q) := below_drewN hbx q
      clear hE
      by_cases h6 : 6 < l.length
      · have h6b : decide ((6 : Int) < l.length) = true := by simp; omega
        have h8b : decide ((l.length : Int) ≤ 8) = true := by simp; omega
        go_wp2_with fail
        go_ret
        exact ⟨rfl, hbx⟩
      · have h6b : decide ((6 : Int) < l.length) = false := by simp; omega
        go_wp2_with fail
        refine (HLe.out _ hbx).mono ?_
        rintro e w7 ⟨hb7, hpost⟩
        have hbx7 := hbx.trans (hb7.mono hbx.size)
        have hVa := HVa.out _ hbx7
        rcases hpost with ⟨hv, rfl⟩ | ⟨hv, hn, rfl⟩ | ⟨hv, hn, A7, cap7, rfl, hown7⟩
        · rw [hv] at hVa
          clear hv hb7
          go_wp2_with (go_at_call 42; refine hVa.mono ?_; rintro e w8 ⟨rfl, hb8⟩)
          go_ret
          exact ⟨rfl, hbx7.trans (hb8.mono hbx7.size)⟩
        · rw [hv] at hVa
          have HN := Lib.hid hn
          clear hv hb7 hn
          go_wp2_with (first
            | (go_at_call 42; refine hVa.mono ?_; rintro e w8 ⟨rfl, hb8⟩; have hbx8 := hbx7.trans (hb8.mono hbx7.size); have hNe := HNe.out _ hbx8; rw [HN.out] at hNe)
            | (go_at_call 43; refine hNe.mono ?_; rintro e w9 ⟨rfl, rfl⟩))
          go_ret
          exact ⟨rfl, hbx8⟩
        · have hv' := valid_right hv
          rw [hv] at hVa
          have HN := Lib.hid hn
          have HO : Hid (IntsAt w7 w7.heap.size (.slice A7 (leastN l c p).2.length cap7) (leastN l c p).2) := RowAt.of_own hown7
          have HCP : Hid (0 ≤ c ∧ 0 ≤ p) := ⟨hv'.2.1, hv'.2.2.2.1⟩
          have HRef : Hid (∀ w1, Below w.heap.size w w1 → Calls Try.prog 44 #[.slice A l.length cc, .int .i64 c, .int .i64 p] w1 (FurPost (leastN l c p) w1)) := fun w1 hb => refLeast43 _ l c p w1 HRT.out HCP.out HN.out (HT.out w1 hb)
          unfold FurPost at HRef
          clear hv hb7 hn hown7 hv'
          generalize leastN l c p = r at *
          obtain ⟨rn, rl⟩ := r
          simp only at HO HRef ⊢
          go_wp2_with (first
            | (go_at_call 42; refine hVa.mono ?_; rintro e w8 ⟨rfl, hb8⟩; have hbx8 := hbx7.trans (hb8.mono hbx7.size); have hNe := HNe.out _ hbx8; rw [HN.out] at hNe; have HO8 := Lib.hid ((HO.out.below hb8 (Nat.le_refl _)).mono hb8.size))
            | (go_at_call 43; refine hNe.mono ?_; rintro e w9 ⟨rfl, rfl⟩))
          refine (HRef.out _ hbx8).mono ?_
          rintro e w9 ⟨hb9, hrb, A9, cap9, rfl, hown9⟩
          have hbx9 := hbx8.trans (hb9.mono hbx8.size)
          have hE := equalInt _ _ _ _ w9.heap.size w9 ((HO8.out.below hb9 (Nat.le_refl _)).mono hb9.size) (RowAt.of_own hown9)
          rw [decide_eq_true rfl] at hE
          have hbb : (rn == rn) = true := by simp
          clear hb9 hown9 hrb
          go_wp2_with fail
          refine hE.mono ?_
          rintro e w10 ⟨rfl, q2, rfl⟩
          go_wp2_with fail
          go_ret
          exact ⟨rfl, below_drewN hbx9 q2⟩

end Go.Proofs.Ytcjejcbikgcnbaa

/- the reference's Keeps. -/
namespace Go.Proofs.Ytcjejcbikgcnbaa
open Go.RowKit Go.Shelf

/-- By the reference, starts keep the limits. -/
def keepsB (l : List Task) (c p : Int) (s : List Int) : Bool := (List.range l.length).all (fun i => !(rowAt l i).any (lateB l s i)) && (List.range l.length).all (fun i => fitsB l c p s (atI s i))
theorem keeps_check {l : List Task} {c p : Int} {s : List Int} (hlen : s.length = l.length) : checkB l c p s = keepsB l c p s := by
  unfold checkB keepsB
  rw [Bool.eq_iff_iff]
  simp only [Bool.and_eq_true, List.all_eq_true, List.mem_range]
  constructor
  · intro h
    refine ⟨fun i hi => ?_, fun i hi => ?_⟩
    · have := h i hi
      unfold stepOkB at this
      rw [Bool.and_eq_true] at this
      exact this.2
    · have := h i hi
      unfold stepOkB wholeB at this
      rw [Bool.and_eq_true, Bool.and_eq_true] at this
      exact this.1.1
  · rintro ⟨h1, h2⟩ i hi
    unfold stepOkB wholeB
    rw [Bool.and_eq_true, Bool.and_eq_true]
    refine ⟨⟨h2 i hi, ?_⟩, h1 i hi⟩
    rw [Bool.not_eq_true', List.any_eq_false]
    intro x hx
    obtain ⟨k, hk, rfl⟩ := List.mem_iff_getElem.1 hx
    have := h2 k (by omega)
    rw [atI_get hk] at this
    unfold badB
    rw [this]
    simp
theorem usedY_all {f : Task → Int} {l : List Task} {s : List Int} {t : Int} (hs : ∀ i, i < l.length → 0 ≤ atI s i) : ∀ k, k ≤ l.length → usedY f l s t (List.range k) = usedTo f l s t k
  | 0, _ => rfl
  | k + 1, hk => by
    rw [List.range_succ, usedY_append, usedY_all hs k (by omega), usedTo]
    have : onB l s t k = onR l s t k := by
      unfold onB Proofs.Ytcjejcbikgcnbaa.onR
      rw [decide_eq_true (hs k (by omega)), Bool.true_and]
    rw [this]
theorem nats_range (k : Nat) : nats (List.range (k + 1)) = nats (List.range k) ++ [.int .i64 (k : Int)] := by rw [List.range_succ, nats_snoc]

set_option maxRecDepth 100000 in
set_option maxHeartbeats 4000000 in
theorem refKeeps (v u : Value) (l : List Task) (c p : Int) (s : List Int) (w : World) (hR : RightT l) (hl : TasksAt w w.heap.size v l) (hs : IntsAt w w.heap.size u s) (hlen : s.length = l.length) (hbd : ∀ x ∈ s, 0 ≤ x ∧ x ≤ 1000000) :
    Calls Try.prog 55 #[v, .int .i64 c, .int .i64 p, u] w fun e w' => e = .returned (.bool (keepsB l c p s)) ∧ Below w.heap.size w w' := by
  have h8 := hR.len
  have HR := Lib.hid hR
  have HT : Hid (∀ w', Below w.heap.size w w' → TasksAt w' w.heap.size v l) := fun w' hb => hl.below hb (Nat.le_refl _)
  have HFind : Hid (∀ s w', Below w.heap.size w w' → Calls Try.prog 67 #[v, .string s] w' fun e w'' => e = .returned (.int .i64 (pl l s)) ∧ w' = w'') := fun s w' hb => refFind v l s w' w.heap.size (hl.below hb (Nat.le_refl _))
  have hat : ∀ i, i < l.length → 0 ≤ atI s i ∧ atI s i ≤ 1000000 := fun i hi => by rw [atI_get (by omega)]; exact hbd _ (List.getElem_mem _)
  have Hat := Lib.hid hat
  have HAt : Hid (∀ (g cap : Nat) t w', Below w.heap.size w w' → w'.ownsRow w.heap.size 3 1 (.slice (some ⟨g, 0, none⟩) l.length cap) l.length (nats (List.range l.length)) →
      Calls Try.prog 103 #[v, u, .slice (some ⟨g, 0, none⟩) l.length cap, .int .i64 t] w' fun e w'' => e = .returned (.tuple #[.int .i64 (usedTo Task.crew l s t l.length), .int .i64 (usedTo Task.pow l s t l.length)]) ∧ ∃ q, w'.drewN q = w'') := fun g cap t w' hb hown => by
    have hz : IntsAt w' w'.heap.size (.slice (some ⟨g, 0, none⟩) l.length cap) (ints (List.range l.length)) := RowAt.of_own (n := l.length) hown
    have := refAt43 v u _ l s (List.range l.length) t w'.heap.size w' hR ((hl.below hb (Nat.le_refl _)).mono hb.size) ((hs.below hb (Nat.le_refl _)).mono hb.size) hz hlen (fun x hx => by have := hbd x hx; omega) (fun i hi => List.mem_range.1 hi) (by rw [List.length_range]; exact h8)
    rwa [usedY_all (fun i hi => (hat i hi).1) _ (Nat.le_refl _), usedY_all (fun i hi => (hat i hi).1) _ (Nat.le_refl _)] at this
  obtain ⟨A, cc, rfl, hA1, hA2, -⟩ := hl.open_
  obtain ⟨A1, c1, rfl, hB1, hB2, hBc⟩ := hs.open_
  unfold maxLen at hA2 hB2
  have HC : Hid (∀ (k : Nat), k < l.length → ∃ b1 off1, A1 = some ⟨b1, off1, none⟩ ∧ b1 < w.heap.size ∧ w.cell? ⟨b1, off1 + k, none⟩ = some (.int .i64 (atI s k))) := fun k hk => by
    obtain ⟨b1, off1, e, hb, hc⟩ := hBc k (by omega)
    exact ⟨b1, off1, e, hb, by rw [atI_get (by omega)]; exact hc k (by omega)⟩
  rw [hlen] at hB1 HAt ⊢
  have HV : Hid (keepsB l c p s = ((List.range l.length).all (fun i => !(rowAt l i).any (lateB l s i)) && (List.range l.length).all (fun i => fitsB l c p s (atI s i)))) := rfl
  clear hl hs hBc hat hbd hR
  go_enter Try.func55, Try.ntmps55
  go_wp2_with fail
  go_loopw [10, 9] (fun ix av wr => ∃ (k : Nat) (A3 : Option Addr) (cap3 : Nat), k ≤ l.length ∧ ix = .int .i64 k ∧ av = .slice A3 k cap3 ∧ Hid (wr.ownsRow w.heap.size 3 1 (.slice A3 k cap3) k (nats (List.range k))) ∧
    Hid ((List.range k).all (fun i => !(rowAt l i).any (lateB l s i)) = true) ∧ Below w.heap.size w wr) (fun ix _ _ => l.length - (intOf ix).toNat)
  case atStart => exact ⟨0, none, 0, Nat.zero_le _, rfl, rfl, (World.ownsRow_nil _ _ _ _ : w.ownsRow w.heap.size 3 1 (.slice none 0 0) 0 []), rfl, Below.refl _ _⟩
  case round =>
    obtain ⟨k, A3, cap3, hk, rfl, rfl, Hown, HN, hbel⟩ := hrel
    by_cases hkl : k < l.length
    · have hsz := hbel.size
      obtain ⟨w5, rfl⟩ : ∃ w5 : World, w5 = wr := ⟨_, rfl⟩
      go_wp2_with (at_builtin; refine wpList_pushN _ rfl (.tmp 22) (.tmp 24) 29 rfl w.heap.size 3 info_int Try.underlying29 rfl _ k _ rfl Hown.out (.int .i64 k) rfl w5.heap.size rfl rfl (by unfold maxLen; omega) (by omega) hsz ?_; intro g3 cap6 w6 hown6 hg6 hbg6 hgg6)
      have hown6' : w6.ownsRow w.heap.size 3 1 (.slice (some ⟨g3, 0, none⟩) (k + 1) cap6) (k + 1) (nats (List.range (k + 1))) := by rw [nats_range]; exact hown6
      have Hown6 := Lib.hid hown6'
      have hb6 := hbel.grown hg6 hsz (fun k hk => (Hown.out.lt k hk).1)
      clear hown6 hown6' hg6 hgg6 hbel Hown
      obtain ⟨b0, off0, rfl, hb0, hct⟩ := (HT.out w6 hb6).cells hkl
      obtain ⟨-, -, -, -, t4⟩ := hct k hkl
      obtain ⟨hm1, hm2, hbef⟩ := (HT.out w6 hb6).open_bef hkl
      unfold maxLen at hm2
      have HBf := Lib.hid hbef
      have hrow : rowAt l k = pls l l[k].bef := getD_rows hkl
      have HRow := Lib.hid hrow
      have HMem : Hid (∀ s ∈ l[k].bef, ∃ j : Nat, j < l.length ∧ pl l s = (j : Int)) := fun s hs => mem_row HR.out hkl (by unfold pls; exact List.mem_map.2 ⟨s, hs, rfl⟩)
      have HCT : Hid (∀ (j : Nat) (hj : j < l.length), w6.cell? ⟨b0, off0 + j * 5 + 1, none⟩ = some (.int .i64 l[j].len) ∧ 1 ≤ l[j].len ∧ l[j].len ≤ 10000) := fun j hj => ⟨(hct j hj).2.1, fieldB_len (HR.out.field j hj)⟩
      clear hct hbef hrow
      have k1 : (0 : Int) ≤ (k : Int) := Int.natCast_nonneg _
      have k2 : (k : Int) < (l.length : Int) := by omega
      go_loopw [11] (fun ix wr => ∃ m : Nat, m ≤ l[k].bef.length ∧ ix = .int .i64 m ∧ Hid (((pls l l[k].bef).take m).any (lateB l s k) = false) ∧ ∃ q, wr = w6.drewN q) (fun ix _ => l[k].bef.length - (intOf ix).toNat)
      case atStart => exact ⟨0, Nat.zero_le _, rfl, rfl, 0, rfl⟩
      case round =>
        obtain ⟨m, hm, rfl, HM, q, rfl⟩ := hrel
        by_cases hml : m < l[k].bef.length
        · obtain ⟨b', off', hba, hb', hs'⟩ := HBf.out m hml
          have hsk := hs' m hml
          obtain ⟨j, hj, hje⟩ := HMem.out _ (List.getElem_mem hml)
          have hF := HFind.out l[k].bef[m] (w6.drewN q) (below_drewN hb6 q)
          rw [hje] at hF
          obtain ⟨b1, off1, rfl, hb1, hr1⟩ := HC.out j hj
          have r1 := (hb6.cell (p := ⟨b1, _, none⟩) hb1).trans hr1
          obtain ⟨b2, off2, e2, hb2, hr2⟩ := HC.out k hkl
          injection e2 with e2
          injection e2 with e3 e4
          subst e3 e4
          have r2 := (hb6.cell (p := ⟨b1, _, none⟩) hb1).trans hr2
          obtain ⟨hl1, hl2, hl3⟩ := HCT.out j hj
          have ha1 := Hat.out j hj
          have ha2 := Hat.out k hkl
          have hg : (pls l l[k].bef)[m]'(by simp [pls]; exact hml) = (j : Int) := by rw [← hje]; simp [pls]
          have HLt : Hid (lateB l s k ((pls l l[k].bef)[m]'(by simp [pls]; exact hml)) = decide (atI s k < atI s j + l[j].len)) := by
            unfold Hid lateB endN
            rw [hg, Int.toNat_natCast, lenAt_eq hj]
          have HY : Hid (lateB l s k ((pls l l[k].bef)[m]'(by simp [pls]; exact hml)) = false → ((pls l l[k].bef).take (m + 1)).any (lateB l s k) = false) := fun h => any_take (by simp [pls]; exact hml) HM.out h
          have HX : Hid (lateB l s k ((pls l l[k].bef)[m]'(by simp [pls]; exact hml)) = true → keepsB l c p s = false) := fun h => by
            rw [HV.out, all_range_no hkl (by rw [HRow.out, any_hit (by simp [pls]; exact hml) h]; rfl)]
            rfl
          clear hs' hje hr1 hr2 hg HM
          generalize lateB l s k ((pls l l[k].bef)[m]'(by simp [pls]; exact hml)) = lt at *
          generalize l[j].len = ln at *
          generalize atI s j = x at *
          generalize atI s k = z at *
          have j1 : (0 : Int) ≤ (j : Int) := Int.natCast_nonneg _
          have j2 : (j : Int) < (l.length : Int) := by omega
          have i3 : (0 : Int) ≤ (m : Int) := Int.natCast_nonneg _
          have i4 : (m : Int) < (l[k].bef.length : Int) := by omega
          have w1 : IntKind.i64.wrap (x + ln) = x + ln := IntWalk.i64_in _ (by omega)
          by_cases hq : z < x + ln
          · have HX' := Lib.hid (HX.out (by rw [HLt.out]; simpa using hq))
            clear HX HY HLt
            go_wp2_with (go_at_call 67; refine hF.mono ?_; rintro e w' ⟨rfl, rfl⟩)
            go_quiet (fail)
            go_wp2_with fail
            go_ret
            exact ⟨ret_bool HX'.out.symm, (by first | exact below_drewN hb6 _ | exact below_drewN (below_drewN hb6 _) _)⟩
          · have HY' := Lib.hid (HY.out (by rw [HLt.out]; simpa using hq))
            have hqb : decide (z < x + ln) = false := by simpa using hq
            clear HX HY HLt
            go_wp2_with (go_at_call 67; refine hF.mono ?_; rintro e w' ⟨rfl, rfl⟩)
            go_quiet (fail)
            go_wp2_with fail
            go_roundw
            case rel => exact ⟨m + 1, by omega, by go_num, HY', _, rfl⟩
            case measure => simp [intOf]; omega
        · have hme : m = l[k].bef.length := by omega
          subst hme
          have HN' : Hid ((List.range (k + 1)).all (fun i => !(rowAt l i).any (lateB l s i)) = true) := by
            have := HM.out
            rw [show (pls l l[k].bef).take l[k].bef.length = pls l l[k].bef by rw [show l[k].bef.length = (pls l l[k].bef).length by simp [pls], List.take_length]] at this
            unfold Hid
            rw [all_range_succ, HN.out, HRow.out, this]
            rfl
          go_wp2_with fail
          go_roundw
          case rel => exact ⟨k + 1, some ⟨g3, 0, none⟩, cap6, by omega, by go_num, rfl, Lib.hid (own_drewN Hown6.out q), HN', below_drewN hb6 q⟩
          case measure => simp [intOf]; omega
    · have hke : k = l.length := by omega
      subst hke
      have HV2 : Hid (keepsB l c p s = (List.range l.length).all (fun i => fitsB l c p s (atI s i))) := by unfold Hid; rw [HV.out, HN.out, Bool.true_and]
      obtain ⟨w5, rfl⟩ : ∃ w5 : World, w5 = wr := ⟨_, rfl⟩
      have HAx : Hid (∀ k, k < l.length → ∃ g cap, (Value.slice A3 l.length cap3 = .slice (some ⟨g, 0, none⟩) l.length cap ∧ A3 = some ⟨g, 0, none⟩ ∧ cap3 = cap)) := fun k hk => by
        obtain ⟨g, cap, e, -⟩ := Hown.out.form (by omega)
        injection e with e1 e2 e3
        exact ⟨g, cap, by rw [e1, e3], e1, e3⟩
      clear HV HN
      go_wp2_with fail
      go_loopw [13] (fun ix wr => ∃ m : Nat, m ≤ l.length ∧ ix = .int .i64 m ∧ Hid ((List.range m).all (fun i => fitsB l c p s (atI s i)) = true) ∧ ∃ q, wr = w5.drewN q) (fun ix _ => l.length - (intOf ix).toNat)
      case atStart => exact ⟨0, Nat.zero_le _, rfl, rfl, 0, rfl⟩
      case round =>
        obtain ⟨m, hm, rfl, HM, q, rfl⟩ := hrel
        by_cases hml : m < l.length
        · obtain ⟨g, cap, -, rfl, rfl⟩ := HAx.out m hml
          obtain ⟨b1, off1, rfl, hb1, hr1⟩ := HC.out m hml
          have r1 := (hbel.cell (p := ⟨b1, _, none⟩) hb1).trans hr1
          have hcall := HAt.out g cap3 (atI s m) (w5.drewN q) (below_drewN hbel q) (own_drewN Hown.out q)
          have hua := usedTo_bd (s := s) (t := atI s m) (crew_bd HR.out) l.length (Nat.le_refl _)
          have hub := usedTo_bd (s := s) (t := atI s m) (pow_bd HR.out) l.length (Nat.le_refl _)
          have HFt : Hid (fitsB l c p s (atI s m) = (decide (usedTo Task.crew l s (atI s m) l.length ≤ c) && decide (usedTo Task.pow l s (atI s m) l.length ≤ p))) := rfl
          have HY : Hid (fitsB l c p s (atI s m) = true → (List.range (m + 1)).all (fun i => fitsB l c p s (atI s i)) = true) := fun h => by rw [all_range_succ, HM.out, h]; rfl
          have HX : Hid (fitsB l c p s (atI s m) = false → keepsB l c p s = false) := fun h => by rw [HV2.out]; exact all_range_no hml h
          clear hr1 HM
          generalize fitsB l c p s (atI s m) = ft at *
          generalize usedTo Task.crew l s (atI s m) l.length = ua at *
          generalize usedTo Task.pow l s (atI s m) l.length = ub at *
          generalize atI s m = x at *
          have i3 : (0 : Int) ≤ (m : Int) := Int.natCast_nonneg _
          have i4 : (m : Int) < (l.length : Int) := by omega
          by_cases d1 : c < ua
          · have HX' := Lib.hid (HX.out (by rw [HFt.out]; simp; omega))
            clear HX HY HFt
            go_wp2_with (go_at_call 103; refine hcall.mono ?_; rintro e w' ⟨rfl, q2, rfl⟩)
            go_ret
            exact ⟨ret_bool HX'.out.symm, (by first | exact below_drewN hbel _ | exact below_drewN (below_drewN hbel _) _)⟩
          · have d1b : decide (c < ua) = false := by simpa using d1
            by_cases d2 : p < ub
            · have HX' := Lib.hid (HX.out (by rw [HFt.out]; simp; omega))
              clear HX HY HFt
              go_wp2_with (go_at_call 103; refine hcall.mono ?_; rintro e w' ⟨rfl, q2, rfl⟩)
              go_ret
              exact ⟨ret_bool HX'.out.symm, (by first | exact below_drewN hbel _ | exact below_drewN (below_drewN hbel _) _)⟩
            · have d2b : decide (p < ub) = false := by simpa using d2
              have HY' := Lib.hid (HY.out (by rw [HFt.out]; simp; omega))
              clear HX HY HFt
              go_wp2_with (go_at_call 103; refine hcall.mono ?_; rintro e w' ⟨rfl, q2, rfl⟩)
              go_roundw
              case rel => exact ⟨m + 1, by omega, by go_num, HY', _, rfl⟩
              case measure => simp [intOf]; omega
        · have hme : m = l.length := by omega
          subst hme
          have HV3 : Hid (keepsB l c p s = true) := by unfold Hid; rw [HV2.out, HM.out]
          go_wp2_with fail
          go_ret
          exact ⟨ret_bool HV3.out.symm, below_drewN hbel _⟩

end Go.Proofs.Ytcjejcbikgcnbaa

/- The law ScheduleForms: the walk. -/
namespace Go.Proofs.Ytcjejcbikgcnbaa
open Go.RowKit Go.Shelf

theorem oneRow (w : World) (u : Value) (t : TypeId) : RowAt (id : Value → Value) (w.alloc (.cells #[u] t)) (w.alloc (.cells #[u] t)).heap.size (.slice (some ⟨w.heap.size, 0, none⟩) 1 1) [u] :=
  ⟨_, 1, rfl, Nat.le_refl _, by unfold maxLen; omega, fun _ => ⟨w.heap.size, 0, rfl, by simp, fun j x hx => by
    rw [Nat.zero_add, World.cell?_alloc_new, List.getElem?_toArray]
    simpa using hx⟩⟩
theorem startsN_cases (l : List Task) (s : List Int) : startsN l s = 0 ∨ startsN l s = 2 ∨ startsN l s = 3 := by
  unfold startsN
  split
  · split <;> simp
  · simp

set_option maxRecDepth 100000 in
set_option maxHeartbeats 8000000 in
theorem lawScheduleForms (v u : Value) (l : List Task) (c p : Int) (s : List Int) (w : World) (hl : TasksAt w w.heap.size v l) (hs : IntsAt w w.heap.size u s) (hw : Wide s) :
    Calls Try.prog 10 #[v, .int .i64 c, .int .i64 p, u] w fun e w' => e = .returned (.bool true) ∧ Below w.heap.size w w' := by
  have hA := lawAwake43 w
  have HT : Hid (∀ w1, Below w.heap.size w w1 → TasksAt w1 w1.heap.size v l) := fun w1 hb => (hl.below hb (Nat.le_refl _)).mono hb.size
  have HS : Hid (∀ w1, Below w.heap.size w w1 → IntsAt w1 w1.heap.size u s) := fun w1 hb => (hs.below hb (Nat.le_refl _)).mono hb.size
  obtain ⟨A1, c1, rfl, hB1, hB2, -⟩ := hs.open_
  have hLong := fun w1 (hb : Below w.heap.size w w1) => lawShort v (.slice (some ⟨w1.heap.size, 0, none⟩) 1 1) l [.slice A1 s.length c1] (w1.alloc (.cells #[.slice A1 s.length c1] 29)) (HT.out _ (hb.alloc hb.size _)) (oneRow w1 _ _) (by
    intro u hu
    rw [List.mem_singleton.1 hu]
    exact ⟨A1, s.length, c1, rfl, hB1, by unfold maxLen at hB2; omega⟩)
  have HVa : Hid (∀ w1, Below w.heap.size w w1 → Calls Try.prog 42 #[v, .int .i64 c, .int .i64 p] w1 fun e w' => e = .returned (.bool (validB l c p)) ∧ Below w1.heap.size w1 w') := fun w1 hb => refValid v l c p w1 (HT.out w1 hb)
  have HVs : Hid (∀ w1, Below w.heap.size w w1 → Calls Try.prog 52 #[v, .int .i64 c, .int .i64 p] w1 fun e w' => e = .returned (.bool (validB l c p)) ∧ Below w1.heap.size w1 w') := fun w1 hb => schedValid v l c p w1 (HT.out w1 hb)
  have HCk : Hid (∀ w1, Below w.heap.size w w1 → Calls Try.prog 35 #[v, .int .i64 c, .int .i64 p, .slice A1 s.length c1] w1 (CheckPost l c p s w1)) := fun w1 hb => schedCheck v _ l c p s w1 (HT.out w1 hb) (HS.out w1 hb) hw
  have HLn : Hid (∀ w1, Below w.heap.size w w1 → Calls Try.prog 36 #[v, .slice A1 s.length c1] w1 (LengthPost l s w1)) := fun w1 hb => schedLength v _ l s w1 (HT.out w1 hb) (HS.out w1 hb) hw
  have HRi : Hid (∀ w1, Below w.heap.size w w1 → Calls Try.prog 19 #[v] w1 fun e w' => e = .returned (.bool (rightR l)) ∧ Below w1.heap.size w1 w') := fun w1 hb => refRight v l w1 (HT.out w1 hb)
  have HSt : Hid (∀ w1, Below w.heap.size w w1 → Calls Try.prog 53 #[v, .slice A1 s.length c1] w1 fun e w' => e = .returned (.int .i64 (startsN l s)) ∧ w1 = w') := fun w1 hb => refStarts v _ l s w1.heap.size w1 (HT.out w1 hb) (HS.out w1 hb) hw
  unfold CheckPost at HCk
  unfold LengthPost at HLn
  have hb0 : ∀ (w1 : World) o, Below w.heap.size w w1 → Below w.heap.size w (w1.alloc o) := fun w1 o hb => hb.alloc hb.size o
  have HW := Lib.hid hw
  obtain ⟨A, cc, rfl, hA1, hA2, -⟩ := hl.open_
  unfold maxLen at hA2 hB2
  clear hl hs hw
  cases hlg : shortB l [.slice A1 s.length c1] with
  | false =>
    rw [hlg] at hLong
    clear hlg
    go_enter Try.func10, Try.ntmps10
    go_wp2_with (first
      | (go_at_call 37; refine hA.mono ?_; rintro e w1 ⟨rfl, hb1⟩)
      | (go_at_call 38; refine (hLong _ hb1).mono ?_; rintro e w2 ⟨rfl, hb2⟩))
    go_ret
    exact ⟨rfl, (hb0 _ _ hb1).trans (hb2.mono (hb0 _ _ hb1).size)⟩
  | true =>
    rw [hlg] at hLong
    clear hlg
    go_enter Try.func10, Try.ntmps10
    go_wp2_with (first
      | (go_at_call 37; refine hA.mono ?_; rintro e w1 ⟨rfl, hb1⟩)
      | (go_at_call 38; refine (hLong _ hb1).mono ?_; rintro e w2 ⟨rfl, hb2⟩; have hbx := (hb0 _ (.cells #[.slice A1 s.length c1] 29) hb1).trans (hb2.mono (hb0 _ (.cells #[.slice A1 s.length c1] 29) hb1).size); clear hb1 hb2 hA hLong)
      | (go_at_call 42; refine (HVa.out _ hbx).mono ?_; rintro e w3 ⟨rfl, hb3⟩; have hbx3 := hbx.trans (hb3.mono hbx.size); clear hb3 hbx))
    refine (HCk.out _ hbx3).mono ?_
    rintro e w4 ⟨hb4, rfl⟩
    have hbx := hbx3.trans (hb4.mono hbx3.size)
    clear hb4 hbx3
    go_wp2_with fail
    refine (HLn.out _ hbx).mono ?_
    rintro e w5 ⟨hb5, hpost⟩
    have hbx5 := hbx.trans (hb5.mono hbx.size)
    clear hb5 hbx
    have hVs := HVs.out _ hbx5
    cases hr : rightR l with
    | false =>
      rcases hpost with ⟨_, rfl⟩ | ⟨hno, _⟩
      rotate_left
      · rw [hr] at hno; cases hno
      have hv : validB l c p = false := valid_not hr
      have hce : checkE l c p s = 1 := checkE_no hv
      rw [hv] at hVs
      simp only [hv, hce]
      rw [hr] at HRi
      clear hv hce hr
      go_wp2_with (first
        | (go_at_call 52; refine hVs.mono ?_; rintro e w6 ⟨rfl, hb6⟩; have hbx6 := hbx5.trans (hb6.mono hbx5.size))
        | (go_at_call 19; refine (HRi.out _ hbx6).mono ?_; rintro e w7 ⟨rfl, hb7⟩))
      go_ret
      exact ⟨rfl, hbx6.trans (hb7.mono hbx6.size)⟩
    | true =>
      rcases hpost with ⟨hno, _⟩ | ⟨_, rfl⟩
      · rw [hr] at hno; cases hno
      have hRT := (right_iff l).1 hr
      have h8 := hRT.len
      have HRT := Lib.hid hRT
      rw [hr] at HRi
      clear hr hRT
      by_cases hst : startsN l s = 0
      · have h0 := startsN_zero hst
        have hRL : Hid (∀ w1, Below w.heap.size w w1 → Calls Try.prog 54 #[.slice A l.length cc, .slice A1 s.length c1] w1 fun e w' => e = .returned (.int .i64 (lenTo l s l.length)) ∧ ∃ q, w1.drewN q = w') := fun w1 hb => refLen _ _ l s w1.heap.size w1 HRT.out (HT.out w1 hb) (HS.out w1 hb) h0.1 h0.2
        have hRK : Hid (∀ w1, Below w.heap.size w w1 → Calls Try.prog 55 #[.slice A l.length cc, .int .i64 c, .int .i64 p, .slice A1 s.length c1] w1 fun e w' => e = .returned (.bool (keepsB l c p s)) ∧ Below w1.heap.size w1 w') := fun w1 hb => refKeeps _ _ l c p s w1 HRT.out (HT.out w1 hb) (HS.out w1 hb) h0.1 h0.2
        rw [← keeps_check h0.1] at hRK
        rw [hst] at HSt
        cases hv : validB l c p with
        | false =>
          have hce : checkE l c p s = 1 := checkE_no hv
          rw [hv] at hVs
          simp only [hce, hst, if_true]
          clear hv hce hst h0
          generalize lenTo l s l.length = n at *
          have hnn : (n != n) = false := by simp
          go_wp2_with (first
            | (go_at_call 52; refine hVs.mono ?_; rintro e w6 ⟨rfl, hb6⟩; have hbx6 := hbx5.trans (hb6.mono hbx5.size))
            | (go_at_call 19; refine (HRi.out _ hbx6).mono ?_; rintro e w7 ⟨rfl, hb7⟩; have hbx7 := hbx6.trans (hb7.mono hbx6.size))
            | (go_at_call 53; refine (HSt.out _ hbx7).mono ?_; rintro e w8 ⟨rfl, rfl⟩)
            | (go_at_call 54; refine (hRL.out _ hbx7).mono ?_; rintro e w9 ⟨rfl, q, rfl⟩))
          go_ret
          exact ⟨rfl, below_drewN hbx7 q⟩
        | true =>
          have hce : checkE l c p s = 0 := by rw [checkE_yes hv, hst]
          rw [hv] at hVs
          simp only [hce, hst, if_true, decide_true, Bool.true_and]
          clear hv hce hst h0
          generalize lenTo l s l.length = n at *
          generalize checkB l c p s = kb at *
          have hnn : (n != n) = false := by simp
          have hkk : (kb == kb) = true := by simp
          go_wp2_with (first
            | (go_at_call 52; refine hVs.mono ?_; rintro e w6 ⟨rfl, hb6⟩; have hbx6 := hbx5.trans (hb6.mono hbx5.size))
            | (go_at_call 19; refine (HRi.out _ hbx6).mono ?_; rintro e w7 ⟨rfl, hb7⟩; have hbx7 := hbx6.trans (hb7.mono hbx6.size))
            | (go_at_call 53; refine (HSt.out _ hbx7).mono ?_; rintro e w8 ⟨rfl, rfl⟩)
            | (go_at_call 54; refine (hRL.out _ hbx7).mono ?_; rintro e w9 ⟨rfl, q, rfl⟩; have hbx9 := below_drewN hbx7 q)
            | (go_at_call 55; refine (hRK.out _ hbx9).mono ?_; rintro e w10 ⟨rfl, hb10⟩))
          go_ret
          exact ⟨rfl, hbx9.trans (hb10.mono hbx9.size)⟩
      · have hcs := startsN_cases l s
        cases hv : validB l c p with
        | false =>
          have hce : checkE l c p s = 1 := checkE_no hv
          rw [hv] at hVs
          simp only [hce, if_neg hst]
          clear hv hce
          have hst' : startsN l s = 2 ∨ startsN l s = 3 := by omega
          clear hcs hst
          generalize startsN l s = st at *
          rcases hst' with rfl | rfl
          all_goals
            go_wp2_with (first
              | (go_at_call 52; refine hVs.mono ?_; rintro e w6 ⟨rfl, hb6⟩; have hbx6 := hbx5.trans (hb6.mono hbx5.size))
              | (go_at_call 19; refine (HRi.out _ hbx6).mono ?_; rintro e w7 ⟨rfl, hb7⟩; have hbx7 := hbx6.trans (hb7.mono hbx6.size))
              | (go_at_call 53; refine (HSt.out _ hbx7).mono ?_; rintro e w8 ⟨rfl, rfl⟩))
            go_ret
            exact ⟨rfl, hbx7⟩
        | true =>
          have hce : checkE l c p s = startsN l s := checkE_yes hv
          rw [hv] at hVs
          simp only [hce, if_neg hst, decide_eq_false hst, Bool.false_and]
          clear hv hce
          have hst' : startsN l s = 2 ∨ startsN l s = 3 := by omega
          clear hcs hst
          generalize startsN l s = st at *
          rcases hst' with rfl | rfl
          all_goals
            go_wp2_with (first
              | (go_at_call 52; refine hVs.mono ?_; rintro e w6 ⟨rfl, hb6⟩; have hbx6 := hbx5.trans (hb6.mono hbx5.size))
              | (go_at_call 19; refine (HRi.out _ hbx6).mono ?_; rintro e w7 ⟨rfl, hb7⟩; have hbx7 := hbx6.trans (hb7.mono hbx6.size))
              | (go_at_call 53; refine (HSt.out _ hbx7).mono ?_; rintro e w8 ⟨rfl, rfl⟩))
            go_ret
            exact ⟨rfl, hbx7⟩

end Go.Proofs.Ytcjejcbikgcnbaa
