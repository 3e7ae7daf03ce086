/- Parts of the proof, laid into one text: RefKeeps. -/
import Derived.Test.YtphbfhffiljbfaaGreatG4
import Derived.Test.YtphbfhffiljbfaaGreatG6

/- the reference's Keeps. -/
namespace Go.Proofs.YtphbfhffiljbfaaGreat
open Go.RowKit Go.Shelf

/-- By the reference, starts keep the limits. -/
def keepsB (l : List Task) (c p : Int) (s : List Int) : Bool := (List.range l.length).all (fun i => !(rowAt l i).any (lateB l s i)) && (List.range l.length).all (fun i => fitsB l c p s (atI s i))
theorem keeps_check {l : List Task} {c p : Int} {s : List Int} (hlen : s.length = l.length) : checkB l c p s = keepsB l c p s := by
  unfold checkB keepsB
  rw [Bool.eq_iff_iff]
  simp only [Bool.and_eq_true, List.all_eq_true, List.mem_range]
  constructor
  · intro h
    refine ⟨fun i hi => ?_, fun i hi => ?_⟩
    · have := h i hi
      unfold stepOkB at this
      rw [Bool.and_eq_true] at this
      exact this.2
    · have := h i hi
      unfold stepOkB wholeB at this
      rw [Bool.and_eq_true, Bool.and_eq_true] at this
      exact this.1.1
  · rintro ⟨h1, h2⟩ i hi
    unfold stepOkB wholeB
    rw [Bool.and_eq_true, Bool.and_eq_true]
    refine ⟨⟨h2 i hi, ?_⟩, h1 i hi⟩
    rw [Bool.not_eq_true', List.any_eq_false]
    intro x hx
    obtain ⟨k, hk, rfl⟩ := List.mem_iff_getElem.1 hx
    have := h2 k (by omega)
    rw [atI_get hk] at this
    unfold badB
    rw [this]
    simp
theorem usedY_all {f : Task → Int} {l : List Task} {s : List Int} {t : Int} (hs : ∀ i, i < l.length → 0 ≤ atI s i) : ∀ k, k ≤ l.length → usedY f l s t (List.range k) = usedTo f l s t k
  | 0, _ => rfl
  | k + 1, hk => by
    rw [List.range_succ, usedY_append, usedY_all hs k (by omega), usedTo]
    have : onB l s t k = onR l s t k := by
      unfold onB Proofs.YtphbfhffiljbfaaGreat.onR
      rw [decide_eq_true (hs k (by omega)), Bool.true_and]
    rw [this]
theorem nats_range (k : Nat) : nats (List.range (k + 1)) = nats (List.range k) ++ [.int .i64 (k : Int)] := by rw [List.range_succ, nats_snoc]

set_option maxRecDepth 100000 in
set_option maxHeartbeats 4000000 in
theorem refKeeps (v u : Value) (l : List Task) (c p : Int) (s : List Int) (w : World) (hR : RightT l) (hl : TasksAt w w.heap.size v l) (hs : IntsAt w w.heap.size u s) (hlen : s.length = l.length) (hbd : ∀ x ∈ s, 0 ≤ x ∧ x ≤ 1000000) :
    Calls Tryz.prog 26 #[v, .int .i64 c, .int .i64 p, u] w fun e w' => e = .returned (.bool (keepsB l c p s)) ∧ Below w.heap.size w w' := by
  have h8 := hR.len
  have HR := Lib.hid hR
  have HT : Hid (∀ w', Below w.heap.size w w' → TasksAt w' w.heap.size v l) := fun w' hb => hl.below hb (Nat.le_refl _)
  have HFind : Hid (∀ s w', Below w.heap.size w w' → Calls Tryz.prog 54 #[v, .string s] w' fun e w'' => e = .returned (.int .i64 (pl l s)) ∧ w' = w'') := fun s w' hb => refFind v l s w' w.heap.size (hl.below hb (Nat.le_refl _))
  have hat : ∀ i, i < l.length → 0 ≤ atI s i ∧ atI s i ≤ 1000000 := fun i hi => by rw [atI_get (by omega)]; exact hbd _ (List.getElem_mem _)
  have Hat := Lib.hid hat
  have HAt : Hid (∀ (g cap : Nat) t w', Below w.heap.size w w' → w'.ownsRow w.heap.size 3 1 (.slice (some ⟨g, 0, none⟩) l.length cap) l.length (nats (List.range l.length)) →
      Calls Tryz.prog 56 #[v, u, .slice (some ⟨g, 0, none⟩) l.length cap, .int .i64 t] w' fun e w'' => e = .returned (.tuple #[.int .i64 (usedTo Task.crew l s t l.length), .int .i64 (usedTo Task.pow l s t l.length)]) ∧ ∃ q, w'.drewN q = w'') := fun g cap t w' hb hown => by
    have hz : IntsAt w' w'.heap.size (.slice (some ⟨g, 0, none⟩) l.length cap) (ints (List.range l.length)) := RowAt.of_own (n := l.length) hown
    have := refAt43 v u _ l s (List.range l.length) t w'.heap.size w' hR ((hl.below hb (Nat.le_refl _)).mono hb.size) ((hs.below hb (Nat.le_refl _)).mono hb.size) hz hlen (fun x hx => by have := hbd x hx; omega) (fun i hi => List.mem_range.1 hi) (by rw [List.length_range]; exact h8)
    rwa [usedY_all (fun i hi => (hat i hi).1) _ (Nat.le_refl _), usedY_all (fun i hi => (hat i hi).1) _ (Nat.le_refl _)] at this
  obtain ⟨A, cc, rfl, hA1, hA2, -⟩ := hl.open_
  obtain ⟨A1, c1, rfl, hB1, hB2, hBc⟩ := hs.open_
  unfold maxLen at hA2 hB2
  have HC : Hid (∀ (k : Nat), k < l.length → ∃ b1 off1, A1 = some ⟨b1, off1, none⟩ ∧ b1 < w.heap.size ∧ w.cell? ⟨b1, off1 + k, none⟩ = some (.int .i64 (atI s k))) := fun k hk => by
    obtain ⟨b1, off1, e, hb, hc⟩ := hBc k (by omega)
    exact ⟨b1, off1, e, hb, by rw [atI_get (by omega)]; exact hc k (by omega)⟩
  rw [hlen] at hB1 HAt ⊢
  have HV : Hid (keepsB l c p s = ((List.range l.length).all (fun i => !(rowAt l i).any (lateB l s i)) && (List.range l.length).all (fun i => fitsB l c p s (atI s i)))) := rfl
  clear hl hs hBc hat hbd hR
  go_enter Tryz.func26, Tryz.ntmps26
  go_wp2_with fail
  go_loopw [10, 9] (fun ix av wr => ∃ (k : Nat) (A3 : Option Addr) (cap3 : Nat), k ≤ l.length ∧ ix = .int .i64 k ∧ av = .slice A3 k cap3 ∧ Hid (wr.ownsRow w.heap.size 3 1 (.slice A3 k cap3) k (nats (List.range k))) ∧
    Hid ((List.range k).all (fun i => !(rowAt l i).any (lateB l s i)) = true) ∧ Below w.heap.size w wr) (fun ix _ _ => l.length - (intOf ix).toNat)
  case atStart => exact ⟨0, none, 0, Nat.zero_le _, rfl, rfl, (World.ownsRow_nil _ _ _ _ : w.ownsRow w.heap.size 3 1 (.slice none 0 0) 0 []), rfl, Below.refl _ _⟩
  case round =>
    obtain ⟨k, A3, cap3, hk, rfl, rfl, Hown, HN, hbel⟩ := hrel
    by_cases hkl : k < l.length
    · have hsz := hbel.size
      obtain ⟨w5, rfl⟩ : ∃ w5 : World, w5 = wr := ⟨_, rfl⟩
      go_wp2_with (at_builtin; refine wpList_pushN _ rfl (.tmp 22) (.tmp 24) 23 rfl w.heap.size 3 info_int Tryz.underlying23 rfl _ k _ rfl Hown.out (.int .i64 k) rfl w5.heap.size rfl rfl (by unfold maxLen; omega) (by omega) hsz ?_; intro g3 cap6 w6 hown6 hg6 hbg6 hgg6)
      have hown6' : w6.ownsRow w.heap.size 3 1 (.slice (some ⟨g3, 0, none⟩) (k + 1) cap6) (k + 1) (nats (List.range (k + 1))) := by rw [nats_range]; exact hown6
      have Hown6 := Lib.hid hown6'
      have hb6 := hbel.grown hg6 hsz (fun k hk => (Hown.out.lt k hk).1)
      clear hown6 hown6' hg6 hgg6 hbel Hown
      obtain ⟨b0, off0, rfl, hb0, hct⟩ := (HT.out w6 hb6).cells hkl
      obtain ⟨-, -, -, -, t4⟩ := hct k hkl
      obtain ⟨hm1, hm2, hbef⟩ := (HT.out w6 hb6).open_bef hkl
      unfold maxLen at hm2
      have HBf := Lib.hid hbef
      have hrow : rowAt l k = pls l l[k].bef := getD_rows hkl
      have HRow := Lib.hid hrow
      have HMem : Hid (∀ s ∈ l[k].bef, ∃ j : Nat, j < l.length ∧ pl l s = (j : Int)) := fun s hs => mem_row HR.out hkl (by unfold pls; exact List.mem_map.2 ⟨s, hs, rfl⟩)
      have HCT : Hid (∀ (j : Nat) (hj : j < l.length), w6.cell? ⟨b0, off0 + j * 5 + 1, none⟩ = some (.int .i64 l[j].len) ∧ 1 ≤ l[j].len ∧ l[j].len ≤ 10000) := fun j hj => ⟨(hct j hj).2.1, fieldB_len (HR.out.field j hj)⟩
      clear hct hbef hrow
      have k1 : (0 : Int) ≤ (k : Int) := Int.natCast_nonneg _
      have k2 : (k : Int) < (l.length : Int) := by omega
      go_loopw [11] (fun ix wr => ∃ m : Nat, m ≤ l[k].bef.length ∧ ix = .int .i64 m ∧ Hid (((pls l l[k].bef).take m).any (lateB l s k) = false) ∧ ∃ q, wr = w6.drewN q) (fun ix _ => l[k].bef.length - (intOf ix).toNat)
      case atStart => exact ⟨0, Nat.zero_le _, rfl, rfl, 0, rfl⟩
      case round =>
        obtain ⟨m, hm, rfl, HM, q, rfl⟩ := hrel
        by_cases hml : m < l[k].bef.length
        · obtain ⟨b', off', hba, hb', hs'⟩ := HBf.out m hml
          have hsk := hs' m hml
          obtain ⟨j, hj, hje⟩ := HMem.out _ (List.getElem_mem hml)
          have hF := HFind.out l[k].bef[m] (w6.drewN q) (below_drewN hb6 q)
          rw [hje] at hF
          obtain ⟨b1, off1, rfl, hb1, hr1⟩ := HC.out j hj
          have r1 := (hb6.cell (p := ⟨b1, _, none⟩) hb1).trans hr1
          obtain ⟨b2, off2, e2, hb2, hr2⟩ := HC.out k hkl
          injection e2 with e2
          injection e2 with e3 e4
          subst e3 e4
          have r2 := (hb6.cell (p := ⟨b1, _, none⟩) hb1).trans hr2
          obtain ⟨hl1, hl2, hl3⟩ := HCT.out j hj
          have ha1 := Hat.out j hj
          have ha2 := Hat.out k hkl
          have hg : (pls l l[k].bef)[m]'(by simp [pls]; exact hml) = (j : Int) := by rw [← hje]; simp [pls]
          have HLt : Hid (lateB l s k ((pls l l[k].bef)[m]'(by simp [pls]; exact hml)) = decide (atI s k < atI s j + l[j].len)) := by
            unfold Hid lateB endN
            rw [hg, Int.toNat_natCast, lenAt_eq hj]
          have HY : Hid (lateB l s k ((pls l l[k].bef)[m]'(by simp [pls]; exact hml)) = false → ((pls l l[k].bef).take (m + 1)).any (lateB l s k) = false) := fun h => any_take (by simp [pls]; exact hml) HM.out h
          have HX : Hid (lateB l s k ((pls l l[k].bef)[m]'(by simp [pls]; exact hml)) = true → keepsB l c p s = false) := fun h => by
            rw [HV.out, all_range_no hkl (by rw [HRow.out, any_hit (by simp [pls]; exact hml) h]; rfl)]
            rfl
          clear hs' hje hr1 hr2 hg HM
          generalize lateB l s k ((pls l l[k].bef)[m]'(by simp [pls]; exact hml)) = lt at *
          generalize l[j].len = ln at *
          generalize atI s j = x at *
          generalize atI s k = z at *
          have j1 : (0 : Int) ≤ (j : Int) := Int.natCast_nonneg _
          have j2 : (j : Int) < (l.length : Int) := by omega
          have i3 : (0 : Int) ≤ (m : Int) := Int.natCast_nonneg _
          have i4 : (m : Int) < (l[k].bef.length : Int) := by omega
          have w1 : IntKind.i64.wrap (x + ln) = x + ln := IntWalk.i64_in _ (by omega)
          by_cases hq : z < x + ln
          · have HX' := Lib.hid (HX.out (by rw [HLt.out]; simpa using hq))
            clear HX HY HLt
            go_wp2_with (go_at_call 54; refine hF.mono ?_; rintro e w' ⟨rfl, rfl⟩)
            go_quiet (fail)
            go_wp2_with fail
            go_ret
            exact ⟨ret_bool HX'.out.symm, (by first | exact below_drewN hb6 _ | exact below_drewN (below_drewN hb6 _) _)⟩
          · have HY' := Lib.hid (HY.out (by rw [HLt.out]; simpa using hq))
            have hqb : decide (z < x + ln) = false := by simpa using hq
            clear HX HY HLt
            go_wp2_with (go_at_call 54; refine hF.mono ?_; rintro e w' ⟨rfl, rfl⟩)
            go_quiet (fail)
            go_wp2_with fail
            go_roundw
            case rel => exact ⟨m + 1, by omega, by go_num, HY', _, rfl⟩
            case measure => simp [intOf]; omega
        · have hme : m = l[k].bef.length := by omega
          subst hme
          have HN' : Hid ((List.range (k + 1)).all (fun i => !(rowAt l i).any (lateB l s i)) = true) := by
            have := HM.out
            rw [show (pls l l[k].bef).take l[k].bef.length = pls l l[k].bef by rw [show l[k].bef.length = (pls l l[k].bef).length by simp [pls], List.take_length]] at this
            unfold Hid
            rw [all_range_succ, HN.out, HRow.out, this]
            rfl
          go_wp2_with fail
          go_roundw
          case rel => exact ⟨k + 1, some ⟨g3, 0, none⟩, cap6, by omega, by go_num, rfl, Lib.hid (own_drewN Hown6.out q), HN', below_drewN hb6 q⟩
          case measure => simp [intOf]; omega
    · have hke : k = l.length := by omega
      subst hke
      have HV2 : Hid (keepsB l c p s = (List.range l.length).all (fun i => fitsB l c p s (atI s i))) := by unfold Hid; rw [HV.out, HN.out, Bool.true_and]
      obtain ⟨w5, rfl⟩ : ∃ w5 : World, w5 = wr := ⟨_, rfl⟩
      have HAx : Hid (∀ k, k < l.length → ∃ g cap, (Value.slice A3 l.length cap3 = .slice (some ⟨g, 0, none⟩) l.length cap ∧ A3 = some ⟨g, 0, none⟩ ∧ cap3 = cap)) := fun k hk => by
        obtain ⟨g, cap, e, -⟩ := Hown.out.form (by omega)
        injection e with e1 e2 e3
        exact ⟨g, cap, by rw [e1, e3], e1, e3⟩
      clear HV HN
      go_wp2_with fail
      go_loopw [13] (fun ix wr => ∃ m : Nat, m ≤ l.length ∧ ix = .int .i64 m ∧ Hid ((List.range m).all (fun i => fitsB l c p s (atI s i)) = true) ∧ ∃ q, wr = w5.drewN q) (fun ix _ => l.length - (intOf ix).toNat)
      case atStart => exact ⟨0, Nat.zero_le _, rfl, rfl, 0, rfl⟩
      case round =>
        obtain ⟨m, hm, rfl, HM, q, rfl⟩ := hrel
        by_cases hml : m < l.length
        · obtain ⟨g, cap, -, rfl, rfl⟩ := HAx.out m hml
          obtain ⟨b1, off1, rfl, hb1, hr1⟩ := HC.out m hml
          have r1 := (hbel.cell (p := ⟨b1, _, none⟩) hb1).trans hr1
          have hcall := HAt.out g cap3 (atI s m) (w5.drewN q) (below_drewN hbel q) (own_drewN Hown.out q)
          have hua := usedTo_bd (s := s) (t := atI s m) (crew_bd HR.out) l.length (Nat.le_refl _)
          have hub := usedTo_bd (s := s) (t := atI s m) (pow_bd HR.out) l.length (Nat.le_refl _)
          have HFt : Hid (fitsB l c p s (atI s m) = (decide (usedTo Task.crew l s (atI s m) l.length ≤ c) && decide (usedTo Task.pow l s (atI s m) l.length ≤ p))) := rfl
          have HY : Hid (fitsB l c p s (atI s m) = true → (List.range (m + 1)).all (fun i => fitsB l c p s (atI s i)) = true) := fun h => by rw [all_range_succ, HM.out, h]; rfl
          have HX : Hid (fitsB l c p s (atI s m) = false → keepsB l c p s = false) := fun h => by rw [HV2.out]; exact all_range_no hml h
          clear hr1 HM
          generalize fitsB l c p s (atI s m) = ft at *
          generalize usedTo Task.crew l s (atI s m) l.length = ua at *
          generalize usedTo Task.pow l s (atI s m) l.length = ub at *
          generalize atI s m = x at *
          have i3 : (0 : Int) ≤ (m : Int) := Int.natCast_nonneg _
          have i4 : (m : Int) < (l.length : Int) := by omega
          by_cases d1 : c < ua
          · have HX' := Lib.hid (HX.out (by rw [HFt.out]; simp; omega))
            clear HX HY HFt
            go_wp2_with (go_at_call 56; refine hcall.mono ?_; rintro e w' ⟨rfl, q2, rfl⟩)
            go_ret
            exact ⟨ret_bool HX'.out.symm, (by first | exact below_drewN hbel _ | exact below_drewN (below_drewN hbel _) _)⟩
          · have d1b : decide (c < ua) = false := by simpa using d1
            by_cases d2 : p < ub
            · have HX' := Lib.hid (HX.out (by rw [HFt.out]; simp; omega))
              clear HX HY HFt
              go_wp2_with (go_at_call 56; refine hcall.mono ?_; rintro e w' ⟨rfl, q2, rfl⟩)
              go_ret
              exact ⟨ret_bool HX'.out.symm, (by first | exact below_drewN hbel _ | exact below_drewN (below_drewN hbel _) _)⟩
            · have d2b : decide (p < ub) = false := by simpa using d2
              have HY' := Lib.hid (HY.out (by rw [HFt.out]; simp; omega))
              clear HX HY HFt
              go_wp2_with (go_at_call 56; refine hcall.mono ?_; rintro e w' ⟨rfl, q2, rfl⟩)
              go_roundw
              case rel => exact ⟨m + 1, by omega, by go_num, HY', _, rfl⟩
              case measure => simp [intOf]; omega
        · have hme : m = l.length := by omega
          subst hme
          have HV3 : Hid (keepsB l c p s = true) := by unfold Hid; rw [HV2.out, HM.out]
          go_wp2_with fail
          go_ret
          exact ⟨ret_bool HV3.out.symm, below_drewN hbel _⟩

end Go.Proofs.YtphbfhffiljbfaaGreat
