/- schedule: fits and whole. -/
import Derived.Test.YtcjejcbikgcnbaaPlan
namespace Go.Proofs.Ytcjejcbikgcnbaa
open Go.RowKit Go.Shelf

theorem usedTo_on {f : Task → Int} {l : List Task} {s : List Int} {t : Int} {k : Nat} (hk : k < l.length) (h : onB l s t k = true) : usedTo f l s t (k + 1) = usedTo f l s t k + f l[k] := by
  rw [usedTo, if_pos h, fAt_get hk]
theorem usedTo_off {f : Task → Int} {l : List Task} {s : List Int} {t : Int} {k : Nat} (h : onB l s t k = false) : usedTo f l s t (k + 1) = usedTo f l s t k := by
  rw [usedTo, h]
  simp

set_option maxRecDepth 100000 in
set_option maxHeartbeats 4000000 in
theorem planFits (g : Nat) (l : List Task) (c p : Int) (tv bv sv : Value) (s : List Int) (t : Int) (w : World) (hR : RightT l) (h : PlanR w w.heap.size g l c p tv bv sv s) (_ht : -1 ≤ t ∧ t ≤ 1000000) :
    Calls Try.prog 118 #[.pointer (some ⟨g, 0, none⟩), .int .i64 t] w fun e w' => e = .returned (.bool (fitsB l c p s t)) ∧ Below w.heap.size w w' := by
  have HP := Lib.hid h
  have HRT := Lib.hid hR
  have h8 := hR.len
  have HE : Hid (∀ (k : Nat) (w' : World), k < l.length → Below w.heap.size w w' → Calls Try.prog 84 #[.pointer (some ⟨g, 0, none⟩), .int .i64 k] w' fun e w'' => e = .returned (.int .i64 (endN l s k)) ∧ ∃ q, w'.drewN q = w'') := fun k w' hk hb =>
    planEnd w.heap.size g l c p tv bv sv s k w' hR (h.below hb) hk
  obtain ⟨A, cc, rfl, hA1, hA2, -⟩ := h.tasks.open_
  have p0 := h.blk.cell 0
  simp only [List.getElem?_toArray, List.getElem?_cons_zero] at p0
  unfold maxLen at hA2
  clear h hR
  go_enter Try.func118, Try.ntmps118
  go_wp2
  go_loopw [14, 5, 6] (fun i a b wr => ∃ k : Nat, k ≤ l.length ∧ i = .int .i64 k ∧ a = .int .i64 (usedTo Task.crew l s t k) ∧ b = .int .i64 (usedTo Task.pow l s t k) ∧ Below w.heap.size w wr) (fun i _ _ _ => l.length - (intOf i).toNat)
  case atStart => exact ⟨0, Nat.zero_le _, rfl, rfl, rfl, Below.refl _ _⟩
  case round =>
    clear p0
    obtain ⟨k, hk, rfl, rfl, rfl, hbel⟩ := hrel
    have HPr := HP.out.below hbel
    have p0 := HPr.blk.cell 0
    have p2 := HPr.blk.cell 2
    have p3 := HPr.blk.cell 3
    have p4 := HPr.blk.cell 4
    simp only [List.getElem?_toArray, List.getElem?_cons_succ, List.getElem?_cons_zero] at p0 p2 p3 p4
    have hbA := usedTo_bd (s := s) (t := t) (crew_bd HRT.out) k hk
    have hbB := usedTo_bd (s := s) (t := t) (pow_bd HRT.out) k hk
    by_cases hkl : k < l.length
    · obtain ⟨b0, off0, rfl, hb0, hcell⟩ := HPr.tasks.cells hkl
      obtain ⟨t0, t1, t2, t3, t4⟩ := hcell k hkl
      obtain ⟨b1, off1, cap1, rfl, hb1, hl1, hl2, hs⟩ := HPr.cellS hkl
      have h1 := hs k hkl
      have hbd := HPr.endBd HRT.out hkl
      have hsz := hbel.size
      have hbx := hbel.alloc hbel.size (.cells #[.string l[k].name, .int .i64 l[k].len, .int .i64 l[k].crew, .int .i64 l[k].pow, .slice l[k].ba l[k].bef.length l[k].bc] 41)
      have hcall := HE.out k _ hkl hbx
      have hcr := fieldB_crew (HRT.out.field k hkl)
      have hpw := fieldB_pow (HRT.out.field k hkl)
      have i1 : (0 : Int) ≤ (k : Int) := Int.natCast_nonneg _
      have i2 : (k : Int) < (l.length : Int) := by omega
      have hgl : g < wr.heap.size := Nat.lt_of_lt_of_le HPr.hg hsz
      have hbl : b1 < wr.heap.size := Nat.lt_of_lt_of_le hb1 hsz
      clear hcell hs HPr
      by_cases d1 : 0 ≤ atI s k
      · by_cases d2 : atI s k ≤ t
        · by_cases d3 : t < endN l s k
          · have HA : Hid (usedTo Task.crew l s t (k + 1) = usedTo Task.crew l s t k + l[k].crew) := usedTo_on hkl (by unfold onB; simp [d1, d2, d3])
            have HB : Hid (usedTo Task.pow l s t (k + 1) = usedTo Task.pow l s t k + l[k].pow) := usedTo_on hkl (by unfold onB; simp [d1, d2, d3])
            have w1 : IntKind.i64.wrap (usedTo Task.crew l s t k + l[k].crew) = usedTo Task.crew l s t k + l[k].crew := IntWalk.i64_in _ (by omega)
            have w2 : IntKind.i64.wrap (usedTo Task.pow l s t k + l[k].pow) = usedTo Task.pow l s t k + l[k].pow := IntWalk.i64_in _ (by omega)
            have hy := World.cell?_alloc_new wr #[.string l[k].name, .int .i64 l[k].len, .int .i64 l[k].crew, .int .i64 l[k].pow, .slice l[k].ba l[k].bef.length l[k].bc] 41
            have y2 := hy 2
            have y3 := hy 3
            simp only [List.getElem?_toArray, List.getElem?_cons_succ, List.getElem?_cons_zero] at y2 y3
            clear hy hbd
            go_wp2_with fail
            refine hcall.mono ?_
            rintro e w' ⟨rfl, q, rfl⟩
            generalize wr.alloc (.cells #[.string l[k].name, .int .i64 l[k].len, .int .i64 l[k].crew, .int .i64 l[k].pow, .slice l[k].ba l[k].bef.length l[k].bc] 41) = wt at *
            clear hcall
            go_wp2_with fail
            go_quiet (fail)
            go_wp2_with fail
            go_roundw
            case rel => exact ⟨k + 1, by omega, by go_num, by rw [HA.out], by rw [HB.out], below_drewN hbx _⟩
            case measure => simp [intOf]; omega
          · have HA : Hid (usedTo Task.crew l s t (k + 1) = usedTo Task.crew l s t k) := usedTo_off (by unfold onB; simp [d3])
            have HB : Hid (usedTo Task.pow l s t (k + 1) = usedTo Task.pow l s t k) := usedTo_off (by unfold onB; simp [d3])
            have d3b : decide (t < endN l s k) = false := by simpa using d3
            clear hbd
            go_wp2_with fail
            refine hcall.mono ?_
            rintro e w' ⟨rfl, q, rfl⟩
            go_wp2_with fail
            go_roundw
            case rel => exact ⟨k + 1, by omega, by go_num, by rw [HA.out], by rw [HB.out], below_drewN hbx _⟩
            case measure => simp [intOf]; omega
        · have HA : Hid (usedTo Task.crew l s t (k + 1) = usedTo Task.crew l s t k) := usedTo_off (by unfold onB; simp [d2])
          have HB : Hid (usedTo Task.pow l s t (k + 1) = usedTo Task.pow l s t k) := usedTo_off (by unfold onB; simp [d2])
          have d2b : decide (atI s k ≤ t) = false := by simpa using d2
          clear hcall hbd
          go_wp2_with fail
          go_roundw
          case rel => exact ⟨k + 1, by omega, by go_num, by rw [HA.out], by rw [HB.out], hbx⟩
          case measure => simp [intOf]; omega
      · have HA : Hid (usedTo Task.crew l s t (k + 1) = usedTo Task.crew l s t k) := usedTo_off (by unfold onB; simp [d1])
        have HB : Hid (usedTo Task.pow l s t (k + 1) = usedTo Task.pow l s t k) := usedTo_off (by unfold onB; simp [d1])
        have d1b : decide (0 ≤ atI s k) = false := by simpa using d1
        clear hcall hbd
        go_wp2_with fail
        go_roundw
        case rel => exact ⟨k + 1, by omega, by go_num, by rw [HA.out], by rw [HB.out], hbx⟩
        case measure => simp [intOf]; omega
    · have hke : k = l.length := by omega
      subst hke
      have HV : Hid (fitsB l c p s t = (decide (usedTo Task.crew l s t l.length ≤ c) && decide (usedTo Task.pow l s t l.length ≤ p))) := rfl
      clear HPr
      generalize usedTo Task.crew l s t l.length = x at *
      generalize usedTo Task.pow l s t l.length = y at *
      by_cases e1 : x ≤ c
      · have e1b : decide (x ≤ c) = true := by simpa using e1
        rw [e1b, Bool.true_and] at HV
        go_wp2_with fail
        go_ret
        exact ⟨ret_bool HV.out.symm, hbel⟩
      · have e1b : decide (x ≤ c) = false := by simpa using e1
        rw [e1b, Bool.false_and] at HV
        go_wp2_with fail
        go_ret
        exact ⟨ret_bool HV.out.symm, hbel⟩

theorem any_take {α : Type} {f : α → Bool} {l : List α} {k : Nat} (hk : k < l.length) (h : (l.take k).any f = false) (hf : f l[k] = false) : (l.take (k + 1)).any f = false := by
  rw [take_snoc l k hk, List.any_append, h]
  simpa using hf
theorem any_hit {α : Type} {f : α → Bool} {l : List α} {k : Nat} (hk : k < l.length) (hf : f l[k] = true) : l.any f = true := List.any_eq_true.2 ⟨_, List.getElem_mem hk, hf⟩

set_option maxRecDepth 100000 in
set_option maxHeartbeats 4000000 in
theorem planWhole (g : Nat) (l : List Task) (c p : Int) (tv bv sv : Value) (s : List Int) (i : Nat) (w : World) (hR : RightT l) (h : PlanR w w.heap.size g l c p tv bv sv s) (hi : i < l.length) :
    Calls Try.prog 81 #[.pointer (some ⟨g, 0, none⟩), .int .i64 i] w fun e w' => e = .returned (.bool (wholeB l c p s i)) ∧ Below w.heap.size w w' := by
  have HP := Lib.hid h
  have h8 := hR.len
  have HE : Hid (∀ (w' : World), Below w.heap.size w w' → Calls Try.prog 84 #[.pointer (some ⟨g, 0, none⟩), .int .i64 i] w' fun e w'' => e = .returned (.int .i64 (endN l s i)) ∧ ∃ q, w'.drewN q = w'') := fun w' hb =>
    planEnd w.heap.size g l c p tv bv sv s i w' hR (h.below hb) hi
  have HF : Hid (∀ (t : Int) (w' : World), -1 ≤ t ∧ t ≤ 1000000 → Below w.heap.size w w' → Calls Try.prog 118 #[.pointer (some ⟨g, 0, none⟩), .int .i64 t] w' fun e w'' => e = .returned (.bool (fitsB l c p s t)) ∧ Below w'.heap.size w' w'') := fun t w' ht hb =>
    planFits g l c p tv bv sv s t w' hR ((h.below hb).mono hb.size) ht
  have hlen := h.len
  have p4 := h.blk.cell 4
  simp only [List.getElem?_toArray, List.getElem?_cons_succ, List.getElem?_cons_zero] at p4
  obtain ⟨b1, off1, cap1, rfl, hb1, hl1, hl2, hs⟩ := h.cellS hi
  have h1 := hs i hi
  have hbd := h.bd
  have hbi := h.endBd hR hi
  have hf0 := HF.out (atI s i) w ⟨hbi.1, hbi.2.1⟩ (Below.refl _ _)
  have Hbd := Lib.hid hbd
  have Hs := Lib.hid hs
  have i1 : (0 : Int) ≤ (i : Int) := Int.natCast_nonneg _
  have i2 : (i : Int) < (l.length : Int) := by omega
  clear h hR hs hbd
  cases hq : fitsB l c p s (atI s i) with
  | false =>
    have HV : Hid (wholeB l c p s i = false) := by unfold Hid wholeB; rw [hq]; rfl
    rw [hq] at hf0
    clear hq
    go_enter Try.func81, Try.ntmps81
    go_wp2_with fail
    refine hf0.mono ?_
    rintro e w1 ⟨rfl, hb1⟩
    go_wp2_with fail
    go_ret
    exact ⟨ret_bool HV.out.symm, hb1⟩
  | true =>
    have HV : Hid (wholeB l c p s i = !s.any (badB l c p s i)) := by unfold Hid wholeB; rw [hq]; rfl
    rw [hq] at hf0
    clear hq
    go_enter Try.func81, Try.ntmps81
    go_wp2_with fail
    refine hf0.mono ?_
    rintro e w1 ⟨rfl, hb1'⟩
    have p4' := (hb1'.cell (p := ⟨g, 4, none⟩) HP.out.hg).trans p4
    clear hf0 p4 h1
    go_wp2_with fail
    go_loopw [22] (fun x wr => ∃ k : Nat, k ≤ s.length ∧ x = .int .i64 k ∧ Hid ((s.take k).any (badB l c p s i) = false) ∧ Below w.heap.size w wr) (fun x _ => s.length - (intOf x).toNat)
    case atStart => exact ⟨0, Nat.zero_le _, rfl, by unfold Hid; simp, hb1'⟩
    case round =>
      clear p4' hb1'
      obtain ⟨k, hk, rfl, HN, hbel⟩ := hrel
      by_cases hkl : k < s.length
      · have hkl2 : k < l.length := by omega
        have hki : (k : Int) < (l.length : Int) := by omega
        have p4 := (hbel.cell (p := ⟨g, 4, none⟩) HP.out.hg).trans (HP.out.blk.cell 4)
        simp only [List.getElem?_toArray, List.getElem?_cons_succ, List.getElem?_cons_zero] at p4
        have hsk := (hbel.cell (p := ⟨b1, off1 + k, none⟩) hb1).trans (Hs.out k hkl2)
        have hsi := (hbel.cell (p := ⟨b1, off1 + i, none⟩) hb1).trans (Hs.out i hi)
        have hbk := Hbd.out _ (List.getElem_mem hkl)
        rw [atI_get hkl] at hsk
        have hcE := HE.out wr hbel
        have hcF := fun q => HF.out s[k] (wr.drewN q) hbk (below_drewN hbel q)
        have hsz := hbel.size
        have HK : Hid (badB l c p s i s[k] = false → (s.take (k + 1)).any (badB l c p s i) = false) := fun h => any_take hkl HN.out h
        have HY : Hid (badB l c p s i s[k] = true → s.any (badB l c p s i) = true) := fun h => any_hit hkl h
        have HB : Hid (badB l c p s i s[k] = (decide (atI s i < s[k]) && decide (s[k] < endN l s i) && !fitsB l c p s s[k])) := rfl
        clear HN hbk
        generalize badB l c p s i s[k] = bb at *
        generalize s[k] = x at *
        by_cases d1 : atI s i < x
        · by_cases d2 : x < endN l s i
          · cases hq : fitsB l c p s x with
            | true =>
              have HK' := Lib.hid (HK.out (by rw [HB.out, hq]; simp))
              rw [hq] at hcF
              clear hq HK HY HB
              go_wp2_with (first | (go_at_call 84; refine hcE.mono ?_; rintro e w2 ⟨rfl, q, rfl⟩) | (go_at_call 118; refine (hcF _).mono ?_; rintro e w3 ⟨rfl, hb3⟩))
              go_roundw
              case rel => exact ⟨k + 1, by omega, by go_num, HK', (below_drewN hbel _).trans (hb3.mono (by simpa using hsz))⟩
              case measure => simp [intOf]; omega
            | false =>
              have HV' : Hid (wholeB l c p s i = false) := by unfold Hid; rw [HV.out, HY.out (by rw [HB.out, hq]; simp [d1, d2])]; rfl
              rw [hq] at hcF
              clear hq HK HY HB
              go_wp2_with (first | (go_at_call 84; refine hcE.mono ?_; rintro e w2 ⟨rfl, q, rfl⟩) | (go_at_call 118; refine (hcF _).mono ?_; rintro e w3 ⟨rfl, hb3⟩))
              go_ret
              exact ⟨ret_bool HV'.out.symm, (below_drewN hbel _).trans (hb3.mono (by simpa using hsz))⟩
          · have HK' := Lib.hid (HK.out (by rw [HB.out]; simp [d2]))
            have d2b : decide (x < endN l s i) = false := by simpa using d2
            clear HK HY HB hcF
            go_wp2_with (go_at_call 84; refine hcE.mono ?_; rintro e w2 ⟨rfl, q, rfl⟩)
            go_roundw
            case rel => exact ⟨k + 1, by omega, by go_num, HK', below_drewN hbel _⟩
            case measure => simp [intOf]; omega
        · have HK' := Lib.hid (HK.out (by rw [HB.out]; simp [d1]))
          have d1b : decide (atI s i < x) = false := by simpa using d1
          clear HK HY HB hcF hcE
          go_wp2_with fail
          go_roundw
          case rel => exact ⟨k + 1, by omega, by go_num, HK', hbel⟩
          case measure => simp [intOf]; omega
      · have hke : k = s.length := by omega
        subst hke
        have HV' : Hid (wholeB l c p s i = true) := by
          have := HN.out
          rw [List.take_length] at this
          unfold Hid
          rw [HV.out, this]
          rfl
        go_wp2_with fail
        go_ret
        exact ⟨ret_bool HV'.out.symm, hbel⟩

end Go.Proofs.Ytcjejcbikgcnbaa
