/- schedule: the error of starts; Length. -/
import Derived.Test.YtcjejcbikgcnbaaPlan
namespace Go.Proofs.Ytcjejcbikgcnbaa
open Go.RowKit Go.Shelf

theorem entersG43 : ∀ args w, (callFunc 116 args).run Try.prog w = .ok (.enter 116 args) w := enters_of Try.func116 (by kernel_rfl) rfl

/-- A start out of range. -/
def outB (x : Int) : Bool := decide (x < 0) || decide (1000000 < x)
/-- The error's number of starts. -/
def startsN (l : List Task) (s : List Int) : Int := if s.length = l.length then (if s.any outB then 2 else 0) else 3
theorem startsN_zero {l : List Task} {s : List Int} (h : startsN l s = 0) : s.length = l.length ∧ ∀ x ∈ s, 0 ≤ x ∧ x ≤ 1000000 := by
  unfold startsN at h
  split at h
  · rename_i hl
    split at h
    · cases h
    · rename_i ha
      refine ⟨hl, fun x hx => ?_⟩
      have := List.any_eq_false.1 (by simpa using ha) x hx
      unfold outB at this
      simp only [Bool.or_eq_true, decide_eq_true_eq, not_or] at this
      omega
  · cases h

set_option maxHeartbeats 1000000 in
theorem givenClosure43 (x : Int) (w : World) (_h1 : -9223372036854775808 ≤ x) (_h2 : x ≤ 9223372036854775807) : Calls Try.prog 116 #[.int .i64 x] w fun e w' => e = .returned (.bool (outB x)) ∧ w = w' := by
  by_cases h : x < 0
  · have HV : Hid (outB x = true) := by unfold Hid outB; simp [h]
    go_enter Try.func116, Try.ntmps116
    go_wp2
    go_ret
    exact ⟨ret_bool HV.out.symm, rfl⟩
  · have HV : Hid (outB x = decide (1000000 < x)) := by unfold Hid outB; simp [h]
    have hb : decide (x < 0) = false := by simpa using h
    go_enter Try.func116, Try.ntmps116
    go_wp2
    go_ret
    exact ⟨ret_bool HV.out.symm, rfl⟩

/-- A slice of ints whose ints are 64 bits wide. -/
def Wide (s : List Int) : Prop := ∀ x ∈ s, -9223372036854775808 ≤ x ∧ x ≤ 9223372036854775807

set_option maxHeartbeats 1000000 in
theorem schedGiven43 (v u : Value) (l : List Task) (s : List Int) (B : Nat) (w : World) (hl : TasksAt w B v l) (hs : IntsAt w B u s) (hw : Wide s) :
    Calls Try.prog 79 #[v, u] w fun e w' => e = .returned (.int .i64 (startsN l s)) ∧ w = w' := by
  have hC := containsFuncSInt u s 116 #[] outB entersG43 B w hs (fun x hx => by
    have := hw x hx
    exact givenClosure43 x w this.1 this.2)
  obtain ⟨A, cc, rfl, hA1, hA2, -⟩ := hl.open_
  obtain ⟨A', cc', rfl, hA1', hA2', -⟩ := hs.open_
  unfold maxLen at hA2 hA2'
  clear hl hs hw
  by_cases h : s.length = l.length
  · have HV : Hid (startsN l s = if s.any outB then 2 else 0) := by unfold Hid startsN; rw [if_pos h]
    have hb : ((s.length : Int) != l.length) = false := by simp [h]
    have h' : s.length ≤ l.length := by omega
    have h'' : l.length ≤ s.length := by omega
    clear h
    cases ha : s.any outB with
    | true =>
      rw [ha] at HV hC
      clear ha
      go_enter Try.func79, Try.ntmps79
      go_wp2_with (go_at_call 82; refine hC.mono ?_; rintro e w1 ⟨rfl, rfl⟩)
      go_ret
      exact ⟨ret_int HV.out.symm, rfl⟩
    | false =>
      rw [ha] at HV hC
      clear ha
      go_enter Try.func79, Try.ntmps79
      go_wp2_with (go_at_call 82; refine hC.mono ?_; rintro e w1 ⟨rfl, rfl⟩)
      go_ret
      exact ⟨ret_int HV.out.symm, rfl⟩
  · have HV : Hid (startsN l s = 3) := by unfold Hid startsN; rw [if_neg h]
    have hb : ((s.length : Int) != l.length) = true := by simp; omega
    clear h hC
    go_enter Try.func79, Try.ntmps79
    go_wp2
    go_ret
    exact ⟨ret_int HV.out.symm, rfl⟩

/-! ### Length -/
/-- The greatest end of the tasks below k. -/
def lenTo (l : List Task) (s : List Int) : Nat → Int
  | 0 => 0
  | k + 1 => if lenTo l s k < endN l s k then endN l s k else lenTo l s k
theorem lenTo_bd {l : List Task} (hR : RightT l) {s : List Int} (hl : s.length = l.length) (hs : ∀ x ∈ s, 0 ≤ x ∧ x ≤ 1000000) : ∀ k, k ≤ l.length → 0 ≤ lenTo l s k ∧ lenTo l s k ≤ 1010000
  | 0, _ => by simp [lenTo]
  | k + 1, hk => by
    have h := lenTo_bd hR hl hs k (by omega)
    have h1 := hs _ (List.getElem_mem (show k < s.length by omega))
    have h2 := fieldB_len (hR.field k (by omega))
    have e : endN l s k = s[k] + l[k].len := by unfold endN; rw [atI_get (by omega), lenAt_eq (by omega)]
    unfold lenTo
    split <;> omega

def LengthPost (l : List Task) (s : List Int) (w : World) (e : Ending) (w' : World) : Prop :=
  Below w.heap.size w w' ∧ (rightR l = false ∧ e = .returned (.tuple #[.int .i64 0, .int .i64 1]) ∨
    rightR l = true ∧ e = .returned (.tuple #[.int .i64 (if startsN l s = 0 then lenTo l s l.length else 0), .int .i64 (startsN l s)]))

set_option maxRecDepth 100000 in
set_option maxHeartbeats 4000000 in
theorem schedLength (v u : Value) (l : List Task) (s : List Int) (w : World) (hl : TasksAt w w.heap.size v l) (hs : IntsAt w w.heap.size u s) (hw : Wide s) :
    Calls Try.prog 36 #[v, u] w (LengthPost l s w) := by
  have hR := schedRight v l w hl
  rw [rightW_eq] at hR
  have HG : Hid (∀ w1, Below w.heap.size w w1 → Calls Try.prog 79 #[v, u] w1 fun e w' => e = .returned (.int .i64 (startsN l s)) ∧ w1 = w') := fun w1 hb =>
    schedGiven43 v u l s w.heap.size w1 (hl.below hb (Nat.le_refl _)) (hs.below hb (Nat.le_refl _)) hw
  have HL := Lib.hid hl
  have HS := Lib.hid hs
  obtain ⟨A, cc, rfl, hA1, hA2, -⟩ := hl.open_
  obtain ⟨A', cc', rfl, hA1', hA2', -⟩ := hs.open_
  unfold maxLen at hA2 hA2'
  clear hl hs
  cases hr : rightR l with
  | false =>
    rw [hr] at hR
    have Hr := Lib.hid hr
    clear hr
    go_enter Try.func36, Try.ntmps36
    go_wp2_with (go_at_call 85; refine hR.mono ?_; rintro e w1 ⟨rfl, hb1⟩)
    refine bodyPost_ret (results_tmp2 rfl _ _ _) (by rfl) ?_
    exact ⟨hb1, .inl ⟨Hr.out, rfl⟩⟩
  | true =>
    rw [hr] at hR
    have Hr := Lib.hid hr
    have hRT := (right_iff l).1 hr
    have h8 := hRT.len
    have HRT := Lib.hid hRT
    clear hr hRT
    by_cases hst : startsN l s = 0
    · obtain ⟨hlen, hbd⟩ := startsN_zero hst
      have HG' : ∀ w1, Below w.heap.size w w1 → Calls Try.prog 79 #[.slice A l.length cc, .slice A' s.length cc'] w1 fun e w' => e = .returned (.int .i64 0) ∧ w1 = w' := fun w1 hb => by
        have := HG.out w1 hb
        rw [hst] at this
        exact this
      have Hst := Lib.hid hst
      have HB := Lib.hid hbd
      have hle1 : s.length ≤ l.length := by omega
      have hle2 : l.length ≤ s.length := by omega
      have HLn := Lib.hid hlen
      clear hst HG hbd hlen
      go_enter Try.func36, Try.ntmps36
      go_wp2_with (first | (go_at_call 85; refine hR.mono ?_; rintro e w1 ⟨rfl, hb1⟩) | (go_at_call 79; refine (HG' _ hb1).mono ?_; rintro e w2 ⟨rfl, rfl⟩))
      clear HG' hR
      go_loopw [21, 7] (fun i m wr => ∃ k : Nat, k ≤ l.length ∧ i = .int .i64 k ∧ m = .int .i64 (lenTo l s k) ∧ Below w.heap.size w wr) (fun i _ _ => l.length - (intOf i).toNat)
      case atStart => exact ⟨0, Nat.zero_le _, rfl, rfl, hb1⟩
      case round =>
        clear hb1
        obtain ⟨k, hk, rfl, rfl, hbel⟩ := hrel
        have hmb := lenTo_bd HRT.out HLn.out HB.out k hk
        by_cases hkl : k < l.length
        · have hks : k < s.length := by omega
          obtain ⟨b0, off0, rfl, hb0, hcell⟩ := (HL.out.below hbel (Nat.le_refl _)).cells hkl
          obtain ⟨t0, t1, t2, t3, t4⟩ := hcell k hkl
          obtain ⟨A2, c2, e2, -, -, hc2⟩ := (HS.out.below hbel (Nat.le_refl _)).open_
          injection e2 with e2 _ e3
          subst e2 e3
          obtain ⟨b1, off1, rfl, hb1, hc2⟩ := hc2 k hks
          have h1 := hc2 k hks
          have hbk := HB.out _ (List.getElem_mem hks)
          obtain ⟨hl1, hl2⟩ := fieldB_len (HRT.out.field k hkl)
          have HE : Hid (lenTo l s (k + 1) = if lenTo l s k < s[k] + l[k].len then s[k] + l[k].len else lenTo l s k) := by
            have e : endN l s k = s[k] + l[k].len := by unfold endN; rw [atI_get (by omega), lenAt_eq (by omega)]
            unfold Hid
            rw [lenTo, e]
          have hsz := hbel.size
          have hbx := hbel.alloc hbel.size (.cells #[.string l[k].name, .int .i64 l[k].len, .int .i64 l[k].crew, .int .i64 l[k].pow, .slice l[k].ba l[k].bef.length l[k].bc] 41)
          have i1 : (0 : Int) ≤ (k : Int) := Int.natCast_nonneg _
          have i2 : (k : Int) < (s.length : Int) := by omega
          have w1 : IntKind.i64.wrap (s[k] + l[k].len) = s[k] + l[k].len := IntWalk.i64_in _ (by omega)
          have h1' := (World.cell?_alloc_lt wr (.cells #[.string l[k].name, .int .i64 l[k].len, .int .i64 l[k].crew, .int .i64 l[k].pow, .slice l[k].ba l[k].bef.length l[k].bc] 41) ⟨b1, off1 + k, none⟩ (by simp only; omega)).trans h1
          clear hcell hc2
          go_wp2_with fail
          have hy := World.cell?_alloc_new wr #[.string l[k].name, .int .i64 l[k].len, .int .i64 l[k].crew, .int .i64 l[k].pow, .slice l[k].ba l[k].bef.length l[k].bc] 41
          have y1 := hy 1
          simp only [List.getElem?_toArray, List.getElem?_cons_succ, List.getElem?_cons_zero] at y1
          generalize wr.alloc (.cells #[.string l[k].name, .int .i64 l[k].len, .int .i64 l[k].crew, .int .i64 l[k].pow, .slice l[k].ba l[k].bef.length l[k].bc] 41) = wt at *
          clear hy t0 t1 t2 t3 t4 h1
          by_cases hlt : lenTo l s k < s[k] + l[k].len
          · have HE' : Hid (lenTo l s (k + 1) = s[k] + l[k].len) := by unfold Hid; rw [HE.out, if_pos hlt]
            clear HE
            go_quiet (fail)
            go_wp2_with fail
            go_roundw
            case rel => exact ⟨k + 1, by omega, by go_num, by rw [HE'.out], below_drewN hbx _⟩
            case measure => simp [intOf]; omega
          · have HE' : Hid (lenTo l s (k + 1) = lenTo l s k) := by unfold Hid; rw [HE.out, if_neg hlt]
            clear HE
            go_quiet (fail)
            go_wp2_with fail
            go_roundw
            case rel => exact ⟨k + 1, by omega, by go_num, by rw [HE'.out], below_drewN hbx _⟩
            case measure => simp [intOf]; omega
        · have hke : k = l.length := by omega
          subst hke
          go_wp2_with fail
          refine bodyPost_ret (results_tmp2 rfl _ _ _) (by rfl) ?_
          exact ⟨hbel, .inr ⟨Hr.out, by rw [Hst.out]; rfl⟩⟩
    · have Hst := Lib.hid hst
      have HG' := HG.out
      generalize hx : startsN l s = x at *
      have hb : (x != 0) = true := by simpa using Hst.out
      have Hx := Lib.hid hx
      clear hst HG hx
      go_enter Try.func36, Try.ntmps36
      go_wp2_with (first | (go_at_call 85; refine hR.mono ?_; rintro e w1 ⟨rfl, hb1⟩) | (go_at_call 79; refine (HG' _ hb1).mono ?_; rintro e w2 ⟨rfl, rfl⟩))
      refine bodyPost_ret (results_tmp2 rfl _ _ _) (by rfl) ?_
      exact ⟨hb1, .inr ⟨Hr.out, by rw [Hx.out, if_neg Hst.out]; rfl⟩⟩

end Go.Proofs.Ytcjejcbikgcnbaa
