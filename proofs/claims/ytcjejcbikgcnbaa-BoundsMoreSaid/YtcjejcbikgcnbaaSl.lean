/- Contracts of package slices' generic functions at this seat's instances: IndexFunc, ContainsFunc, Index, Contains, Equal. -/
import Derived.Test.YtcjejcbikgcnbaaBase
namespace Go.Proofs.Ytcjejcbikgcnbaa
open Go.RowKit Go.Shelf

set_option maxRecDepth 100000 in
set_option maxHeartbeats 400000 in
theorem indexFuncTask (v : Value) (l : List Task) (K : Nat) (C : Array Value) (p : Task → Bool) (eg : ∀ args w, (callFunc K args).run Try.prog w = .ok (.enter K args) w) (w : World) (hl : TasksAt w w.heap.size v l)
    (hf : ∀ t ∈ l, ∀ w', Below w.heap.size w w' → Calls Try.prog K (#[t.val] ++ C) w' fun e w'' => e = .returned (.bool (p t)) ∧ Below w'.heap.size w' w'') :
    Calls Try.prog 46 #[v, .func (.func K) #[] C] w fun e w' => e = .returned (.int .i64 (idxOf (l.findIdx? p))) ∧ Below w.heap.size w w' := by
  obtain ⟨A, c, rfl, hc1, hc2, hcell⟩ := hl.open_
  unfold maxLen at hc2
  have HF := Lib.hid hf
  clear hf
  go_enter Try.func46, Try.ntmps46
  go_wp2
  go_loopw [8] (fun x wr => ∃ j : Nat, j ≤ l.length ∧ x = .int .i64 j ∧ (l.take j).findIdx? p = none ∧ Below w.heap.size w wr) (fun x _ => l.length - (intOf x).toNat)
  case atStart => exact ⟨0, Nat.zero_le _, rfl, by simp, Below.refl _ _⟩
  case round =>
    obtain ⟨j, hj, rfl, hnm, hbel⟩ := hrel
    have Hnm := Lib.hid hnm
    clear hnm
    by_cases hlt : j < l.length
    · obtain ⟨b, off, rfl, hb, hcell⟩ := hcell j hlt
      obtain ⟨h0, h1, h2, h3, h4⟩ := (hcell j hlt).below hbel hb
      clear hcell
      have hcall := HF.out l[j] (List.getElem_mem hlt)
      unfold Task.val at hcall
      cases hq : p l[j] with
      | true =>
        rw [hq] at hcall
        go_wp2_with (go_at_fn K; refine (hcall _ hbel).mono ?_; rintro e w' ⟨rfl, hb'⟩)
        go_ret
        exact ⟨by rw [find_hit Hnm.out hlt hq]; rfl, hbel.trans (hb'.mono hbel.size)⟩
      | false =>
        rw [hq] at hcall
        go_wp2_with (go_at_fn K; refine (hcall _ hbel).mono ?_; rintro e w' ⟨rfl, hb'⟩)
        go_roundw
        case rel => exact ⟨j + 1, by omega, by go_num, find_miss Hnm.out hlt hq, hbel.trans (hb'.mono hbel.size)⟩
        case measure => simp [intOf]; omega
    · have hje : j = l.length := by omega
      subst hje
      go_wp2
      go_ret
      exact ⟨by rw [← List.take_length (l := l), Hnm.out]; rfl, hbel⟩

set_option maxHeartbeats 400000 in
theorem containsFuncTask (v : Value) (l : List Task) (K : Nat) (C : Array Value) (p : Task → Bool) (eg : ∀ args w, (callFunc K args).run Try.prog w = .ok (.enter K args) w) (w : World) (hl : TasksAt w w.heap.size v l)
    (hf : ∀ t ∈ l, ∀ w', Below w.heap.size w w' → Calls Try.prog K (#[t.val] ++ C) w' fun e w'' => e = .returned (.bool (p t)) ∧ Below w'.heap.size w' w'') :
    Calls Try.prog 49 #[v, .func (.func K) #[] C] w fun e w' => e = .returned (.bool (l.any p)) ∧ Below w.heap.size w w' := by
  have hc := indexFuncTask v l K C p eg w hl hf
  have hbd := idx_bd p l
  have HA := Lib.hid (idx_any p l)
  generalize idxOf (l.findIdx? p) = x at *
  clear hf hl
  go_enter Try.func49, Try.ntmps49
  go_wp2_with (go_at_call 46; refine hc.mono ?_; rintro e w' ⟨rfl, hb'⟩)
  go_ret
  exact ⟨ret_bool HA.out, hb'⟩

set_option maxRecDepth 100000 in
set_option maxHeartbeats 400000 in
theorem indexFuncStr (v : Value) (l : List ByteArray) (K : Nat) (C : Array Value) (p : ByteArray → Bool) (eg : ∀ args w, (callFunc K args).run Try.prog w = .ok (.enter K args) w) (w : World) (hl : RowAt (Value.string) w w.heap.size v l)
    (hf : ∀ t ∈ l, ∀ w', Below w.heap.size w w' → Calls Try.prog K (#[(Value.string) t] ++ C) w' fun e w'' => e = .returned (.bool (p t)) ∧ Below w'.heap.size w' w'') :
    Calls Try.prog 111 #[v, .func (.func K) #[] C] w fun e w' => e = .returned (.int .i64 (idxOf (l.findIdx? p))) ∧ Below w.heap.size w w' := by
  obtain ⟨A, c, rfl, hc1, hc2, hcell⟩ := hl.open_
  unfold maxLen at hc2
  have HF := Lib.hid hf
  clear hf
  go_enter Try.func111, Try.ntmps111
  go_wp2
  go_loopw [8] (fun x wr => ∃ j : Nat, j ≤ l.length ∧ x = .int .i64 j ∧ (l.take j).findIdx? p = none ∧ Below w.heap.size w wr) (fun x _ => l.length - (intOf x).toNat)
  case atStart => exact ⟨0, Nat.zero_le _, rfl, by simp, Below.refl _ _⟩
  case round =>
    obtain ⟨j, hj, rfl, hnm, hbel⟩ := hrel
    have Hnm := Lib.hid hnm
    clear hnm
    by_cases hlt : j < l.length
    · obtain ⟨b, off, rfl, hb, hcell⟩ := hcell j hlt
      have h0 := (hbel.cell (p := ⟨b, off + j, none⟩) hb).trans (hcell j hlt)
      clear hcell
      have hcall := HF.out l[j] (List.getElem_mem hlt)
      cases hq : p l[j] with
      | true =>
        rw [hq] at hcall
        go_wp2_with (go_at_fn K; refine (hcall _ hbel).mono ?_; rintro e w' ⟨rfl, hb'⟩)
        go_ret
        exact ⟨by rw [find_hit Hnm.out hlt hq]; rfl, hbel.trans (hb'.mono hbel.size)⟩
      | false =>
        rw [hq] at hcall
        go_wp2_with (go_at_fn K; refine (hcall _ hbel).mono ?_; rintro e w' ⟨rfl, hb'⟩)
        go_roundw
        case rel => exact ⟨j + 1, by omega, by go_num, find_miss Hnm.out hlt hq, hbel.trans (hb'.mono hbel.size)⟩
        case measure => simp [intOf]; omega
    · have hje : j = l.length := by omega
      subst hje
      go_wp2
      go_ret
      exact ⟨by rw [← List.take_length (l := l), Hnm.out]; rfl, hbel⟩

set_option maxHeartbeats 400000 in
theorem containsFuncStr (v : Value) (l : List ByteArray) (K : Nat) (C : Array Value) (p : ByteArray → Bool) (eg : ∀ args w, (callFunc K args).run Try.prog w = .ok (.enter K args) w) (w : World) (hl : RowAt (Value.string) w w.heap.size v l)
    (hf : ∀ t ∈ l, ∀ w', Below w.heap.size w w' → Calls Try.prog K (#[(Value.string) t] ++ C) w' fun e w'' => e = .returned (.bool (p t)) ∧ Below w'.heap.size w' w'') :
    Calls Try.prog 63 #[v, .func (.func K) #[] C] w fun e w' => e = .returned (.bool (l.any p)) ∧ Below w.heap.size w w' := by
  have hc := indexFuncStr v l K C p eg w hl hf
  have hbd := idx_bd p l
  have HA := Lib.hid (idx_any p l)
  generalize idxOf (l.findIdx? p) = x at *
  clear hf hl
  go_enter Try.func63, Try.ntmps63
  go_wp2_with (go_at_call 111; refine hc.mono ?_; rintro e w' ⟨rfl, hb'⟩)
  go_ret
  exact ⟨ret_bool HA.out, hb'⟩

set_option maxRecDepth 100000 in
set_option maxHeartbeats 400000 in
theorem indexFuncInt (v : Value) (l : List Int) (K : Nat) (C : Array Value) (p : Int → Bool) (eg : ∀ args w, (callFunc K args).run Try.prog w = .ok (.enter K args) w) (w : World) (hl : RowAt (Value.int .i64) w w.heap.size v l)
    (hf : ∀ t ∈ l, ∀ w', Below w.heap.size w w' → Calls Try.prog K (#[(Value.int .i64) t] ++ C) w' fun e w'' => e = .returned (.bool (p t)) ∧ Below w'.heap.size w' w'') :
    Calls Try.prog 119 #[v, .func (.func K) #[] C] w fun e w' => e = .returned (.int .i64 (idxOf (l.findIdx? p))) ∧ Below w.heap.size w w' := by
  obtain ⟨A, c, rfl, hc1, hc2, hcell⟩ := hl.open_
  unfold maxLen at hc2
  have HF := Lib.hid hf
  clear hf
  go_enter Try.func119, Try.ntmps119
  go_wp2
  go_loopw [8] (fun x wr => ∃ j : Nat, j ≤ l.length ∧ x = .int .i64 j ∧ (l.take j).findIdx? p = none ∧ Below w.heap.size w wr) (fun x _ => l.length - (intOf x).toNat)
  case atStart => exact ⟨0, Nat.zero_le _, rfl, by simp, Below.refl _ _⟩
  case round =>
    obtain ⟨j, hj, rfl, hnm, hbel⟩ := hrel
    have Hnm := Lib.hid hnm
    clear hnm
    by_cases hlt : j < l.length
    · obtain ⟨b, off, rfl, hb, hcell⟩ := hcell j hlt
      have h0 := (hbel.cell (p := ⟨b, off + j, none⟩) hb).trans (hcell j hlt)
      clear hcell
      have hcall := HF.out l[j] (List.getElem_mem hlt)
      cases hq : p l[j] with
      | true =>
        rw [hq] at hcall
        go_wp2_with (go_at_fn K; refine (hcall _ hbel).mono ?_; rintro e w' ⟨rfl, hb'⟩)
        go_ret
        exact ⟨by rw [find_hit Hnm.out hlt hq]; rfl, hbel.trans (hb'.mono hbel.size)⟩
      | false =>
        rw [hq] at hcall
        go_wp2_with (go_at_fn K; refine (hcall _ hbel).mono ?_; rintro e w' ⟨rfl, hb'⟩)
        go_roundw
        case rel => exact ⟨j + 1, by omega, by go_num, find_miss Hnm.out hlt hq, hbel.trans (hb'.mono hbel.size)⟩
        case measure => simp [intOf]; omega
    · have hje : j = l.length := by omega
      subst hje
      go_wp2
      go_ret
      exact ⟨by rw [← List.take_length (l := l), Hnm.out]; rfl, hbel⟩

set_option maxHeartbeats 400000 in
theorem containsFuncInt (v : Value) (l : List Int) (K : Nat) (C : Array Value) (p : Int → Bool) (eg : ∀ args w, (callFunc K args).run Try.prog w = .ok (.enter K args) w) (w : World) (hl : RowAt (Value.int .i64) w w.heap.size v l)
    (hf : ∀ t ∈ l, ∀ w', Below w.heap.size w w' → Calls Try.prog K (#[(Value.int .i64) t] ++ C) w' fun e w'' => e = .returned (.bool (p t)) ∧ Below w'.heap.size w' w'') :
    Calls Try.prog 82 #[v, .func (.func K) #[] C] w fun e w' => e = .returned (.bool (l.any p)) ∧ Below w.heap.size w w' := by
  have hc := indexFuncInt v l K C p eg w hl hf
  have hbd := idx_bd p l
  have HA := Lib.hid (idx_any p l)
  generalize idxOf (l.findIdx? p) = x at *
  clear hf hl
  go_enter Try.func82, Try.ntmps82
  go_wp2_with (go_at_call 119; refine hc.mono ?_; rintro e w' ⟨rfl, hb'⟩)
  go_ret
  exact ⟨ret_bool HA.out, hb'⟩

set_option maxRecDepth 100000 in
set_option maxHeartbeats 400000 in
theorem indexFuncRows (v : Value) (l : List Value) (K : Nat) (C : Array Value) (p : Value → Bool) (eg : ∀ args w, (callFunc K args).run Try.prog w = .ok (.enter K args) w) (w : World) (hl : RowAt (id) w w.heap.size v l)
    (hf : ∀ t ∈ l, ∀ w', Below w.heap.size w w' → Calls Try.prog K (#[(id) t] ++ C) w' fun e w'' => e = .returned (.bool (p t)) ∧ Below w'.heap.size w' w'') :
    Calls Try.prog 123 #[v, .func (.func K) #[] C] w fun e w' => e = .returned (.int .i64 (idxOf (l.findIdx? p))) ∧ Below w.heap.size w w' := by
  obtain ⟨A, c, rfl, hc1, hc2, hcell⟩ := hl.open_
  unfold maxLen at hc2
  have HF := Lib.hid hf
  clear hf
  go_enter Try.func123, Try.ntmps123
  go_wp2
  go_loopw [8] (fun x wr => ∃ j : Nat, j ≤ l.length ∧ x = .int .i64 j ∧ (l.take j).findIdx? p = none ∧ Below w.heap.size w wr) (fun x _ => l.length - (intOf x).toNat)
  case atStart => exact ⟨0, Nat.zero_le _, rfl, by simp, Below.refl _ _⟩
  case round =>
    obtain ⟨j, hj, rfl, hnm, hbel⟩ := hrel
    have Hnm := Lib.hid hnm
    clear hnm
    by_cases hlt : j < l.length
    · obtain ⟨b, off, rfl, hb, hcell⟩ := hcell j hlt
      have h0 := (hbel.cell (p := ⟨b, off + j, none⟩) hb).trans (hcell j hlt)
      clear hcell
      have hcall := HF.out l[j] (List.getElem_mem hlt)
      cases hq : p l[j] with
      | true =>
        rw [hq] at hcall
        go_wp2_with (go_at_fn K; refine (hcall _ hbel).mono ?_; rintro e w' ⟨rfl, hb'⟩)
        go_ret
        exact ⟨by rw [find_hit Hnm.out hlt hq]; rfl, hbel.trans (hb'.mono hbel.size)⟩
      | false =>
        rw [hq] at hcall
        go_wp2_with (go_at_fn K; refine (hcall _ hbel).mono ?_; rintro e w' ⟨rfl, hb'⟩)
        go_roundw
        case rel => exact ⟨j + 1, by omega, by go_num, find_miss Hnm.out hlt hq, hbel.trans (hb'.mono hbel.size)⟩
        case measure => simp [intOf]; omega
    · have hje : j = l.length := by omega
      subst hje
      go_wp2
      go_ret
      exact ⟨by rw [← List.take_length (l := l), Hnm.out]; rfl, hbel⟩

set_option maxHeartbeats 400000 in
theorem containsFuncRows (v : Value) (l : List Value) (K : Nat) (C : Array Value) (p : Value → Bool) (eg : ∀ args w, (callFunc K args).run Try.prog w = .ok (.enter K args) w) (w : World) (hl : RowAt (id) w w.heap.size v l)
    (hf : ∀ t ∈ l, ∀ w', Below w.heap.size w w' → Calls Try.prog K (#[(id) t] ++ C) w' fun e w'' => e = .returned (.bool (p t)) ∧ Below w'.heap.size w' w'') :
    Calls Try.prog 89 #[v, .func (.func K) #[] C] w fun e w' => e = .returned (.bool (l.any p)) ∧ Below w.heap.size w w' := by
  have hc := indexFuncRows v l K C p eg w hl hf
  have hbd := idx_bd p l
  have HA := Lib.hid (idx_any p l)
  generalize idxOf (l.findIdx? p) = x at *
  clear hf hl
  go_enter Try.func89, Try.ntmps89
  go_wp2_with (go_at_call 123; refine hc.mono ?_; rintro e w' ⟨rfl, hb'⟩)
  go_ret
  exact ⟨ret_bool HA.out, hb'⟩

set_option maxRecDepth 100000 in
set_option maxHeartbeats 400000 in
/-- The predicate reads alone: the world is as it was. -/
theorem indexFuncSInt (v : Value) (l : List Int) (K : Nat) (C : Array Value) (p : Int → Bool) (eg : ∀ args w, (callFunc K args).run Try.prog w = .ok (.enter K args) w) (B : Nat) (w : World) (hl : RowAt (Value.int .i64) w B v l)
    (hf : ∀ t ∈ l, Calls Try.prog K (#[(Value.int .i64) t] ++ C) w fun e w'' => e = .returned (.bool (p t)) ∧ w = w'') :
    Calls Try.prog 119 #[v, .func (.func K) #[] C] w fun e w' => e = .returned (.int .i64 (idxOf (l.findIdx? p))) ∧ w = w' := by
  obtain ⟨A, c, rfl, hc1, hc2, hcell⟩ := hl.open_
  unfold maxLen at hc2
  have HF := Lib.hid hf
  clear hf
  go_enter Try.func119, Try.ntmps119
  go_wp2
  go_loopw [8] (fun x wr => ∃ j : Nat, j ≤ l.length ∧ x = .int .i64 j ∧ (l.take j).findIdx? p = none ∧ w = wr) (fun x _ => l.length - (intOf x).toNat)
  case atStart => exact ⟨0, Nat.zero_le _, rfl, by simp, rfl⟩
  case round =>
    obtain ⟨j, hj, rfl, hnm, rfl⟩ := hrel
    have Hnm := Lib.hid hnm
    clear hnm
    by_cases hlt : j < l.length
    · obtain ⟨b, off, rfl, hb, hcell⟩ := hcell j hlt
      have h0 := hcell j hlt
      clear hcell
      have hcall := HF.out l[j] (List.getElem_mem hlt)
      cases hq : p l[j] with
      | true =>
        rw [hq] at hcall
        go_wp2_with (go_at_fn K; refine hcall.mono ?_; rintro e w' ⟨rfl, rfl⟩)
        go_ret
        exact ⟨by rw [find_hit Hnm.out hlt hq]; rfl, rfl⟩
      | false =>
        rw [hq] at hcall
        go_wp2_with (go_at_fn K; refine hcall.mono ?_; rintro e w' ⟨rfl, rfl⟩)
        go_roundw
        case rel => exact ⟨j + 1, by omega, by go_num, find_miss Hnm.out hlt hq, by trivial⟩
        case measure => simp [intOf]; omega
    · have hje : j = l.length := by omega
      subst hje
      go_wp2
      go_ret
      exact ⟨by rw [← List.take_length (l := l), Hnm.out]; rfl, rfl⟩

set_option maxHeartbeats 400000 in
theorem containsFuncSInt (v : Value) (l : List Int) (K : Nat) (C : Array Value) (p : Int → Bool) (eg : ∀ args w, (callFunc K args).run Try.prog w = .ok (.enter K args) w) (B : Nat) (w : World) (hl : RowAt (Value.int .i64) w B v l)
    (hf : ∀ t ∈ l, Calls Try.prog K (#[(Value.int .i64) t] ++ C) w fun e w'' => e = .returned (.bool (p t)) ∧ w = w'') :
    Calls Try.prog 82 #[v, .func (.func K) #[] C] w fun e w' => e = .returned (.bool (l.any p)) ∧ w = w' := by
  have hc := indexFuncSInt v l K C p eg B w hl hf
  have hbd := idx_bd p l
  have HA := Lib.hid (idx_any p l)
  generalize idxOf (l.findIdx? p) = x at *
  clear hf hl
  go_enter Try.func82, Try.ntmps82
  go_wp2_with (go_at_call 119; refine hc.mono ?_; rintro e w' ⟨rfl, rfl⟩)
  go_ret
  exact ⟨ret_bool HA.out, rfl⟩

set_option maxRecDepth 100000 in
set_option maxHeartbeats 400000 in
theorem indexStr (v : Value) (l : List ByteArray) (x : ByteArray) (B : Nat) (w : World) (hl : RowAt (Value.string) w B v l) :
    Calls Try.prog 102 #[v, (Value.string) x] w fun e w' => e = .returned (.int .i64 (idxOf (l.findIdx? fun y => decide (x = y)))) ∧ w = w' := by
  obtain ⟨A, c, rfl, hc1, hc2, hcell⟩ := hl.open_
  unfold maxLen at hc2
  go_enter Try.func102, Try.ntmps102
  go_wp2
  go_loopw [8] (fun s wr => ∃ j : Nat, j ≤ l.length ∧ s = .int .i64 j ∧ ((l.take j).findIdx? fun y => decide (x = y)) = none ∧ w = wr) (fun x _ => l.length - (intOf x).toNat)
  case atStart => exact ⟨0, Nat.zero_le _, rfl, by simp, rfl⟩
  case round =>
    obtain ⟨j, hj, rfl, hnm, rfl⟩ := hrel
    have Hnm := Lib.hid hnm
    clear hnm
    by_cases hlt : j < l.length
    · obtain ⟨b, off, rfl, hb, hcell⟩ := hcell j hlt
      have h0 := hcell j hlt
      clear hcell
      by_cases hq : x = l[j]
      · have ht : (x.toList == l[j].toList) = true := by rw [str_beq]; simpa using hq
        go_wp2
        go_ret
        exact ⟨by rw [find_hit Hnm.out hlt (by simpa using hq)]; rfl, rfl⟩
      · have ht : (x.toList == l[j].toList) = false := by rw [str_beq]; simpa using hq
        go_wp2
        go_roundw
        case rel => exact ⟨j + 1, by omega, by go_num, find_miss Hnm.out hlt (by simpa using hq), by trivial⟩
        case measure => simp [intOf]; omega
    · have hje : j = l.length := by omega
      subst hje
      go_wp2
      go_ret
      exact ⟨by rw [← List.take_length (l := l), Hnm.out]; rfl, rfl⟩

set_option maxHeartbeats 400000 in
theorem containsStr (v : Value) (l : List ByteArray) (x : ByteArray) (B : Nat) (w : World) (hl : RowAt (Value.string) w B v l) :
    Calls Try.prog 48 #[v, (Value.string) x] w fun e w' => e = .returned (.bool (decide (x ∈ l))) ∧ w = w' := by
  have hc := indexStr v l x B w hl
  have hbd := idx_bd (fun y => decide (x = y)) l
  have HA := Lib.hid ((idx_any (fun y => decide (x = y)) l).trans (show _ = decide (x ∈ l) by rw [Bool.eq_iff_iff]; simp))
  generalize idxOf (l.findIdx? fun y => decide (x = y)) = i at *
  clear hl
  go_enter Try.func48, Try.ntmps48
  go_wp2_with (go_at_call 102; refine hc.mono ?_; rintro e w' ⟨rfl, rfl⟩)
  go_ret
  exact ⟨ret_bool HA.out, rfl⟩

set_option maxRecDepth 100000 in
set_option maxHeartbeats 400000 in
theorem indexInt (v : Value) (l : List Int) (x : Int) (B : Nat) (w : World) (hl : RowAt (Value.int .i64) w B v l) :
    Calls Try.prog 125 #[v, (Value.int .i64) x] w fun e w' => e = .returned (.int .i64 (idxOf (l.findIdx? fun y => decide (x = y)))) ∧ w = w' := by
  obtain ⟨A, c, rfl, hc1, hc2, hcell⟩ := hl.open_
  unfold maxLen at hc2
  go_enter Try.func125, Try.ntmps125
  go_wp2
  go_loopw [8] (fun s wr => ∃ j : Nat, j ≤ l.length ∧ s = .int .i64 j ∧ ((l.take j).findIdx? fun y => decide (x = y)) = none ∧ w = wr) (fun x _ => l.length - (intOf x).toNat)
  case atStart => exact ⟨0, Nat.zero_le _, rfl, by simp, rfl⟩
  case round =>
    obtain ⟨j, hj, rfl, hnm, rfl⟩ := hrel
    have Hnm := Lib.hid hnm
    clear hnm
    by_cases hlt : j < l.length
    · obtain ⟨b, off, rfl, hb, hcell⟩ := hcell j hlt
      have h0 := hcell j hlt
      clear hcell
      by_cases hq : x = l[j]
      · have ht : (x == l[j]) = true := by simpa using hq
        go_wp2
        go_ret
        exact ⟨by rw [find_hit Hnm.out hlt (by simpa using hq)]; rfl, rfl⟩
      · have ht : (x == l[j]) = false := by simpa using hq
        go_wp2
        go_roundw
        case rel => exact ⟨j + 1, by omega, by go_num, find_miss Hnm.out hlt (by simpa using hq), by trivial⟩
        case measure => simp [intOf]; omega
    · have hje : j = l.length := by omega
      subst hje
      go_wp2
      go_ret
      exact ⟨by rw [← List.take_length (l := l), Hnm.out]; rfl, rfl⟩

set_option maxHeartbeats 400000 in
theorem containsInt (v : Value) (l : List Int) (x : Int) (B : Nat) (w : World) (hl : RowAt (Value.int .i64) w B v l) :
    Calls Try.prog 94 #[v, (Value.int .i64) x] w fun e w' => e = .returned (.bool (decide (x ∈ l))) ∧ w = w' := by
  have hc := indexInt v l x B w hl
  have hbd := idx_bd (fun y => decide (x = y)) l
  have HA := Lib.hid ((idx_any (fun y => decide (x = y)) l).trans (show _ = decide (x ∈ l) by rw [Bool.eq_iff_iff]; simp))
  generalize idxOf (l.findIdx? fun y => decide (x = y)) = i at *
  clear hl
  go_enter Try.func94, Try.ntmps94
  go_wp2_with (go_at_call 125; refine hc.mono ?_; rintro e w' ⟨rfl, rfl⟩)
  go_ret
  exact ⟨ret_bool HA.out, rfl⟩

set_option maxRecDepth 100000 in
set_option maxHeartbeats 400000 in
theorem indexBool (v : Value) (l : List Bool) (x : Bool) (B : Nat) (w : World) (hl : RowAt (Value.bool) w B v l) :
    Calls Try.prog 135 #[v, (Value.bool) x] w fun e w' => e = .returned (.int .i64 (idxOf (l.findIdx? fun y => decide (x = y)))) ∧ w = w' := by
  obtain ⟨A, c, rfl, hc1, hc2, hcell⟩ := hl.open_
  unfold maxLen at hc2
  go_enter Try.func135, Try.ntmps135
  go_wp2
  go_loopw [8] (fun s wr => ∃ j : Nat, j ≤ l.length ∧ s = .int .i64 j ∧ ((l.take j).findIdx? fun y => decide (x = y)) = none ∧ w = wr) (fun x _ => l.length - (intOf x).toNat)
  case atStart => exact ⟨0, Nat.zero_le _, rfl, by simp, rfl⟩
  case round =>
    obtain ⟨j, hj, rfl, hnm, rfl⟩ := hrel
    have Hnm := Lib.hid hnm
    clear hnm
    by_cases hlt : j < l.length
    · obtain ⟨b, off, rfl, hb, hcell⟩ := hcell j hlt
      have h0 := hcell j hlt
      clear hcell
      by_cases hq : x = l[j]
      · have ht : (x == l[j]) = true := by simpa using hq
        go_wp2
        go_ret
        exact ⟨by rw [find_hit Hnm.out hlt (by simpa using hq)]; rfl, rfl⟩
      · have ht : (x == l[j]) = false := by simpa using hq
        go_wp2
        go_roundw
        case rel => exact ⟨j + 1, by omega, by go_num, find_miss Hnm.out hlt (by simpa using hq), by trivial⟩
        case measure => simp [intOf]; omega
    · have hje : j = l.length := by omega
      subst hje
      go_wp2
      go_ret
      exact ⟨by rw [← List.take_length (l := l), Hnm.out]; rfl, rfl⟩

set_option maxHeartbeats 400000 in
theorem containsBool (v : Value) (l : List Bool) (x : Bool) (B : Nat) (w : World) (hl : RowAt (Value.bool) w B v l) :
    Calls Try.prog 122 #[v, (Value.bool) x] w fun e w' => e = .returned (.bool (decide (x ∈ l))) ∧ w = w' := by
  have hc := indexBool v l x B w hl
  have hbd := idx_bd (fun y => decide (x = y)) l
  have HA := Lib.hid ((idx_any (fun y => decide (x = y)) l).trans (show _ = decide (x ∈ l) by rw [Bool.eq_iff_iff]; simp))
  generalize idxOf (l.findIdx? fun y => decide (x = y)) = i at *
  clear hl
  go_enter Try.func122, Try.ntmps122
  go_wp2_with (go_at_call 135; refine hc.mono ?_; rintro e w' ⟨rfl, rfl⟩)
  go_ret
  exact ⟨ret_bool HA.out, rfl⟩

set_option maxRecDepth 100000 in
set_option maxHeartbeats 400000 in
theorem equalStr (v1 v2 : Value) (l1 l2 : List ByteArray) (B : Nat) (w : World) (hl1 : RowAt (Value.string) w B v1 l1) (hl2 : RowAt (Value.string) w B v2 l2) :
    Calls Try.prog 21 #[v1, v2] w fun e w' => e = .returned (.bool (decide (l1 = l2))) ∧ ∃ n, w.drewN n = w' := by
  obtain ⟨A1, c1, rfl, hc1, hd1, hcell1⟩ := hl1.open_
  obtain ⟨A2, c2, rfl, hc2, hd2, hcell2⟩ := hl2.open_
  unfold maxLen at hd1 hd2
  clear hl1 hl2
  by_cases hlen : l1.length = l2.length
  · have HL := Lib.hid hlen
    have hb : ((l1.length : Int) != l2.length) = false := by simp [hlen]
    have hle1 : l1.length ≤ l2.length := by omega
    have hle2 : l2.length ≤ l1.length := by omega
    clear hlen
    go_enter Try.func21, Try.ntmps21
    go_wp2
    go_loopw [13] (fun s wr => ∃ j : Nat, j ≤ l1.length ∧ s = .int .i64 j ∧ l1.take j = l2.take j ∧ ∃ n, wr = w.drewN n) (fun x _ => l1.length - (intOf x).toNat)
    case atStart => exact ⟨0, Nat.zero_le _, rfl, by simp, 0, rfl⟩
    case round =>
      obtain ⟨j, hj, rfl, hnm, n, rfl⟩ := hrel
      have Hnm := Lib.hid hnm
      clear hnm
      by_cases hlt : j < l1.length
      · have hlt2 : j < l2.length := by omega
        obtain ⟨b1, off1, rfl, hb1, hcell1⟩ := hcell1 j hlt
        obtain ⟨b2, off2, rfl, hb2, hcell2⟩ := hcell2 j hlt2
        have h1 := hcell1 j hlt
        have h2 := hcell2 j hlt2
        clear hcell1 hcell2
        by_cases hq : l1[j] = l2[j]
        · have ht : (l1[j].toList == l2[j].toList) = true := by rw [str_beq]; simpa using hq
          have HQ := Lib.hid hq
          clear hq
          go_wp2
          go_quiet (fail)
          go_wp2
          go_roundw
          case rel => exact ⟨j + 1, by omega, by go_num, by rw [take_snoc l1 j hlt, take_snoc l2 j hlt2, Hnm.out, HQ.out], _, rfl⟩
          case measure => simp [intOf]; omega
        · have ht : (l1[j].toList == l2[j].toList) = false := by rw [str_beq]; simpa using hq
          have HQ := Lib.hid hq
          clear hq
          go_wp2
          go_quiet (fail)
          go_wp2
          go_ret
          exact ⟨ret_bool (by symm; rw [decide_eq_false_iff_not]; intro e; subst e; exact HQ.out rfl), q2⟩
      · have hje : j = l1.length := by omega
        subst hje
        go_wp2
        go_ret
        exact ⟨ret_bool (by symm; rw [decide_eq_true_iff]; have := Hnm.out; rw [List.take_length, HL.out, List.take_length] at this; exact this), q1⟩
  · have hb : ((l1.length : Int) != l2.length) = true := by simp; omega
    have hne : l1 ≠ l2 := fun e => hlen (by rw [e])
    go_enter Try.func21, Try.ntmps21
    go_wp2
    go_ret
    exact ⟨ret_bool (by symm; simpa using hne), 0, rfl⟩

set_option maxRecDepth 100000 in
set_option maxHeartbeats 400000 in
theorem equalInt (v1 v2 : Value) (l1 l2 : List Int) (B : Nat) (w : World) (hl1 : RowAt (Value.int .i64) w B v1 l1) (hl2 : RowAt (Value.int .i64) w B v2 l2) :
    Calls Try.prog 45 #[v1, v2] w fun e w' => e = .returned (.bool (decide (l1 = l2))) ∧ ∃ n, w.drewN n = w' := by
  obtain ⟨A1, c1, rfl, hc1, hd1, hcell1⟩ := hl1.open_
  obtain ⟨A2, c2, rfl, hc2, hd2, hcell2⟩ := hl2.open_
  unfold maxLen at hd1 hd2
  clear hl1 hl2
  by_cases hlen : l1.length = l2.length
  · have HL := Lib.hid hlen
    have hb : ((l1.length : Int) != l2.length) = false := by simp [hlen]
    have hle1 : l1.length ≤ l2.length := by omega
    have hle2 : l2.length ≤ l1.length := by omega
    clear hlen
    go_enter Try.func45, Try.ntmps45
    go_wp2
    go_loopw [13] (fun s wr => ∃ j : Nat, j ≤ l1.length ∧ s = .int .i64 j ∧ l1.take j = l2.take j ∧ ∃ n, wr = w.drewN n) (fun x _ => l1.length - (intOf x).toNat)
    case atStart => exact ⟨0, Nat.zero_le _, rfl, by simp, 0, rfl⟩
    case round =>
      obtain ⟨j, hj, rfl, hnm, n, rfl⟩ := hrel
      have Hnm := Lib.hid hnm
      clear hnm
      by_cases hlt : j < l1.length
      · have hlt2 : j < l2.length := by omega
        obtain ⟨b1, off1, rfl, hb1, hcell1⟩ := hcell1 j hlt
        obtain ⟨b2, off2, rfl, hb2, hcell2⟩ := hcell2 j hlt2
        have h1 := hcell1 j hlt
        have h2 := hcell2 j hlt2
        clear hcell1 hcell2
        by_cases hq : l1[j] = l2[j]
        · have ht : (l1[j] != l2[j]) = false := by simpa using hq
          have HQ := Lib.hid hq
          clear hq
          go_wp2
          go_quiet (fail)
          go_wp2
          go_roundw
          case rel => exact ⟨j + 1, by omega, by go_num, by rw [take_snoc l1 j hlt, take_snoc l2 j hlt2, Hnm.out, HQ.out], _, rfl⟩
          case measure => simp [intOf]; omega
        · have ht : (l1[j] != l2[j]) = true := by simpa using hq
          have HQ := Lib.hid hq
          clear hq
          go_wp2
          go_quiet (fail)
          go_wp2
          go_ret
          exact ⟨ret_bool (by symm; rw [decide_eq_false_iff_not]; intro e; subst e; exact HQ.out rfl), q2⟩
      · have hje : j = l1.length := by omega
        subst hje
        go_wp2
        go_ret
        exact ⟨ret_bool (by symm; rw [decide_eq_true_iff]; have := Hnm.out; rw [List.take_length, HL.out, List.take_length] at this; exact this), q1⟩
  · have hb : ((l1.length : Int) != l2.length) = true := by simp; omega
    have hne : l1 ≠ l2 := fun e => hlen (by rw [e])
    go_enter Try.func45, Try.ntmps45
    go_wp2
    go_ret
    exact ⟨ret_bool (by symm; simpa using hne), 0, rfl⟩

end Go.Proofs.Ytcjejcbikgcnbaa
