/- Parts of the proof, laid into one text: SlF, FindsP, Acc. -/
import Derived.Test.YtpnongeibpkbhaaGreatDoorD5
import Derived.Test.YtpnongeibpkbhaaGreatDoorD6

/- Contracts of package slices at api.Finding. -/
namespace Go.Proofs.YtpnongeibpkbhaaGreatDoor
open Go.RowKit Go.Shelf

abbrev FindT.val (x : FindT) : Value := .agg #[.int .i64 x.kind, .string x.name]
set_option maxRecDepth 100000 in
set_option maxHeartbeats 400000 in
theorem indexFuncFind (v : Value) (l : List FindT) (K : Nat) (C : Array Value) (p : FindT → Bool) (eg : ∀ args w, (callFunc K args).run Tryz.prog w = .ok (.enter K args) w) (w : World) (hl : FindsAt w w.heap.size v l)
    (hf : ∀ t ∈ l, ∀ w', Below w.heap.size w w' → Calls Tryz.prog K (#[t.val] ++ C) w' fun e w'' => e = .returned (.bool (p t)) ∧ Below w'.heap.size w' w'') :
    Calls Tryz.prog 12 #[v, .func (.func K) #[] C] w fun e w' => e = .returned (.int .i64 (idxOf (l.findIdx? p))) ∧ Below w.heap.size w w' := by
  obtain ⟨A, c, rfl, hc1, hc2, hcell⟩ := hl.open_
  unfold maxLen at hc2
  have HF := Lib.hid hf
  clear hf
  go_enter Tryz.func12, Tryz.ntmps12
  go_wp2
  go_loopw [8] (fun x wr => ∃ j : Nat, j ≤ l.length ∧ x = .int .i64 j ∧ (l.take j).findIdx? p = none ∧ Below w.heap.size w wr) (fun x _ => l.length - (intOf x).toNat)
  case atStart => exact ⟨0, Nat.zero_le _, rfl, by simp, Below.refl _ _⟩
  case round =>
    obtain ⟨j, hj, rfl, hnm, hbel⟩ := hrel
    have Hnm := Lib.hid hnm
    clear hnm
    by_cases hlt : j < l.length
    · obtain ⟨b, off, rfl, hb, hcell⟩ := hcell j hlt
      have h0 := (hbel.cell (p := ⟨b, off + j * 2, none⟩) hb).trans (hcell j hlt).1
      have h1 := (hbel.cell (p := ⟨b, off + j * 2 + 1, none⟩) hb).trans (hcell j hlt).2
      clear hcell
      have hcall := HF.out l[j] (List.getElem_mem hlt)
      cases hq : p l[j] with
      | true =>
        rw [hq] at hcall
        go_wp2_with (go_at_fn K; refine (hcall _ hbel).mono ?_; rintro e w' ⟨rfl, hb'⟩)
        go_ret
        exact ⟨by rw [find_hit Hnm.out hlt hq]; rfl, hbel.trans (hb'.mono hbel.size)⟩
      | false =>
        rw [hq] at hcall
        go_wp2_with (go_at_fn K; refine (hcall _ hbel).mono ?_; rintro e w' ⟨rfl, hb'⟩)
        go_roundw
        case rel => exact ⟨j + 1, by omega, by go_num, find_miss Hnm.out hlt hq, hbel.trans (hb'.mono hbel.size)⟩
        case measure => simp [intOf]; omega
    · have hje : j = l.length := by omega
      subst hje
      go_wp2
      go_ret
      exact ⟨by rw [← List.take_length (l := l), Hnm.out]; rfl, hbel⟩

set_option maxHeartbeats 400000 in
theorem containsFuncFind (v : Value) (l : List FindT) (K : Nat) (C : Array Value) (p : FindT → Bool) (eg : ∀ args w, (callFunc K args).run Tryz.prog w = .ok (.enter K args) w) (w : World) (hl : FindsAt w w.heap.size v l)
    (hf : ∀ t ∈ l, ∀ w', Below w.heap.size w w' → Calls Tryz.prog K (#[t.val] ++ C) w' fun e w'' => e = .returned (.bool (p t)) ∧ Below w'.heap.size w' w'') :
    Calls Tryz.prog 19 #[v, .func (.func K) #[] C] w fun e w' => e = .returned (.bool (l.any p)) ∧ Below w.heap.size w w' := by
  have hc := indexFuncFind v l K C p eg w hl hf
  have hbd := idx_bd p l
  have HA := Lib.hid (idx_any p l)
  generalize idxOf (l.findIdx? p) = x at *
  clear hf hl
  go_enter Tryz.func19, Tryz.ntmps19
  go_wp2_with (go_at_call 12; refine hc.mono ?_; rintro e w' ⟨rfl, hb'⟩)
  go_ret
  exact ⟨ret_bool HA.out, hb'⟩

set_option maxRecDepth 100000 in
set_option maxHeartbeats 1000000 in
theorem sortedFind (v : Value) (l : List FindT) (K : Nat) (eg : ∀ args w, (callFunc K args).run Tryz.prog w = .ok (.enter K args) w) (w : World) (hl : FindsAt w w.heap.size v l) (hlen : l.length ≤ 100) (hk : ∀ x ∈ l, 1 ≤ x.kind ∧ x.kind ≤ 3)
    (hs : ∀ i (h : i + 1 < l.length), l[i].kind ≤ l[i + 1].kind)
    (hf : ∀ x ∈ l, ∀ y ∈ l, ∀ w', Calls Tryz.prog K #[x.val, y.val] w' fun e w'' => e = .returned (.int .i64 (x.kind - y.kind)) ∧ Below w'.heap.size w' w'') :
    Calls Tryz.prog 15 #[v, .func (.func K) #[] #[]] w fun e w' => e = .returned (.bool true) ∧ Below w.heap.size w w' := by
  obtain ⟨A, c, rfl, hc1, hc2, hcell⟩ := hl.open_
  unfold maxLen at hc2
  have HF := Lib.hid hf
  have HS := Lib.hid hs
  have HC := Lib.hid hcell
  have HK := Lib.hid hk
  have v0 : IntKind.i64.wrap ((l.length : Int) - 1) = (l.length : Int) - 1 := IntWalk.i64_in _ (by omega)
  clear hf hs hl hcell hk
  go_enter Tryz.func15, Tryz.ntmps15
  go_wp2_with fail
  go_loopw [5] (fun x wr => ∃ z : Int, -1 ≤ z ∧ z < l.length ∧ x = .int .i64 z ∧ Hid (Below w.heap.size w wr)) (fun x _ => (intOf x + 1).toNat)
  case atStart => exact ⟨_, by omega, by omega, rfl, Below.refl _ _⟩
  case round =>
    obtain ⟨z, hz1, hz2, rfl, HB⟩ := hrel
    by_cases h0 : 0 < z
    · obtain ⟨j, rfl⟩ : ∃ j : Nat, z = (j : Int) + 1 := ⟨(z - 1).toNat, by omega⟩
      have hj : j + 1 < l.length := by omega
      have hd : decide (0 < (j : Int) + 1) = true := decide_eq_true h0
      obtain ⟨b, off, rfl, hb, hcell⟩ := HC.out j (by omega)
      have y0 := (HB.out.cell (p := ⟨b, off + j * 2, none⟩) hb).trans (hcell j (by omega)).1
      have y1 := (HB.out.cell (p := ⟨b, off + j * 2 + 1, none⟩) hb).trans (hcell j (by omega)).2
      have z0 := (HB.out.cell (p := ⟨b, off + (j + 1) * 2, none⟩) hb).trans (hcell (j + 1) hj).1
      have z1 := (HB.out.cell (p := ⟨b, off + (j + 1) * 2 + 1, none⟩) hb).trans (hcell (j + 1) hj).2
      have hle := HS.out j hj
      have hk1 := HK.out _ (List.getElem_mem hj)
      have hk2 := HK.out _ (List.getElem_mem (show j < l.length by omega))
      have hca := HF.out l[j + 1] (List.getElem_mem hj) l[j] (List.getElem_mem (by omega))
      clear hcell
      generalize l[j + 1] = x at *
      generalize l[j] = y at *
      obtain ⟨xk, xn⟩ := x
      obtain ⟨yk, yn⟩ := y
      simp only at y0 y1 z0 z1 hle hk1 hk2 hca
      have hneg : decide (xk - yk < 0) = false := decide_eq_false (by omega)
      have i1 : 0 ≤ (j : Int) + 1 := by omega
      have i2 : (j : Int) + 1 < (l.length : Int) := by omega
      have i3 : 0 ≤ (j : Int) := by omega
      have i4 : (j : Int) < (l.length : Int) := by omega
      have v1 : IntKind.i64.wrap ((j : Int) + 1 - 1) = (j : Int) := by rw [Int.add_sub_cancel]; exact IntWalk.i64_in _ (by omega)
      go_wp2_with (exact Go.WalkKit.wp_stop)
      refine wp_region_tail 10 (by kernel_rfl) (by kernel_rfl) ?_
      simp only [List.take_succ_cons, List.take_zero, List.drop_succ_cons, List.drop_zero]
      repeat (go_big_quiet_step (fail))
      refine wpQuiet_nil ?_
      go_wp2_with (go_at_fn K; refine (hca _).mono ?_; rintro e w' ⟨rfl, hb'⟩)
      refine ⟨⟨j, by omega, by omega, rfl, HB.out.drew.trans (hb'.mono HB.out.size)⟩, ?_⟩
      simp [intOf]
      omega
    · have hd : decide (0 < z) = false := decide_eq_false h0
      go_wp2_with fail
      go_ret
      exact ⟨rfl, HB.out⟩
end Go.Proofs.YtpnongeibpkbhaaGreatDoor

/- What a line set's findings are: how many, in which order. No program in sight. -/
namespace Go.Proofs.YtpnongeibpkbhaaGreatDoor

def badB (m : Int) (f : FrT) : Bool := pushB f || overB m f
def badTo (m : Int) (l : List FrT) : Nat → Nat
  | 0 => 0
  | k + 1 => badTo m l k + (match l[k]? with | some f => if badB m f then 1 else 0 | none => 0)
theorem bad_succ {m : Int} {l : List FrT} {k : Nat} (hk : k < l.length) : badTo m l (k + 1) = badTo m l k + if badB m l[k] then 1 else 0 := by
  rw [badTo, List.getElem?_eq_getElem hk]
theorem bad_le (m : Int) (l : List FrT) : ∀ k, badTo m l k ≤ k
  | 0 => Nat.le_refl _
  | k + 1 => by
    have := bad_le m l k
    rw [badTo]
    split
    · split <;> omega
    · omega
theorem not_both {m : Int} {f : FrT} (hm : 0 ≤ m) (hd : 1 ≤ f.den) (h : pushB f = true) : overB m f = false := by
  unfold pushB at h
  rw [decide_eq_true_iff] at h
  unfold overB cmpF
  have e1 : f.num * 1 < 0 := by omega
  have e2 : 0 ≤ m * f.den := Int.mul_nonneg hm (by omega)
  rw [if_pos (show f.num * (⟨m, 1⟩ : FrT).den < (⟨m, 1⟩ : FrT).num * f.den from by show f.num * 1 < m * f.den; omega)]
  rfl
theorem hits_bad {m : Int} {l : List FrT} (hm : 0 ≤ m) (hl : ∀ f ∈ l, 1 ≤ f.den) : ∀ k, k ≤ l.length → (hitsTo 2 pushB l k).length + (hitsTo 3 (overB m) l k).length = badTo m l k
  | 0, _ => rfl
  | k + 1, hk => by
    have ih := hits_bad hm hl k (by omega)
    have hkl : k < l.length := by omega
    rw [bad_succ hkl]
    have hd := hl _ (List.getElem_mem hkl)
    unfold badB
    cases h1 : pushB l[k] with
    | true =>
      have h2 := not_both hm hd h1
      rw [hits_yes hkl h1, hits_no hkl h2, h2, List.length_append]
      simp
      omega
    | false =>
      cases h2 : overB m l[k] with
      | true =>
        rw [hits_no hkl h1, hits_yes hkl h2, List.length_append]
        simp
        omega
      | false =>
        rw [hits_no hkl h1, hits_no hkl h2]
        simp
        omega
def cntN (s : SetT) : Nat := (if holdsB s then 0 else 1) + badTo s.most (linesL s) (linesL s).length
theorem finds_len {s : SetT} (h : linesErr s = 0) : (findsL s).length = cntN s := by
  obtain ⟨hok, hg, -⟩ := lines_good h
  have hm := (setB_ok hok).most
  have := hits_bad (m := s.most) (l := linesL s) (by omega) (fun f hf => (good_bd (hg f hf)).1) _ (Nat.le_refl _)
  unfold findsL cntN holdF
  rw [List.length_append, List.length_append]
  split <;> simp <;> omega
theorem hits_kind {kind : Int} {p : FrT → Bool} {l : List FrT} : ∀ k, ∀ x ∈ hitsTo kind p l k, x.kind = kind
  | 0, x, hx => by cases hx
  | k + 1, x, hx => by
    rw [hitsTo, List.mem_append] at hx
    rcases hx with hx | hx
    · exact hits_kind k x hx
    · split at hx
      · split at hx
        · simp at hx; rw [hx]
        · cases hx
      · cases hx
theorem finds_sorted (s : SetT) : (findsL s).Pairwise fun x y => x.kind ≤ y.kind := by
  have h2 := hits_kind (kind := 2) (p := pushB) (l := linesL s) (linesL s).length
  have h3 := hits_kind (kind := 3) (p := overB s.most) (l := linesL s) (linesL s).length
  have same : ∀ (L : List FindT) (c : Int), (∀ x ∈ L, x.kind = c) → L.Pairwise fun x y => x.kind ≤ y.kind := fun L c => by
    induction L with
    | nil => intro _; exact List.Pairwise.nil
    | cons a t ih =>
      intro h
      refine List.Pairwise.cons (fun y hy => ?_) (ih fun x hx => h x (by simp [hx]))
      rw [h a (by simp), h y (by simp [hy])]
      exact Int.le_refl _
  have h1 : ∀ x ∈ holdF s, x.kind = 1 := fun x hx => by
    unfold holdF at hx
    split at hx
    · cases hx
    · simp at hx; rw [hx]
  unfold findsL
  rw [List.pairwise_append, List.pairwise_append]
  refine ⟨⟨same _ 1 h1, same _ 2 h2, fun a ha b hb => ?_⟩, same _ 3 h3, fun a ha b hb => ?_⟩
  · rw [h1 a ha, h2 b hb]; decide
  · rw [h3 b hb]
    rcases List.mem_append.1 ha with ha | ha
    · rw [h1 a ha]; decide
    · rw [h2 a ha]; decide
theorem finds_kinds (s : SetT) : ∀ x ∈ findsL s, 1 ≤ x.kind ∧ x.kind ≤ 3 := fun x hx => by
  have h2 := hits_kind (kind := 2) (p := pushB) (l := linesL s) (linesL s).length
  have h3 := hits_kind (kind := 3) (p := overB s.most) (l := linesL s) (linesL s).length
  unfold findsL at hx
  rcases List.mem_append.1 hx with hx | hx
  · rcases List.mem_append.1 hx with hx | hx
    · unfold holdF at hx
      split at hx
      · cases hx
      · simp at hx; rw [hx]; exact ⟨by show (1 : Int) ≤ 1; decide, by show (1 : Int) ≤ 3; decide⟩
    · rw [h2 x hx]; decide
  · rw [h3 x hx]; decide
theorem finds_adj (s : SetT) (i : Nat) (h1 : i + 1 < (findsL s).length) : (findsL s)[i].kind ≤ (findsL s)[i + 1].kind :=
  List.pairwise_iff_getElem.1 (finds_sorted s) i (i + 1) (by omega) h1 (by omega)
theorem finds_one (s : SetT) : (findsL s).findIdx? (fun x => x.kind == 1) = if holdsB s then none else some 0 := by
  have h2 := hits_kind (kind := 2) (p := pushB) (l := linesL s) (linesL s).length
  have h3 := hits_kind (kind := 3) (p := overB s.most) (l := linesL s) (linesL s).length
  unfold findsL holdF
  cases holdsB s with
  | true =>
    rw [if_pos rfl, if_pos rfl, List.nil_append, List.findIdx?_eq_none_iff]
    intro x hx
    rcases List.mem_append.1 hx with hx | hx
    · rw [h2 x hx]; rfl
    · rw [h3 x hx]; rfl
  | false =>
    rw [if_neg (by simp), if_neg (by simp)]
    rfl
end Go.Proofs.YtpnongeibpkbhaaGreatDoor

/- package lineset: Accepted; the closures of the law LinesetFinds. -/
namespace Go.Proofs.YtpnongeibpkbhaaGreatDoor
open Go.RowKit Go.Shelf

def accB (s : SetT) : Bool := (linesErr s == 0) && (((findsL s).length : Int) == 0)
theorem entersLF1 : ∀ args w, (callFunc 13 args).run Tryz.prog w = .ok (.enter 13 args) w := enters_of Tryz.func13 (by kernel_rfl) rfl
theorem entersLF2 : ∀ args w, (callFunc 16 args).run Tryz.prog w = .ok (.enter 16 args) w := enters_of Tryz.func16 (by kernel_rfl) rfl
theorem lawFinds1 (x : FindT) (w : World) : Calls Tryz.prog 13 #[x.val] w fun e w' => e = .returned (.bool (x.kind == 1)) ∧ Below w.heap.size w w' := by
  have HB := Lib.hid ((Below.refl _ w).alloc (Nat.le_refl _) (.cells #[.int .i64 x.kind, .string x.name] 43))
  obtain ⟨k, n⟩ := x
  simp only at *
  go_enter Tryz.func13, Tryz.ntmps13
  go_wp2_with fail
  go_ret
  exact ⟨rfl, HB.out⟩
theorem lawFinds2 (x y : FindT) (w : World) (hx : 1 ≤ x.kind ∧ x.kind ≤ 3) (hy : 1 ≤ y.kind ∧ y.kind ≤ 3) : Calls Tryz.prog 16 #[x.val, y.val] w fun e w' => e = .returned (.int .i64 (x.kind - y.kind)) ∧ Below w.heap.size w w' := by
  have HB := Lib.hid (((Below.refl _ w).alloc (Nat.le_refl _) (.cells #[.int .i64 x.kind, .string x.name] 43)).alloc (by simp) (.cells #[.int .i64 y.kind, .string y.name] 43))
  obtain ⟨k, n⟩ := x
  obtain ⟨k2, n2⟩ := y
  simp only at *
  have v1 : IntKind.i64.wrap (k - k2) = k - k2 := IntWalk.i64_in _ (by omega)
  clear hx hy
  go_enter Tryz.func16, Tryz.ntmps16
  go_wp2_with fail
  go_ret
  exact ⟨rfl, HB.out⟩
set_option maxRecDepth 100000 in
set_option maxHeartbeats 2000000 in
theorem lsAccepted (v : Value) (s : SetT) (w : World) (hv : SetAt w w.heap.size v s) (hn : SetNames s) : Calls Tryz.prog 14 #[v] w fun e w' => e = .returned (.bool (accB s)) ∧ Below w.heap.size w w' := by
  have HCh := fun W (hb : Below w.heap.size w W) => lsCheck v s W ((hv.below hb (Nat.le_refl _)).mono hb.size) hn
  obtain ⟨Al, cl, Ai, ci, Ab, cb, rfl, -, -, -⟩ := hv
  have HB1 := Lib.hid ((Below.refl _ w).alloc (Nat.le_refl _) (.cells #[.string s.name, .int .i64 s.depth, .int .i64 s.low, .int .i64 s.high, .int .i64 s.len, .slice Al s.lines.length cl, .int .i64 s.pipe, .int .i64 s.arbor, .int .i64 s.purch, .int .i64 s.most, .int .i64 s.brake, .slice Ai s.items.length ci, .slice Ab s.bricks.length cb] 26))
  have HV : Hid (accB s = ((linesErr s == 0) && (((findsL s).length : Int) == 0))) := rfl
  have hch := HCh _ HB1.out
  clear HCh hn
  unfold setVal at *
  go_enter Tryz.func14, Tryz.ntmps14
  go_wp2_with fail
  refine hch.mono ?_
  rintro e w2 ⟨hb2, ⟨hE, u, rfl, h⟩ | ⟨hE, rfl⟩⟩
  · obtain ⟨A, c, rfl, -⟩ := h.open_
    have hb := HB1.out.trans (hb2.mono HB1.out.size)
    have hv := HV.out
    rw [hE] at hv
    have HV2 := Lib.hid hv
    clear hE h hb2 hch HV hv
    generalize (findsL s).length = n at *
    go_wp2_with fail
    go_ret
    exact ⟨ret_bool (by rw [HV2.out]; rfl), hb⟩
  · have hb := HB1.out.trans (hb2.mono HB1.out.size)
    have hk1 : (linesErr s == 0) = false := beq_eq_false_iff_ne.2 hE
    have hv := HV.out
    rw [hk1] at hv
    have HV2 := Lib.hid hv
    clear hE hb2 hch HV hv
    generalize linesErr s = k at *
    go_wp2_with fail
    go_ret
    exact ⟨ret_bool (by rw [HV2.out]; rfl), hb⟩
end Go.Proofs.YtpnongeibpkbhaaGreatDoor
