/- Parts of the proof, laid into one text: Equil, EaseP, EaseW. -/
import Derived.Test.YtpnongeibpkbhaaGreatDoorC1
import Derived.Test.YtpnongeibpkbhaaGreatDoorD7

/- The supports of a beam bear its weight. No program in sight. -/
namespace Go.Proofs.YtpnongeibpkbhaaGreatDoor

theorem prodR2 (d a b : Int) : prodR d [a, b] = (a : Rat) * (b : Rat) / (d : Rat) := by
  unfold prodR
  rw [show prodZ [a, b] = 1 * a * b from rfl, Rat.divInt_eq_div, Int.one_mul, Rat.intCast_mul]
/-- What a load gives. -/
def givesR (o : Option Rat) : Rat := match o with | some y => y | none => 0
theorem over_step {b : BeamT} {f : LoadT → Option Rat} {s : Rat} {k : Nat} (hk : k < b.loads.length) : overLoads b f s (k + 1) = overLoads b f s k + givesR (f b.loads[k]) := by
  rw [overLoads_succ hk]
  cases f b.loads[k] with
  | none => show _ = _ + (0 : Rat); rw [Rat.add_zero]
  | some y => rfl
/-- What lies at a place or to its left. -/
def uptoR (b : BeamT) (a : Int) (k : Nat) : Rat := beyondTo b a k + hereTo b a k
theorem lever_one {lo hi : Int} (h : lo < hi) (x : LoadT) : givesR (leverF lo hi false x) + givesR (leverF lo hi true x) + (givesR (beyondF lo x) + givesR (hereF lo x)) = givesR (beyondF hi x) := by
  unfold leverF beyondF hereF
  have hne : (hi : Rat) - (lo : Rat) ≠ 0 := by
    rw [← Rat.intCast_sub]
    intro h0
    have : hi - lo = 0 := Rat.intCast_eq_zero_iff.mp h0
    omega
  by_cases c1 : x.pos ≤ lo
  · rw [if_pos (.inl c1), if_pos (.inl c1), if_pos (show x.pos < hi by omega)]
    by_cases c2 : x.pos = lo
    · rw [if_neg (show ¬ x.pos < lo by omega), if_pos c2]
      simp only [givesR]
      grind
    · rw [if_pos (show x.pos < lo by omega), if_neg c2]
      simp only [givesR]
      grind
  · by_cases c2 : hi ≤ x.pos
    · rw [if_pos (.inr c2), if_pos (.inr c2), if_neg (show ¬ x.pos < hi by omega), if_neg (show ¬ x.pos < lo by omega), if_neg (show ¬ x.pos = lo by omega)]
      simp only [givesR]
      grind
    · rw [if_neg (show ¬ (x.pos ≤ lo ∨ hi ≤ x.pos) by omega), if_neg (show ¬ (x.pos ≤ lo ∨ hi ≤ x.pos) by omega), if_pos (show x.pos < hi by omega), if_neg (show ¬ x.pos < lo by omega), if_neg (show ¬ x.pos = lo by omega)]
      simp only [givesR, prodR2, if_true, if_false, Bool.false_eq_true, Rat.intCast_sub, reduceIte]
      grind
theorem lever_add (b : BeamT) {lo hi : Int} (h : lo < hi) : ∀ k, k ≤ b.loads.length → leverTo b lo hi false k + leverTo b lo hi true k + uptoR b lo k = beyondTo b hi k
  | 0, _ => by
    show prodR 2000 [b.even, hi - lo] + prodR 2000 [b.even, hi - lo] + (prodR 1000 [b.even, lo] + ((0 : Int) : Rat)) = prodR 1000 [b.even, hi]
    simp only [prodR2, Rat.intCast_sub]
    grind
  | k + 1, hk => by
    have ih := lever_add b h k (by omega)
    have hkl : k < b.loads.length := by omega
    have h1 := lever_one h b.loads[k]
    unfold uptoR leverTo beyondTo hereTo at *
    rw [over_step hkl, over_step hkl, over_step hkl, over_step hkl, over_step hkl]
    generalize overLoads b (leverF lo hi false) _ k = u1 at *
    generalize overLoads b (leverF lo hi true) _ k = u2 at *
    generalize overLoads b (beyondF lo) _ k = u3 at *
    generalize overLoads b (hereF lo) _ k = u4 at *
    generalize overLoads b (beyondF hi) _ k = u5 at *
    generalize givesR (leverF lo hi false b.loads[k]) = v1 at *
    generalize givesR (leverF lo hi true b.loads[k]) = v2 at *
    generalize givesR (beyondF lo b.loads[k]) = v3 at *
    generalize givesR (hereF lo b.loads[k]) = v4 at *
    generalize givesR (beyondF hi b.loads[k]) = v5 at *
    grind
/-- All that lies on the beam. -/
def allF (x : LoadT) : Option Rat := some ((x.wt : Int) : Rat)
def allR (b : BeamT) (k : Nat) : Rat := overLoads b allF (prodR 1000 [b.even, b.len]) k
theorem turn_one (n a : Int) (x : LoadT) : givesR (beyondF a x) + givesR (hereF a x) + givesR (beyondF (n - a) ⟨n - x.pos, x.wt⟩) = givesR (allF x) := by
  unfold beyondF hereF allF
  by_cases c1 : x.pos < a
  · rw [if_pos c1, if_neg (show ¬ x.pos = a by omega), if_neg (show ¬ (⟨n - x.pos, x.wt⟩ : LoadT).pos < n - a by show ¬ n - x.pos < n - a; omega)]
    simp only [givesR]
    grind
  · by_cases c2 : x.pos = a
    · rw [if_neg c1, if_pos c2, if_neg (show ¬ (⟨n - x.pos, x.wt⟩ : LoadT).pos < n - a by show ¬ n - x.pos < n - a; omega)]
      simp only [givesR]
      grind
    · rw [if_neg c1, if_neg c2, if_pos (show (⟨n - x.pos, x.wt⟩ : LoadT).pos < n - a by show n - x.pos < n - a; omega)]
      simp only [givesR]
      grind
theorem turned_add (b : BeamT) (a : Int) : ∀ k, k ≤ b.loads.length → uptoR b a k + beyondTo (turnedT b) (b.len - a) k = allR b k
  | 0, _ => by
    show prodR 1000 [b.even, a] + ((0 : Int) : Rat) + prodR 1000 [b.even, b.len - a] = prodR 1000 [b.even, b.len]
    simp only [prodR2, Rat.intCast_sub]
    grind
  | k + 1, hk => by
    have ih := turned_add b a k (by omega)
    have hkl : k < b.loads.length := by omega
    have hkt : k < (turnedT b).loads.length := by simpa [turnedT] using hkl
    have ht : (turnedT b).loads[k] = ⟨b.len - b.loads[k].pos, b.loads[k].wt⟩ := by simp [turnedT]
    have h1 := turn_one b.len a b.loads[k]
    unfold uptoR beyondTo hereTo allR at *
    rw [over_step hkl, over_step hkl, over_step hkl, over_step hkt, ht]
    generalize overLoads b (beyondF a) _ k = u1 at *
    generalize overLoads b (hereF a) _ k = u2 at *
    generalize overLoads (turnedT b) _ _ k = u3 at *
    generalize overLoads b allF _ k = u4 at *
    generalize givesR (beyondF a b.loads[k]) = v1 at *
    generalize givesR (hereF a b.loads[k]) = v2 at *
    generalize givesR (beyondF (b.len - a) _) = v3 at *
    generalize givesR (allF b.loads[k]) = v4 at *
    grind
def sumRe (b : BeamT) : Nat → Rat
  | 0 => 0
  | k + 1 => sumRe b k + reactR b k
theorem sum_react (b : BeamT) (hinc : ∀ i, i + 1 < b.sup.length → supAt b i < supAt b (i + 1)) : ∀ k, k + 1 < b.sup.length →
    sumRe b (k + 1) = uptoR b (supAt b k) b.loads.length + leverR b (supAt b k) (supAt b (k + 1)) true + (momAt b (k + 1) - momAt b k) / ((spanK b (k + 1) : Int) : Rat)
  | 0, hk => by
    rw [sumRe, sumRe]
    unfold reactR react4 react3 react2 react1 uptoR beyondR
    rw [if_neg (by omega), if_pos rfl, if_pos hk, if_neg (by omega)]
    grind
  | k + 1, hk => by
    have ih := sum_react b hinc k (by omega)
    have hl := lever_add b (hinc k (by omega)) b.loads.length (Nat.le_refl _)
    rw [sumRe, ih]
    unfold reactR react4 react3 react2 react1
    rw [if_neg (by omega), if_neg (by omega), if_pos hk, if_pos (by omega), Nat.add_sub_cancel]
    unfold uptoR leverR at *
    grind
theorem equil (b : BeamT) (hn : 2 ≤ b.sup.length) (hinc : ∀ i, i + 1 < b.sup.length → supAt b i < supAt b (i + 1)) : sumRe b b.sup.length = allR b b.loads.length := by
  obtain ⟨k, hk⟩ : ∃ k, b.sup.length = k + 2 := ⟨b.sup.length - 2, by omega⟩
  have h1 := sum_react b hinc k (by omega)
  have hl := lever_add b (hinc k (by omega)) b.loads.length (Nat.le_refl _)
  have ht := turned_add b (supAt b (k + 1)) b.loads.length (Nat.le_refl _)
  rw [hk, sumRe, h1]
  unfold reactR react4 react3 react2 react1
  rw [if_pos (by omega), if_neg (by omega), if_neg (by omega), if_pos (by omega), Nat.add_sub_cancel]
  have e : beyondR (turnedT b) (b.len - supAt b (k + 1)) = beyondTo (turnedT b) (b.len - supAt b (k + 1)) b.loads.length := by
    unfold beyondR
    rw [show (turnedT b).loads.length = b.loads.length by simp [turnedT]]
  rw [e]
  unfold uptoR leverR at *
  grind
end Go.Proofs.YtpnongeibpkbhaaGreatDoor

/- What a greater brake or a greater bearing does to a line set's findings. No program in sight. -/
namespace Go.Proofs.YtpnongeibpkbhaaGreatDoor

def easeS (s : SetT) (k m : Int) : SetT := ⟨s.name, s.depth, s.low, s.high, s.len, s.lines, s.pipe, s.arbor, s.purch, m, k, s.items, s.bricks⟩
theorem ease_err {s : SetT} (h : linesErr s = 0) (k m : Int) : linesErr (easeS s k m) = if setB (easeS s k m) then 0 else 1 := by
  have e : allOk (reactL (beamS s)) = true := by
    unfold linesErr at h
    cases hs : setB s with
    | false => rw [hs] at h; cases h
    | true =>
      rw [hs] at h
      cases ha : allOk (reactL (beamS s)) with
      | false => rw [ha] at h; cases h
      | true => rfl
  unfold linesErr
  rw [show beamS (easeS s k m) = beamS s from rfl, e]
  rfl
theorem ease_valid {s : SetT} (h : setB s = true) : setB (easeS s 67108864 67108864) = true := by
  unfold setB at *
  simp only [Bool.and_eq_true] at *
  obtain ⟨h0, h1, h2, h3, h4, h5, h6, h7, h8, h9, h10, -, -, h13, h14⟩ := h
  exact ⟨h0, h1, h2, h3, h4, h5, h6, h7, h8, h9, h10, rfl, rfl, h13, h14⟩
theorem hits_mono {kind : Int} {p q : FrT → Bool} {l : List FrT} (h : ∀ f ∈ l, p f = true → q f = true) : ∀ n, n ≤ l.length → ∀ x ∈ hitsTo kind p l n, x ∈ hitsTo kind q l n
  | 0, _, x, hx => by cases hx
  | n + 1, hn, x, hx => by
    have hl : n < l.length := by omega
    have ih := hits_mono (kind := kind) h n (by omega) x
    cases hp : p l[n] with
    | true =>
      have hq := h _ (List.getElem_mem hl) hp
      rw [hits_yes hl hp] at hx
      rw [hits_yes hl hq]
      rcases List.mem_append.1 hx with h1 | h1
      · exact List.mem_append.2 (.inl (ih h1))
      · exact List.mem_append.2 (.inr h1)
    | false =>
      rw [hits_no hl hp] at hx
      cases hq : q l[n] with
      | true => rw [hits_yes hl hq]; exact List.mem_append.2 (.inl (ih hx))
      | false => rw [hits_no hl hq]; exact ih hx
theorem over_iff {m : Int} {f : FrT} (_hd : 1 ≤ f.den) : overB m f = true ↔ m * f.den < f.num := by
  unfold overB cmpF
  rw [decide_eq_true_iff]
  show 0 < (if f.num * 1 < m * f.den then -1 else if m * f.den < f.num * 1 then 1 else (0 : Int)) ↔ _
  rw [Int.mul_one]
  split
  · omega
  · split <;> omega
theorem over_mono {m m' : Int} {f : FrT} (hd : 1 ≤ f.den) (hm : m ≤ m') (h : overB m' f = true) : overB m f = true := by
  rw [over_iff hd] at *
  have := Int.mul_le_mul_of_nonneg_right hm (show 0 ≤ f.den by omega)
  omega
theorem holds_mono {s : SetT} {k m : Int} (hk : s.brake ≤ k) (h : holdsB s = true) : holdsB (easeS s k m) = true := by
  unfold holdsB at *
  rw [decide_eq_true_iff] at *
  show max (balanceN s) (-balanceN s) ≤ k
  omega
theorem ease_sub {s : SetT} (h : linesErr s = 0) {k m : Int} (hk : s.brake ≤ k) (hm : s.most ≤ m) : ∀ x ∈ findsL (easeS s k m), x ∈ findsL s := by
  obtain ⟨-, hg, -⟩ := lines_good h
  intro x hx
  unfold findsL at *
  rw [show linesL (easeS s k m) = linesL s from rfl] at hx
  rcases List.mem_append.1 hx with h1 | h1
  · rcases List.mem_append.1 h1 with h2 | h2
    · refine List.mem_append.2 (.inl (List.mem_append.2 (.inl ?_)))
      unfold holdF at *
      cases hh : holdsB s with
      | true => rw [if_pos (holds_mono hk hh)] at h2; cases h2
      | false =>
        rw [if_neg (by simp)]
        split at h2
        · cases h2
        · exact h2
    · exact List.mem_append.2 (.inl (List.mem_append.2 (.inr h2)))
  · exact List.mem_append.2 (.inr (hits_mono (fun f hf hp => over_mono (good_bd (hg f hf)).1 hm hp) _ (Nat.le_refl _) x h1))
theorem sumRe_ge {b : BeamT} : ∀ n, (∀ i, i < n → 0 ≤ reactR b i) → 0 ≤ sumRe b n ∧ ∀ j, j < n → reactR b j ≤ sumRe b n
  | 0, _ => ⟨by rw [sumRe]; grind, fun j hj => by omega⟩
  | n + 1, h => by
    obtain ⟨h1, h2⟩ := sumRe_ge n (fun i hi => h i (by omega))
    have h3 := h n (by omega)
    rw [sumRe]
    refine ⟨by grind, fun j hj => ?_⟩
    by_cases hjn : j < n
    · have := h2 j hjn
      grind
    · obtain rfl : j = n := by omega
      grind
theorem all_weight {s : SetT} (h8 : s.len % 1000 = 0) : ∀ k, k ≤ s.items.length → allR (beamS s) k = ((wtTo s k : Int) : Rat)
  | 0, _ => by
    show prodR 1000 [s.pipe, s.len] = _
    rw [prodR2]
    obtain ⟨q, hq⟩ : ∃ q, s.len = q * 1000 := ⟨s.len / 1000, by omega⟩
    have : wtTo s 0 = s.pipe * q := by
      unfold wtTo pipeN
      rw [hq, Int.mul_ediv_cancel _ (by decide)]
      simp
    rw [this, hq, Rat.intCast_mul, Rat.intCast_mul]
    grind
  | k + 1, hk => by
    have ih := all_weight h8 k (by omega)
    have hkl : k < (beamS s).loads.length := by show k < (s.items.map loadOf).length; rw [List.length_map]; omega
    have e : (beamS s).loads[k] = loadOf s.items[k] := by simp [beamS]
    unfold allR at *
    rw [over_step hkl, ih, wtTo_succ s k (by omega), Rat.intCast_add, e]
    rfl
theorem sum_weight {s : SetT} (h : setB s = true) : sumRe (beamS s) s.lines.length = ((weightN s : Int) : Rat) := by
  have h8 : s.len % 1000 = 0 := by
    unfold setB at h
    simp only [Bool.and_eq_true, beq_iff_eq] at h
    exact h.2.2.2.2.2.2.1
  have hl := (setB_ok h).lines
  unfold linesB at hl
  simp only [Bool.and_eq_true] at hl
  have hinc := hl.2.2.2
  unfold incTo at hinc
  rw [decide_eq_true_iff] at hinc
  have h2 := (set_two h).1
  have := equil (beamS s) h2 (fun i hi => hinc (i + 1) hi (by omega))
  rw [show (beamS s).loads.length = s.items.length by show (s.items.map loadOf).length = _; rw [List.length_map], all_weight h8 _ (Nat.le_refl _)] at this
  exact this
theorem hits_nil {kind : Int} {p : FrT → Bool} {l : List FrT} (h : ∀ f ∈ l, p f = false) : ∀ n, n ≤ l.length → hitsTo kind p l n = []
  | 0, _ => rfl
  | n + 1, hn => by rw [hits_no (show n < l.length by omega) (h _ (List.getElem_mem _)), hits_nil h n (by omega)]
theorem hits_none {kind : Int} {p : FrT → Bool} {l : List FrT} : ∀ n, n ≤ l.length → hitsTo kind p l n = [] → ∀ i (hi : i < n) (hl : i < l.length), p l[i] = false
  | 0, _, _, i, hi, _ => by omega
  | n + 1, hn, h, i, hi, hl => by
    have hnl : n < l.length := by omega
    cases hp : p l[n] with
    | true => rw [hits_yes hnl hp] at h; exact absurd h (by simp)
    | false =>
      rw [hits_no hnl hp] at h
      by_cases hin : i < n
      · exact hits_none n (by omega) h i hin hl
      · obtain rfl : i = n := by omega
        exact hp
/-- With the greatest brake and bearing, only what pushes is found. -/
theorem ease_end {s : SetT} (h : linesErr s = 0) (hb : max (balanceN s) (-balanceN s) ≤ 67108864) (hw : weightN s ≤ 67108864) :
    ((findsL (easeS s 67108864 67108864)).any (fun x => x.kind == 2) || (((findsL (easeS s 67108864 67108864)).length : Int) == 0)) = true := by
  obtain ⟨hok, hg, -⟩ := lines_good h
  cases ha : (findsL (easeS s 67108864 67108864)).any (fun x => x.kind == 2) with
  | true => rfl
  | false =>
    have hsum := sum_weight hok
    have e1 : holdF (easeS s 67108864 67108864) = [] := by
      unfold holdF
      rw [if_pos]
      unfold holdsB
      exact decide_eq_true hb
    have e2 : hitsTo 2 pushB (linesL s) (linesL s).length = [] := by
      match hh : hitsTo 2 pushB (linesL s) (linesL s).length with
      | [] => rfl
      | x :: t =>
        exfalso
        have hx : x ∈ hitsTo 2 pushB (linesL s) (linesL s).length := by rw [hh]; simp
        have hk := hits_kind _ x hx
        rw [List.any_eq_false] at ha
        have := ha x (by unfold findsL; exact List.mem_append.2 (.inl (List.mem_append.2 (.inr hx))))
        simp [hk] at this
    have hnp := hits_none _ (Nat.le_refl _) e2
    have hlen : (linesL s).length = s.lines.length := by
      unfold linesL reactL
      rw [List.length_map, List.length_map, List.length_range]
      rfl
    have hget : ∀ i (hi : i < (linesL s).length), (linesL s)[i] = frOf (reactR (beamS s) i) := fun i hi => by
      simp [linesL, reactL]
    have hnn : ∀ i, i < s.lines.length → 0 ≤ reactR (beamS s) i := fun i hi => by
      have := hnp i (by omega) (by omega)
      rw [hget] at this
      unfold pushB at this
      rw [decide_eq_false_iff_not] at this
      have h2 : ¬ (reactR (beamS s) i).num < 0 := this
      exact Rat.num_nonneg.1 (by omega)
    have hle := (sumRe_ge _ hnn).2
    have e3 : hitsTo 3 (overB 67108864) (linesL s) (linesL s).length = [] := by
      refine hits_nil (fun f hf => ?_) _ (Nat.le_refl _)
      obtain ⟨i, hi, rfl⟩ := List.getElem_of_mem hf
      have hd := (good_bd (hg _ hf)).1
      cases ho : overB 67108864 (linesL s)[i] with
      | false => rfl
      | true =>
        exfalso
        rw [over_iff hd, hget i hi] at ho
        have hle2 := hle i (by omega)
        rw [hsum, Rat.le_iff] at hle2
        simp only [Rat.num_intCast, Rat.den_intCast] at hle2
        have h3 : (67108864 : Int) * (reactR (beamS s) i).den < (reactR (beamS s) i).num := ho
        have h4 := Int.mul_le_mul_of_nonneg_right hw (show (0 : Int) ≤ ((reactR (beamS s) i).den : Int) by omega)
        omega
    have : findsL (easeS s 67108864 67108864) = [] := by
      unfold findsL
      rw [e1, show linesL (easeS s 67108864 67108864) = linesL s from rfl, e2]
      exact e3
    rw [this]
    rfl
end Go.Proofs.YtpnongeibpkbhaaGreatDoor

/- The closures of the law LinesetEasier; slices.Index and slices.Contains at api.Finding. -/
namespace Go.Proofs.YtpnongeibpkbhaaGreatDoor
open Go.RowKit Go.Shelf

theorem entersEa1 : ∀ args w, (callFunc 17 args).run Tryz.prog w = .ok (.enter 17 args) w := enters_of Tryz.func17 (by kernel_rfl) rfl
theorem entersEa2 : ∀ args w, (callFunc 18 args).run Tryz.prog w = .ok (.enter 18 args) w := enters_of Tryz.func18 (by kernel_rfl) rfl
theorem entersEa3 : ∀ args w, (callFunc 20 args).run Tryz.prog w = .ok (.enter 20 args) w := enters_of Tryz.func20 (by kernel_rfl) rfl
theorem entersEa4 : ∀ args w, (callFunc 24 args).run Tryz.prog w = .ok (.enter 24 args) w := enters_of Tryz.func24 (by kernel_rfl) rfl
set_option maxRecDepth 100000 in
set_option maxHeartbeats 1000000 in
theorem easeOne (D M : Nat) (b m : Int) (w : World) (hb : w.cell? ⟨D, 10, none⟩ = some (.int .i64 b)) (hm : w.cell? ⟨M, 0, none⟩ = some (.int .u16 m)) (hz : w.frozen? ⟨D, 10, none⟩ = false) (h1 : 0 ≤ b ∧ b ≤ 67108864) (h2 : 0 ≤ m ∧ m ≤ 65535) :
    Calls Tryz.prog 17 #[.pointer (some ⟨D, 0, none⟩), .pointer (some ⟨M, 0, none⟩)] w fun e w' => e = .returned (.tuple #[]) ∧ w' = (w.setCell ⟨D, 10, none⟩ (.int .i64 (b + m))).drew := by
  have v1 : IntKind.i64.wrap m = m := IntWalk.i64_in _ (by omega)
  have v2 : IntKind.i64.wrap (b + m) = b + m := IntWalk.i64_in _ (by omega)
  clear h1 h2
  go_enter Tryz.func17, Tryz.ntmps17
  go_wp2_with (exact Go.WalkKit.wp_stop)
  refine wp_region_tail 9 (by kernel_rfl) (by kernel_rfl) ?_
  simp only [List.take_succ_cons, List.take_zero, List.drop_succ_cons, List.drop_zero]
  repeat (go_big_quiet_step (fail))
  refine wpQuiet_nil ?_
  go_wp2_with fail
  refine bodyPost_end (v := .tuple #[]) (by simp [results, Tryz.results17, go_sem]) rfl ?_
  exact ⟨rfl, rfl⟩
set_option maxRecDepth 100000 in
set_option maxHeartbeats 1000000 in
theorem easeTwo (D M : Nat) (b m : Int) (w : World) (hb : w.cell? ⟨D, 9, none⟩ = some (.int .i64 b)) (hm : w.cell? ⟨M, 0, none⟩ = some (.int .u16 m)) (hz : w.frozen? ⟨D, 9, none⟩ = false) (h1 : 1 ≤ b ∧ b ≤ 67108864) (h2 : 0 ≤ m ∧ m ≤ 65535) :
    Calls Tryz.prog 18 #[.pointer (some ⟨D, 0, none⟩), .pointer (some ⟨M, 0, none⟩)] w fun e w' => e = .returned (.tuple #[]) ∧ w' = (w.setCell ⟨D, 9, none⟩ (.int .i64 (b + m))).drew := by
  have v1 : IntKind.i64.wrap m = m := IntWalk.i64_in _ (by omega)
  have v2 : IntKind.i64.wrap (b + m) = b + m := IntWalk.i64_in _ (by omega)
  clear h1 h2
  go_enter Tryz.func18, Tryz.ntmps18
  go_wp2_with (exact Go.WalkKit.wp_stop)
  refine wp_region_tail 9 (by kernel_rfl) (by kernel_rfl) ?_
  simp only [List.take_succ_cons, List.take_zero, List.drop_succ_cons, List.drop_zero]
  repeat (go_big_quiet_step (fail))
  refine wpQuiet_nil ?_
  go_wp2_with fail
  refine bodyPost_end (v := .tuple #[]) (by simp [results, Tryz.results18, go_sem]) rfl ?_
  exact ⟨rfl, rfl⟩
theorem easeFour (x : FindT) (w : World) : Calls Tryz.prog 24 #[x.val] w fun e w' => e = .returned (.bool (x.kind == 2)) ∧ Below w.heap.size w w' := by
  have HB := Lib.hid ((Below.refl _ w).alloc (Nat.le_refl _) (.cells #[.int .i64 x.kind, .string x.name] 43))
  obtain ⟨k, n⟩ := x
  simp only at *
  go_enter Tryz.func24, Tryz.ntmps24
  go_wp2_with fail
  go_ret
  exact ⟨rfl, HB.out⟩
set_option maxRecDepth 100000 in
set_option maxHeartbeats 1000000 in
theorem indexFind (v : Value) (l : List FindT) (x : FindT) (B : Nat) (w : World) (hl : FindsAt w B v l) (hB : B ≤ w.heap.size) :
    Calls Tryz.prog 42 #[v, x.val] w fun e w' => e = .returned (.int .i64 (idxOf (l.findIdx? fun y => decide (x = y)))) ∧ Below w.heap.size w w' := by
  obtain ⟨A, c, rfl, hc1, hc2, hcell⟩ := hl.open_
  unfold maxLen at hc2
  have HC := Lib.hid hcell
  have HB := Lib.hid ((Below.refl _ w).alloc (Nat.le_refl _) (.cells #[.int .i64 x.kind, .string x.name] 43))
  have HD := Lib.hid (Blk.new w 43 #[.int .i64 x.kind, .string x.name])
  clear hl hcell
  go_enter Tryz.func42, Tryz.ntmps42
  go_wp2_with fail
  generalize w.alloc (.cells #[.int .i64 x.kind, .string x.name] 43) = W1 at *
  go_loopw [8] (fun s wr => ∃ j : Nat, j ≤ l.length ∧ s = .int .i64 j ∧ Hid ((l.take j).findIdx? (fun y => decide (x = y)) = none) ∧ ∃ n, wr = W1.drewN n) (fun x _ => l.length - (intOf x).toNat)
  case atStart => exact ⟨0, Nat.zero_le _, rfl, by unfold Hid; simp, 0, rfl⟩
  case round =>
    obtain ⟨j, hj, rfl, Hnm, n, rfl⟩ := hrel
    by_cases hlt : j < l.length
    · obtain ⟨b, off, rfl, hb, hcell⟩ := HC.out j hlt
      have hb' : b < w.heap.size := Nat.lt_of_lt_of_le hb hB
      have h1 := (HB.out.cell (p := ⟨b, off + j * 2, none⟩) hb').trans (hcell j hlt).1
      have h2 := (HB.out.cell (p := ⟨b, off + j * 2 + 1, none⟩) hb').trans (hcell j hlt).2
      have z0 := HD.out.cell 0
      have z1 := HD.out.cell 1
      simp only [List.getElem?_toArray, List.getElem?_cons_succ, List.getElem?_cons_zero] at z0 z1
      clear hcell
      by_cases hq : x = l[j]
      · have ht : (x.kind == l[j].kind) = true := by rw [← hq]; exact beq_self_eq_true _
        have ht' : (x.name.toList == l[j].name.toList) = true := by rw [← hq]; exact beq_self_eq_true _
        have HQ := Lib.hid hq
        clear hq
        go_wp2_with fail
        go_quiet (fail)
        go_wp2_with fail
        go_ret
        exact ⟨by rw [find_hit Hnm.out hlt (decide_eq_true HQ.out)]; rfl, below_drewN (below_drewN HB.out _) _⟩
      · have HQ := Lib.hid hq
        by_cases hn : x.kind = l[j].kind
        · have ht : (x.kind == l[j].kind) = true := beq_iff_eq.2 hn
          have ht' : (x.name.toList == l[j].name.toList) = false := by
            rw [str_beq]
            exact decide_eq_false fun h => HQ.out (by
              cases e1 : x; cases e2 : l[j]
              rw [e1, e2] at hn h
              simp only at hn h
              rw [hn, h])
          clear hq hn
          go_wp2_with fail
          go_quiet (fail)
          go_wp2_with fail
          go_roundw
          case rel => exact ⟨j + 1, by omega, by go_num, find_miss Hnm.out hlt (decide_eq_false HQ.out), _, rfl⟩
          case measure => simp [intOf]; omega
        · have ht : (x.kind == l[j].kind) = false := beq_eq_false_iff_ne.2 hn
          clear hq hn
          go_wp2_with fail
          go_quiet (fail)
          go_wp2_with fail
          go_roundw
          case rel => exact ⟨j + 1, by omega, by go_num, find_miss Hnm.out hlt (decide_eq_false HQ.out), _, rfl⟩
          case measure => simp [intOf]; omega
    · have hje : j = l.length := by omega
      subst hje
      go_wp2_with fail
      go_ret
      exact ⟨by rw [← List.take_length (l := l), Hnm.out]; rfl, below_drewN HB.out _⟩
set_option maxHeartbeats 400000 in
theorem containsFind (v : Value) (l : List FindT) (x : FindT) (B : Nat) (w : World) (hl : FindsAt w B v l) (hB : B ≤ w.heap.size) :
    Calls Tryz.prog 21 #[v, x.val] w fun e w' => e = .returned (.bool (l.any fun y => decide (x = y))) ∧ Below w.heap.size w w' := by
  have HB := Lib.hid ((Below.refl _ w).alloc (Nat.le_refl _) (.cells #[.int .i64 x.kind, .string x.name] 43))
  have hc := fun W (hb : Below w.heap.size w W) => indexFind v l x B W (hl.below hb hB) (Nat.le_trans hB hb.size)
  have hc1 := hc _ HB.out
  have hbd := idx_bd (fun y => decide (x = y)) l
  have HA := Lib.hid (idx_any (fun y => decide (x = y)) l)
  generalize idxOf (l.findIdx? fun y => decide (x = y)) = r at *
  obtain ⟨A, c, rfl, hc1', hc2, -⟩ := hl.open_
  clear hl hc
  go_enter Tryz.func21, Tryz.ntmps21
  go_wp2_with (go_at_call 42; refine hc1.mono ?_; rintro e w' ⟨rfl, hb'⟩)
  go_ret
  exact ⟨ret_bool HA.out, HB.out.trans (hb'.mono HB.out.size)⟩
set_option maxHeartbeats 1000000 in
theorem easeThree (v : Value) (l : List FindT) (x : FindT) (B D : Nat) (w : World) (hl : FindsAt w B v l) (hB : B ≤ w.heap.size) (hc : w.cell? ⟨D, 0, none⟩ = some v) (hD : D < w.heap.size) :
    Calls Tryz.prog 20 (#[x.val] ++ #[.pointer (some ⟨D, 0, none⟩)]) w fun e w' => e = .returned (.bool (!l.any fun y => decide (x = y))) ∧ Below w.heap.size w w' := by
  have HB := Lib.hid ((Below.refl _ w).alloc (Nat.le_refl _) (.cells #[.int .i64 x.kind, .string x.name] 43))
  have h0 := (HB.out.cell (p := ⟨D, 0, none⟩) hD).trans hc
  have hco := containsFind v l x B _ (hl.below HB.out hB) (Nat.le_trans hB HB.out.size)
  generalize (l.any fun y => decide (x = y)) = r at *
  obtain ⟨A, c, rfl, -, -, -⟩ := hl.open_
  clear hl hc
  show Calls Tryz.prog 20 #[.agg #[.int .i64 x.kind, .string x.name], .pointer (some ⟨D, 0, none⟩)] w _
  go_enter Tryz.func20, Tryz.ntmps20
  go_wp2_with fail
  refine hco.mono ?_
  rintro e w2 ⟨rfl, hb2⟩
  have hb := HB.out.trans (hb2.mono HB.out.size)
  go_wp2_with fail
  go_ret
  exact ⟨rfl, hb⟩
end Go.Proofs.YtpnongeibpkbhaaGreatDoor
