/- A plan of package schedule in memory: end, fits, whole. -/
import Derived.Test.YtcjejcbikgcnbaaWorkW
namespace Go.Proofs.Ytcjejcbikgcnbaa
open Go.RowKit Go.Shelf

/-! ### The plain words -/
/-- The start of a task. -/
def atI (s : List Int) (i : Nat) : Int := s.getD i 0
/-- The end of a task. -/
def endN (l : List Task) (s : List Int) (i : Nat) : Int := atI s i + lenAt l i
/-- A task runs at a time. -/
def onB (l : List Task) (s : List Int) (t : Int) (i : Nat) : Bool := decide (0 ≤ atI s i) && decide (atI s i ≤ t) && decide (t < endN l s i)
def fAt (f : Task → Int) (l : List Task) (i : Nat) : Int := (l.map f).getD i 0
/-- What the tasks below k need at a time. -/
def usedTo (f : Task → Int) (l : List Task) (s : List Int) (t : Int) : Nat → Int
  | 0 => 0
  | k + 1 => usedTo f l s t k + if onB l s t k then fAt f l k else 0
def fitsB (l : List Task) (c p : Int) (s : List Int) (t : Int) : Bool := decide (usedTo Task.crew l s t l.length ≤ c) && decide (usedTo Task.pow l s t l.length ≤ p)
/-- A start within a task's time does not fit. -/
def badB (l : List Task) (c p : Int) (s : List Int) (i : Nat) (x : Int) : Bool := decide (atI s i < x) && decide (x < endN l s i) && !fitsB l c p s x
def wholeB (l : List Task) (c p : Int) (s : List Int) (i : Nat) : Bool := fitsB l c p s (atI s i) && !s.any (badB l c p s i)

theorem atI_get {s : List Int} {i : Nat} (h : i < s.length) : atI s i = s[i] := by
  unfold atI
  rw [List.getD_eq_getElem?_getD, List.getElem?_eq_getElem h]
  rfl
theorem fAt_get {f : Task → Int} {l : List Task} {i : Nat} (h : i < l.length) : fAt f l i = f l[i] := by
  unfold fAt
  rw [List.getD_eq_getElem?_getD, List.getElem?_map, List.getElem?_eq_getElem h]
  rfl
theorem usedTo_bd {f : Task → Int} {l : List Task} {s : List Int} {t : Int} (hf : ∀ i, i < l.length → 0 ≤ fAt f l i ∧ fAt f l i ≤ 100) : ∀ k, k ≤ l.length → 0 ≤ usedTo f l s t k ∧ usedTo f l s t k ≤ 100 * k
  | 0, _ => by simp [usedTo]
  | k + 1, hk => by
    have h1 := usedTo_bd (s := s) (t := t) hf k (by omega)
    have h2 := hf k (by omega)
    unfold usedTo
    split <;> omega
theorem crew_bd {l : List Task} (hR : RightT l) (i : Nat) (hi : i < l.length) : 0 ≤ fAt Task.crew l i ∧ fAt Task.crew l i ≤ 100 := by rw [fAt_get hi]; exact fieldB_crew (hR.field i hi)
theorem pow_bd {l : List Task} (hR : RightT l) (i : Nat) (hi : i < l.length) : 0 ≤ fAt Task.pow l i ∧ fAt Task.pow l i ≤ 100 := by rw [fAt_get hi]; exact fieldB_pow (hR.field i hi)

/-! ### A plan -/
/-- Block g holds a plan; all that it reads lies below B. -/
structure PlanR (w : World) (B g : Nat) (l : List Task) (c p : Int) (tv bv sv : Value) (s : List Int) : Prop where
  blk : Blk w g 98 #[tv, bv, .int .i64 c, .int .i64 p, sv]
  hg : g < B
  tasks : TasksAt w B tv l
  starts : IntsAt w B sv s
  len : s.length = l.length
  bd : ∀ x ∈ s, -1 ≤ x ∧ x ≤ 1000000
theorem PlanR.below {w w' : World} {B g : Nat} {l : List Task} {c p : Int} {tv bv sv : Value} {s : List Int} (h : PlanR w B g l c p tv bv sv s) (hb : Below B w w') : PlanR w' B g l c p tv bv sv s :=
  ⟨h.blk.below hb h.hg, h.hg, h.tasks.below hb (Nat.le_refl _), h.starts.below hb (Nat.le_refl _), h.len, h.bd⟩
theorem PlanR.mono {w : World} {B B' g : Nat} {l : List Task} {c p : Int} {tv bv sv : Value} {s : List Int} (h : PlanR w B g l c p tv bv sv s) (hB : B ≤ B') : PlanR w B' g l c p tv bv sv s :=
  ⟨h.blk, Nat.lt_of_lt_of_le h.hg hB, h.tasks.mono hB, h.starts.mono hB, h.len, h.bd⟩
theorem PlanR.drewN {w : World} {B g : Nat} {l : List Task} {c p : Int} {tv bv sv : Value} {s : List Int} (h : PlanR w B g l c p tv bv sv s) (q : Nat) : PlanR (w.drewN q) B g l c p tv bv sv s := h.below (below_drewN (Below.refl _ _) q)
theorem PlanR.endBd {w : World} {B g : Nat} {l : List Task} {c p : Int} {tv bv sv : Value} {s : List Int} (h : PlanR w B g l c p tv bv sv s) (hR : RightT l) {i : Nat} (hi : i < l.length) : -1 ≤ atI s i ∧ atI s i ≤ 1000000 ∧ 1 ≤ lenAt l i ∧ lenAt l i ≤ 10000 := by
  have hl := h.len
  have h1 := h.bd _ (List.getElem_mem (show i < s.length by omega))
  have h2 := fieldB_len (hR.field i hi)
  rw [atI_get (by omega), lenAt_eq hi]
  exact ⟨h1.1, h1.2, h2.1, h2.2⟩
/-- A start's cell. -/
theorem PlanR.cellS {w : World} {B g : Nat} {l : List Task} {c p : Int} {tv bv sv : Value} {s : List Int} (h : PlanR w B g l c p tv bv sv s) {i : Nat} (hi : i < l.length) :
    ∃ b off cap, sv = .slice (some ⟨b, off, none⟩) l.length cap ∧ b < B ∧ l.length ≤ cap ∧ cap ≤ 9223372036854775807 ∧ ∀ j, j < l.length → w.cell? ⟨b, off + j, none⟩ = some (.int .i64 (atI s j)) := by
  have hl := h.len
  obtain ⟨A, cap, rfl, h1, h2, h3⟩ := h.starts.open_
  unfold maxLen at h2
  obtain ⟨b, off, rfl, hb, hc⟩ := h3 i (by omega)
  exact ⟨b, off, cap, by rw [hl], hb, by omega, h2, fun j hj => by rw [atI_get (by omega)]; exact hc j (by omega)⟩

set_option maxRecDepth 100000 in
set_option maxHeartbeats 1000000 in
theorem planEnd (B g : Nat) (l : List Task) (c p : Int) (tv bv sv : Value) (s : List Int) (i : Nat) (w : World) (hR : RightT l) (h : PlanR w B g l c p tv bv sv s) (hi : i < l.length) :
    Calls Try.prog 84 #[.pointer (some ⟨g, 0, none⟩), .int .i64 i] w fun e w' => e = .returned (.int .i64 (endN l s i)) ∧ ∃ q, w.drewN q = w' := by
  have hbd := h.endBd hR hi
  obtain ⟨A, cc, rfl, hA1, hA2, -⟩ := h.tasks.open_
  obtain ⟨b0, off0, rfl, hb0, hcell⟩ := h.tasks.cells hi
  obtain ⟨-, t1, -, -, -⟩ := hcell i hi
  obtain ⟨b1, off1, cap1, rfl, hb1, hl1, hl2, hs⟩ := h.cellS hi
  have h1 := hs i hi
  have p0 := h.blk.cell 0
  have p4 := h.blk.cell 4
  simp only [List.getElem?_toArray, List.getElem?_cons_succ, List.getElem?_cons_zero] at p0 p4
  rw [← lenAt_eq hi] at t1
  have i1 : (0 : Int) ≤ (i : Int) := Int.natCast_nonneg _
  have i2 : (i : Int) < (l.length : Int) := by omega
  have hw : IntKind.i64.wrap (atI s i + lenAt l i) = atI s i + lenAt l i := IntWalk.i64_in _ (by omega)
  have HE : Hid (endN l s i = atI s i + lenAt l i) := rfl
  unfold maxLen at hA2
  clear hcell hs h hbd
  generalize atI s i = x at *
  generalize lenAt l i = y at *
  go_enter Try.func84, Try.ntmps84
  go_wp2_with fail
  go_quiet (fail)
  go_wp2
  go_ret
  exact ⟨ret_int HE.out.symm, _, rfl⟩

end Go.Proofs.Ytcjejcbikgcnbaa
