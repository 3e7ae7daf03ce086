/- Words for memory that the walks of this seat share: slices of one-cell elements and of tasks, read in a world; small facts on draws, appends, searches. -/
import Derived.Test.YtcjejcbikgcnbaaProg
import Derived.WalkKit
import Derived.WalkSpells
import Derived.WalkLawsBesides
import Derived.BigQuiet
import Derived.Deep.QuietTactic
import Derived.Deep.LoopGhost
import Derived.Deep.Draws
import Derived.Deep.AppendLies
import Derived.Maps.AppendAt
import Derived.Lib.Hide
import Derived.StillTailTactics
import Derived.Shelf.Abstract
namespace Go.Proofs.Ytcjejcbikgcnbaa
open Go.RowKit Go.Shelf

/-! ### Strings -/
instance : BEq ByteArray := ⟨fun a b => decide (a = b)⟩
instance : LawfulBEq ByteArray where
  eq_of_beq {a b} h := by simpa using of_decide_eq_true h
  rfl {a} := decide_eq_true rfl
/-- Go's '==' on strings, as the walk writes it. -/
theorem str_beq (a b : ByteArray) : (a.toList == b.toList) = decide (a = b) := by
  rw [Go.ByteArray.toList_eq, Go.ByteArray.toList_eq, Bool.eq_iff_iff]
  cases a; cases b; simp
theorem str_yes {a b : ByteArray} (h : (a.toList == b.toList) = true) : a = b := by rw [str_beq] at h; simpa using h
theorem str_no {a b : ByteArray} (h : (a.toList == b.toList) = false) : a ≠ b := by rw [str_beq] at h; simpa using h

/-! ### Draws -/
theorem below_drewN {B : Nat} {a w : World} (h : Below B a w) (n : Nat) : Below B a (w.drewN n) := ⟨h.os, h.tape, h.output, h.size, h.block⟩
theorem q1 {w : World} {n : Nat} : ∃ k, w.drewN k = w.drewN n := ⟨_, rfl⟩
theorem q2 {w : World} {n m : Nat} : ∃ k, w.drewN k = (w.drewN n).drewN m := ⟨n + m, (World.drewN_drewN ..).symm⟩
theorem q2' {w : World} {n m : Nat} : ∃ k, (w.drewN n).drewN m = w.drewN k := ⟨n + m, World.drewN_drewN ..⟩
theorem quiet_left {P : Program} {f : FuncId} {args : Array Value} {w : World} {n : Nat} {v : Value}
    (h : Calls P f args (w.drewN n) fun e w' => e = .returned v ∧ w.drewN n = w') : Calls P f args (w.drewN n) fun e w'' => e = .returned v ∧ ∃ m, w'' = w.drewN m :=
  h.mono fun _ _ ⟨he, hm⟩ => ⟨he, n, hm.symm⟩
theorem quiet_left' {P : Program} {f : FuncId} {args : Array Value} {w : World} {n : Nat} {v : Value}
    (h : Calls P f args (w.drewN n) fun e w' => e = .returned v ∧ ∃ m, (w.drewN n).drewN m = w') : Calls P f args (w.drewN n) fun e w'' => e = .returned v ∧ ∃ m, w'' = w.drewN m :=
  h.mono fun _ _ ⟨he, m, hm⟩ => ⟨he, n + m, by rw [← hm, World.drewN_drewN]⟩
theorem quiet_add {P : Program} {f : FuncId} {args : Array Value} {w : World} {a n : Nat} {v : Value}
    (h : Calls P f args (w.drewN (a + n)) fun e w' => e = .returned v ∧ w.drewN (a + n) = w') : Calls P f args (w.drewN (a + n)) fun e w'' => e = .returned v ∧ ∃ m, w'' = w.drewN (a + m) :=
  h.mono fun _ _ ⟨he, hm⟩ => ⟨he, n, hm.symm⟩
theorem quiet_add' {P : Program} {f : FuncId} {args : Array Value} {w : World} {a n : Nat} {v : Value}
    (h : Calls P f args (w.drewN (a + n)) fun e w' => e = .returned v ∧ ∃ m, (w.drewN (a + n)).drewN m = w') : Calls P f args (w.drewN (a + n)) fun e w'' => e = .returned v ∧ ∃ m, w'' = w.drewN (a + m) :=
  h.mono fun _ _ ⟨he, m, hm⟩ => ⟨he, n + m, by rw [← hm, World.drewN_drewN, Nat.add_assoc]⟩
theorem grown_drew {a w : World} {row : Option Nat} (h : a.grownBy w row) : a.grownBy w.drew row := ⟨h.os, h.tape, h.output, h.size, h.block⟩
theorem grown_drewN {a w : World} {row : Option Nat} (h : a.grownBy w row) (n : Nat) : a.grownBy (w.drewN n) row := ⟨h.os, h.tape, h.output, h.size, h.block⟩
theorem quiet_below {w w' : World} {B : Nat} (h : ∃ n, w.drewN n = w') : Below B w w' := by
  obtain ⟨n, rfl⟩ := h
  exact below_drewN (Below.refl _ _) n

/-! ### A region that draws its order, reads, and ends in a forced tail that writes: its head walked once, by the cheap step. -/
theorem still_of_quiet {P : Program} {ops : Array Oper} {W : World} {Q : Act → Prop} : ∀ (l : List Oper) (a : Act), wpQuiet P ops (fun w' => w' = W) Q l a → wpStill P ops W Q l a
  | [], _, h => h
  | o :: rest, a, h => by
    unfold wpQuiet at h
    unfold wpStill
    split
    · rename_i hw
      rw [if_pos hw] at h
      obtain ⟨v, h1, h2⟩ := h
      have h3 := h1 W rfl
      have h4 := still_of_quiet rest _ h2
      unfold Oper.quietAt at h3
      unfold Oper.still
      generalize (execOp a.eval o).run P W = r at *
      cases r with
      | ok n w' =>
        cases n <;> simp only [Oper.quietUpon] at h3 <;> simp only [Oper.stillUpon]
        case value u => obtain ⟨rfl, rfl⟩ := h3; exact ⟨rfl, h4⟩
        case skip => obtain ⟨rfl, rfl⟩ := h3; exact ⟨rfl, h4⟩
        case enter f args => obtain ⟨rfl, hc⟩ := h3; exact ⟨rfl, _, hc, h4⟩
      | halt x w' => simp only [Oper.quietUpon] at h3
    · rename_i hw
      rw [if_neg hw] at h
      exact still_of_quiet rest _ h
theorem wp_region_tail {P : Program} {id : Nat} {Q : Exit → Act → World → Prop} {a : Act} {w : World} {l : List Oper} (n : Nat) (hm : P.follows .mixedOrders = true) (hB : Region.lexTailB .any l.toArray n = true)
    (h : wpQuiet P l.toArray (fun w' => w' = w.drew) (fun a' => wpList P l.toArray Q (l.drop n) a' w.drew) (l.take n) a) : (Code.region id l.toArray true).wp P Q a w :=
  wp_region_still_tail n hm hB (still_of_quiet _ _ h)

/-! ### A slice that reads as a row of cells -/
/-- 'v' is a slice of n elements whose cells, one behind the other, are xs; they lie below block B. -/
def Flat (w : World) (B : Nat) (v : Value) (n : Nat) (xs : List Value) : Prop :=
  ∃ A c, v = .slice A n c ∧ n ≤ c ∧ c ≤ maxLen ∧ (0 < n → ∃ b off, A = some ⟨b, off, none⟩ ∧ b < B ∧ ∀ (j : Nat) u, xs[j]? = some u → w.cell? ⟨b, off + j, none⟩ = some u)

theorem Flat.below {w w' : World} {B B' n : Nat} {v : Value} {xs : List Value} (h : Flat w B v n xs) (hb : Below B' w w') (hB : B ≤ B') : Flat w' B v n xs := by
  obtain ⟨A, c, h1, h2, h3, h4⟩ := h
  refine ⟨A, c, h1, h2, h3, fun hn => ?_⟩
  obtain ⟨b, off, e, hlt, hc⟩ := h4 hn
  exact ⟨b, off, e, hlt, fun j u hu => (hb.cell (p := ⟨b, off + j, none⟩) (Nat.lt_of_lt_of_le hlt hB)).trans (hc j u hu)⟩
theorem Flat.mono {w : World} {B B' n : Nat} {v : Value} {xs : List Value} (h : Flat w B v n xs) (hB : B ≤ B') : Flat w B' v n xs := by
  obtain ⟨A, c, h1, h2, h3, h4⟩ := h
  refine ⟨A, c, h1, h2, h3, fun hn => ?_⟩
  obtain ⟨b, off, e, hlt, hc⟩ := h4 hn
  exact ⟨b, off, e, Nat.lt_of_lt_of_le hlt hB, hc⟩
theorem Flat.of_own {w : World} {base e size n : Nat} {v : Value} {xs : List Value} (h : w.ownsRow base e size v n xs) : Flat w w.heap.size v n xs := by
  obtain ⟨hl, ⟨rfl, rfl⟩ | ⟨g, cap, cur, rfl, hb, hg, hnc, hcm, hcs, ht⟩⟩ := h
  · exact ⟨none, 0, rfl, Nat.le_refl _, Nat.zero_le _, fun h => absurd h (by omega)⟩
  · refine ⟨_, _, rfl, hnc, hcm, fun _ => ⟨g, 0, rfl, (Array.getElem?_eq_some_iff.1 hg).1, fun j u hu => ?_⟩⟩
    rw [Nat.zero_add, cell_of_row w g j cur e (0, 0) hg]
    rw [← ht, List.getElem?_take] at hu
    split at hu
    · simpa using hu
    · cases hu

/-- A slice of one-cell elements. -/
def RowAt {α : Type} (enc : α → Value) (w : World) (B : Nat) (v : Value) (l : List α) : Prop := Flat w B v l.length (l.map enc)
abbrev StrsAt := @RowAt ByteArray Value.string
abbrev IntsAt := @RowAt Int (Value.int .i64)
abbrev BoolsAt := @RowAt Bool Value.bool

section
variable {α : Type} {enc : α → Value} {w w' : World} {B B' : Nat} {v : Value} {l : List α}
theorem RowAt.below (h : RowAt enc w B v l) (hb : Below B' w w') (hB : B ≤ B') : RowAt enc w' B v l := Flat.below h hb hB
theorem RowAt.mono (h : RowAt enc w B v l) (hB : B ≤ B') : RowAt enc w B' v l := Flat.mono h hB
theorem RowAt.of_own {base e n : Nat} (h : w.ownsRow base e 1 v n (l.map enc)) : RowAt enc w w.heap.size v l := by
  have hn : n = l.length := by have := h.1; simp at this; omega
  subst hn
  exact Flat.of_own h
theorem RowAt.open_ (h : RowAt enc w B v l) :
    ∃ A c, v = .slice A l.length c ∧ l.length ≤ c ∧ c ≤ maxLen ∧ ∀ k (_ : k < l.length), ∃ b off, A = some ⟨b, off, none⟩ ∧ b < B ∧ ∀ j (hj : j < l.length), w.cell? ⟨b, off + j, none⟩ = some (enc l[j]) := by
  obtain ⟨A, c, h1, h2, h3, h4⟩ := h
  refine ⟨A, c, h1, h2, h3, fun k hk => ?_⟩
  obtain ⟨b, off, e, hlt, hc⟩ := h4 (by omega)
  exact ⟨b, off, e, hlt, fun j hj => hc j (enc l[j]) (by simp [hj])⟩
end

/-! ### Tasks -/
structure Task where
  name : ByteArray
  len : Int
  crew : Int
  pow : Int
  ba : Option Addr
  bc : Nat
  bef : List ByteArray
/-- The value of a task's Before. -/
abbrev Task.bv (t : Task) : Value := .slice t.ba t.bef.length t.bc
def Task.cells (t : Task) : List Value := [.string t.name, .int .i64 t.len, .int .i64 t.crew, .int .i64 t.pow, .slice t.ba t.bef.length t.bc]
def Task.val (t : Task) : Value := .agg #[.string t.name, .int .i64 t.len, .int .i64 t.crew, .int .i64 t.pow, .slice t.ba t.bef.length t.bc]

/-- A task's strings and integers are within the model's bounds. -/
structure Task.ok (t : Task) : Prop where
  name : t.name.size ≤ maxLen
  bef : ∀ s ∈ t.bef, s.size ≤ maxLen
  len : -9223372036854775808 ≤ t.len ∧ t.len ≤ 9223372036854775807
  crew : -9223372036854775808 ≤ t.crew ∧ t.crew ≤ 9223372036854775807
  pow : -9223372036854775808 ≤ t.pow ∧ t.pow ≤ 9223372036854775807

def TasksAt (w : World) (B : Nat) (v : Value) (l : List Task) : Prop := Flat w B v l.length (l.flatMap Task.cells) ∧ (∀ t ∈ l, StrsAt w B t.bv t.bef) ∧ ∀ t ∈ l, t.ok

theorem TasksAt.below {w w' : World} {B B' : Nat} {v : Value} {l : List Task} (h : TasksAt w B v l) (hb : Below B' w w') (hB : B ≤ B') : TasksAt w' B v l :=
  ⟨h.1.below hb hB, fun t ht => (h.2.1 t ht).below hb hB, h.2.2⟩
theorem TasksAt.mono {w : World} {B B' : Nat} {v : Value} {l : List Task} (h : TasksAt w B v l) (hB : B ≤ B') : TasksAt w B' v l :=
  ⟨h.1.mono hB, fun t ht => (h.2.1 t ht).mono hB, h.2.2⟩

theorem TasksAt.drewN {w : World} {B : Nat} {v : Value} {l : List Task} (h : TasksAt w B v l) (n : Nat) : TasksAt (w.drewN n) B v l := h.below (below_drewN (Below.refl _ _) n) (Nat.le_refl _)
theorem flat_get (l : List Task) (j i : Nat) (hj : j < l.length) (hi : i < 5) : (l.flatMap Task.cells)[j * 5 + i]? = l[j].cells[i]? := by
  induction l generalizing j with
  | nil => simp at hj
  | cons t l ih =>
    have h5 : t.cells.length = 5 := rfl
    rw [List.flatMap_cons]
    cases j with
    | zero => rw [List.getElem?_append_left (by rw [h5]; omega)]; simp
    | succ j =>
      rw [List.getElem?_append_right (by rw [h5]; omega), h5]
      have := ih j (by simpa using hj)
      rw [show (j + 1) * 5 + i - 5 = j * 5 + i by omega, this]
      rfl

/-- A task's five cells at an address. -/
def TaskCells (w : World) (b off : Nat) (t : Task) : Prop :=
  w.cell? ⟨b, off, none⟩ = some (.string t.name) ∧ w.cell? ⟨b, off + 1, none⟩ = some (.int .i64 t.len) ∧ w.cell? ⟨b, off + 2, none⟩ = some (.int .i64 t.crew) ∧
    w.cell? ⟨b, off + 3, none⟩ = some (.int .i64 t.pow) ∧ w.cell? ⟨b, off + 4, none⟩ = some (.slice t.ba t.bef.length t.bc)
theorem TaskCells.below {w w' : World} {B b off : Nat} {t : Task} (h : TaskCells w b off t) (hb : Below B w w') (hB : b < B) : TaskCells w' b off t :=
  ⟨(hb.cell (p := ⟨b, off, none⟩) hB).trans h.1, (hb.cell (p := ⟨b, off + 1, none⟩) hB).trans h.2.1, (hb.cell (p := ⟨b, off + 2, none⟩) hB).trans h.2.2.1,
    (hb.cell (p := ⟨b, off + 3, none⟩) hB).trans h.2.2.2.1, (hb.cell (p := ⟨b, off + 4, none⟩) hB).trans h.2.2.2.2⟩

theorem TasksAt.open_ {w : World} {B : Nat} {v : Value} {l : List Task} (h : TasksAt w B v l) :
    ∃ A c, v = .slice A l.length c ∧ l.length ≤ c ∧ c ≤ maxLen ∧ ∀ k (_ : k < l.length), ∃ b off, A = some ⟨b, off, none⟩ ∧ b < B ∧ ∀ j (hj : j < l.length), TaskCells w b (off + j * 5) l[j] := by
  obtain ⟨⟨A, c, h1, h2, h3, h4⟩, _⟩ := h
  refine ⟨A, c, h1, h2, h3, fun k hk => ?_⟩
  obtain ⟨b, off, e, hlt, hc⟩ := h4 (by omega)
  refine ⟨b, off, e, hlt, fun j hj => ?_⟩
  have f := fun (i : Nat) (hi : i < 5) u (hu : l[j].cells[i]? = some u) => hc (j * 5 + i) u ((flat_get l j i hj hi).trans hu)
  have g := fun (i : Nat) (hi : i < 5) u (hu : l[j].cells[i]? = some u) => (congrArg (fun o => w.cell? ⟨b, o, none⟩) (Nat.add_assoc off (j * 5) i)).trans (f i hi u hu)
  exact ⟨g 0 (by omega) _ rfl, g 1 (by omega) _ rfl, g 2 (by omega) _ rfl, g 3 (by omega) _ rfl, g 4 (by omega) _ rfl⟩
theorem TasksAt.bef {w : World} {B : Nat} {v : Value} {l : List Task} (h : TasksAt w B v l) {k : Nat} (hk : k < l.length) : StrsAt w B l[k].bv l[k].bef := h.2.1 _ (List.getElem_mem hk)
theorem TasksAt.ok {w : World} {B : Nat} {v : Value} {l : List Task} (h : TasksAt w B v l) {k : Nat} (hk : k < l.length) : l[k].ok := h.2.2 _ (List.getElem_mem hk)

/-- A task's Before, opened. -/
theorem TasksAt.open_bef {w : World} {B : Nat} {v : Value} {l : List Task} (h : TasksAt w B v l) {k : Nat} (hk : k < l.length) :
    l[k].bef.length ≤ l[k].bc ∧ l[k].bc ≤ maxLen ∧ ∀ i (_ : i < l[k].bef.length), ∃ b off, l[k].ba = some ⟨b, off, none⟩ ∧ b < B ∧ ∀ j (hj : j < l[k].bef.length), w.cell? ⟨b, off + j, none⟩ = some (.string l[k].bef[j]) := by
  obtain ⟨A, c, hv, h1, h2, h3⟩ := (h.bef hk).open_
  injection hv with e1 _ e3
  subst e1 e3
  exact ⟨h1, h2, h3⟩

/-! ### Rows of the call's own -/
theorem own_mono {w : World} {B B' : Nat} {e size n : Nat} {v : Value} {xs : List Value} (h : w.ownsRow B e size v n xs) (hB : B' ≤ B) : w.ownsRow B' e size v n xs := by
  refine ⟨h.1, ?_⟩
  rcases h.2 with h' | ⟨g, cap, cur, h1, h2, r⟩
  · exact .inl h'
  · exact .inr ⟨g, cap, cur, h1, Nat.le_trans hB h2, r⟩
theorem own_len {w : World} {base e n : Nat} {v : Value} {xs : List Value} (h : w.ownsRow base e 1 v n xs) : xs.length = n := by have := h.1; omega
theorem own_ne {w : World} {b1 b2 e1 e2 s1 s2 n1 n2 : Nat} {v1 v2 : Value} {xs1 xs2 : List Value} (h1 : w.ownsRow b1 e1 s1 v1 n1 xs1) (h2 : w.ownsRow b2 e2 s2 v2 n2 xs2) (hne : e1 ≠ e2) : v1.ownBlock = none ∨ v1.ownBlock ≠ v2.ownBlock := by
  rcases h1.2 with ⟨rfl, _⟩ | ⟨g1, c1, u1, rfl, _, hg1, _⟩
  · exact .inl rfl
  · right
    rcases h2.2 with ⟨rfl, _⟩ | ⟨g2, c2, u2, rfl, _, hg2, _⟩
    · simp [Value.ownBlock]
    · intro he
      have : g1 = g2 := by simpa [Value.ownBlock] using he
      subst this
      rw [hg1] at hg2
      injection hg2 with hg2
      injection hg2 with _ h3
      exact hne h3
theorem grown_trans {a b c : World} {row : Option Nat} (h : a.grownBy b row) (k : b.grownBy c row) : a.grownBy c row :=
  ⟨k.os.trans h.os, k.tape.trans h.tape, k.output.trans h.output, Nat.le_trans h.size k.size, fun i hi hne => (k.block i (Nat.lt_of_lt_of_le hi h.size) hne).trans (h.block i hi hne)⟩
/-- What is written above the old heap's end does not count. -/
theorem grown_past {a b c : World} {row row' : Option Nat} (h : a.grownBy b row) (k : b.grownBy c row') (hr : ∀ g, row' = some g → a.heap.size ≤ g ∨ row = some g) : a.grownBy c row :=
  ⟨k.os.trans h.os, k.tape.trans h.tape, k.output.trans h.output, Nat.le_trans h.size k.size, fun i hi hne => (k.block i (Nat.lt_of_lt_of_le hi h.size) (fun e => by
    rcases hr i e.symm with h' | h'
    · omega
    · exact hne h'.symm)).trans (h.block i hi hne)⟩
theorem grown_below {a b : World} {row : Option Nat} (h : Below a.heap.size a b) : a.grownBy b row := ⟨h.os, h.tape, h.output, h.size, fun i hi _ => h.block i hi⟩
theorem below_grown {a b : World} (h : a.grownBy b none) : Below a.heap.size a b := ⟨h.os, h.tape, h.output, h.size, fun i hi => h.block i hi (by simp)⟩

/-! ### A block known whole -/
def Blk (w : World) (g : Nat) (t : TypeId) (cs : Array Value) : Prop := w.heap[g]? = some (.cells cs t (0, 0))
section
variable {w w' : World} {g : Nat} {t : TypeId} {cs : Array Value}
theorem Blk.lt (h : Blk w g t cs) : g < w.heap.size := (Array.getElem?_eq_some_iff.1 h).1
theorem Blk.cell (h : Blk w g t cs) (i : Nat) : w.cell? ⟨g, i, none⟩ = cs[i]? := cell_of_row w g i cs t (0, 0) h
theorem Blk.frozen (h : Blk w g t cs) (i : Nat) : w.frozen? ⟨g, i, none⟩ = false := by
  unfold Blk at h
  simp [World.frozen?, h]
theorem Blk.new (w : World) (t : TypeId) (cs : Array Value) : Blk (w.alloc (.cells cs t)) w.heap.size t cs := heap_alloc_new w _
theorem Blk.alloc (h : Blk w g t cs) (o : Obj) : Blk (w.alloc o) g t cs := (Below.heap_alloc w o g h.lt).trans h
theorem Blk.drewN (h : Blk w g t cs) (n : Nat) : Blk (w.drewN n) g t cs := h
theorem Blk.set_ (h : Blk w g t cs) (i : Nat) (u : Value) : Blk (w.setCell ⟨g, i, none⟩ u) g t (cs.setIfInBounds i u) := by
  unfold Blk at h ⊢
  simp [World.setCell, Array.getElem?_modify, h]
theorem Blk.far (h : Blk w g t cs) {p : Addr} (hp : g ≠ p.block) (u : Value) : Blk (w.setCell p u) g t cs := (Below.heap_setCell w p u g hp).trans h
theorem Blk.kept (h : Blk w g t cs) {row : Option Nat} (hb : w.grownBy w' row) (hg : some g ≠ row) : Blk w' g t cs := (hb.block g h.lt hg).trans h
theorem Blk.below {B : Nat} (h : Blk w g t cs) (hb : Below B w w') (hg : g < B) : Blk w' g t cs := (hb.block g hg).trans h
theorem Blk.ne_own {b e s n : Nat} {v : Value} {xs : List Value} (h : Blk w g t cs) (ho : w.ownsRow b e s v n xs) (hne : e ≠ t) : some g ≠ v.ownBlock := by
  rcases ho.2 with ⟨rfl, _⟩ | ⟨g', cap, cur, rfl, _, hh, _⟩
  · simp [Value.ownBlock]
  · intro he
    have : g = g' := by simpa [Value.ownBlock] using he
    subst this
    unfold Blk at h
    rw [h] at hh
    injection hh with hh
    injection hh with _ h3
    exact hne h3.symm
theorem Blk.setGrown (_h : Blk w g t cs) (i : Nat) (u : Value) : w.grownBy (w.setCell ⟨g, i, none⟩ u) (some g) :=
  ⟨rfl, rfl, rfl, by simp [World.setCell], fun k _ hk => Below.heap_setCell w _ u k (fun e => hk (by rw [e]))⟩
end
theorem own_drewN {w : World} {B e size n : Nat} {v : Value} {xs : List Value} (h : w.ownsRow B e size v n xs) (k : Nat) : (w.drewN k).ownsRow B e size v n xs := h
/-- A row of the call's own loses its last element. -/
theorem own_pop {w : World} {base e g cap n : Nat} {xs : List Value} {u : Value} (hn : xs.length = n) (h : w.ownsRow base e 1 (.slice (some ⟨g, 0, none⟩) (n + 1) cap) (n + 1) (xs ++ [u])) : w.ownsRow base e 1 (.slice (some ⟨g, 0, none⟩) n cap) n xs :=
  ownsRow_pop (by omega) h

/-- 'append(s, x)' of one element that has just been laid in a block of its own, onto a row of the call's own. -/
theorem wpList_push {P : Program} (w : World) {ops : Array Oper} {rest : List Oper} {o : Oper} {a : Act} {Q : Exit → Act → World → Prop} (hgd : o.guard = none) (s x : Operand) (t : TypeId)
    (ho : o.op = .call { callee := .builtin .append, args := #[s, x], argTypes := #[t, t] })
    (base : Nat) (e : TypeId) {z : Value} {bytes : Nat} (hinfo : (P.info? e).map (fun i => (i.zero, i.size, i.bytes)) = some (some z, 1, bytes)) (ht : P.underlying t = some (.slice e)) (hz1 : z.cells.size = 1)
    (v : Value) (n : Nat) (xs : List Value) (hs : a.eval s = v) (hown : w.ownsRow base e 1 v n xs) (u : Value) (hu : u.oneCell' = true)
    (hx : a.eval x = .slice (some ⟨w.heap.size, 0, none⟩) 1 1) (h63 : n + 1 ≤ maxLen) (hbytes : (n + 1) * bytes ≤ 140737488355328) (hbase : base ≤ w.heap.size)
    (h : ∀ g cap w', w'.ownsRow base e 1 (.slice (some ⟨g, 0, none⟩) (n + 1) cap) (n + 1) (xs ++ [u]) → w.grownBy w' v.ownBlock → base ≤ g → (v.ownBlock = some g ∨ w.heap.size ≤ g) →
      wpList P ops Q rest (a.put o.dst (.slice (some ⟨g, 0, none⟩) (n + 1) cap)) w') :
    wpList P ops Q (o :: rest) a (w.alloc (.cells #[u] e)) := by
  obtain ⟨i, hi, hz, hsz, hby⟩ := info_parts hinfo
  refine wpList_append_own_at _ hgd s x t ho base e i z 1 bytes ht hi hz hsz hby hz1 (by decide) v n xs hs (hown.alloc _) ⟨w.heap.size, 0, none⟩ 1 1 [u] hx rfl (cell_one_new _ _ _)
    (fun y hy => by simp only [List.mem_singleton] at hy; subst hy; exact hu) h63 hbytes (by simp; omega) ?_
  intro v' w' h2 h3 _ h5
  have hl := h2.1
  rcases h2.2 with ⟨rfl, h0⟩ | ⟨g, cap, cur, rfl, hbg, r⟩
  · exact absurd h0 (by omega)
  · refine h g cap w' h2 (grown_trans (World.grownBy_alloc w _ _) h3) hbg ?_
    rcases h5 with h5 | h5
    · exact .inl (by simpa [Value.ownBlock] using h5.symm)
    · right
      have : g = w.heap.size + 1 := by simpa [Value.ownBlock] using h5
      omega

theorem heap_kept {w w' : World} {row : Option Nat} (hg : w.grownBy w' row) {D : Nat} {o : Obj} (h : w.heap[D]? = some o) (hne : some D ≠ row) : w'.heap[D]? = some o :=
  (hg.block D (Array.getElem?_eq_some_iff.1 h).1 hne).trans h

/-! ### Lists and searches -/
theorem take_snoc {α : Type} (l : List α) (k : Nat) (h : k < l.length) : l.take (k + 1) = l.take k ++ [l[k]] := List.take_succ_eq_append_getElem h
theorem notin_snoc {α : Type} {x : α} {l : List α} {k : Nat} (h : k < l.length) (hn : x ∉ l.take k) (hne : l[k] ≠ x) : x ∉ l.take (k + 1) := by
  rw [take_snoc l k h, List.mem_append, List.mem_singleton]
  rintro (h | h)
  · exact hn h
  · exact hne h.symm
theorem find_hit {α : Type} {p : α → Bool} {l : List α} {j : Nat} (h : (l.take j).findIdx? p = none) (hj : j < l.length) (hp : p l[j] = true) : l.findIdx? p = some j := by
  rw [List.findIdx?_eq_some_iff_getElem]
  refine ⟨hj, hp, fun i hi => ?_⟩
  rw [List.findIdx?_eq_none_iff] at h
  have := h l[i] (by rw [List.mem_take_iff_getElem]; exact ⟨i, by omega, rfl⟩)
  simp [this]
theorem find_miss {α : Type} {p : α → Bool} {l : List α} {j : Nat} (h : (l.take j).findIdx? p = none) (hj : j < l.length) (hp : p l[j] = false) : (l.take (j + 1)).findIdx? p = none := by
  rw [List.findIdx?_eq_none_iff] at h ⊢
  intro x hx
  rw [List.take_succ_eq_append_getElem hj, List.mem_append, List.mem_singleton] at hx
  rcases hx with hx | rfl
  · exact h x hx
  · exact hp
/-- An index, or -1. -/
def idxOf (o : Option Nat) : Int := match o with | some i => i | none => -1
theorem idxOf_ge (o : Option Nat) : decide (0 ≤ idxOf o) = o.isSome := by
  cases o with
  | none => rfl
  | some i => simp [idxOf]
theorem find_some_any {α : Type} (p : α → Bool) (l : List α) : (l.findIdx? p).isSome = l.any p := by
  rw [List.findIdx?_isSome]
theorem idx_any {α : Type} (p : α → Bool) (l : List α) : decide (0 ≤ idxOf (l.findIdx? p)) = l.any p := by rw [idxOf_ge, find_some_any]
theorem idx_bd {α : Type} (p : α → Bool) (l : List α) : -1 ≤ idxOf (l.findIdx? p) := by
  cases l.findIdx? p with
  | none => exact Int.le_refl _
  | some i => simp only [idxOf]; omega

theorem ret_bool {a b : Bool} (h : a = b) : Ending.returned (.bool a) = .returned (.bool b) := by rw [h]
theorem ret_xb {v : Value} {a b : Bool} (h : a = b) : Ending.returned (.tuple #[v, .bool a]) = .returned (.tuple #[v, .bool b]) := by rw [h]
theorem ret_int {k : IntKind} {a b : Int} (h : a = b) : Ending.returned (.int k a) = .returned (.int k b) := by rw [h]

end Go.Proofs.Ytcjejcbikgcnbaa
