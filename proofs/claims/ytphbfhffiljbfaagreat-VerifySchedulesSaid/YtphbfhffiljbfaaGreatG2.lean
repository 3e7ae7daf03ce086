/- Parts of the proof, laid into one text: Grow, Path, Ref44, Greedy, Path44, Given, Work, WorkW, RefGiven. -/
import Derived.Deep.RegionHeld3
import Derived.IntWalk
import Derived.Laws.EntriesVeiled
import Derived.Test.YtphbfhffiljbfaaGreatG1

/- (*chain).grow: all chains that begin with the one so far. -/
namespace Go.Proofs.YtphbfhffiljbfaaGreat
open Go.RowKit Go.Shelf

def ints (x : List Nat) : List Int := x.map Int.ofNat
def nats (x : List Nat) : List Value := (ints x).map (Value.int .i64)
theorem nats_snoc (x : List Nat) (i : Nat) : nats (x ++ [i]) = nats x ++ [.int .i64 (i : Int)] := by simp [nats, ints]
theorem length_ints (x : List Nat) : (ints x).length = x.length := by simp [ints]
theorem nats_get (x : List Nat) (i : Nat) (h : i < x.length) : (nats x)[i]? = some (.int .i64 (x[i] : Nat)) := by simp [nats, ints, h]

/-- A block of four cells, read and to be written. -/
theorem blk4 {w : World} {g : Nat} {t : TypeId} {a b c d : Value} (h : Blk w g t #[a, b, c, d]) :
    w.cell? ⟨g, 0, none⟩ = some a ∧ w.cell? ⟨g, 1, none⟩ = some b ∧ w.cell? ⟨g, 2, none⟩ = some c ∧ w.cell? ⟨g, 3, none⟩ = some d ∧
      w.frozen? ⟨g, 0, none⟩ = false ∧ w.frozen? ⟨g, 1, none⟩ = false ∧ w.frozen? ⟨g, 2, none⟩ = false ∧ w.frozen? ⟨g, 3, none⟩ = false :=
  ⟨h.cell 0, h.cell 1, h.cell 2, h.cell 3, h.frozen 0, h.frozen 1, h.frozen 2, h.frozen 3⟩
theorem cloneIntPos (v : Value) (l : List Int) (w : World) (hl : IntsAt w w.heap.size v l) (hlen : l.length ≤ 1000000) (hpos : 0 < l.length) :
    Calls Tryz.prog 133 #[v] w fun e w' => ∃ g c, e = .returned (.slice (some ⟨g, 0, none⟩) l.length c) ∧ w.heap.size ≤ g ∧ w'.ownsRow w.heap.size 3 1 (.slice (some ⟨g, 0, none⟩) l.length c) l.length (l.map (Value.int .i64)) ∧ Below w.heap.size w w' :=
  (cloneInt v l w hl hlen).mono fun e w' ⟨v', he, hown, hb⟩ => by
    obtain ⟨g, c, rfl, hg, -⟩ := hown.form hpos
    exact ⟨g, c, he, hg, hown, hb⟩

/-- The state of a search for chains. -/
structure GrowSt (w : World) (B g : Nat) (lv : Value) (l : List Task) (x : List Nat) (L : Int) (y : List Nat) (nowv bestv : Value) : Prop where
  hg : B ≤ g
  blk : Blk w g 126 #[lv, nowv, bestv, .int .i64 L]
  now : w.ownsRow B 3 1 nowv x.length (nats x)
  best : w.ownsRow B 3 1 bestv y.length (nats y)
  apart : bestv.ownBlock = none ∨ bestv.ownBlock ≠ nowv.ownBlock
  tasks : TasksAt w B lv l
  size : B ≤ w.heap.size

theorem GrowSt.visited {w w1 : World} {B g g1 c1 : Nat} {lv nowv bestv : Value} {l : List Task} {x y : List Nat} {L L' : Int} (h : GrowSt w B g lv l x L y nowv bestv) (hb : Below w.heap.size w w1) (hg : w.heap.size ≤ g1)
    (hown : w1.ownsRow w.heap.size 3 1 (.slice (some ⟨g1, 0, none⟩) x.length c1) x.length (nats x)) (hpos : 0 < x.length) :
    GrowSt ((w1.setCell ⟨g, 3, none⟩ (.int .i64 L')).setCell ⟨g, 2, none⟩ (.slice (some ⟨g1, 0, none⟩) x.length c1)) B g lv l x L' x nowv (.slice (some ⟨g1, 0, none⟩) x.length c1) := by
  have hb1 := h.blk.below hb h.blk.lt
  have hb2 := hb1.set_ 3 (.int .i64 L')
  have hb3 := hb2.set_ 2 (.slice (some ⟨g1, 0, none⟩) x.length c1)
  have gr1 := hb1.setGrown 3 (.int .i64 L')
  have gr2 := hb2.setGrown 2 (.slice (some ⟨g1, 0, none⟩) x.length c1)
  have g12 := grown_trans gr1 gr2
  have hnow1 := h.now.kept (grown_below (row := none) hb) (by cases hv : nowv.ownBlock <;> simp)
  have hne : ∀ {v : Value} {n : Nat} {xs : List Value}, w1.ownsRow B 3 1 v n xs → v.ownBlock = none ∨ v.ownBlock ≠ some g := fun {v n xs} ho => by
    have := hb1.ne_own ho (by decide)
    exact .inr (fun e => this e.symm)
  have hown' := own_mono hown h.size
  refine ⟨h.hg, hb3, hnow1.kept g12 (hne hnow1), hown'.kept g12 (hne hown'), ?_, ?_, ?_⟩
  · right
    obtain ⟨gn, cn, rfl, _, hlt⟩ := h.now.form hpos
    simp [Value.ownBlock]
    omega
  · have hbel : Below B w ((w1.setCell ⟨g, 3, none⟩ (.int .i64 L')).setCell ⟨g, 2, none⟩ (.slice (some ⟨g1, 0, none⟩) x.length c1)) :=
      ((hb.mono h.size).setCell (p := ⟨g, 3, none⟩) h.hg _).setCell (p := ⟨g, 2, none⟩) h.hg _
    exact h.tasks.below hbel (Nat.le_refl _)
  · have := hb.size
    have := h.size
    simp [World.setCell]
    omega

/-- A field of the search's state, the search's now, is written. -/
theorem GrowSt.pushed {w w3 : World} {B g i g3 c3 : Nat} {lv nowv bestv : Value} {l : List Task} {x y : List Nat} {L : Int} (h : GrowSt w B g lv l x L y nowv bestv) (hown : w3.ownsRow B 3 1 (.slice (some ⟨g3, 0, none⟩) (x.length + 1) c3) (x.length + 1) (nats x ++ [.int .i64 i]))
    (hg : w.grownBy w3 nowv.ownBlock) (hgg : nowv.ownBlock = some g3 ∨ w.heap.size ≤ g3) :
    GrowSt (w3.setCell ⟨g, 1, none⟩ (.slice (some ⟨g3, 0, none⟩) (x.length + 1) c3)) B g lv l (x ++ [i]) L y (.slice (some ⟨g3, 0, none⟩) (x.length + 1) c3) bestv := by
  have hb3 := h.blk.kept hg (h.blk.ne_own h.now (by decide))
  have hb4 := hb3.set_ 1 (.slice (some ⟨g3, 0, none⟩) (x.length + 1) c3)
  have gr4 := hb3.setGrown 1 (.slice (some ⟨g3, 0, none⟩) (x.length + 1) c3)
  have hbest3 := h.best.kept hg h.apart
  have hne : ∀ {v : Value} {n : Nat} {xs : List Value}, w3.ownsRow B 3 1 v n xs → v.ownBlock = none ∨ v.ownBlock ≠ some g := fun {v n xs} ho => by
    have := hb3.ne_own ho (by decide)
    exact .inr (fun e => this e.symm)
  have hbel3 : Below B w w3 := (Below.refl B w).grown hg h.size (fun k hk => (h.now.lt k hk).1)
  refine ⟨h.hg, hb4, ?_, hbest3.kept gr4 (hne hbest3), ?_, ?_, ?_⟩
  · rw [List.length_append, List.length_singleton, nats_snoc]
    exact hown.kept gr4 (hne hown)
  · rcases h.apart with e | e
    · exact .inl e
    · right
      intro e'
      rcases hgg with hgg | hgg
      · exact e (e'.trans hgg.symm)
      · have := (h.best.lt g3 e').2
        omega
  · exact h.tasks.below (hbel3.setCell (p := ⟨g, 1, none⟩) h.hg _) (Nat.le_refl _)
  · have := hbel3.size
    have := h.size
    simp [World.setCell]
    omega
theorem GrowSt.popped {w : World} {B g i g3 c3 : Nat} {lv bestv : Value} {l : List Task} {x y : List Nat} {L : Int} (h : GrowSt w B g lv l (x ++ [i]) L y (.slice (some ⟨g3, 0, none⟩) (x.length + 1) c3) bestv) :
    GrowSt (w.setCell ⟨g, 1, none⟩ (.slice (some ⟨g3, 0, none⟩) x.length c3)) B g lv l x L y (.slice (some ⟨g3, 0, none⟩) x.length c3) bestv := by
  have hb4 := h.blk.set_ 1 (.slice (some ⟨g3, 0, none⟩) x.length c3)
  have gr4 := h.blk.setGrown 1 (.slice (some ⟨g3, 0, none⟩) x.length c3)
  have hne : ∀ {v : Value} {n : Nat} {xs : List Value}, w.ownsRow B 3 1 v n xs → v.ownBlock = none ∨ v.ownBlock ≠ some g := fun {v n xs} ho => by
    have := h.blk.ne_own ho (by decide)
    exact .inr (fun e => this e.symm)
  have hnow := h.now
  rw [List.length_append, List.length_singleton, nats_snoc] at hnow
  have hpop := own_pop (by simp [nats, ints]) hnow
  refine ⟨h.hg, hb4, hpop.kept gr4 (hne hpop), h.best.kept gr4 (hne h.best), h.apart, ?_, ?_⟩
  · exact h.tasks.below ((Below.refl B w).setCell (p := ⟨g, 1, none⟩) h.hg _) (Nat.le_refl _)
  · have := h.size
    simp [World.setCell]
    omega
theorem GrowSt.alloc {w : World} {B g : Nat} {lv nowv bestv : Value} {l : List Task} {x y : List Nat} {L : Int} (h : GrowSt w B g lv l x L y nowv bestv) (o : Obj) : GrowSt (w.alloc o) B g lv l x L y nowv bestv :=
  ⟨h.hg, h.blk.alloc o, h.now.alloc o, h.best.alloc o, h.apart, h.tasks.below ((Below.refl B w).alloc h.size o) (Nat.le_refl _), by have := h.size; simp; omega⟩
theorem GrowSt.drewN {w : World} {B g : Nat} {lv nowv bestv : Value} {l : List Task} {x y : List Nat} {L : Int} (h : GrowSt w B g lv l x L y nowv bestv) (n : Nat) : GrowSt (w.drewN n) B g lv l x L y nowv bestv :=
  ⟨h.hg, h.blk, h.now, h.best, h.apart, h.tasks.drewN n, h.size⟩

theorem GrowSt.last {w : World} {B g gn c cap : Nat} {A : Option Addr} {bestv : Value} {l : List Task} {x y : List Nat} {L : Int} (h : GrowSt w B g (.slice A l.length c) l x L y (.slice (some ⟨gn, 0, none⟩) x.length cap) bestv) (hx : x ≠ []) (hc : Chain l x) :
    ∃ m, ∃ hm : m < l.length, x.getLast hx = m ∧ w.cell? ⟨gn, x.length - 1, none⟩ = some (.int .i64 (m : Nat)) ∧ ∃ b off, A = some ⟨b, off, none⟩ ∧ b < B ∧ w.cell? ⟨b, off + m * 5, none⟩ = some (.string l[m].name) := by
  have hpos : 0 < x.length := List.length_pos_iff.2 hx
  have hm := hc.1 _ (List.getElem_mem (show x.length - 1 < x.length by omega))
  obtain ⟨b, off, hA, hb, hcell⟩ := h.tasks.cells hm
  refine ⟨x[x.length - 1], hm, List.getLast_eq_getElem .., ?_, b, off, hA, hb, (hcell _ hm).1⟩
  rw [h.now.cellAt (x.length - 1) (by omega), nats_get x _ (by omega)]

theorem GrowSt.box {w w3 : World} {B g gn n cap : Nat} {lv bestv : Value} {l : List Task} {x y : List Nat} {L : Int} {cs : Array Value} {t : TypeId} (h : GrowSt w B g lv l x L y (.slice (some ⟨gn, 0, none⟩) n cap) bestv)
    (hg : (w.alloc (.cells cs t)).grownBy w3 (Value.ownBlock (.slice (some ⟨gn, 0, none⟩) n cap))) (i : Nat) : w3.cell? ⟨w.heap.size, i, none⟩ = cs[i]? := by
  have hlt := (h.now.lt gn rfl).2
  exact ((Blk.new w t cs).kept hg (by simp [Value.ownBlock]; omega)).cell i

/-- What grow leaves. -/
def GrowPost (w : World) (B g : Nat) (lv : Value) (l : List Task) (x : List Nat) (e : Ending) (w' : World) : Prop :=
  e = .returned (.tuple #[]) ∧ Below B w w' ∧ ∃ L y nowv bestv, GrowSt w' B g lv l x L y nowv bestv ∧ Covers l (x ++ [l.length]) L y

set_option maxRecDepth 100000 in
set_option maxHeartbeats 4000000 in
theorem grow_any (B g : Nat) (lv : Value) (l : List Task) (hR : RightT l) : ∀ (k : Nat) (x : List Nat) (L : Int) (y : List Nat) (nowv bestv : Value) (w : World), l.length < x.length + k → x ≠ [] → Chain l x →
    GrowSt w B g lv l x L y nowv bestv → Covers l x L y →
    Calls Tryz.prog 89 #[.pointer (some ⟨g, 0, none⟩), .int .i64 (sumAt l x)] w (GrowPost w B g lv l x) := by
  intro k
  induction k with
  | zero =>
    intro x L y nowv bestv w hk hx hc
    have := hc.short hR
    omega
  | succ k ih =>
    intro x L y nowv bestv w hk hx hc hS hC
    have IH := Lib.hid ih
    clear ih
    have h8 := hR.len
    have hshort := hc.short hR
    have hpos : 0 < x.length := List.length_pos_iff.2 hx
    obtain ⟨gn, capn, rfl, hgnB, hgnlt⟩ := hS.now.form hpos
    obtain ⟨A, c, rfl, hc1, hc2, -⟩ := hS.tasks.open_
    unfold maxLen at hc2
    have hsum := sumAt_bd hR x
    have hL := hC.sum
    have hLb := sumAt_bd hR y
    rw [hL] at hLb
    have hyl := hC.chain.short hR
    obtain ⟨hs1, hs2⟩ := hsum
    obtain ⟨hl1, hl2⟩ := hLb
    by_cases hlt : L < sumAt l x
    · have hC2 := hC.visit hc
      rw [if_pos hlt, if_pos hlt] at hC2
      have HC2 := Lib.hid hC2
      have hcl := cloneIntPos _ (ints x) w (RowAt.of_own (show w.ownsRow B 3 1 _ x.length ((ints x).map (Value.int .i64)) from hS.now)) (by rw [length_ints]; omega) (by rw [length_ints]; exact hpos)
      rw [length_ints] at hcl
      obtain ⟨h0, h1, h2, h3, f0, f1, f2, f3⟩ := blk4 hS.blk
      have HS := Lib.hid hS
      clear hS hC hL hC2
      go_enter Tryz.func89, Tryz.ntmps89
      go_wp2_with (go_at_call 133; refine hcl.mono ?_; rintro e w1 ⟨g1, c1, rfl, hg1, hown1, hb1⟩; obtain ⟨h0', h1', h2', h3', f0', f1', f2', f3'⟩ := blk4 (HS.out.blk.below hb1 HS.out.blk.lt))
      have HS2 := HS.out.visited (L' := sumAt l x) hb1 hg1 hown1 hpos
      have hB2 : Below B w ((w1.setCell ⟨g, 3, none⟩ (.int .i64 (sumAt l x))).setCell ⟨g, 2, none⟩ (.slice (some ⟨g1, 0, none⟩) x.length c1)) :=
        ((hb1.mono HS.out.size).setCell (p := ⟨g, 3, none⟩) HS.out.hg _).setCell (p := ⟨g, 2, none⟩) HS.out.hg _
      clear HS hown1 hb1 h0' h1' h2' h3' f0' f1' f2' f3' h0 h1 h2 h3 f0 f1 f2 f3
      generalize (w1.setCell ⟨g, 3, none⟩ (.int .i64 (sumAt l x))).setCell ⟨g, 2, none⟩ (.slice (some ⟨g1, 0, none⟩) x.length c1) = w2 at *
      obtain ⟨m, hm, Hlm, hlast, b, off, rfl, hb, t0⟩ := HS2.last hx hc
      have Hlm := Lib.hid Hlm
      obtain ⟨h0, h1, h2, h3, f0, f1, f2, f3⟩ := blk4 HS2.blk
      have HS3 := Lib.hid HS2
      clear HS2
      go_quiet (fail)
      go_wp2
      clear h0 h1 h2 h3 f0 f1 f2 f3 hlast t0 hl1 hl2 hyl
      go_loopw [49] (fun s wr => ∃ (i : Nat) (L : Int) (y : List Nat) (gn cap : Nat) (bv : Value), i ≤ l.length ∧ s = .int .i64 i ∧ Hid (GrowSt wr B g (.slice (some ⟨b, off, none⟩) l.length c) l x L y (.slice (some ⟨gn, 0, none⟩) x.length cap) bv) ∧
          Hid (Covers l (x ++ [i]) L y) ∧ Below B w wr) (fun s _ => l.length - (intOf s).toNat)
      case atStart => exact ⟨0, _, _, _, _, _, Nat.zero_le _, rfl, HS3.out.drewN _, HC2.out, below_drewN hB2 _⟩
      case round =>
        clear HS3 HC2 hB2
        obtain ⟨i, L, y, gn, cap, bv, hi, rfl, HS, HC, hbel⟩ := hrel
        by_cases hil : i < l.length
        · obtain ⟨b', off', e', hb', hcell⟩ := HS.out.tasks.cells hil
          obtain ⟨rfl, rfl⟩ : b = b' ∧ off = off' := by injection e' with e'; injection e' with e1 e2; exact ⟨e1, e2⟩
          clear e'
          obtain ⟨t0, t1, t2, t3, t4⟩ := hcell i hil
          clear hcell
          have HSb := fun o => HS.out.alloc o
          have HSb := Lib.hid HSb
          have hcon := fun o => containsStr l[i].bv l[i].bef l[m].name B (wr.alloc o) ((HSb.out o).tasks.bef hil)
          have hgl := HS.out.blk.lt
          have hbb : ∀ o, Below B w (wr.alloc o) := fun o => hbel.alloc HS.out.size o
          by_cases hE : l[m].name ∈ l[i].bef
          · have Hch : Hid (Chain l (x ++ [i])) := hc.snoc hil (fun _ => ⟨by rw [Hlm.out]; exact hm, hil, by simp only [Hlm.out]; exact hE⟩)
            have hshort2 := Hch.out.short hR
            rw [List.length_append, List.length_singleton] at hshort2
            rw [decide_eq_true hE] at hcon
            have Hsum : Hid (sumAt l (x ++ [i]) = sumAt l x + l[i].len) := by unfold Hid; rw [sumAt_snoc, lenAt_eq hil]
            have hl0 := fieldB_len (hR.field i hil)
            obtain ⟨hl01, hl02⟩ := hl0
            obtain ⟨hA0, hA1, hA2, hA3, fA0, fA1, fA2, fA3⟩ := blk4 HS.out.blk
            have hE' := Lib.hid hE
            have hneo := HS.out.blk.ne_own HS.out.now (by decide)
            clear hE
            go_wp2_with (first
              | (go_at_call 134; refine (hcon _).mono ?_; rintro e w' ⟨rfl, rfl⟩)
              | (at_builtin; refine wpList_pushN _ rfl (.tmp 62) (.tmp 64) 23 rfl B 3 info_int Tryz.underlying23 rfl _ x.length (nats x) rfl (HSb.out _).now (.int .i64 i) rfl (wr.heap.size + 1) (by simp) rfl (by unfold maxLen; omega) (by omega) (HSb.out _).size ?_; intro g3 cap3 w3 hown3 hgrow3 hbg hgg; obtain ⟨k0, k1, k2, k3, e0, e1, e2, e3⟩ := blk4 ((HSb.out _).blk.kept hgrow3 hneo); have hbx3 : w3.cell? ⟨wr.heap.size, 1, none⟩ = some (.int .i64 l[i].len) := HS.out.box hgrow3 1)
              | (go_at_call 89; have hcall := IH.out (x ++ [i]) L y _ bv _ (by rw [List.length_append, List.length_singleton]; omega) (by simp) Hch.out ((HSb.out _).pushed hown3 hgrow3 hgg) HC.out; rw [Hsum.out] at hcall; refine hcall.mono ?_; rintro e w5 ⟨rfl, hb5, L5, y5, nv5, bv5, HS5, HC5⟩))
            have Bel5 : Below B w w5 := (((hbb _).grown hgrow3 (HSb.out _).size (fun k hk => by cases hk; exact (HS.out.now.lt _ rfl).1)).setCell (p := ⟨g, 1, none⟩) HS.out.hg _).trans hb5
            obtain ⟨g5, c5, rfl, _, _⟩ := HS5.now.form (by simp)
            rw [List.length_append, List.length_singleton] at HS5
            obtain ⟨p0, p1, p2, p3, d0, d1, d2, d3⟩ := blk4 HS5.blk
            have HPop := Lib.hid HS5.popped
            have hcap := own_cap (show w5.ownsRow B 3 1 (.slice (some ⟨g5, 0, none⟩) (x.length + 1) c5) (x.length + 1) (nats (x ++ [i])) by have := HS5.now; rw [List.length_append, List.length_singleton] at this; exact this)
            obtain ⟨hcap1, hcap2⟩ := hcap
            have HC6 := Lib.hid HC5.next_yes
            have hg0 := HS.out.hg
            clear HS5 HC5 hb5 hown3 hgrow3 hgg hbx3 k0 k1 k2 k3 e0 e1 e2 e3 hcon HC HS HSb hA0 hA1 hA2 hA3 fA0 fA1 fA2 fA3 hbb hbel t0 t1 t2 t3 t4 Hsum Hch
            refine wp_region_tail 14 (by kernel_rfl) (by kernel_rfl) ?_
            simp only [List.take_succ_cons, List.take_zero, List.drop_succ_cons, List.drop_zero]
            repeat (go_big_quiet_step (fail))
            refine wpQuiet_nil ?_
            go_wp2
            go_roundw
            case rel => exact ⟨i + 1, _, _, _, _, _, by omega, by go_num, HPop.out.drewN 1, HC6.out, (Bel5.setCell (p := ⟨g, 1, none⟩) hg0 _).drew⟩
            case measure => simp [intOf]; omega
          · have HNx : Hid (Covers l (x ++ [i + 1]) L y) := HC.out.next_no (fun h => hE (by
              have := h.last_edge hx
              rw [Hlm.out] at this
              exact this.2.2))
            rw [decide_eq_false hE] at hcon
            clear hE HC
            go_wp2_with (go_at_call 134; refine (hcon _).mono ?_; rintro e w' ⟨rfl, rfl⟩)
            go_roundw
            case rel => exact ⟨i + 1, _, _, _, _, _, by omega, by go_num, HSb.out _, HNx.out, hbb _⟩
            case measure => simp [intOf]; omega
        · have hie : i = l.length := by omega
          subst hie
          go_wp2
          go_end0
          exact ⟨rfl, hbel, L, y, _, bv, HS.out, HC.out⟩
    · have hC2 := hC.visit hc
      rw [if_neg hlt, if_neg hlt] at hC2
      have HC2 := Lib.hid hC2
      have HS2 := hS
      have hB2 : Below B w w := Below.refl _ _
      obtain ⟨h0, h1, h2, h3, f0, f1, f2, f3⟩ := blk4 hS.blk
      have HS := Lib.hid hS
      clear hS hC hL hC2
      go_enter Tryz.func89, Tryz.ntmps89
      go_wp2
      clear h0 h1 h2 h3 f0 f1 f2 f3
      obtain ⟨m, hm, Hlm, hlast, b, off, rfl, hb, t0⟩ := HS2.last hx hc
      have Hlm := Lib.hid Hlm
      obtain ⟨h0, h1, h2, h3, f0, f1, f2, f3⟩ := blk4 HS2.blk
      have HS3 := Lib.hid HS2
      clear HS2
      go_quiet (fail)
      go_wp2
      clear h0 h1 h2 h3 f0 f1 f2 f3 hlast t0 hl1 hl2 hyl
      go_loopw [49] (fun s wr => ∃ (i : Nat) (L : Int) (y : List Nat) (gn cap : Nat) (bv : Value), i ≤ l.length ∧ s = .int .i64 i ∧ Hid (GrowSt wr B g (.slice (some ⟨b, off, none⟩) l.length c) l x L y (.slice (some ⟨gn, 0, none⟩) x.length cap) bv) ∧
          Hid (Covers l (x ++ [i]) L y) ∧ Below B w wr) (fun s _ => l.length - (intOf s).toNat)
      case atStart => exact ⟨0, _, _, _, _, _, Nat.zero_le _, rfl, HS3.out.drewN _, HC2.out, below_drewN hB2 _⟩
      case round =>
        clear HS3 HC2 hB2
        obtain ⟨i, L, y, gn, cap, bv, hi, rfl, HS, HC, hbel⟩ := hrel
        by_cases hil : i < l.length
        · obtain ⟨b', off', e', hb', hcell⟩ := HS.out.tasks.cells hil
          obtain ⟨rfl, rfl⟩ : b = b' ∧ off = off' := by injection e' with e'; injection e' with e1 e2; exact ⟨e1, e2⟩
          clear e'
          obtain ⟨t0, t1, t2, t3, t4⟩ := hcell i hil
          clear hcell
          have HSb := fun o => HS.out.alloc o
          have HSb := Lib.hid HSb
          have hcon := fun o => containsStr l[i].bv l[i].bef l[m].name B (wr.alloc o) ((HSb.out o).tasks.bef hil)
          have hgl := HS.out.blk.lt
          have hbb : ∀ o, Below B w (wr.alloc o) := fun o => hbel.alloc HS.out.size o
          by_cases hE : l[m].name ∈ l[i].bef
          · have Hch : Hid (Chain l (x ++ [i])) := hc.snoc hil (fun _ => ⟨by rw [Hlm.out]; exact hm, hil, by simp only [Hlm.out]; exact hE⟩)
            have hshort2 := Hch.out.short hR
            rw [List.length_append, List.length_singleton] at hshort2
            rw [decide_eq_true hE] at hcon
            have Hsum : Hid (sumAt l (x ++ [i]) = sumAt l x + l[i].len) := by unfold Hid; rw [sumAt_snoc, lenAt_eq hil]
            have hl0 := fieldB_len (hR.field i hil)
            obtain ⟨hl01, hl02⟩ := hl0
            obtain ⟨hA0, hA1, hA2, hA3, fA0, fA1, fA2, fA3⟩ := blk4 HS.out.blk
            have hE' := Lib.hid hE
            have hneo := HS.out.blk.ne_own HS.out.now (by decide)
            clear hE
            go_wp2_with (first
              | (go_at_call 134; refine (hcon _).mono ?_; rintro e w' ⟨rfl, rfl⟩)
              | (at_builtin; refine wpList_pushN _ rfl (.tmp 62) (.tmp 64) 23 rfl B 3 info_int Tryz.underlying23 rfl _ x.length (nats x) rfl (HSb.out _).now (.int .i64 i) rfl (wr.heap.size + 1) (by simp) rfl (by unfold maxLen; omega) (by omega) (HSb.out _).size ?_; intro g3 cap3 w3 hown3 hgrow3 hbg hgg; obtain ⟨k0, k1, k2, k3, e0, e1, e2, e3⟩ := blk4 ((HSb.out _).blk.kept hgrow3 hneo); have hbx3 : w3.cell? ⟨wr.heap.size, 1, none⟩ = some (.int .i64 l[i].len) := HS.out.box hgrow3 1)
              | (go_at_call 89; have hcall := IH.out (x ++ [i]) L y _ bv _ (by rw [List.length_append, List.length_singleton]; omega) (by simp) Hch.out ((HSb.out _).pushed hown3 hgrow3 hgg) HC.out; rw [Hsum.out] at hcall; refine hcall.mono ?_; rintro e w5 ⟨rfl, hb5, L5, y5, nv5, bv5, HS5, HC5⟩))
            have Bel5 : Below B w w5 := (((hbb _).grown hgrow3 (HSb.out _).size (fun k hk => by cases hk; exact (HS.out.now.lt _ rfl).1)).setCell (p := ⟨g, 1, none⟩) HS.out.hg _).trans hb5
            obtain ⟨g5, c5, rfl, _, _⟩ := HS5.now.form (by simp)
            rw [List.length_append, List.length_singleton] at HS5
            obtain ⟨p0, p1, p2, p3, d0, d1, d2, d3⟩ := blk4 HS5.blk
            have HPop := Lib.hid HS5.popped
            have hcap := own_cap (show w5.ownsRow B 3 1 (.slice (some ⟨g5, 0, none⟩) (x.length + 1) c5) (x.length + 1) (nats (x ++ [i])) by have := HS5.now; rw [List.length_append, List.length_singleton] at this; exact this)
            obtain ⟨hcap1, hcap2⟩ := hcap
            have HC6 := Lib.hid HC5.next_yes
            have hg0 := HS.out.hg
            clear HS5 HC5 hb5 hown3 hgrow3 hgg hbx3 k0 k1 k2 k3 e0 e1 e2 e3 hcon HC HS HSb hA0 hA1 hA2 hA3 fA0 fA1 fA2 fA3 hbb hbel t0 t1 t2 t3 t4 Hsum Hch
            refine wp_region_tail 14 (by kernel_rfl) (by kernel_rfl) ?_
            simp only [List.take_succ_cons, List.take_zero, List.drop_succ_cons, List.drop_zero]
            repeat (go_big_quiet_step (fail))
            refine wpQuiet_nil ?_
            go_wp2
            go_roundw
            case rel => exact ⟨i + 1, _, _, _, _, _, by omega, by go_num, HPop.out.drewN 1, HC6.out, (Bel5.setCell (p := ⟨g, 1, none⟩) hg0 _).drew⟩
            case measure => simp [intOf]; omega
          · have HNx : Hid (Covers l (x ++ [i + 1]) L y) := HC.out.next_no (fun h => hE (by
              have := h.last_edge hx
              rw [Hlm.out] at this
              exact this.2.2))
            rw [decide_eq_false hE] at hcon
            clear hE HC
            go_wp2_with (go_at_call 134; refine (hcon _).mono ?_; rintro e w' ⟨rfl, rfl⟩)
            go_roundw
            case rel => exact ⟨i + 1, _, _, _, _, _, by omega, by go_num, HSb.out _, HNx.out, hbb _⟩
            case measure => simp [intOf]; omega
        · have hie : i = l.length := by omega
          subst hie
          go_wp2
          go_end0
          exact ⟨rfl, hbel, L, y, _, bv, HS.out, HC.out⟩

end Go.Proofs.YtphbfhffiljbfaaGreat

/- bounds.Path. -/
namespace Go.Proofs.YtphbfhffiljbfaaGreat
open Go.RowKit Go.Shelf

theorem info_str : (Tryz.prog.info? 9).map (fun i => (i.zero, i.size, i.bytes)) = some (some (.string ⟨#[]⟩), 1, 16) := by kernel_rfl
theorem own_one (w : World) (base e : Nat) (u : Value) (hb : base ≤ w.heap.size) : (w.alloc (.cells #[u] e)).ownsRow base e 1 (.slice (some ⟨w.heap.size, 0, none⟩) 1 1) 1 [u] :=
  ⟨rfl, .inr ⟨w.heap.size, 1, #[u], rfl, hb, heap_alloc_new w _, Nat.le_refl _, by unfold maxLen; omega, rfl, rfl⟩⟩
/-- The names of tasks by their indices. -/
def nmsAt (l : List Task) (y : List Nat) : List ByteArray := y.map fun i => (names l).getD i ⟨#[]⟩
theorem nmsAt_snoc (l : List Task) (y : List Nat) {i : Nat} (hi : i < l.length) : nmsAt l (y ++ [i]) = nmsAt l y ++ [l[i].name] := by
  unfold nmsAt names
  rw [List.map_append, List.map_singleton, List.getD_eq_getElem?_getD, List.getElem?_map, List.getElem?_eq_getElem hi]
  rfl

/-- What Path leaves. -/
def PathPost (l : List Task) (w : World) (e : Ending) (w' : World) : Prop :=
  Below w.heap.size w w' ∧ (rightR l = false ∧ e = .returned (.tuple #[.int .i64 0, .slice none 0 0, .int .i64 1]) ∨
    rightR l = true ∧ ∃ L y v, Covers l [l.length] L y ∧ e = .returned (.tuple #[.int .i64 L, v, .int .i64 0]) ∧ w'.ownsRow w.heap.size 9 1 v y.length ((nmsAt l y).map Value.string))

theorem GrowSt.fresh {w : World} {B g : Nat} {lv nowv bestv : Value} {l : List Task} {x y : List Nat} {L : Int} (h : GrowSt w B g lv l x L y nowv bestv) (i : Nat) :
    GrowSt ((w.alloc (.cells #[.int .i64 (i : Int)] 3)).setCell ⟨g, 1, none⟩ (.slice (some ⟨w.heap.size, 0, none⟩) 1 1)) B g lv l [i] L y (.slice (some ⟨w.heap.size, 0, none⟩) 1 1) bestv := by
  have h' := h.alloc (.cells #[.int .i64 (i : Int)] 3)
  have hb4 := h'.blk.set_ 1 (.slice (some ⟨w.heap.size, 0, none⟩) 1 1)
  have gr4 := h'.blk.setGrown 1 (.slice (some ⟨w.heap.size, 0, none⟩) 1 1)
  have hne : ∀ {v : Value} {n : Nat} {xs : List Value}, (w.alloc (.cells #[.int .i64 (i : Int)] 3)).ownsRow B 3 1 v n xs → v.ownBlock = none ∨ v.ownBlock ≠ some g := fun {v n xs} ho => by
    have := h'.blk.ne_own ho (by decide)
    exact .inr (fun e => this e.symm)
  have hown := own_one w B 3 (.int .i64 (i : Int)) h.size
  refine ⟨h.hg, hb4, hown.kept gr4 (hne hown), h'.best.kept gr4 (hne h'.best), ?_, ?_, ?_⟩
  · right
    intro e
    have := (h.best.lt w.heap.size e).2
    omega
  · exact h'.tasks.below ((Below.refl B _).setCell (p := ⟨g, 1, none⟩) h.hg _) (Nat.le_refl _)
  · have := h'.size
    simp [World.setCell] at this ⊢
    omega

set_option maxRecDepth 100000 in
set_option maxHeartbeats 4000000 in
theorem boundsPath (v : Value) (l : List Task) (w : World) (hl : TasksAt w w.heap.size v l) :
    Calls Tryz.prog 44 #[v] w (PathPost l w) := by
  have hV := schedValid v l 0 0 w hl
  rw [valid_00] at hV
  have HL := Lib.hid hl
  obtain ⟨A, c, rfl, hc1, hc2, hcell⟩ := hl.open_
  unfold maxLen at hc2
  clear hl hcell
  cases hr : rightR l with
  | false =>
    rw [hr] at hV
    have HR := Lib.hid hr
    clear hr
    go_enter Tryz.func44, Tryz.ntmps44
    go_wp2_with (go_at_call 46; refine hV.mono ?_; rintro e w1 ⟨rfl, hb1⟩)
    refine bodyPost_ret (results_tmp3 rfl _ _ _) (by rfl) ?_
    exact ⟨hb1, .inl ⟨HR.out, rfl⟩⟩
  | true =>
    rw [hr] at hV
    have HR := Lib.hid hr
    have hRT := (right_iff l).1 hr
    have h8 := hRT.len
    have HRT := Lib.hid hRT
    clear hr hRT
    go_enter Tryz.func44, Tryz.ntmps44
    go_wp2_with (go_at_call 46; refine hV.mono ?_; rintro e w1 ⟨rfl, hb1⟩)
    have hT1 : TasksAt w1 w1.heap.size (.slice A l.length c) l := (HL.out.below hb1 (Nat.le_refl _)).mono hb1.size
    have HS0 : GrowSt (w1.alloc (.cells #[.slice A l.length c, .slice none 0 0, .slice none 0 0, .int .i64 0] 126)) w1.heap.size w1.heap.size (.slice A l.length c) l [] 0 [] (.slice none 0 0) (.slice none 0 0) :=
      ⟨Nat.le_refl _, Blk.new _ _ _, World.ownsRow_nil _ _ _ _, World.ownsRow_nil _ _ _ _, .inl rfl, hT1.below ((Below.refl _ _).alloc (Nat.le_refl _) _) (Nat.le_refl _), by simp⟩
    have hB0 := hb1.alloc hb1.size (.cells #[.slice A l.length c, .slice none 0 0, .slice none 0 0, .int .i64 0] 126)
    have hsz := hb1.size
    clear hb1 hT1 hV
    generalize w1.alloc (.cells #[.slice A l.length c, .slice none 0 0, .slice none 0 0, .int .i64 0] 126) = w2 at *
    generalize w1.heap.size = g at *
    go_loopw [19] (fun s wr => ∃ (i : Nat) (x : List Nat) (L : Int) (y : List Nat) (nv bv : Value), i ≤ l.length ∧ s = .int .i64 i ∧ Hid (GrowSt wr g g (.slice A l.length c) l x L y nv bv) ∧ Hid (Covers l [i] L y) ∧ Below w.heap.size w wr) (fun s _ => l.length - (intOf s).toNat)
    case atStart => exact ⟨0, _, _, _, _, _, Nat.zero_le _, rfl, HS0, Covers.start l, hB0⟩
    case round =>
      clear HS0 hB0
      obtain ⟨i, x, L, y, nv, bv, hi, rfl, HS, HC, hbel⟩ := hrel
      by_cases hil : i < l.length
      · obtain ⟨b, off, rfl, hb, hcell⟩ := HS.out.tasks.cells hil
        obtain ⟨t0, t1, t2, t3, t4⟩ := hcell i hil
        clear hcell
        have HSb := fun o => HS.out.alloc o
        have HSb := Lib.hid HSb
        have hgl := HS.out.blk.lt
        have hbb : ∀ o, Below w.heap.size w (wr.alloc o) := fun o => hbel.alloc hbel.size o
        obtain ⟨h0, h1, h2, h3, f0, f1, f2, f3⟩ := blk4 HS.out.blk
        have Hsum : Hid (sumAt l [i] = l[i].len) := by unfold Hid; rw [show sumAt l [i] = lenAt l i by simp [sumAt], lenAt_eq hil]
        go_wp2_with fail
        have hf := (HSb.out (.cells #[.string l[i].name, .int .i64 l[i].len, .int .i64 l[i].crew, .int .i64 l[i].pow, .slice l[i].ba l[i].bef.length l[i].bc] 46)).fresh i
        simp only [World.size_alloc] at hf
        rw [World.setCell_alloc_past _ _ _ _ (by simp; omega), World.setCell_alloc_past _ _ _ _ hgl] at hf
        have hcall := grow_any g g _ l HRT.out l.length [i] L y _ bv _ (by simp) (by simp) (Chain.one hil) hf HC.out
        rw [Hsum.out] at hcall
        refine hcall.mono ?_
        rintro e w5 ⟨rfl, hb5, L5, y5, nv5, bv5, HS5, HC5⟩
        have Bel5 : Below w.heap.size w w5 := (((hbel.setCell (p := ⟨g, 1, none⟩) hsz _).alloc (by simp [World.setCell]; exact hbel.size) _).alloc (by simp [World.setCell]; have := hbel.size; omega) _).trans (hb5.mono hsz)
        have HC6 : Hid (Covers l [i + 1] L5 y5) := Covers.next_yes (x := []) HC5
        clear hf hcall h0 h1 h2 h3 f0 f1 f2 f3 hbb HSb HS HC hb5 t0 t1 t2 t3 t4 Hsum
        go_wp2
        go_roundw
        case rel => exact ⟨i + 1, _, _, _, _, _, by omega, by go_num, HS5, HC6, Bel5⟩
        case measure => simp [intOf]; omega
      · have hie : i = l.length := by omega
        subst hie
        obtain ⟨wo, rfl⟩ : ∃ wo : World, wo = wr := ⟨_, rfl⟩
        obtain ⟨h0, h1, h2, h3, f0, f1, f2, f3⟩ := blk4 HS.out.blk
        have hbr : IntsAt wo wo.heap.size bv (ints y) := RowAt.of_own (show wo.ownsRow g 3 1 bv y.length ((ints y).map (Value.int .i64)) from HS.out.best)
        obtain ⟨A2, c2, rfl, hy1, hy2, hcy⟩ := hbr.open_
        rw [length_ints] at *
        unfold maxLen at hy2
        have hyl := HC.out.chain.short HRT.out
        have hgl := HS.out.blk.lt
        clear hbr
        go_wp2
        go_loopw [39, 8] (fun s o wi => ∃ (j : Nat), j ≤ y.length ∧ s = .int .i64 j ∧ wi.ownsRow wo.heap.size 9 1 o j ((nmsAt l (y.take j)).map Value.string) ∧ Below wo.heap.size wo wi) (fun s _ _ => y.length - (intOf s).toNat)
        case atStart => exact ⟨0, Nat.zero_le _, rfl, World.ownsRow_nil _ _ _ _, Below.refl _ _⟩
        case round =>
          obtain ⟨j, hj, rfl, hown, hbi⟩ := hrel
          have hTb := HS.out.tasks.below hbi HS.out.size
          by_cases hjl : j < y.length
          · obtain ⟨b2, off2, rfl, hb2, hcy⟩ := hcy j (by rw [length_ints]; exact hjl)
            have hyj := (hbi.cell (p := ⟨b2, off2 + j, none⟩) hb2).trans (hcy j (by rw [length_ints]; exact hjl))
            clear hcy
            have hyn := HC.out.chain.1 _ (List.getElem_mem hjl)
            obtain ⟨b, off, rfl, hb, hcell⟩ := hTb.cells hyn
            obtain ⟨t0, -, -, -, -⟩ := hcell _ hyn
            clear hcell
            rw [show (ints y)[j]'(by rw [length_ints]; exact hjl) = ((y[j] : Nat) : Int) by simp [ints]] at hyj
            have HN : Hid (nmsAt l (y.take (j + 1)) = nmsAt l (y.take j) ++ [l[y[j]].name]) := by unfold Hid; rw [take_snoc y j hjl, nmsAt_snoc l _ hyn]
            have hsz2 := hbi.size
            have hsz3 := hbel.size
            go_wp2_with (at_builtin; refine wpList_push _ rfl (.tmp 43) (.tmp 49) 44 rfl wo.heap.size 9 info_str Tryz.underlying44 rfl _ j _ rfl hown (.string l[y[j]].name) rfl rfl (by unfold maxLen; omega) (by omega) (by omega) ?_; intro g3 cap3 w3 hown3 hgrow3 hbg hgg)
            have hown4 : w3.ownsRow wo.heap.size 9 1 (.slice (some ⟨g3, 0, none⟩) (j + 1) cap3) (j + 1) ((nmsAt l (y.take (j + 1))).map Value.string) := by rw [HN.out, List.map_append]; exact hown3
            have hb3 := hbi.grown hgrow3 hbi.size (fun k hk => (hown.lt k hk).1)
            clear hown3 hgrow3 hgg hown HN t0 hyj hbi
            go_roundw
            case rel => exact ⟨j + 1, by omega, by go_num, hown4, hb3⟩
            case measure => simp [intOf]; omega
          · have hje : j = y.length := by omega
            subst hje
            rw [List.take_length] at hown
            clear hcy
            obtain ⟨p0, p1, p2, p3, d0, d1, d2, d3⟩ := blk4 (HS.out.blk.below hbi hgl)
            go_wp2
            refine bodyPost_ret (results_tmp3 rfl _ _ _) (by rfl) ?_
            exact ⟨hbel.trans (hbi.mono hbel.size), .inr ⟨HR.out, L, y, _, HC.out, rfl, own_mono hown hbel.size⟩⟩

end Go.Proofs.YtphbfhffiljbfaaGreat

/- The reference for layer 44. -/
namespace Go.Proofs.YtphbfhffiljbfaaGreat
open Go.RowKit Go.Shelf

set_option maxHeartbeats 400000 in
theorem rbefore (v : Value) (l : List Task) (i k : Nat) (w : World) (B : Nat) (hl : TasksAt w B v l) (hi : i < l.length) (hk : k < l.length) :
    Calls Tryz.prog 100 #[v, .int .i64 i, .int .i64 k] w fun e w' => e = .returned (.bool (decide (l[i].name ∈ l[k].bef))) ∧ ∃ n, w.drewN n = w' := by
  obtain ⟨A, c, rfl, hc1, hc2, hcell⟩ := hl.open_
  obtain ⟨b, off, rfl, hb, hcell⟩ := hcell i hi
  have hti := hcell i hi
  have htk := hcell k hk
  clear hcell
  obtain ⟨hd1, hd2, hs⟩ := hl.open_bef hk
  obtain ⟨hi0, -, -, -, -⟩ := hti
  obtain ⟨-, -, -, -, hk4⟩ := htk
  unfold maxLen at hc2 hd2
  clear hl
  generalize l[k].ba = A' at *
  generalize l[k].bc = c' at *
  generalize hL : l[k].bef = L at *
  generalize hN : l[i].name = nm at *
  clear hL hN
  go_enter Tryz.func100, Tryz.ntmps100
  go_wp2
  go_loopw [7] (fun x wr => ∃ j : Nat, j ≤ L.length ∧ x = .int .i64 j ∧ Hid (nm ∉ L.take j) ∧ ∃ n, wr = w.drewN n) (fun x _ => L.length - (intOf x).toNat)
  case atStart => exact ⟨0, Nat.zero_le _, rfl, by unfold Hid; simp, 0, rfl⟩
  case round =>
    obtain ⟨j, hj, rfl, Hnm, n, rfl⟩ := hrel
    by_cases hlt : j < L.length
    · obtain ⟨b', off', rfl, hb', hs⟩ := hs j hlt
      have hsj := hs j hlt
      clear hs
      by_cases hq : L[j] = nm
      · have ht : (L[j].toList == nm.toList) = true := by rw [str_beq]; simpa using hq
        have HQ := Lib.hid hq
        clear hq
        go_wp2
        go_quiet (fail)
        go_wp2
        go_ret
        exact ⟨by rw [← HQ.out]; simp, q2⟩
      · have ht : (L[j].toList == nm.toList) = false := by rw [str_beq]; simpa using hq
        go_wp2
        go_quiet (fail)
        go_wp2
        go_roundw
        case rel => exact ⟨j + 1, by omega, by go_num, notin_snoc hlt Hnm.out hq, _, rfl⟩
        case measure => simp [intOf]; omega
    · have hje : j = L.length := by omega
      subst hje
      go_wp2
      go_ret
      exact ⟨by have := Hnm.out; rw [List.take_length] at this; simpa using this, _, rfl⟩

/-! ### The longest chain that begins with a task -/
theorem Chain.cons_iff {l : List Task} {i j : Nat} {z : List Nat} : Chain l (i :: j :: z) ↔ edge l i j ∧ Chain l (j :: z) := by
  constructor
  · intro h
    refine ⟨h.2 0 (by simp), fun k hk => h.1 k (List.mem_cons_of_mem _ hk), fun k hk => ?_⟩
    have := h.2 (k + 1) (by simp only [List.length_cons] at hk ⊢; omega)
    simpa using this
  · rintro ⟨he, h⟩
    refine ⟨fun k hk => ?_, fun k hk => ?_⟩
    · rw [List.mem_cons] at hk
      rcases hk with rfl | hk
      · exact he.1
      · exact h.1 k hk
    · cases k with
      | zero => exact he
      | succ k =>
        have := h.2 k (by simp only [List.length_cons] at hk ⊢; omega)
        simpa using this
theorem sumAt_cons (l : List Task) (i : Nat) (z : List Nat) : sumAt l (i :: z) = lenAt l i + sumAt l z := by simp [sumAt]

/-- n is the greatest sum of a chain that begins with task i. -/
structure IsFrom (l : List Task) (i : Nat) (n : Int) : Prop where
  has : ∃ z, Chain l (i :: z) ∧ sumAt l (i :: z) = n
  most : ∀ z, Chain l (i :: z) → sumAt l (i :: z) ≤ n
theorem IsFrom.uniq {l : List Task} {i : Nat} {n m : Int} (h : IsFrom l i n) (k : IsFrom l i m) : n = m := by
  obtain ⟨z, hz, e⟩ := h.has
  obtain ⟨z', hz', e'⟩ := k.has
  have h1 := h.most z' hz'
  have h2 := k.most z hz
  omega
theorem IsFrom.bd {l : List Task} (hR : RightT l) {i : Nat} {n : Int} (h : IsFrom l i n) : 0 ≤ n ∧ n ≤ 80000 := by
  obtain ⟨z, hz, e⟩ := h.has
  have h1 := sumAt_bd hR (i :: z)
  have h2 := hz.short hR
  have h3 := hR.len
  omega
/-- The greatest among the tasks ahead of k that wait for task i. -/
structure MostTo (l : List Task) (i k : Nat) (n : Int) : Prop where
  zero : 0 ≤ n
  most : ∀ j, j < k → edge l i j → ∀ m, IsFrom l j m → m ≤ n
  has : n = 0 ∨ ∃ j, j < k ∧ edge l i j ∧ IsFrom l j n
theorem MostTo.start (l : List Task) (i : Nat) : MostTo l i 0 0 := ⟨Int.le_refl _, fun j h => absurd h (Nat.not_lt_zero j), .inl rfl⟩
theorem MostTo.no {l : List Task} {i k : Nat} {n : Int} (h : MostTo l i k n) (hno : ¬ edge l i k) : MostTo l i (k + 1) n := by
  refine ⟨h.zero, fun j hj he m hm => ?_, ?_⟩
  · by_cases e : j = k
    · subst e; exact absurd he hno
    · exact h.most j (by omega) he m hm
  · rcases h.has with h | ⟨j, h1, h2⟩
    · exact .inl h
    · exact .inr ⟨j, by omega, h2⟩
theorem MostTo.yes {l : List Task} {i k : Nat} {n m : Int} (h : MostTo l i k n) (he : edge l i k) (hm : IsFrom l k m) : MostTo l i (k + 1) (if n < m then m else n) := by
  by_cases hlt : n < m
  · rw [if_pos hlt]
    refine ⟨by have := h.zero; omega, fun j hj he' m' hm' => ?_, .inr ⟨k, by omega, he, hm⟩⟩
    by_cases e : j = k
    · subst e; have := hm.uniq hm'; omega
    · have := h.most j (by omega) he' m' hm'; omega
  · rw [if_neg hlt]
    refine ⟨h.zero, fun j hj he' m' hm' => ?_, ?_⟩
    · by_cases e : j = k
      · subst e; have := hm.uniq hm'; omega
      · exact h.most j (by omega) he' m' hm'
    · rcases h.has with h | ⟨j, h1, h2⟩
      · exact .inl h
      · exact .inr ⟨j, by omega, h2⟩
/-- Every task has such a number. -/
theorem isFrom_of_most {l : List Task} {i : Nat} (hi : i < l.length) {n : Int} (h : MostTo l i l.length n) (hex : ∀ j, edge l i j → ∃ m, IsFrom l j m) : IsFrom l i (l[i].len + n) := by
  refine ⟨?_, fun z hz => ?_⟩
  · rcases h.has with rfl | ⟨j, _, he, hj⟩
    · exact ⟨[], Chain.one hi, by rw [sumAt_cons, lenAt_eq hi, sumAt_nil]⟩
    · obtain ⟨z, hz, e⟩ := hj.has
      exact ⟨j :: z, Chain.cons_iff.2 ⟨he, hz⟩, by rw [sumAt_cons, lenAt_eq hi, e]⟩
  · rw [sumAt_cons, lenAt_eq hi]
    cases z with
    | nil => rw [sumAt_nil]; have := h.zero; omega
    | cons j z =>
      obtain ⟨he, hz'⟩ := Chain.cons_iff.1 hz
      obtain ⟨m, hm⟩ := hex j he
      have h1 := hm.most z hz'
      have h2 := h.most j he.2.1 he m hm
      omega
theorem exists_most {l : List Task} {i : Nat} (hex : ∀ j, edge l i j → ∃ m, IsFrom l j m) : ∀ k, ∃ n, MostTo l i k n
  | 0 => ⟨0, MostTo.start l i⟩
  | k + 1 => by
    obtain ⟨n, hn⟩ := exists_most hex k
    by_cases he : edge l i k
    · obtain ⟨m, hm⟩ := hex k he
      exact ⟨_, hn.yes he hm⟩
    · exact ⟨n, hn.no he⟩
theorem exists_from {l : List Task} (hR : RightT l) : ∀ (f i : Nat), i < l.length → (∀ z, Chain l (i :: z) → (i :: z).length ≤ f) → ∃ n, IsFrom l i n
  | 0, i, hi, h => by have := h [] (Chain.one hi); simp at this
  | f + 1, i, hi, h => by
    have hex : ∀ j, edge l i j → ∃ m, IsFrom l j m := fun j he => exists_from hR f j he.2.1 fun z hz => by
      have := h (j :: z) (Chain.cons_iff.2 ⟨he, hz⟩)
      simpa using this
    obtain ⟨n, hn⟩ := exists_most hex l.length
    exact ⟨_, isFrom_of_most hi hn hex⟩

set_option maxRecDepth 100000 in
set_option maxHeartbeats 1000000 in
theorem refFrom (v : Value) (l : List Task) (B : Nat) (hR : RightT l) : ∀ (f i : Nat) (w : World), i < l.length → (∀ z, Chain l (i :: z) → (i :: z).length ≤ f) → TasksAt w B v l →
    Calls Tryz.prog 99 #[v, .int .i64 i] w fun e w' => (∃ n, e = .returned (.int .i64 n) ∧ IsFrom l i n) ∧ ∃ q, w.drewN q = w' := by
  intro f
  induction f with
  | zero => intro i w hi h; have := h [] (Chain.one hi); simp at this
  | succ f ih =>
    intro i w hi hch hl
    have hex : ∀ j, edge l i j → ∃ m, IsFrom l j m := fun j he => exists_from hR f j he.2.1 fun z hz => by
      have := hch (j :: z) (Chain.cons_iff.2 ⟨he, hz⟩)
      simpa using this
    have Hex := Lib.hid hex
    have IH : Hid (∀ j, edge l i j → ∀ q, Calls Tryz.prog 99 #[v, .int .i64 j] (w.drewN q) fun e w' => (∃ n, e = .returned (.int .i64 n) ∧ IsFrom l j n) ∧ ∃ q', (w.drewN q).drewN q' = w') := fun j he q => ih j _ he.2.1 (fun z hz => by
      have := hch (j :: z) (Chain.cons_iff.2 ⟨he, hz⟩)
      simpa using this) (hl.drewN q)
    clear ih hex hch
    have HL := Lib.hid hl
    obtain ⟨A, c, rfl, hc1, hc2, hcell⟩ := hl.open_
    unfold maxLen at hc2
    clear hl
    obtain ⟨b, off, rfl, hb, hcell⟩ := hcell i hi
    obtain ⟨-, t1, -, -, -⟩ := hcell i hi
    clear hcell
    have hlen := fieldB_len (hR.field i hi)
    have h8 := hR.len
    obtain ⟨hlen1, hlen2⟩ := hlen
    go_enter Tryz.func99, Tryz.ntmps99
    go_wp2
    go_loopw [6, 5] (fun s m wr => ∃ (k : Nat) (n : Int), k ≤ l.length ∧ s = .int .i64 k ∧ m = .int .i64 n ∧ n ≤ 80000 ∧ Hid (MostTo l i k n) ∧ ∃ q, wr = w.drewN q) (fun s _ _ => l.length - (intOf s).toNat)
    case atStart => exact ⟨0, 0, Nat.zero_le _, rfl, rfl, by omega, MostTo.start l i, 0, rfl⟩
    case round =>
      obtain ⟨k, n, hk, rfl, rfl, hn, HM, q, rfl⟩ := hrel
      by_cases hkl : k < l.length
      · have hbf := rbefore _ l i k (w.drewN q) B (HL.out.drewN q) hi hkl
        by_cases hE : l[i].name ∈ l[k].bef
        · have he : edge l i k := ⟨hi, hkl, hE⟩
          have hcall := fun q => IH.out k he q
          rw [decide_eq_true hE] at hbf
          have He := Lib.hid he
          clear hE he
          go_wp2_with (first | (go_at_call 100; refine hbf.mono ?_; rintro e w' ⟨rfl, q1, rfl⟩) | (go_at_call 99; refine (hcall _).mono ?_; rintro e w' ⟨⟨m, rfl, hm⟩, q2, rfl⟩))
          · have hlt : n < m := by assumption
            have HY := HM.out.yes He.out hm
            rw [if_pos hlt] at HY
            have hbm := hm.bd hR
            go_roundw
            case rel => exact ⟨k + 1, m, by omega, by go_num, rfl, hbm.2, HY, _, rfl⟩
            case measure => simp [intOf]; omega
          · have hlt : ¬ n < m := by omega
            have HY := HM.out.yes He.out hm
            rw [if_neg hlt] at HY
            go_roundw
            case rel => exact ⟨k + 1, n, by omega, by go_num, rfl, hn, HY, _, rfl⟩
            case measure => simp [intOf]; omega
        · have hno : ¬ edge l i k := fun h => hE h.2.2
          rw [decide_eq_false hE] at hbf
          have HN : Hid (MostTo l i (k + 1) n) := HM.out.no hno
          clear hE hno HM
          go_wp2_with (go_at_call 100; refine hbf.mono ?_; rintro e w' ⟨rfl, q1, rfl⟩)
          go_roundw
          case rel => exact ⟨k + 1, n, by omega, by go_num, rfl, hn, HN, _, rfl⟩
          case measure => simp [intOf]; omega
      · have hke : k = l.length := by omega
        subst hke
        have HF := Lib.hid (isFrom_of_most hi HM.out Hex.out)
        have h0 := HM.out.zero
        clear HM
        go_wp2
        go_ret
        exact ⟨⟨_, rfl, HF.out⟩, q, rfl⟩

end Go.Proofs.YtphbfhffiljbfaaGreat

/- The greatest length of a chain, and the greedy choice of the least longest chain. No program in sight. -/
namespace Go.Proofs.YtphbfhffiljbfaaGreat

theorem lenAt_pos {l : List Task} (hR : RightT l) {i : Nat} (hi : i < l.length) : 1 ≤ lenAt l i := by
  rw [lenAt_eq hi]
  exact (fieldB_len (hR.field i hi)).1
theorem sumAt_append (l : List Task) (x y : List Nat) : sumAt l (x ++ y) = sumAt l x + sumAt l y := by simp [sumAt]

/-- The greatest of the chains that begin below k. -/
structure MostUp (l : List Task) (k : Nat) (n : Int) : Prop where
  zero : 0 ≤ n
  most : ∀ j, j < k → ∀ m, IsFrom l j m → m ≤ n
  has : n = 0 ∨ ∃ j, j < k ∧ IsFrom l j n
theorem MostUp.start (l : List Task) : MostUp l 0 0 := ⟨Int.le_refl _, fun j h => absurd h (Nat.not_lt_zero j), .inl rfl⟩
theorem MostUp.next {l : List Task} {k : Nat} {n m : Int} (h : MostUp l k n) (hm : IsFrom l k m) : MostUp l (k + 1) (if n < m then m else n) := by
  have hz := h.zero
  by_cases hlt : n < m
  · rw [if_pos hlt]
    refine ⟨by omega, fun j hj m' hm' => ?_, .inr ⟨k, by omega, hm⟩⟩
    by_cases e : j = k
    · subst e; have := hm.uniq hm'; omega
    · have := h.most j (by omega) m' hm'; omega
  · rw [if_neg hlt]
    refine ⟨hz, fun j hj m' hm' => ?_, ?_⟩
    · by_cases e : j = k
      · subst e; have := hm.uniq hm'; omega
      · exact h.most j (by omega) m' hm'
    · rcases h.has with h | ⟨j, h1, h2⟩
      · exact .inl h
      · exact .inr ⟨j, by omega, h2⟩
theorem from_ex {l : List Task} (hR : RightT l) {i : Nat} (hi : i < l.length) : ∃ n, IsFrom l i n := exists_from hR l.length i hi fun _ hz => hz.short hR
theorem MostUp.all {l : List Task} (hR : RightT l) {n : Int} (h : MostUp l l.length n) (z : List Nat) (hz : Chain l z) : sumAt l z ≤ n := by
  cases z with
  | nil => rw [sumAt_nil]; exact h.zero
  | cons i z =>
    have hi := hz.1 i (by simp)
    obtain ⟨m, hm⟩ := from_ex hR hi
    have h1 := hm.most z hz
    have h2 := h.most i hi m hm
    omega

theorem lex_ext : ∀ (p z q : List Nat), lex p z → ¬ p <+: z → lex (p ++ q) z
  | [], z, q, _, h => absurd (List.nil_prefix) h
  | a :: p, [], q, h, _ => absurd h (lex_nil_iff _)
  | a :: p, b :: z, q, h, hp => by
    rcases h with h | ⟨rfl, h⟩
    · exact .inl h
    · exact .inr ⟨rfl, lex_ext p z q h fun hh => hp (by rw [List.cons_prefix_cons]; exact ⟨rfl, hh⟩)⟩
theorem lex_pref : ∀ (p q z : List Nat), lex q z → lex (p ++ q) (p ++ z)
  | [], _, _, h => h
  | _ :: p, q, z, h => .inr ⟨rfl, lex_pref p q z h⟩

/-- Task k may come next. -/
def nextOK (l : List Task) (p : List Nat) (k : Nat) : Prop := ∀ hp : p ≠ [], edge l (p.getLast hp) k
theorem chain_app {l : List Task} {k : Nat} : ∀ {p z : List Nat}, Chain l p → Chain l (k :: z) → nextOK l p k → Chain l (p ++ k :: z)
  | [], z, _, h, _ => h
  | [_], _, _, h, hn => Chain.cons_iff.2 ⟨hn (by simp), h⟩
  | a :: b :: p, z, hp, h, hn => by
    obtain ⟨h1, h2⟩ := Chain.cons_iff.1 hp
    exact Chain.cons_iff.2 ⟨h1, chain_app (p := b :: p) h2 h fun hq => by have := hn (by simp); rwa [List.getLast_cons hq] at this⟩
theorem chain_back {l : List Task} : ∀ {p z : List Nat}, Chain l (p ++ z) → Chain l z
  | [], _, h => h
  | [_], [], _ => Chain.nil l
  | [_], _ :: _, h => (Chain.cons_iff.1 h).2
  | _ :: b :: p, _, h => chain_back (p := b :: p) (Chain.cons_iff.1 h).2
theorem chain_next {l : List Task} {p z : List Nat} {k : Nat} (h : Chain l (p ++ k :: z)) : nextOK l p k := fun hp => by
  have h' : Chain l ((p ++ [k]) ++ z) := by simpa using h
  exact h'.front.last_edge hp

/-- The list p, of which r is missing to the greatest sum M. -/
structure Greedy (l : List Task) (M : Int) (p : List Nat) (r : Int) : Prop where
  chain : Chain l p
  sum : sumAt l p + r = M
  left : 0 ≤ r
  most : ∀ z, Chain l z → sumAt l z ≤ M
  more : 0 < r → ∃ k z, Chain l (p ++ k :: z) ∧ sumAt l (k :: z) = r
  least : ∀ z, Chain l z → sumAt l z = M → p <+: z ∨ lex p z
theorem Greedy.start {l : List Task} (hR : RightT l) {M : Int} (h : MostUp l l.length M) : Greedy l M [] M := by
  refine ⟨Chain.nil l, by simp [sumAt_nil], h.zero, h.all hR, fun h0 => ?_, fun z _ _ => .inl List.nil_prefix⟩
  rcases h.has with h | ⟨j, _, hj⟩
  · omega
  · obtain ⟨z, hz, e⟩ := hj.has
    exact ⟨j, z, hz, e⟩
theorem Greedy.isFrom {l : List Task} {M r : Int} {p z : List Nat} {k : Nat} (h : Greedy l M p r) (hz : Chain l (p ++ k :: z)) (hs : sumAt l (k :: z) = r) : IsFrom l k r := by
  refine ⟨⟨z, chain_back hz, hs⟩, fun z' hz' => ?_⟩
  have := h.most _ (chain_app h.chain hz' (chain_next hz))
  rw [sumAt_append] at this
  have := h.sum
  omega
/-- There is a task that may come next. -/
theorem Greedy.wit {l : List Task} {M r : Int} {p : List Nat} (h : Greedy l M p r) (h0 : 0 < r) : ∃ k, k < l.length ∧ nextOK l p k ∧ IsFrom l k r := by
  obtain ⟨k, z, hz, hs⟩ := h.more h0
  exact ⟨k, hz.1 k (by simp), chain_next hz, h.isFrom hz hs⟩
/-- The least one is taken. -/
theorem Greedy.take {l : List Task} (hR : RightT l) {M r : Int} {p : List Nat} {k : Nat} (h : Greedy l M p r) (h0 : 0 < r) (hk : k < l.length) (hn : nextOK l p k) (hf : IsFrom l k r)
    (hno : ∀ j, j < k → nextOK l p j → ¬ IsFrom l j r) : Greedy l M (p ++ [k]) (r - lenAt l k) := by
  obtain ⟨z, hz, hs⟩ := hf.has
  have hpz := chain_app h.chain hz hn
  have hs' := hs
  rw [sumAt_cons] at hs'
  have hz0 := (sumAt_bd hR z).1
  refine ⟨(show Chain l ((p ++ [k]) ++ z) by simpa using hpz).front, by rw [sumAt_snoc]; have := h.sum; omega, by omega, h.most, fun hpos => ?_, fun z' hz' hs2 => ?_⟩
  · cases z with
    | nil => rw [sumAt_nil] at hs'; omega
    | cons k2 z2 => exact ⟨k2, z2, by simpa using hpz, by omega⟩
  · by_cases hp : p <+: z'
    · obtain ⟨t, rfl⟩ := hp
      rw [sumAt_append] at hs2
      cases t with
      | nil => rw [sumAt_nil] at hs2; have := h.sum; omega
      | cons j t =>
        have hj := h.isFrom hz' (by have := h.sum; omega)
        have hjk : ¬ j < k := fun hlt => hno j hlt (chain_next hz') hj
        by_cases e : j = k
        · subst e; exact .inl ⟨t, by simp⟩
        · refine .inr (lex_pref p [k] (j :: t) (.inl (by omega)))
    · rcases h.least z' hz' hs2 with h' | h'
      · exact absurd h' hp
      · exact .inr (lex_ext p z' [k] h' hp)
theorem Greedy.done {l : List Task} {M r : Int} {p : List Nat} (h : Greedy l M p r) (h0 : ¬ 0 < r) : Covers l [l.length] M p := by
  have hr : r = 0 := by have := h.left; omega
  subst hr
  have hlow : lex p [l.length] := by
    cases p with
    | nil => trivial
    | cons a p => exact .inl (h.chain.1 a (by simp))
  refine ⟨h.chain, hlow, by have := h.sum; omega, fun z hz _ => h.most z hz, fun z hz _ hs => ?_⟩
  rcases h.least z hz hs with ⟨t, rfl⟩ | h'
  · cases t with
    | nil => left; simp
    | cons a t =>
      right
      have := lex_pref p [] (a :: t) trivial
      rwa [List.append_nil] at this
  · exact .inr h'

end Go.Proofs.YtphbfhffiljbfaaGreat

/- The reference's Path and Names of layer 44. -/
namespace Go.Proofs.YtphbfhffiljbfaaGreat
open Go.RowKit Go.Shelf

/-- What the reference's Path leaves: the longest chain. -/
def RefPathPost (l : List Task) (w : World) (e : Ending) (w' : World) : Prop :=
  Below w.heap.size w w' ∧ ∃ (L : Int) (y : List Nat) (v : Value), Covers l [l.length] L y ∧ e = .returned (.tuple #[.int .i64 L, v]) ∧ w'.ownsRow w.heap.size 3 1 v y.length (nats y)

theorem own_open (w : World) (B e : Nat) (v : Value) (y : List Nat) (h : w.ownsRow B e 1 v y.length (nats y)) : ∃ A c, v = .slice A y.length c ∧ y.length ≤ c ∧ c ≤ 9223372036854775807 ∧ ∀ k (_ : k < y.length), ∃ b off, A = some ⟨b, off, none⟩ ∧ b < w.heap.size ∧ ∀ j (hj : j < y.length), w.cell? ⟨b, off + j, none⟩ = some (.int .i64 (y[j] : Nat)) := by
  have hbr : IntsAt w w.heap.size v (ints y) := RowAt.of_own (show w.ownsRow B e 1 v y.length ((ints y).map (Value.int .i64)) from h)
  obtain ⟨A2, c2, rfl, hy1, hy2, hcy⟩ := hbr.open_
  rw [length_ints] at *
  unfold maxLen at hy2
  refine ⟨A2, c2, rfl, hy1, hy2, fun k hk => ?_⟩
  obtain ⟨b, off, e1, hb, hc⟩ := hcy k (by rw [length_ints]; exact hk)
  refine ⟨b, off, e1, hb, fun j hj => ?_⟩
  rw [hc j (by rw [length_ints]; exact hj)]
  simp [ints]

set_option maxRecDepth 100000 in
set_option maxHeartbeats 4000000 in
theorem refPath (v : Value) (l : List Task) (w : World) (hR : RightT l) (hl : TasksAt w w.heap.size v l) :
    Calls Tryz.prog 57 #[v] w (RefPathPost l w) := by
  have HF : Hid (∀ (k : Nat) (n : Int) (wr : World), k < l.length → IsFrom l k n → Below w.heap.size w wr → Calls Tryz.prog 99 #[v, .int .i64 k] wr fun e w' => e = .returned (.int .i64 n) ∧ ∃ q, wr.drewN q = w') := fun k n wr hk hn hb => by
    refine (refFrom v l w.heap.size hR l.length k wr hk (fun z hz => hz.short hR) (hl.below hb (Nat.le_refl _))).mono ?_
    rintro e w' ⟨⟨m, rfl, hm⟩, hq⟩
    rw [hm.uniq hn]
    exact ⟨rfl, hq⟩
  have HB : Hid (∀ (i k : Nat) (wr : World) (hi : i < l.length) (hk : k < l.length), Below w.heap.size w wr → Calls Tryz.prog 100 #[v, .int .i64 i, .int .i64 k] wr fun e w' => e = .returned (.bool (decide (l[i].name ∈ l[k].bef))) ∧ ∃ q, wr.drewN q = w') := fun i k wr hi hk hb =>
    rbefore v l i k wr w.heap.size (hl.below hb (Nat.le_refl _)) hi hk
  have HL := Lib.hid hl
  have HRT := Lib.hid hR
  have h8 := hR.len
  obtain ⟨A, c, rfl, hc1, hc2, hcell⟩ := hl.open_
  unfold maxLen at hc2
  clear hl hcell hR
  go_enter Tryz.func57, Tryz.ntmps57
  go_wp2
  go_loopw [5, 4] (fun s m wr => ∃ (k : Nat) (n : Int), k ≤ l.length ∧ s = .int .i64 k ∧ m = .int .i64 n ∧ n ≤ 80000 ∧ Hid (MostUp l k n) ∧ ∃ q, wr = w.drewN q) (fun s _ _ => l.length - (intOf s).toNat)
  case atStart => exact ⟨0, 0, Nat.zero_le _, rfl, rfl, by omega, MostUp.start l, 0, rfl⟩
  case round =>
    obtain ⟨k, n, hk, rfl, rfl, hn, HM, q, rfl⟩ := hrel
    by_cases hkl : k < l.length
    · obtain ⟨m, hm⟩ := from_ex HRT.out hkl
      have hcall := HF.out k m (w.drewN q) hkl hm (below_drewN (Below.refl _ _) q)
      have hbm := hm.bd HRT.out
      have HY := Lib.hid (HM.out.next hm)
      have Hm := Lib.hid hm
      clear hm HM
      go_wp2_with (go_at_call 99; refine hcall.mono ?_; rintro e w' ⟨rfl, q2, rfl⟩)
      · have hlt : n < m := by assumption
        rw [if_pos hlt] at HY
        go_roundw
        case rel => exact ⟨k + 1, m, by omega, by go_num, rfl, hbm.2, HY, _, rfl⟩
        case measure => simp [intOf]; omega
      · have hlt : ¬ n < m := by omega
        rw [if_neg hlt] at HY
        go_roundw
        case rel => exact ⟨k + 1, n, by omega, by go_num, rfl, hn, HY, _, rfl⟩
        case measure => simp [intOf]; omega
    · have hke : k = l.length := by omega
      subst hke
      have HG := Lib.hid (Greedy.start HRT.out HM.out)
      clear HM
      go_wp2
      go_loopw [8, 7] (fun s o wo => ∃ (r : Int) (p : List Nat), s = .int .i64 r ∧ r ≤ 80000 ∧ Hid (Greedy l n p r) ∧ wo.ownsRow w.heap.size 3 1 o p.length (nats p) ∧ Below w.heap.size w wo) (fun s _ _ => (intOf s).toNat)
      case atStart => exact ⟨n, [], rfl, hn, HG, World.ownsRow_nil _ _ _ _, below_drewN (Below.refl _ _) _⟩
      case round =>
        clear HG
        obtain ⟨r, p, rfl, hr, HG, hown, hbel⟩ := hrel
        have hpl := HG.out.chain.short HRT.out
        have hr0 := HG.out.left
        by_cases h0 : 0 < r
        · obtain ⟨K, hK, hKn, hKf⟩ := HG.out.wit h0
          have HKn := Lib.hid hKn
          have HKf := Lib.hid hKf
          have hbr := own_open wr _ _ _ p hown
          obtain ⟨A2, c2, rfl, hy1, hy2, hcy⟩ := hbr
          clear hKn hKf
          go_wp2
          obtain ⟨wx, rfl⟩ : ∃ wx : World, wx = wr := ⟨_, rfl⟩
          go_loopw [9] (fun s wi => ∃ (k : Nat), k ≤ K ∧ s = .int .i64 k ∧ Hid (∀ j, j < k → nextOK l p j → ¬ IsFrom l j r) ∧ ∃ q, wi = wx.drewN q) (fun s _ => K - (intOf s).toNat)
          case atStart => exact ⟨0, Nat.zero_le _, rfl, fun j hj => absurd hj (Nat.not_lt_zero j), 0, rfl⟩
          case round =>
            obtain ⟨k, hk, rfl, Hno, q3, rfl⟩ := hrel
            have hkl : k < l.length := by omega
            obtain ⟨m, hm⟩ := from_ex HRT.out hkl
            have hcall := HF.out k m (wx.drewN q3) hkl hm (below_drewN hbel q3)
            have hbm := hm.bd HRT.out
            have Hm := Lib.hid hm
            clear hm
            have HE : Hid (k < l.length → nextOK l p k → IsFrom l k r → Greedy l n (p ++ [k]) (r - l[k].len)) := fun a b c => by rw [← lenAt_eq hkl]; exact HG.out.take HRT.out h0 a b c Hno.out
            obtain ⟨hpos, hmx⟩ := fieldB_len (HRT.out.field k hkl)
            have hsz := hbel.size
            by_cases hmr : m = r
            · subst hmr
              by_cases hp : p = []
              · subst hp
                have HY := Lib.hid (HE.out hkl (fun h => absurd rfl h) Hm.out)
                have hsz := hbel.size
                clear HE
                go_wp2_with (first | (go_at_call 99; refine hcall.mono ?_; rintro e w' ⟨rfl, q2, rfl⟩) | (at_builtin; refine wpList_push _ rfl (.tmp 50) (.tmp 52) 23 rfl w.heap.size 3 info_int Tryz.underlying23 rfl _ 0 _ rfl (own_drewN hown _) (.int .i64 k) rfl rfl (by unfold maxLen; omega) (by omega) (by simpa using hbel.size) ?_; intro g3 cap3 w3 hown3 hgrow3 hbg hgg; have hbel3 := (below_drewN hbel _).grown hgrow3 (by simpa using hbel.size) (fun k hk => (hown.lt k hk).1); have t1 := (TasksAt.cells (HL.out.below hbel3 (Nat.le_refl _)) hkl); obtain ⟨b, off, e1, hb, hcell⟩ := t1; subst e1; obtain ⟨-, t1, -, -, -⟩ := hcell k hkl))
                go_roundw
                case rel => exact ⟨_, [k], rfl, by omega, HY, hown3, hbel3⟩
                case measure => simp [intOf]; omega
              · have hpos1 : 0 < p.length := List.length_pos_iff.2 hp
                obtain ⟨b, off, rfl, hb, hcy⟩ := hcy (p.length - 1) (by omega)
                have hlast := hcy (p.length - 1) (by omega)
                clear hcy
                have hlk := HG.out.chain.1 _ (List.getElem_mem (show p.length - 1 < p.length by omega))
                have hbf := fun q => HB.out (p[p.length - 1]'(by omega)) k (wx.drewN q) hlk hkl (below_drewN hbel q)
                have eL : p.getLast hp = p[p.length - 1]'(by omega) := List.getLast_eq_getElem hp
                by_cases hed : l[p[p.length - 1]'(by omega)].name ∈ l[k].bef
                · simp only [decide_eq_true hed] at hbf
                  have HY := Lib.hid (HE.out hkl (fun h => by rw [eL]; exact ⟨hlk, hkl, hed⟩) Hm.out)
                  clear HE hed eL
                  generalize p[p.length - 1]'(by omega) = pl at *
                  go_wp2_with (first | (go_at_call 99; refine hcall.mono ?_; rintro e w' ⟨rfl, q2, rfl⟩) | (go_at_call 100; refine (hbf _).mono ?_; rintro e w' ⟨rfl, q5, rfl⟩) | (at_builtin; refine wpList_push _ rfl (.tmp 50) (.tmp 52) 23 rfl w.heap.size 3 info_int Tryz.underlying23 rfl _ p.length _ rfl (own_drewN hown _) (.int .i64 k) rfl rfl (by unfold maxLen; omega) (by omega) (by simpa using hbel.size) ?_; intro g3 cap3 w3 hown3 hgrow3 hbg hgg; have hbel3 := (below_drewN hbel _).grown hgrow3 (by simpa using hbel.size) (fun k hk => (hown.lt k hk).1); have t1 := (TasksAt.cells (HL.out.below hbel3 (Nat.le_refl _)) hkl); obtain ⟨b, off, e1, hb, hcell⟩ := t1; subst e1; obtain ⟨-, t1, -, -, -⟩ := hcell k hkl))
                  rw [← show nats (p ++ [k]) = nats p ++ [Value.int .i64 k] by simp [nats, ints]] at hown3
                  go_roundw
                  case rel => exact ⟨_, p ++ [k], rfl, by omega, HY, by rw [List.length_append]; exact hown3, hbel3⟩
                  case measure => simp [intOf]; omega
                · simp only [decide_eq_false hed] at hbf
                  have hnn : ¬ nextOK l p k := fun h => by have := h hp; rw [eL] at this; exact hed this.2.2
                  have HN : Hid (∀ j, j < k + 1 → nextOK l p j → ¬ IsFrom l j m) := fun j hj hj2 hj3 => by
                    by_cases e : j = k
                    · subst e; exact hnn hj2
                    · exact Hno.out j (by omega) hj2 hj3
                  have hkK : k < K := by
                    rcases Nat.lt_or_ge k K with h | h
                    · exact h
                    · have e : k = K := by omega
                      subst e
                      exact absurd HKn.out hnn
                  clear HE hed eL hnn Hno
                  generalize p[p.length - 1]'(by omega) = pl at *
                  go_wp2_with (first | (go_at_call 99; refine hcall.mono ?_; rintro e w' ⟨rfl, q2, rfl⟩) | (go_at_call 100; refine (hbf _).mono ?_; rintro e w' ⟨rfl, q5, rfl⟩))
                  go_roundw
                  case rel => exact ⟨k + 1, by omega, by go_num, HN, _, rfl⟩
                  case measure => simp [intOf]; omega
            · have HN : Hid (∀ j, j < k + 1 → nextOK l p j → ¬ IsFrom l j r) := fun j hj hj2 hj3 => by
                by_cases e : j = k
                · subst e; exact hmr (Hm.out.uniq hj3)
                · exact Hno.out j (by omega) hj2 hj3
              have hkK : k < K := by
                rcases Nat.lt_or_ge k K with h | h
                · exact h
                · have e : k = K := by omega
                  subst e
                  exact absurd (Hm.out.uniq HKf.out) hmr
              clear Hno HE
              go_wp2_with (go_at_call 99; refine hcall.mono ?_; rintro e w' ⟨rfl, q2, rfl⟩)
              go_roundw
              case rel => exact ⟨k + 1, by omega, by go_num, HN, _, rfl⟩
              case measure => simp [intOf]; omega
        · have HD := Lib.hid (HG.out.done h0)
          have hbr := own_open wr _ _ _ p hown
          obtain ⟨A2, c2, rfl, hy1, hy2, hcy⟩ := hbr
          clear hcy
          go_wp2
          refine bodyPost_ret (results_tmp2 rfl _ _ _) (by rfl) ?_
          exact ⟨hbel, n, p, _, HD.out, rfl, hown⟩

end Go.Proofs.YtphbfhffiljbfaaGreat

/- bounds.given. -/
namespace Go.Proofs.YtphbfhffiljbfaaGreat
open Go.RowKit Go.Shelf

theorem enters114 : ∀ args w, (callFunc 132 args).run Tryz.prog w = .ok (.enter 132 args) w := enters_of Tryz.func132 (by kernel_rfl) rfl

/-- A task that does not fit. -/
def tooMuch (c p : Int) (t : Task) : Bool := decide (c < t.crew) || decide (p < t.pow)
/-- The error's number. -/
noncomputable def givenN (l : List Task) (c p : Int) : Int := if validB l c p then (if l.any (tooMuch c p) then 22 else 0) else 1

set_option maxHeartbeats 1000000 in
theorem givenClosure (t : Task) (c p : Int) (D : Nat) (w : World) (hD : D + 1 < w.heap.size) (hc : w.cell? ⟨D, 0, none⟩ = some (.int .i64 c)) (hp : w.cell? ⟨D + 1, 0, none⟩ = some (.int .i64 p)) :
    Calls Tryz.prog 132 #[t.val, .pointer (some ⟨D, 0, none⟩), .pointer (some ⟨D + 1, 0, none⟩)] w fun e w' => e = .returned (.bool (tooMuch c p t)) ∧ Below w.heap.size w w' := by
  have hD0 : D < w.heap.size := by omega
  obtain ⟨name, len, crew, pow, ba, bc, bef⟩ := t
  unfold Task.val
  simp only
  by_cases h : c < crew
  · have HV : Hid (tooMuch c p ⟨name, len, crew, pow, ba, bc, bef⟩ = true) := by unfold Hid tooMuch; simp [h]
    go_enter Tryz.func132, Tryz.ntmps132
    go_wp2
    go_ret
    exact ⟨ret_bool HV.out.symm, (Below.refl _ _).alloc (Nat.le_refl _) _⟩
  · have HV : Hid (tooMuch c p ⟨name, len, crew, pow, ba, bc, bef⟩ = decide (p < pow)) := by unfold Hid tooMuch; simp [h]
    have hb : decide (c < crew) = false := by simpa using h
    go_enter Tryz.func132, Tryz.ntmps132
    go_wp2
    go_ret
    exact ⟨ret_bool HV.out.symm, (Below.refl _ _).alloc (Nat.le_refl _) _⟩

set_option maxHeartbeats 1000000 in
theorem boundsGiven (v : Value) (l : List Task) (c p : Int) (w : World) (hl : TasksAt w w.heap.size v l) :
    Calls Tryz.prog 86 #[v, .int .i64 c, .int .i64 p] w fun e w' => e = .returned (.int .i64 (givenN l c p)) ∧ Below w.heap.size w w' := by
  have hb0 : ∀ o o', Below w.heap.size w ((w.alloc o).alloc o') := fun o o' => ((Below.refl _ _).alloc (Nat.le_refl _) _).alloc (by simp) _
  have hV := fun o o' => schedValid v l c p ((w.alloc o).alloc o') ((hl.below (hb0 o o') (Nat.le_refl _)).mono (by simp; omega))
  have HL := Lib.hid hl
  clear hl
  cases hv : validB l c p with
  | false =>
    have HG : Hid (givenN l c p = 1) := by unfold Hid givenN; rw [hv]; rfl
    rw [hv] at hV
    clear hv
    go_enter Tryz.func86, Tryz.ntmps86
    go_wp2_with (go_at_call 46; refine (hV _ _).mono ?_; rintro e w1 ⟨rfl, hb1⟩)
    go_ret
    exact ⟨by rw [HG.out]; rfl, (hb0 _ _).trans (hb1.mono (by simp; omega))⟩
  | true =>
    have HG : Hid (givenN l c p = if l.any (tooMuch c p) then 22 else 0) := by unfold Hid givenN; rw [hv]; rfl
    rw [hv] at hV
    clear hv
    have HC : Hid (∀ w1, Below ((w.alloc (.cells #[.int .i64 c] 3)).alloc (.cells #[.int .i64 p] 3)).heap.size ((w.alloc (.cells #[.int .i64 c] 3)).alloc (.cells #[.int .i64 p] 3)) w1 →
        Calls Tryz.prog 16 #[v, .func (.func 132) #[] #[.pointer (some ⟨w.heap.size, 0, none⟩), .pointer (some ⟨w.heap.size + 1, 0, none⟩)]] w1 fun e w' => e = .returned (.bool (l.any (tooMuch c p))) ∧ Below w1.heap.size w1 w') := fun w1 hb1 => by
      have hsz := hb1.size
      simp only [World.size_alloc] at hsz
      have ht1 := (HL.out.below ((hb0 (.cells #[.int .i64 c] 3) (.cells #[.int .i64 p] 3)).trans (hb1.mono (by simp; omega))) (Nat.le_refl _)).mono (show w.heap.size ≤ w1.heap.size by omega)
      have hc1 := hb1.cell (p := ⟨w.heap.size, 0, none⟩) (by simp; omega)
      have hp1 := hb1.cell (p := ⟨w.heap.size + 1, 0, none⟩) (by simp)
      refine containsFuncTask v l 132 #[.pointer (some ⟨w.heap.size, 0, none⟩), .pointer (some ⟨w.heap.size + 1, 0, none⟩)] (tooMuch c p) enters114 w1 ht1 ?_
      intro t ht w' hb'
      have hsz' := hb'.size
      refine givenClosure t c p w.heap.size w' (by omega) ?_ ?_
      · rw [hb'.cell (by simp; omega), hc1]
        simp
      · rw [hb'.cell (by simp; omega), hp1]
        simp
    generalize hA : l.any (tooMuch c p) = A at *
    clear hA
    cases A
    all_goals
      go_enter Tryz.func86, Tryz.ntmps86
      go_wp2_with (first | (go_at_call 46; refine (hV _ _).mono ?_; rintro e w1 ⟨rfl, hb1⟩) | (go_at_call 16; refine (HC.out _ (by assumption)).mono ?_; rintro e w2 ⟨rfl, hb2⟩))
      go_ret
      refine ⟨by rw [HG.out]; rfl, ?_⟩
      have hsz := hb1.size
      simp only [World.size_alloc] at hsz
      exact ((hb0 _ _).trans (hb1.mono (by simp; omega))).trans (hb2.mono (by omega))

end Go.Proofs.YtphbfhffiljbfaaGreat

/- bounds.Work. -/
namespace Go.Proofs.YtphbfhffiljbfaaGreat
open Go.RowKit Go.Shelf

theorem fieldB_crew {t : Task} (h : fieldB t = true) : 0 ≤ t.crew ∧ t.crew ≤ 100 := by
  unfold fieldB betweenB at h
  simp only [Bool.and_eq_true, decide_eq_true_eq] at h
  exact h.1.2
theorem fieldB_pow {t : Task} (h : fieldB t = true) : 0 ≤ t.pow ∧ t.pow ≤ 100 := by
  unfold fieldB betweenB at h
  simp only [Bool.and_eq_true, decide_eq_true_eq] at h
  exact h.2

/-- The sum of a need times the length. -/
def needN (f : Task → Int) (l : List Task) : Int := (l.map fun t => f t * t.len).sum
def stepN (best s lim : Int) : Int := if 0 < s then (if best < (s + lim - 1) / lim then (s + lim - 1) / lim else best) else best
def workN (l : List Task) (c p : Int) : Int := stepN (stepN 0 (needN Task.crew l) c) (needN Task.pow l) p
theorem needN_take (f : Task → Int) (l : List Task) (j : Nat) (hj : j < l.length) : needN f (l.take (j + 1)) = needN f (l.take j) + f l[j] * l[j].len := by
  unfold needN
  rw [take_snoc l j hj, List.map_append, List.sum_append]
  simp
theorem needN_bd (f : Task → Int) : ∀ (l : List Task), (∀ t ∈ l, 0 ≤ f t * t.len ∧ f t * t.len ≤ 1000000) → 0 ≤ needN f l ∧ needN f l ≤ 1000000 * l.length
  | [], _ => by simp [needN]
  | t :: l, h => by
    have h1 := h t (by simp)
    have h2 := needN_bd f l fun t ht => h t (by simp [ht])
    have e : needN f (t :: l) = f t * t.len + needN f l := by simp [needN]
    rw [e, List.length_cons]
    omega
theorem mul_bd {a b : Int} (h1 : 0 ≤ a) (h2 : a ≤ 100) (h3 : 1 ≤ b) (h4 : b ≤ 10000) : 0 ≤ a * b ∧ a * b ≤ 1000000 := by
  refine ⟨Int.mul_nonneg h1 (by omega), ?_⟩
  have h5 : a * b ≤ 100 * b := Int.mul_le_mul_of_nonneg_right h2 (by omega)
  omega

theorem enters73 : ∀ args w, (callFunc 87 args).run Tryz.prog w = .ok (.enter 87 args) w := enters_of Tryz.func87 (by kernel_rfl) rfl
theorem enters74 : ∀ args w, (callFunc 88 args).run Tryz.prog w = .ok (.enter 88 args) w := enters_of Tryz.func88 (by kernel_rfl) rfl
theorem workCrew (t : Task) (w : World) : Calls Tryz.prog 87 #[t.val] w fun e w' => e = .returned (.int .i64 t.crew) ∧ Below w.heap.size w w' := by
  obtain ⟨name, len, crew, pow, ba, bc, bef⟩ := t
  unfold Task.val
  simp only
  go_enter Tryz.func87, Tryz.ntmps87
  go_wp2
  go_ret
  exact ⟨rfl, (Below.refl _ _).alloc (Nat.le_refl _) _⟩
theorem workPow (t : Task) (w : World) : Calls Tryz.prog 88 #[t.val] w fun e w' => e = .returned (.int .i64 t.pow) ∧ Below w.heap.size w w' := by
  obtain ⟨name, len, crew, pow, ba, bc, bef⟩ := t
  unfold Task.val
  simp only
  go_enter Tryz.func88, Tryz.ntmps88
  go_wp2
  go_ret
  exact ⟨rfl, (Below.refl _ _).alloc (Nat.le_refl _) _⟩

/-- The limit, the function and its number in each of the two rounds. -/
structure WorkRow (l : List Task) (c p : Int) (k : Nat) (lim : Int) (K : Nat) (f : Task → Int) : Prop where
  enters : ∀ args w, (callFunc K args).run Tryz.prog w = .ok (.enter K args) w
  call : ∀ (t : Task) (w : World), Calls Tryz.prog K #[t.val] w fun e w' => e = .returned (.int .i64 (f t)) ∧ Below w.heap.size w w'
  bd : ∀ t ∈ l, 0 ≤ f t ∧ f t ≤ 100
  fit : ∀ t ∈ l, f t ≤ lim
  limbd : lim ≤ 1000
def workAt (l : List Task) (c p : Int) : Nat → Int
  | 0 => 0
  | 1 => stepN 0 (needN Task.crew l) c
  | _ => workN l c p
theorem givenN_zero {l : List Task} {c p : Int} (h : givenN l c p = 0) : RightT l ∧ c ≤ 1000 ∧ p ≤ 1000 ∧ 0 ≤ c ∧ 0 ≤ p ∧ ∀ t ∈ l, t.crew ≤ c ∧ t.pow ≤ p := by
  unfold givenN at h
  cases hv : validB l c p with
  | false => rw [hv] at h; simp at h
  | true =>
    rw [hv] at h
    cases ha : l.any (tooMuch c p) with
    | true => rw [ha] at h; simp at h
    | false =>
      unfold validB betweenB at hv
      simp only [Bool.and_eq_true, decide_eq_true_eq] at hv
      refine ⟨(right_iff l).1 hv.1.1, hv.1.2.2, hv.2.2, hv.1.2.1, hv.2.1, fun t ht => ?_⟩
      have := List.any_eq_false.1 ha t ht
      unfold tooMuch at this
      simp only [Bool.or_eq_true, decide_eq_true_eq, not_or] at this
      omega
/-- The sum is positive only if the limit is. -/
theorem lim_pos {l : List Task} {c p lim : Int} {k K : Nat} {f : Task → Int} (h : WorkRow l c p k lim K f) (_hR : RightT l) (hs : 0 < needN f l) : 1 ≤ lim := by
  rcases Int.lt_or_le lim 1 with hl | hl
  · exfalso
    have : ∀ l' : List Task, (∀ t ∈ l', t ∈ l) → needN f l' = 0 := fun l' => by
      induction l' with
      | nil => intro _; rfl
      | cons t l' ih =>
        intro h'
        have h1 := h.bd t (h' t (by simp))
        have h2 := h.fit t (h' t (by simp))
        have e : f t = 0 := by omega
        have ih := ih fun t ht => h' t (by simp [ht])
        have e2 : needN f (t :: l') = f t * t.len + needN f l' := by simp [needN]
        rw [e2, ih, e]
        simp
    have := this l fun t ht => ht
    omega
  · exact hl

end Go.Proofs.YtphbfhffiljbfaaGreat

/- bounds.Work: the walk. -/
namespace Go.Proofs.YtphbfhffiljbfaaGreat
open Go.RowKit Go.Shelf

theorem field_mem {l : List Task} (hR : RightT l) {t : Task} (ht : t ∈ l) : fieldB t = true := by
  obtain ⟨i, hi, rfl⟩ := List.getElem_of_mem ht
  exact hR.field i hi

def WorkPost (l : List Task) (c p : Int) (w : World) (e : Ending) (w' : World) : Prop :=
  e = .returned (.tuple #[.int .i64 (if givenN l c p = 0 then workN l c p else 0), .int .i64 (givenN l c p)]) ∧ Below w.heap.size w w'

set_option maxRecDepth 100000 in
set_option maxHeartbeats 4000000 in
theorem boundsWork (v : Value) (l : List Task) (c p : Int) (w : World) (hl : TasksAt w w.heap.size v l) :
    Calls Tryz.prog 43 #[v, .int .i64 c, .int .i64 p] w (WorkPost l c p w) := by
  have hG := boundsGiven v l c p w hl
  have HL := Lib.hid hl
  clear hl
  by_cases hg : givenN l c p = 0
  · obtain ⟨hR, hc1, hp1, hc0, hp0, hfit⟩ := givenN_zero hg
    rw [hg] at hG
    have Hg := Lib.hid hg
    have h8 := hR.len
    have HRow : Hid (∀ k : Nat, k < 2 → ∃ lim K f, WorkRow l c p k lim K f ∧ (Value.int .i64 lim, Value.func (.func K) #[] #[]) = (if k = 0 then (Value.int .i64 c, Value.func (.func 87) #[] #[]) else (Value.int .i64 p, Value.func (.func 88) #[] #[])) ∧ workAt l c p (k + 1) = stepN (workAt l c p k) (needN f l) lim) := fun k hk => by
      rcases (show k = 0 ∨ k = 1 by omega) with rfl | rfl
      · exact ⟨c, _, Task.crew, ⟨enters73, workCrew, fun t ht => fieldB_crew (field_mem hR ht), fun t ht => (hfit t ht).1, hc1⟩, rfl, rfl⟩
      · exact ⟨p, _, Task.pow, ⟨enters74, workPow, fun t ht => fieldB_pow (field_mem hR ht), fun t ht => (hfit t ht).2, hp1⟩, rfl, rfl⟩
    have HRT := Lib.hid hR
    obtain ⟨A, cc, rfl, hA1, hA2, -⟩ := HL.out.open_
    unfold maxLen at hA2
    clear hg hR hfit
    go_enter Tryz.func43, Tryz.ntmps43
    go_wp2_with (go_at_call 86; refine hG.mono ?_; rintro e w1 ⟨rfl, hb1⟩)
    have hN := World.cell?_alloc_new w1 #[.int .i64 c, .func (.func 87) #[] #[], .int .i64 p, .func (.func 88) #[] #[]] 122
    have hgl : w1.heap.size < (w1.alloc (.cells #[.int .i64 c, .func (.func 87) #[] #[], .int .i64 p, .func (.func 88) #[] #[]] 122)).heap.size := by simp
    have hbw := hb1.alloc hb1.size (.cells #[.int .i64 c, .func (.func 87) #[] #[], .int .i64 p, .func (.func 88) #[] #[]] 122)
    have HCell : Hid (∀ (k lim : Int) (K : Nat), True) := fun _ _ _ => trivial
    generalize w1.alloc (.cells #[.int .i64 c, .func (.func 87) #[] #[], .int .i64 p, .func (.func 88) #[] #[]] 122) = w2 at *
    generalize w1.heap.size = g at *
    clear hb1 hG
    have HCells : Hid (∀ k, k < 2 → ∃ lim K f, WorkRow l c p k lim K f ∧ w2.cell? ⟨g, k * 2, none⟩ = some (.int .i64 lim) ∧ w2.cell? ⟨g, k * 2 + 1, none⟩ = some (.func (.func K) #[] #[]) ∧ workAt l c p (k + 1) = stepN (workAt l c p k) (needN f l) lim) := fun k hk => by
      obtain ⟨lim, K, f, h1, h2, h3⟩ := HRow.out k hk
      refine ⟨lim, K, f, h1, ?_, ?_, h3⟩
      · rcases (show k = 0 ∨ k = 1 by omega) with rfl | rfl
        · rw [if_pos rfl] at h2; injection h2 with h2 _; rw [hN, h2]; rfl
        · rw [if_neg (by decide)] at h2; injection h2 with h2 _; rw [hN, h2]; rfl
      · rcases (show k = 0 ∨ k = 1 by omega) with rfl | rfl
        · rw [if_pos rfl] at h2; injection h2 with _ h2; rw [hN, h2]; rfl
        · rw [if_neg (by decide)] at h2; injection h2 with _ h2; rw [hN, h2]; rfl
    clear hN HRow HCell
    go_loopw [28, 9] (fun s b wr => ∃ k : Nat, k ≤ 2 ∧ s = .int .i64 k ∧ b = .int .i64 (workAt l c p k) ∧ Below w.heap.size w wr ∧ Below w2.heap.size w2 wr) (fun s _ _ => 2 - (intOf s).toNat)
    case atStart => exact ⟨0, by omega, rfl, rfl, hbw, Below.refl _ _⟩
    case round =>
      obtain ⟨k, hk, rfl, rfl, hbel, hbel2⟩ := hrel
      by_cases hk2 : k < 2
      · obtain ⟨lim, K, f, hrow, hc1', hc2', hst⟩ := HCells.out k hk2
        have hl1 := (hbel2.cell (p := ⟨g, k * 2, none⟩) hgl).trans hc1'
        have hl2 := (hbel2.cell (p := ⟨g, k * 2 + 1, none⟩) hgl).trans hc2'
        have Hst := Lib.hid hst
        have hsz := hbel.size
        have hsz2 := hbel2.size
        have hk2i : (k : Int) < 2 := by omega
        clear hc1' hc2' hst
        go_wp2_with fail
        have hq0 := World.cell?_alloc_new wr #[.int .i64 lim, .func (.func K) #[] #[]] 122 0
        have hq1 := World.cell?_alloc_new wr #[.int .i64 lim, .func (.func K) #[] #[]] 122 1
        have hxl : wr.heap.size < (wr.alloc (.cells #[.int .i64 lim, .func (.func K) #[] #[]] 122)).heap.size := by simp
        have hbx := hbel.alloc hbel.size (.cells #[.int .i64 lim, .func (.func K) #[] #[]] 122)
        have hbx2 := hbel2.alloc hbel2.size (.cells #[.int .i64 lim, .func (.func K) #[] #[]] 122)
        generalize wr.alloc (.cells #[.int .i64 lim, .func (.func K) #[] #[]] 122) = wx at *
        generalize wr.heap.size = x at *
        clear hl1 hl2
        obtain ⟨eg, hcall, hfb, hff, hlb⟩ := hrow
        go_loopw [34, 12] (fun s b wi => ∃ j : Nat, j ≤ l.length ∧ s = .int .i64 j ∧ b = .int .i64 (needN f (l.take j)) ∧ Below wx.heap.size wx wi) (fun s _ _ => l.length - (intOf s).toNat)
        case atStart => exact ⟨0, by omega, rfl, rfl, Below.refl _ _⟩
        case round =>
          obtain ⟨j, hj, rfl, rfl, hbi⟩ := hrel
          by_cases hjl : j < l.length
          · have HT := HL.out.below ((hbx.trans (hbi.mono hbx.size))) (Nat.le_refl _)
            obtain ⟨b, off, rfl, hb, hcell⟩ := HT.cells hjl
            obtain ⟨t0, t1, t2, t3, t4⟩ := hcell j hjl
            clear hcell HT
            have hx1 := (hbi.cell (p := ⟨x, 1, none⟩) hxl).trans hq1
            simp only [List.getElem?_toArray, List.getElem?_cons_succ, List.getElem?_cons_zero] at hx1
            have hszi := hbi.size
            have hszx := hbx.size
            clear hb
            go_wp2_with fail
            have hy := World.cell?_alloc_new wr #[.string l[j].name, .int .i64 l[j].len, .int .i64 l[j].crew, .int .i64 l[j].pow, .slice l[j].ba l[j].bef.length l[j].bc] 46
            have y0 := hy 0
            have y1 := hy 1
            have y2 := hy 2
            have y3 := hy 3
            have y4 := hy 4
            simp only [List.getElem?_toArray, List.getElem?_cons_succ, List.getElem?_cons_zero] at y0 y1 y2 y3 y4
            have hxt := (World.cell?_alloc_past (.cells #[.string l[j].name, .int .i64 l[j].len, .int .i64 l[j].crew, .int .i64 l[j].pow, .slice l[j].ba l[j].bef.length l[j].bc] 46) x 1 (by omega : x < wr.heap.size)).trans hx1
            have hbt := (hbi.alloc hbi.size (.cells #[.string l[j].name, .int .i64 l[j].len, .int .i64 l[j].crew, .int .i64 l[j].pow, .slice l[j].ba l[j].bef.length l[j].bc] 46))
            have hbd := hbt.drew
            clear hy t0 t1 t2 t3 t4 hx1
            generalize wr.alloc (.cells #[.string l[j].name, .int .i64 l[j].len, .int .i64 l[j].crew, .int .i64 l[j].pow, .slice l[j].ba l[j].bef.length l[j].bc] 46) = wt at *
            generalize wr.heap.size = gt at *
            obtain ⟨hf1, hf2⟩ := hfb l[j] (List.getElem_mem hjl)
            obtain ⟨hl1, hl2⟩ := fieldB_len (HRT.out.field j hjl)
            obtain ⟨hm1, hm2⟩ := mul_bd hf1 hf2 hl1 hl2
            have hsb := needN_bd f (l.take j) fun t ht => by
              have h := hfb t (List.mem_of_mem_take ht)
              have h' := fieldB_len (field_mem HRT.out (List.mem_of_mem_take ht))
              exact mul_bd h.1 h.2 h'.1 h'.2
            have hjl8 : (l.take j).length ≤ 8 := by rw [List.length_take]; omega
            have hstep := Lib.hid (needN_take f l j hjl)
            have hw1 : Hid (IntKind.i64.wrap (f l[j] * l[j].len) = f l[j] * l[j].len) := IntWalk.i64_in _ (by omega)
            have hw2 : Hid (IntKind.i64.wrap (needN f (l.take j) + f l[j] * l[j].len) = needN f (l.take j) + f l[j] * l[j].len) := IntWalk.i64_in _ (by omega)
            have HC := Lib.hid (hcall l[j])
            clear hsb hm1 hm2 hcall
            unfold Task.val at HC
            go_region_held3 (fun w' => w'.cell? ⟨x, 1, none⟩ = some (.func (.func K) #[] #[]) ∧ w'.cell? ⟨gt, 0, none⟩ = some (.string l[j].name) ∧ w'.cell? ⟨gt, 1, none⟩ = some (.int .i64 l[j].len) ∧ w'.cell? ⟨gt, 2, none⟩ = some (.int .i64 l[j].crew) ∧ w'.cell? ⟨gt, 3, none⟩ = some (.int .i64 l[j].pow) ∧ w'.cell? ⟨gt, 4, none⟩ = some (.slice l[j].ba l[j].bef.length l[j].bc) ∧ Below wx.heap.size wx w')
              (first
                | (exact ⟨by assumption, by assumption, by assumption, by assumption, by assumption, by assumption, by assumption⟩)
                | (exact ⟨(hb2.cell (World.block_lt_of_cell? _ _ (by assumption))).trans (by assumption), (hb2.cell (World.block_lt_of_cell? _ _ (by assumption))).trans (by assumption), (hb2.cell (World.block_lt_of_cell? _ _ (by assumption))).trans (by assumption), (hb2.cell (World.block_lt_of_cell? _ _ (by assumption))).trans (by assumption), (hb2.cell (World.block_lt_of_cell? _ _ (by assumption))).trans (by assumption), (hb2.cell (World.block_lt_of_cell? _ _ (by assumption))).trans (by assumption), Below.trans (by assumption) (hb2.mono (Below.size (by assumption)))⟩)
                | (go_split_ands; exact ⟨by assumption, by assumption, by assumption, by assumption, by assumption, by assumption, by apply below_drew; assumption⟩)
                | go_keep)
              (first | (go_at_fn K; refine (HC.out _).mono ?_; rintro e w2 ⟨rfl, hb2⟩))
            rw [hw1.out, hw2.out, ← hstep.out]
            have hbel9 : Below wx.heap.size wx w2 := by
              first
                | assumption
                | (go_split_ands; assumption)
            clear hw1 hw2 hstep HC hb2
            go_wp2
            go_roundw
            case rel => exact ⟨j + 1, by omega, by go_num, rfl, hbel9⟩
            case measure => simp [intOf]; omega
          · have hje : j = l.length := by omega
            subst hje
            rw [List.take_length] at *
            have hsb := needN_bd f l fun t ht => by
              have h := hfb t ht
              have h' := fieldB_len (field_mem HRT.out ht)
              exact mul_bd h.1 h.2 h'.1 h'.2
            have hx0 := (hbi.cell (p := ⟨x, 0, none⟩) hxl).trans hq0
            simp only [List.getElem?_toArray, List.getElem?_cons_zero] at hx0
            have hB1 := hbx.trans (hbi.mono hbx.size)
            have hB2 := hbx2.trans (hbi.mono hbx2.size)
            by_cases hs0 : 0 < needN f l
            · have hlp : 1 ≤ lim := lim_pos (c := c) (p := p) (k := k) (K := K) ⟨eg, hcall, hfb, hff, hlb⟩ HRT.out hs0
              have hd1 : Hid (stepN (workAt l c p k) (needN f l) lim = if workAt l c p k < (needN f l + lim - 1) / lim then (needN f l + lim - 1) / lim else workAt l c p k) := by unfold Hid stepN; rw [if_pos hs0]
              have hlz : ¬ lim = 0 := by omega
              clear hcall hfb hff eg hq0 hq1 hbi hbel hbel2 hbx hbx2
              go_wp2_with fail
              go_roundw
              case rel => exact ⟨k + 1, by omega, by go_num, by rw [Hst.out, hd1.out], hB1, hB2⟩
              case measure => simp [intOf]; omega
            · have hsb0 : decide (0 < needN f l) = false := by simpa using hs0
              have hd1 : Hid (stepN (workAt l c p k) (needN f l) lim = workAt l c p k) := by unfold Hid stepN; rw [if_neg hs0]
              clear hcall hfb hff eg hq0 hq1 hbi hbel hbel2 hbx hbx2
              go_wp2_with fail
              go_roundw
              case rel => exact ⟨k + 1, by omega, by go_num, by rw [Hst.out, hd1.out], hB1, hB2⟩
              case measure => simp [intOf]; omega
      · have hk2e : k = 2 := by omega
        subst hk2e
        go_wp2_with fail
        refine bodyPost_ret (results_tmp2 rfl _ _ _) (by rfl) ?_
        refine ⟨?_, hbel⟩
        rw [Hg.out, if_pos rfl]
        rfl
  · have Hg := Lib.hid hg
    generalize hx : givenN l c p = x at *
    have hxb : (x == 0) = false := by simpa using Hg.out
    clear hg
    go_enter Tryz.func43, Tryz.ntmps43
    go_wp2_with (go_at_call 86; refine hG.mono ?_; rintro e w1 ⟨rfl, hb1⟩)
    refine bodyPost_ret (results_tmp2 rfl _ _ _) (by rfl) ?_
    refine ⟨?_, hb1⟩
    rw [hx, if_neg Hg.out]
    rfl

end Go.Proofs.YtphbfhffiljbfaaGreat

/- The reference's Given, up and Work of layer 44. -/
namespace Go.Proofs.YtphbfhffiljbfaaGreat
open Go.RowKit Go.Shelf

/-- A quotient rounded up. -/
def upN (n b : Int) : Int := if n = 0 then 0 else (n + b - 1) / b
def max2 (a b : Int) : Int := if a < b then b else a

theorem refUp (n b : Int) (w : World) (hn : 0 ≤ n) (hn2 : n ≤ 1000000000) (hb2 : b ≤ 1000) (hb : 0 < n → 1 ≤ b) (hb0 : 0 ≤ b) :
    Calls Tryz.prog 102 #[.int .i64 n, .int .i64 b] w fun e w' => e = .returned (.int .i64 (upN n b)) ∧ w = w' := by
  by_cases h : n = 0
  · subst h
    go_enter Tryz.func102, Tryz.ntmps102
    go_wp2
    go_ret
    exact ⟨rfl, rfl⟩
  · have h1 : 0 < n := by omega
    have h2 := hb h1
    have hz : (n == 0) = false := by simpa using h
    have HV : Hid (upN n b = (n + b - 1) / b) := by unfold Hid upN; rw [if_neg h]
    clear h hb
    go_enter Tryz.func102, Tryz.ntmps102
    go_wp2
    go_ret
    exact ⟨ret_int HV.out.symm, rfl⟩

theorem upN_pos {n b : Int} (hn : 0 < n) (hb : 1 ≤ b) : 1 ≤ upN n b := by
  unfold upN
  rw [if_neg (by omega)]
  exact (Int.le_ediv_iff_mul_le (by omega)).2 (by omega)
theorem stepN_up {best s lim : Int} (hs : 0 ≤ s) (hb : 0 ≤ best) : stepN best s lim = max2 best (upN s lim) := by
  unfold stepN upN max2
  by_cases h : 0 < s
  · rw [if_pos h, if_neg (show ¬ s = 0 by omega)]
  · have : s = 0 := by omega
    subst this
    rw [if_neg (by omega), if_pos rfl, if_neg (by omega)]
theorem upN_nonneg {n b : Int} (hn : 0 ≤ n) (hb : 0 < n → 1 ≤ b) : 0 ≤ upN n b := by
  by_cases h : 0 < n
  · have := upN_pos h (hb h); omega
  · unfold upN
    rw [if_pos (by omega)]
    exact Int.le_refl _
theorem workN_up {l : List Task} {c p : Int} (hA : 0 ≤ needN Task.crew l) (hB : 0 ≤ needN Task.pow l) (hc : 0 < needN Task.crew l → 1 ≤ c) : workN l c p = max2 (upN (needN Task.crew l) c) (upN (needN Task.pow l) p) := by
  have h1 := upN_nonneg hA hc
  have e : stepN 0 (needN Task.crew l) c = upN (needN Task.crew l) c := by
    rw [stepN_up hA (Int.le_refl _)]
    unfold max2
    split <;> omega
  unfold workN
  rw [e, stepN_up hB h1]

theorem lim_of {f : Task → Int} {l : List Task} {c : Int} (hfb : ∀ t ∈ l, 0 ≤ f t) (hff : ∀ t ∈ l, f t ≤ c) (hs : 0 < needN f l) : 1 ≤ c := by
  rcases Int.lt_or_le c 1 with hl | hl
  · exfalso
    have : ∀ l' : List Task, (∀ t ∈ l', t ∈ l) → needN f l' = 0 := fun l' => by
      induction l' with
      | nil => intro _; rfl
      | cons t l' ih =>
        intro h'
        have h1 := hfb t (h' t (by simp))
        have h2 := hff t (h' t (by simp))
        have e : f t = 0 := by omega
        have ih := ih fun t ht => h' t (by simp [ht])
        have e2 : needN f (t :: l') = f t * t.len + needN f l' := by simp [needN]
        rw [e2, ih, e]
        simp
    have := this l fun t ht => ht
    omega
  · exact hl

set_option maxRecDepth 100000 in
set_option maxHeartbeats 2000000 in
theorem refWork (v : Value) (l : List Task) (c p : Int) (B : Nat) (w : World) (hl : TasksAt w B v l) (hg : givenN l c p = 0) :
    Calls Tryz.prog 59 #[v, .int .i64 c, .int .i64 p] w fun e w' => e = .returned (.int .i64 (workN l c p)) ∧ ∃ q, w.drewN q = w' := by
  obtain ⟨hR, hc1, hp1, hc0, hp0, hfit⟩ := givenN_zero hg
  have HL := Lib.hid hl
  have HRT := Lib.hid hR
  have h8 := hR.len
  have HSum : ∀ (f : Task → Int), (∀ t, fieldB t = true → 0 ≤ f t ∧ f t ≤ 100) → ∀ j, 0 ≤ needN f (l.take j) ∧ needN f (l.take j) ≤ 8000000 := fun f hf j => by
    have hsb := needN_bd f (l.take j) fun t ht => by
      have hx := field_mem HRT.out (List.mem_of_mem_take ht)
      have h' := fieldB_len hx
      exact mul_bd (hf t hx).1 (hf t hx).2 h'.1 h'.2
    have : (l.take j).length ≤ 8 := by rw [List.length_take]; omega
    omega
  have HA := HSum Task.crew fun t h => fieldB_crew h
  have HB := HSum Task.pow fun t h => fieldB_pow h
  have hA := HA l.length
  have hB := HB l.length
  rw [List.take_length] at hA hB
  have hcl : 0 < needN Task.crew l → 1 ≤ c := lim_of (fun t ht => (fieldB_crew (field_mem HRT.out ht)).1) fun t ht => (hfit t ht).1
  have hpl : 0 < needN Task.pow l → 1 ≤ p := lim_of (fun t ht => (fieldB_pow (field_mem HRT.out ht)).1) fun t ht => (hfit t ht).2
  have hU1 := fun w => refUp (needN Task.crew l) c w hA.1 (by omega) hc1 hcl hc0
  have hU2 := fun w => refUp (needN Task.pow l) p w hB.1 (by omega) hp1 hpl hp0
  have HV := Lib.hid (workN_up (p := p) hA.1 hB.1 hcl)
  have hu1 := upN_nonneg hA.1 hcl
  have hu2 := upN_nonneg hB.1 hpl
  have HA := Lib.hid HA
  have HB := Lib.hid HB
  obtain ⟨A, cc, rfl, hA1, hA2, -⟩ := hl.open_
  unfold maxLen at hA2
  clear hg hfit hl HSum hcl hpl hR hA hB
  go_enter Tryz.func59, Tryz.ntmps59
  go_wp2
  go_loopw [9, 7, 8] (fun s a b wr => ∃ (j : Nat), j ≤ l.length ∧ s = .int .i64 j ∧ a = .int .i64 (needN Task.crew (l.take j)) ∧ b = .int .i64 (needN Task.pow (l.take j)) ∧ ∃ q, wr = w.drewN q) (fun s _ _ _ => l.length - (intOf s).toNat)
  case atStart => exact ⟨0, Nat.zero_le _, rfl, rfl, rfl, 0, rfl⟩
  case round =>
    obtain ⟨j, hj, rfl, rfl, rfl, q, rfl⟩ := hrel
    by_cases hjl : j < l.length
    · obtain ⟨b, off, rfl, hb, hcell⟩ := HL.out.cells hjl
      obtain ⟨-, t1, t2, t3, -⟩ := hcell j hjl
      clear hcell hU1 hU2
      have hsA := HA.out j
      have hsB := HB.out j
      have hc := fieldB_crew (HRT.out.field j hjl)
      have hp := fieldB_pow (HRT.out.field j hjl)
      obtain ⟨hl1, hl2⟩ := fieldB_len (HRT.out.field j hjl)
      have hmA := mul_bd hc.1 hc.2 hl1 hl2
      have hmB := mul_bd hp.1 hp.2 hl1 hl2
      have hstA := Lib.hid (needN_take Task.crew l j hjl)
      have hstB := Lib.hid (needN_take Task.pow l j hjl)
      have i1 : (0 : Int) ≤ (j : Int) := Int.natCast_nonneg _
      have i2 : (j : Int) < (l.length : Int) := by omega
      have w1 : IntKind.i64.wrap (l[j].crew * l[j].len) = l[j].crew * l[j].len := IntWalk.i64_in _ (by omega)
      have w2 : IntKind.i64.wrap (needN Task.crew (l.take j) + l[j].crew * l[j].len) = needN Task.crew (l.take j) + l[j].crew * l[j].len := IntWalk.i64_in _ (by omega)
      have w3 : IntKind.i64.wrap (l[j].pow * l[j].len) = l[j].pow * l[j].len := IntWalk.i64_in _ (by omega)
      have w4 : IntKind.i64.wrap (needN Task.pow (l.take j) + l[j].pow * l[j].len) = needN Task.pow (l.take j) + l[j].pow * l[j].len := IntWalk.i64_in _ (by omega)
      clear hsA hsB hc hp hmA hmB
      generalize l[j] = t at *
      obtain ⟨tn, tl, tc, tp, ta, tb, tf⟩ := t
      simp only at t1 t2 t3 w1 w2 w3 w4 hl1 hl2 hstA hstB
      go_wp2_with fail
      go_quiet (fail)
      go_wp2_with fail
      go_quiet (fail)
      go_wp2_with fail
      go_roundw
      case rel => exact ⟨j + 1, by omega, by go_num, by rw [hstA.out], by rw [hstB.out], _, rfl⟩
      case measure => simp [intOf]; omega
    · have hje : j = l.length := by omega
      subst hje
      rw [List.take_length] at *
      go_wp2_with (go_at_call 102; (first | with_reducible refine (hU1 _).mono ?_ | with_reducible refine (hU2 _).mono ?_); rintro e w' ⟨rfl, rfl⟩)
      all_goals
        go_ret
        refine ⟨ret_int ?_, _, rfl⟩
        rw [HV.out]
        unfold max2
        repeat' split
        all_goals omega

/-- Given as the reference has it. -/
theorem givenN_no {l : List Task} {c p : Int} (h : validB l c p = true) : givenN l c p = if l.any (tooMuch c p) then 22 else 0 := by unfold givenN; rw [h]; rfl

end Go.Proofs.YtphbfhffiljbfaaGreat
