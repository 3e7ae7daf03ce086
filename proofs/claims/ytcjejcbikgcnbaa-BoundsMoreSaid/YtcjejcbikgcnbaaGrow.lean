/- (*chain).grow: all chains that begin with the one so far. -/
import Derived.Test.YtcjejcbikgcnbaaLex
import Derived.Test.YtcjejcbikgcnbaaClone
namespace Go.Proofs.Ytcjejcbikgcnbaa
open Go.RowKit Go.Shelf

def ints (x : List Nat) : List Int := x.map Int.ofNat
def nats (x : List Nat) : List Value := (ints x).map (Value.int .i64)
theorem nats_snoc (x : List Nat) (i : Nat) : nats (x ++ [i]) = nats x ++ [.int .i64 (i : Int)] := by simp [nats, ints]
theorem length_ints (x : List Nat) : (ints x).length = x.length := by simp [ints]
theorem nats_get (x : List Nat) (i : Nat) (h : i < x.length) : (nats x)[i]? = some (.int .i64 (x[i] : Nat)) := by simp [nats, ints, h]

/-- A block of four cells, read and to be written. -/
theorem blk4 {w : World} {g : Nat} {t : TypeId} {a b c d : Value} (h : Blk w g t #[a, b, c, d]) :
    w.cell? ⟨g, 0, none⟩ = some a ∧ w.cell? ⟨g, 1, none⟩ = some b ∧ w.cell? ⟨g, 2, none⟩ = some c ∧ w.cell? ⟨g, 3, none⟩ = some d ∧
      w.frozen? ⟨g, 0, none⟩ = false ∧ w.frozen? ⟨g, 1, none⟩ = false ∧ w.frozen? ⟨g, 2, none⟩ = false ∧ w.frozen? ⟨g, 3, none⟩ = false :=
  ⟨h.cell 0, h.cell 1, h.cell 2, h.cell 3, h.frozen 0, h.frozen 1, h.frozen 2, h.frozen 3⟩
theorem cloneIntPos (v : Value) (l : List Int) (w : World) (hl : IntsAt w w.heap.size v l) (hlen : l.length ≤ 1000000) (hpos : 0 < l.length) :
    Calls Try.prog 98 #[v] w fun e w' => ∃ g c, e = .returned (.slice (some ⟨g, 0, none⟩) l.length c) ∧ w.heap.size ≤ g ∧ w'.ownsRow w.heap.size 3 1 (.slice (some ⟨g, 0, none⟩) l.length c) l.length (l.map (Value.int .i64)) ∧ Below w.heap.size w w' :=
  (cloneInt v l w hl hlen).mono fun e w' ⟨v', he, hown, hb⟩ => by
    obtain ⟨g, c, rfl, hg, -⟩ := hown.form hpos
    exact ⟨g, c, he, hg, hown, hb⟩

/-- The state of a search for chains. -/
structure GrowSt (w : World) (B g : Nat) (lv : Value) (l : List Task) (x : List Nat) (L : Int) (y : List Nat) (nowv bestv : Value) : Prop where
  hg : B ≤ g
  blk : Blk w g 76 #[lv, nowv, bestv, .int .i64 L]
  now : w.ownsRow B 3 1 nowv x.length (nats x)
  best : w.ownsRow B 3 1 bestv y.length (nats y)
  apart : bestv.ownBlock = none ∨ bestv.ownBlock ≠ nowv.ownBlock
  tasks : TasksAt w B lv l
  size : B ≤ w.heap.size

theorem GrowSt.visited {w w1 : World} {B g g1 c1 : Nat} {lv nowv bestv : Value} {l : List Task} {x y : List Nat} {L L' : Int} (h : GrowSt w B g lv l x L y nowv bestv) (hb : Below w.heap.size w w1) (hg : w.heap.size ≤ g1)
    (hown : w1.ownsRow w.heap.size 3 1 (.slice (some ⟨g1, 0, none⟩) x.length c1) x.length (nats x)) (hpos : 0 < x.length) :
    GrowSt ((w1.setCell ⟨g, 3, none⟩ (.int .i64 L')).setCell ⟨g, 2, none⟩ (.slice (some ⟨g1, 0, none⟩) x.length c1)) B g lv l x L' x nowv (.slice (some ⟨g1, 0, none⟩) x.length c1) := by
  have hb1 := h.blk.below hb h.blk.lt
  have hb2 := hb1.set_ 3 (.int .i64 L')
  have hb3 := hb2.set_ 2 (.slice (some ⟨g1, 0, none⟩) x.length c1)
  have gr1 := hb1.setGrown 3 (.int .i64 L')
  have gr2 := hb2.setGrown 2 (.slice (some ⟨g1, 0, none⟩) x.length c1)
  have g12 := grown_trans gr1 gr2
  have hnow1 := h.now.kept (grown_below (row := none) hb) (by cases hv : nowv.ownBlock <;> simp)
  have hne : ∀ {v : Value} {n : Nat} {xs : List Value}, w1.ownsRow B 3 1 v n xs → v.ownBlock = none ∨ v.ownBlock ≠ some g := fun {v n xs} ho => by
    have := hb1.ne_own ho (by decide)
    exact .inr (fun e => this e.symm)
  have hown' := own_mono hown h.size
  refine ⟨h.hg, hb3, hnow1.kept g12 (hne hnow1), hown'.kept g12 (hne hown'), ?_, ?_, ?_⟩
  · right
    obtain ⟨gn, cn, rfl, _, hlt⟩ := h.now.form hpos
    simp [Value.ownBlock]
    omega
  · have hbel : Below B w ((w1.setCell ⟨g, 3, none⟩ (.int .i64 L')).setCell ⟨g, 2, none⟩ (.slice (some ⟨g1, 0, none⟩) x.length c1)) :=
      ((hb.mono h.size).setCell (p := ⟨g, 3, none⟩) h.hg _).setCell (p := ⟨g, 2, none⟩) h.hg _
    exact h.tasks.below hbel (Nat.le_refl _)
  · have := hb.size
    have := h.size
    simp [World.setCell]
    omega

/-- A field of the search's state, the search's now, is written. -/
theorem GrowSt.pushed {w w3 : World} {B g i g3 c3 : Nat} {lv nowv bestv : Value} {l : List Task} {x y : List Nat} {L : Int} (h : GrowSt w B g lv l x L y nowv bestv) (hown : w3.ownsRow B 3 1 (.slice (some ⟨g3, 0, none⟩) (x.length + 1) c3) (x.length + 1) (nats x ++ [.int .i64 i]))
    (hg : w.grownBy w3 nowv.ownBlock) (hgg : nowv.ownBlock = some g3 ∨ w.heap.size ≤ g3) :
    GrowSt (w3.setCell ⟨g, 1, none⟩ (.slice (some ⟨g3, 0, none⟩) (x.length + 1) c3)) B g lv l (x ++ [i]) L y (.slice (some ⟨g3, 0, none⟩) (x.length + 1) c3) bestv := by
  have hb3 := h.blk.kept hg (h.blk.ne_own h.now (by decide))
  have hb4 := hb3.set_ 1 (.slice (some ⟨g3, 0, none⟩) (x.length + 1) c3)
  have gr4 := hb3.setGrown 1 (.slice (some ⟨g3, 0, none⟩) (x.length + 1) c3)
  have hbest3 := h.best.kept hg h.apart
  have hne : ∀ {v : Value} {n : Nat} {xs : List Value}, w3.ownsRow B 3 1 v n xs → v.ownBlock = none ∨ v.ownBlock ≠ some g := fun {v n xs} ho => by
    have := hb3.ne_own ho (by decide)
    exact .inr (fun e => this e.symm)
  have hbel3 : Below B w w3 := (Below.refl B w).grown hg h.size (fun k hk => (h.now.lt k hk).1)
  refine ⟨h.hg, hb4, ?_, hbest3.kept gr4 (hne hbest3), ?_, ?_, ?_⟩
  · rw [List.length_append, List.length_singleton, nats_snoc]
    exact hown.kept gr4 (hne hown)
  · rcases h.apart with e | e
    · exact .inl e
    · right
      intro e'
      rcases hgg with hgg | hgg
      · exact e (e'.trans hgg.symm)
      · have := (h.best.lt g3 e').2
        omega
  · exact h.tasks.below (hbel3.setCell (p := ⟨g, 1, none⟩) h.hg _) (Nat.le_refl _)
  · have := hbel3.size
    have := h.size
    simp [World.setCell]
    omega
theorem GrowSt.popped {w : World} {B g i g3 c3 : Nat} {lv bestv : Value} {l : List Task} {x y : List Nat} {L : Int} (h : GrowSt w B g lv l (x ++ [i]) L y (.slice (some ⟨g3, 0, none⟩) (x.length + 1) c3) bestv) :
    GrowSt (w.setCell ⟨g, 1, none⟩ (.slice (some ⟨g3, 0, none⟩) x.length c3)) B g lv l x L y (.slice (some ⟨g3, 0, none⟩) x.length c3) bestv := by
  have hb4 := h.blk.set_ 1 (.slice (some ⟨g3, 0, none⟩) x.length c3)
  have gr4 := h.blk.setGrown 1 (.slice (some ⟨g3, 0, none⟩) x.length c3)
  have hne : ∀ {v : Value} {n : Nat} {xs : List Value}, w.ownsRow B 3 1 v n xs → v.ownBlock = none ∨ v.ownBlock ≠ some g := fun {v n xs} ho => by
    have := h.blk.ne_own ho (by decide)
    exact .inr (fun e => this e.symm)
  have hnow := h.now
  rw [List.length_append, List.length_singleton, nats_snoc] at hnow
  have hpop := own_pop (by simp [nats, ints]) hnow
  refine ⟨h.hg, hb4, hpop.kept gr4 (hne hpop), h.best.kept gr4 (hne h.best), h.apart, ?_, ?_⟩
  · exact h.tasks.below ((Below.refl B w).setCell (p := ⟨g, 1, none⟩) h.hg _) (Nat.le_refl _)
  · have := h.size
    simp [World.setCell]
    omega
theorem GrowSt.alloc {w : World} {B g : Nat} {lv nowv bestv : Value} {l : List Task} {x y : List Nat} {L : Int} (h : GrowSt w B g lv l x L y nowv bestv) (o : Obj) : GrowSt (w.alloc o) B g lv l x L y nowv bestv :=
  ⟨h.hg, h.blk.alloc o, h.now.alloc o, h.best.alloc o, h.apart, h.tasks.below ((Below.refl B w).alloc h.size o) (Nat.le_refl _), by have := h.size; simp; omega⟩
theorem GrowSt.drewN {w : World} {B g : Nat} {lv nowv bestv : Value} {l : List Task} {x y : List Nat} {L : Int} (h : GrowSt w B g lv l x L y nowv bestv) (n : Nat) : GrowSt (w.drewN n) B g lv l x L y nowv bestv :=
  ⟨h.hg, h.blk, h.now, h.best, h.apart, h.tasks.drewN n, h.size⟩

theorem GrowSt.last {w : World} {B g gn c cap : Nat} {A : Option Addr} {bestv : Value} {l : List Task} {x y : List Nat} {L : Int} (h : GrowSt w B g (.slice A l.length c) l x L y (.slice (some ⟨gn, 0, none⟩) x.length cap) bestv) (hx : x ≠ []) (hc : Chain l x) :
    ∃ m, ∃ hm : m < l.length, x.getLast hx = m ∧ w.cell? ⟨gn, x.length - 1, none⟩ = some (.int .i64 (m : Nat)) ∧ ∃ b off, A = some ⟨b, off, none⟩ ∧ b < B ∧ w.cell? ⟨b, off + m * 5, none⟩ = some (.string l[m].name) := by
  have hpos : 0 < x.length := List.length_pos_iff.2 hx
  have hm := hc.1 _ (List.getElem_mem (show x.length - 1 < x.length by omega))
  obtain ⟨b, off, hA, hb, hcell⟩ := h.tasks.cells hm
  refine ⟨x[x.length - 1], hm, List.getLast_eq_getElem .., ?_, b, off, hA, hb, (hcell _ hm).1⟩
  rw [h.now.cellAt (x.length - 1) (by omega), nats_get x _ (by omega)]

theorem GrowSt.box {w w3 : World} {B g gn n cap : Nat} {lv bestv : Value} {l : List Task} {x y : List Nat} {L : Int} {cs : Array Value} {t : TypeId} (h : GrowSt w B g lv l x L y (.slice (some ⟨gn, 0, none⟩) n cap) bestv)
    (hg : (w.alloc (.cells cs t)).grownBy w3 (Value.ownBlock (.slice (some ⟨gn, 0, none⟩) n cap))) (i : Nat) : w3.cell? ⟨w.heap.size, i, none⟩ = cs[i]? := by
  have hlt := (h.now.lt gn rfl).2
  exact ((Blk.new w t cs).kept hg (by simp [Value.ownBlock]; omega)).cell i

/-- What grow leaves. -/
def GrowPost (w : World) (B g : Nat) (lv : Value) (l : List Task) (x : List Nat) (e : Ending) (w' : World) : Prop :=
  e = .returned (.tuple #[]) ∧ Below B w w' ∧ ∃ L y nowv bestv, GrowSt w' B g lv l x L y nowv bestv ∧ Covers l (x ++ [l.length]) L y

set_option maxRecDepth 100000 in
set_option maxHeartbeats 4000000 in
theorem grow_any (B g : Nat) (lv : Value) (l : List Task) (hR : RightT l) : ∀ (k : Nat) (x : List Nat) (L : Int) (y : List Nat) (nowv bestv : Value) (w : World), l.length < x.length + k → x ≠ [] → Chain l x →
    GrowSt w B g lv l x L y nowv bestv → Covers l x L y →
    Calls Try.prog 65 #[.pointer (some ⟨g, 0, none⟩), .int .i64 (sumAt l x)] w (GrowPost w B g lv l x) := by
  intro k
  induction k with
  | zero =>
    intro x L y nowv bestv w hk hx hc
    have := hc.short hR
    omega
  | succ k ih =>
    intro x L y nowv bestv w hk hx hc hS hC
    have IH := Lib.hid ih
    clear ih
    have h8 := hR.len
    have hshort := hc.short hR
    have hpos : 0 < x.length := List.length_pos_iff.2 hx
    obtain ⟨gn, capn, rfl, hgnB, hgnlt⟩ := hS.now.form hpos
    obtain ⟨A, c, rfl, hc1, hc2, -⟩ := hS.tasks.open_
    unfold maxLen at hc2
    have hsum := sumAt_bd hR x
    have hL := hC.sum
    have hLb := sumAt_bd hR y
    rw [hL] at hLb
    have hyl := hC.chain.short hR
    obtain ⟨hs1, hs2⟩ := hsum
    obtain ⟨hl1, hl2⟩ := hLb
    by_cases hlt : L < sumAt l x
    · have hC2 := hC.visit hc
      rw [if_pos hlt, if_pos hlt] at hC2
      have HC2 := Lib.hid hC2
      have hcl := cloneIntPos _ (ints x) w (RowAt.of_own (show w.ownsRow B 3 1 _ x.length ((ints x).map (Value.int .i64)) from hS.now)) (by rw [length_ints]; omega) (by rw [length_ints]; exact hpos)
      rw [length_ints] at hcl
      obtain ⟨h0, h1, h2, h3, f0, f1, f2, f3⟩ := blk4 hS.blk
      have HS := Lib.hid hS
      clear hS hC hL hC2
      go_enter Try.func65, Try.ntmps65
      go_wp2_with (go_at_call 98; refine hcl.mono ?_; rintro e w1 ⟨g1, c1, rfl, hg1, hown1, hb1⟩; obtain ⟨h0', h1', h2', h3', f0', f1', f2', f3'⟩ := blk4 (HS.out.blk.below hb1 HS.out.blk.lt))
      have HS2 := HS.out.visited (L' := sumAt l x) hb1 hg1 hown1 hpos
      have hB2 : Below B w ((w1.setCell ⟨g, 3, none⟩ (.int .i64 (sumAt l x))).setCell ⟨g, 2, none⟩ (.slice (some ⟨g1, 0, none⟩) x.length c1)) :=
        ((hb1.mono HS.out.size).setCell (p := ⟨g, 3, none⟩) HS.out.hg _).setCell (p := ⟨g, 2, none⟩) HS.out.hg _
      clear HS hown1 hb1 h0' h1' h2' h3' f0' f1' f2' f3' h0 h1 h2 h3 f0 f1 f2 f3
      generalize (w1.setCell ⟨g, 3, none⟩ (.int .i64 (sumAt l x))).setCell ⟨g, 2, none⟩ (.slice (some ⟨g1, 0, none⟩) x.length c1) = w2 at *
      obtain ⟨m, hm, Hlm, hlast, b, off, rfl, hb, t0⟩ := HS2.last hx hc
      have Hlm := Lib.hid Hlm
      obtain ⟨h0, h1, h2, h3, f0, f1, f2, f3⟩ := blk4 HS2.blk
      have HS3 := Lib.hid HS2
      clear HS2
      go_quiet (fail)
      go_wp2
      clear h0 h1 h2 h3 f0 f1 f2 f3 hlast t0 hl1 hl2 hyl
      go_loopw [49] (fun s wr => ∃ (i : Nat) (L : Int) (y : List Nat) (gn cap : Nat) (bv : Value), i ≤ l.length ∧ s = .int .i64 i ∧ Hid (GrowSt wr B g (.slice (some ⟨b, off, none⟩) l.length c) l x L y (.slice (some ⟨gn, 0, none⟩) x.length cap) bv) ∧
          Hid (Covers l (x ++ [i]) L y) ∧ Below B w wr) (fun s _ => l.length - (intOf s).toNat)
      case atStart => exact ⟨0, _, _, _, _, _, Nat.zero_le _, rfl, HS3.out.drewN _, HC2.out, below_drewN hB2 _⟩
      case round =>
        clear HS3 HC2 hB2
        obtain ⟨i, L, y, gn, cap, bv, hi, rfl, HS, HC, hbel⟩ := hrel
        by_cases hil : i < l.length
        · obtain ⟨b', off', e', hb', hcell⟩ := HS.out.tasks.cells hil
          obtain ⟨rfl, rfl⟩ : b = b' ∧ off = off' := by injection e' with e'; injection e' with e1 e2; exact ⟨e1, e2⟩
          clear e'
          obtain ⟨t0, t1, t2, t3, t4⟩ := hcell i hil
          clear hcell
          have HSb := fun o => HS.out.alloc o
          have HSb := Lib.hid HSb
          have hcon := fun o => containsStr l[i].bv l[i].bef l[m].name B (wr.alloc o) ((HSb.out o).tasks.bef hil)
          have hgl := HS.out.blk.lt
          have hbb : ∀ o, Below B w (wr.alloc o) := fun o => hbel.alloc HS.out.size o
          by_cases hE : l[m].name ∈ l[i].bef
          · have Hch : Hid (Chain l (x ++ [i])) := hc.snoc hil (fun _ => ⟨by rw [Hlm.out]; exact hm, hil, by simp only [Hlm.out]; exact hE⟩)
            have hshort2 := Hch.out.short hR
            rw [List.length_append, List.length_singleton] at hshort2
            rw [decide_eq_true hE] at hcon
            have Hsum : Hid (sumAt l (x ++ [i]) = sumAt l x + l[i].len) := by unfold Hid; rw [sumAt_snoc, lenAt_eq hil]
            have hl0 := fieldB_len (hR.field i hil)
            obtain ⟨hl01, hl02⟩ := hl0
            obtain ⟨hA0, hA1, hA2, hA3, fA0, fA1, fA2, fA3⟩ := blk4 HS.out.blk
            have hE' := Lib.hid hE
            have hneo := HS.out.blk.ne_own HS.out.now (by decide)
            clear hE
            go_wp2_with (first
              | (go_at_call 48; refine (hcon _).mono ?_; rintro e w' ⟨rfl, rfl⟩)
              | (at_builtin; refine wpList_pushN _ rfl (.tmp 62) (.tmp 64) 29 rfl B 3 info_int Try.underlying29 rfl _ x.length (nats x) rfl (HSb.out _).now (.int .i64 i) rfl (wr.heap.size + 1) (by simp) rfl (by unfold maxLen; omega) (by omega) (HSb.out _).size ?_; intro g3 cap3 w3 hown3 hgrow3 hbg hgg; obtain ⟨k0, k1, k2, k3, e0, e1, e2, e3⟩ := blk4 ((HSb.out _).blk.kept hgrow3 hneo); have hbx3 : w3.cell? ⟨wr.heap.size, 1, none⟩ = some (.int .i64 l[i].len) := HS.out.box hgrow3 1)
              | (go_at_call 65; have hcall := IH.out (x ++ [i]) L y _ bv _ (by rw [List.length_append, List.length_singleton]; omega) (by simp) Hch.out ((HSb.out _).pushed hown3 hgrow3 hgg) HC.out; rw [Hsum.out] at hcall; refine hcall.mono ?_; rintro e w5 ⟨rfl, hb5, L5, y5, nv5, bv5, HS5, HC5⟩))
            have Bel5 : Below B w w5 := (((hbb _).grown hgrow3 (HSb.out _).size (fun k hk => by cases hk; exact (HS.out.now.lt _ rfl).1)).setCell (p := ⟨g, 1, none⟩) HS.out.hg _).trans hb5
            obtain ⟨g5, c5, rfl, _, _⟩ := HS5.now.form (by simp)
            rw [List.length_append, List.length_singleton] at HS5
            obtain ⟨p0, p1, p2, p3, d0, d1, d2, d3⟩ := blk4 HS5.blk
            have HPop := Lib.hid HS5.popped
            have hcap := own_cap (show w5.ownsRow B 3 1 (.slice (some ⟨g5, 0, none⟩) (x.length + 1) c5) (x.length + 1) (nats (x ++ [i])) by have := HS5.now; rw [List.length_append, List.length_singleton] at this; exact this)
            obtain ⟨hcap1, hcap2⟩ := hcap
            have HC6 := Lib.hid HC5.next_yes
            have hg0 := HS.out.hg
            clear HS5 HC5 hb5 hown3 hgrow3 hgg hbx3 k0 k1 k2 k3 e0 e1 e2 e3 hcon HC HS HSb hA0 hA1 hA2 hA3 fA0 fA1 fA2 fA3 hbb hbel t0 t1 t2 t3 t4 Hsum Hch
            refine wp_region_tail 14 (by kernel_rfl) (by kernel_rfl) ?_
            simp only [List.take_succ_cons, List.take_zero, List.drop_succ_cons, List.drop_zero]
            repeat (go_big_quiet_step (fail))
            refine wpQuiet_nil ?_
            go_wp2
            go_roundw
            case rel => exact ⟨i + 1, _, _, _, _, _, by omega, by go_num, HPop.out.drewN 1, HC6.out, (Bel5.setCell (p := ⟨g, 1, none⟩) hg0 _).drew⟩
            case measure => simp [intOf]; omega
          · have HNx : Hid (Covers l (x ++ [i + 1]) L y) := HC.out.next_no (fun h => hE (by
              have := h.last_edge hx
              rw [Hlm.out] at this
              exact this.2.2))
            rw [decide_eq_false hE] at hcon
            clear hE HC
            go_wp2_with (go_at_call 48; refine (hcon _).mono ?_; rintro e w' ⟨rfl, rfl⟩)
            go_roundw
            case rel => exact ⟨i + 1, _, _, _, _, _, by omega, by go_num, HSb.out _, HNx.out, hbb _⟩
            case measure => simp [intOf]; omega
        · have hie : i = l.length := by omega
          subst hie
          go_wp2
          go_end0
          exact ⟨rfl, hbel, L, y, _, bv, HS.out, HC.out⟩
    · have hC2 := hC.visit hc
      rw [if_neg hlt, if_neg hlt] at hC2
      have HC2 := Lib.hid hC2
      have HS2 := hS
      have hB2 : Below B w w := Below.refl _ _
      obtain ⟨h0, h1, h2, h3, f0, f1, f2, f3⟩ := blk4 hS.blk
      have HS := Lib.hid hS
      clear hS hC hL hC2
      go_enter Try.func65, Try.ntmps65
      go_wp2
      clear h0 h1 h2 h3 f0 f1 f2 f3
      obtain ⟨m, hm, Hlm, hlast, b, off, rfl, hb, t0⟩ := HS2.last hx hc
      have Hlm := Lib.hid Hlm
      obtain ⟨h0, h1, h2, h3, f0, f1, f2, f3⟩ := blk4 HS2.blk
      have HS3 := Lib.hid HS2
      clear HS2
      go_quiet (fail)
      go_wp2
      clear h0 h1 h2 h3 f0 f1 f2 f3 hlast t0 hl1 hl2 hyl
      go_loopw [49] (fun s wr => ∃ (i : Nat) (L : Int) (y : List Nat) (gn cap : Nat) (bv : Value), i ≤ l.length ∧ s = .int .i64 i ∧ Hid (GrowSt wr B g (.slice (some ⟨b, off, none⟩) l.length c) l x L y (.slice (some ⟨gn, 0, none⟩) x.length cap) bv) ∧
          Hid (Covers l (x ++ [i]) L y) ∧ Below B w wr) (fun s _ => l.length - (intOf s).toNat)
      case atStart => exact ⟨0, _, _, _, _, _, Nat.zero_le _, rfl, HS3.out.drewN _, HC2.out, below_drewN hB2 _⟩
      case round =>
        clear HS3 HC2 hB2
        obtain ⟨i, L, y, gn, cap, bv, hi, rfl, HS, HC, hbel⟩ := hrel
        by_cases hil : i < l.length
        · obtain ⟨b', off', e', hb', hcell⟩ := HS.out.tasks.cells hil
          obtain ⟨rfl, rfl⟩ : b = b' ∧ off = off' := by injection e' with e'; injection e' with e1 e2; exact ⟨e1, e2⟩
          clear e'
          obtain ⟨t0, t1, t2, t3, t4⟩ := hcell i hil
          clear hcell
          have HSb := fun o => HS.out.alloc o
          have HSb := Lib.hid HSb
          have hcon := fun o => containsStr l[i].bv l[i].bef l[m].name B (wr.alloc o) ((HSb.out o).tasks.bef hil)
          have hgl := HS.out.blk.lt
          have hbb : ∀ o, Below B w (wr.alloc o) := fun o => hbel.alloc HS.out.size o
          by_cases hE : l[m].name ∈ l[i].bef
          · have Hch : Hid (Chain l (x ++ [i])) := hc.snoc hil (fun _ => ⟨by rw [Hlm.out]; exact hm, hil, by simp only [Hlm.out]; exact hE⟩)
            have hshort2 := Hch.out.short hR
            rw [List.length_append, List.length_singleton] at hshort2
            rw [decide_eq_true hE] at hcon
            have Hsum : Hid (sumAt l (x ++ [i]) = sumAt l x + l[i].len) := by unfold Hid; rw [sumAt_snoc, lenAt_eq hil]
            have hl0 := fieldB_len (hR.field i hil)
            obtain ⟨hl01, hl02⟩ := hl0
            obtain ⟨hA0, hA1, hA2, hA3, fA0, fA1, fA2, fA3⟩ := blk4 HS.out.blk
            have hE' := Lib.hid hE
            have hneo := HS.out.blk.ne_own HS.out.now (by decide)
            clear hE
            go_wp2_with (first
              | (go_at_call 48; refine (hcon _).mono ?_; rintro e w' ⟨rfl, rfl⟩)
              | (at_builtin; refine wpList_pushN _ rfl (.tmp 62) (.tmp 64) 29 rfl B 3 info_int Try.underlying29 rfl _ x.length (nats x) rfl (HSb.out _).now (.int .i64 i) rfl (wr.heap.size + 1) (by simp) rfl (by unfold maxLen; omega) (by omega) (HSb.out _).size ?_; intro g3 cap3 w3 hown3 hgrow3 hbg hgg; obtain ⟨k0, k1, k2, k3, e0, e1, e2, e3⟩ := blk4 ((HSb.out _).blk.kept hgrow3 hneo); have hbx3 : w3.cell? ⟨wr.heap.size, 1, none⟩ = some (.int .i64 l[i].len) := HS.out.box hgrow3 1)
              | (go_at_call 65; have hcall := IH.out (x ++ [i]) L y _ bv _ (by rw [List.length_append, List.length_singleton]; omega) (by simp) Hch.out ((HSb.out _).pushed hown3 hgrow3 hgg) HC.out; rw [Hsum.out] at hcall; refine hcall.mono ?_; rintro e w5 ⟨rfl, hb5, L5, y5, nv5, bv5, HS5, HC5⟩))
            have Bel5 : Below B w w5 := (((hbb _).grown hgrow3 (HSb.out _).size (fun k hk => by cases hk; exact (HS.out.now.lt _ rfl).1)).setCell (p := ⟨g, 1, none⟩) HS.out.hg _).trans hb5
            obtain ⟨g5, c5, rfl, _, _⟩ := HS5.now.form (by simp)
            rw [List.length_append, List.length_singleton] at HS5
            obtain ⟨p0, p1, p2, p3, d0, d1, d2, d3⟩ := blk4 HS5.blk
            have HPop := Lib.hid HS5.popped
            have hcap := own_cap (show w5.ownsRow B 3 1 (.slice (some ⟨g5, 0, none⟩) (x.length + 1) c5) (x.length + 1) (nats (x ++ [i])) by have := HS5.now; rw [List.length_append, List.length_singleton] at this; exact this)
            obtain ⟨hcap1, hcap2⟩ := hcap
            have HC6 := Lib.hid HC5.next_yes
            have hg0 := HS.out.hg
            clear HS5 HC5 hb5 hown3 hgrow3 hgg hbx3 k0 k1 k2 k3 e0 e1 e2 e3 hcon HC HS HSb hA0 hA1 hA2 hA3 fA0 fA1 fA2 fA3 hbb hbel t0 t1 t2 t3 t4 Hsum Hch
            refine wp_region_tail 14 (by kernel_rfl) (by kernel_rfl) ?_
            simp only [List.take_succ_cons, List.take_zero, List.drop_succ_cons, List.drop_zero]
            repeat (go_big_quiet_step (fail))
            refine wpQuiet_nil ?_
            go_wp2
            go_roundw
            case rel => exact ⟨i + 1, _, _, _, _, _, by omega, by go_num, HPop.out.drewN 1, HC6.out, (Bel5.setCell (p := ⟨g, 1, none⟩) hg0 _).drew⟩
            case measure => simp [intOf]; omega
          · have HNx : Hid (Covers l (x ++ [i + 1]) L y) := HC.out.next_no (fun h => hE (by
              have := h.last_edge hx
              rw [Hlm.out] at this
              exact this.2.2))
            rw [decide_eq_false hE] at hcon
            clear hE HC
            go_wp2_with (go_at_call 48; refine (hcon _).mono ?_; rintro e w' ⟨rfl, rfl⟩)
            go_roundw
            case rel => exact ⟨i + 1, _, _, _, _, _, by omega, by go_num, HSb.out _, HNx.out, hbb _⟩
            case measure => simp [intOf]; omega
        · have hie : i = l.length := by omega
          subst hie
          go_wp2
          go_end0
          exact ⟨rfl, hbel, L, y, _, bv, HS.out, HC.out⟩

end Go.Proofs.Ytcjejcbikgcnbaa
