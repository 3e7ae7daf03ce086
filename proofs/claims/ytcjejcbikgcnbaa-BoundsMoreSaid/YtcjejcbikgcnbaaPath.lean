/- bounds.Path. -/
import Derived.Test.YtcjejcbikgcnbaaGrow
import Derived.Test.YtcjejcbikgcnbaaValid
namespace Go.Proofs.Ytcjejcbikgcnbaa
open Go.RowKit Go.Shelf

theorem info_str : (Try.prog.info? 9).map (fun i => (i.zero, i.size, i.bytes)) = some (some (.string ⟨#[]⟩), 1, 16) := by kernel_rfl
theorem own_one (w : World) (base e : Nat) (u : Value) (hb : base ≤ w.heap.size) : (w.alloc (.cells #[u] e)).ownsRow base e 1 (.slice (some ⟨w.heap.size, 0, none⟩) 1 1) 1 [u] :=
  ⟨rfl, .inr ⟨w.heap.size, 1, #[u], rfl, hb, heap_alloc_new w _, Nat.le_refl _, by unfold maxLen; omega, rfl, rfl⟩⟩
/-- The names of tasks by their indices. -/
def nmsAt (l : List Task) (y : List Nat) : List ByteArray := y.map fun i => (names l).getD i ⟨#[]⟩
theorem nmsAt_snoc (l : List Task) (y : List Nat) {i : Nat} (hi : i < l.length) : nmsAt l (y ++ [i]) = nmsAt l y ++ [l[i].name] := by
  unfold nmsAt names
  rw [List.map_append, List.map_singleton, List.getD_eq_getElem?_getD, List.getElem?_map, List.getElem?_eq_getElem hi]
  rfl

/-- What Path leaves. -/
def PathPost (l : List Task) (w : World) (e : Ending) (w' : World) : Prop :=
  Below w.heap.size w w' ∧ (rightR l = false ∧ e = .returned (.tuple #[.int .i64 0, .slice none 0 0, .int .i64 1]) ∨
    rightR l = true ∧ ∃ L y v, Covers l [l.length] L y ∧ e = .returned (.tuple #[.int .i64 L, v, .int .i64 0]) ∧ w'.ownsRow w.heap.size 9 1 v y.length ((nmsAt l y).map Value.string))

theorem GrowSt.fresh {w : World} {B g : Nat} {lv nowv bestv : Value} {l : List Task} {x y : List Nat} {L : Int} (h : GrowSt w B g lv l x L y nowv bestv) (i : Nat) :
    GrowSt ((w.alloc (.cells #[.int .i64 (i : Int)] 3)).setCell ⟨g, 1, none⟩ (.slice (some ⟨w.heap.size, 0, none⟩) 1 1)) B g lv l [i] L y (.slice (some ⟨w.heap.size, 0, none⟩) 1 1) bestv := by
  have h' := h.alloc (.cells #[.int .i64 (i : Int)] 3)
  have hb4 := h'.blk.set_ 1 (.slice (some ⟨w.heap.size, 0, none⟩) 1 1)
  have gr4 := h'.blk.setGrown 1 (.slice (some ⟨w.heap.size, 0, none⟩) 1 1)
  have hne : ∀ {v : Value} {n : Nat} {xs : List Value}, (w.alloc (.cells #[.int .i64 (i : Int)] 3)).ownsRow B 3 1 v n xs → v.ownBlock = none ∨ v.ownBlock ≠ some g := fun {v n xs} ho => by
    have := h'.blk.ne_own ho (by decide)
    exact .inr (fun e => this e.symm)
  have hown := own_one w B 3 (.int .i64 (i : Int)) h.size
  refine ⟨h.hg, hb4, hown.kept gr4 (hne hown), h'.best.kept gr4 (hne h'.best), ?_, ?_, ?_⟩
  · right
    intro e
    have := (h.best.lt w.heap.size e).2
    omega
  · exact h'.tasks.below ((Below.refl B _).setCell (p := ⟨g, 1, none⟩) h.hg _) (Nat.le_refl _)
  · have := h'.size
    simp [World.setCell] at this ⊢
    omega

set_option maxRecDepth 100000 in
set_option maxHeartbeats 4000000 in
theorem boundsPath (v : Value) (l : List Task) (w : World) (hl : TasksAt w w.heap.size v l) :
    Calls Try.prog 18 #[v] w (PathPost l w) := by
  have hV := schedValid v l 0 0 w hl
  rw [valid_00] at hV
  have HL := Lib.hid hl
  obtain ⟨A, c, rfl, hc1, hc2, hcell⟩ := hl.open_
  unfold maxLen at hc2
  clear hl hcell
  cases hr : rightR l with
  | false =>
    rw [hr] at hV
    have HR := Lib.hid hr
    clear hr
    go_enter Try.func18, Try.ntmps18
    go_wp2_with (go_at_call 52; refine hV.mono ?_; rintro e w1 ⟨rfl, hb1⟩)
    refine bodyPost_ret (results_tmp3 rfl _ _ _) (by rfl) ?_
    exact ⟨hb1, .inl ⟨HR.out, rfl⟩⟩
  | true =>
    rw [hr] at hV
    have HR := Lib.hid hr
    have hRT := (right_iff l).1 hr
    have h8 := hRT.len
    have HRT := Lib.hid hRT
    clear hr hRT
    go_enter Try.func18, Try.ntmps18
    go_wp2_with (go_at_call 52; refine hV.mono ?_; rintro e w1 ⟨rfl, hb1⟩)
    have hT1 : TasksAt w1 w1.heap.size (.slice A l.length c) l := (HL.out.below hb1 (Nat.le_refl _)).mono hb1.size
    have HS0 : GrowSt (w1.alloc (.cells #[.slice A l.length c, .slice none 0 0, .slice none 0 0, .int .i64 0] 76)) w1.heap.size w1.heap.size (.slice A l.length c) l [] 0 [] (.slice none 0 0) (.slice none 0 0) :=
      ⟨Nat.le_refl _, Blk.new _ _ _, World.ownsRow_nil _ _ _ _, World.ownsRow_nil _ _ _ _, .inl rfl, hT1.below ((Below.refl _ _).alloc (Nat.le_refl _) _) (Nat.le_refl _), by simp⟩
    have hB0 := hb1.alloc hb1.size (.cells #[.slice A l.length c, .slice none 0 0, .slice none 0 0, .int .i64 0] 76)
    have hsz := hb1.size
    clear hb1 hT1 hV
    generalize w1.alloc (.cells #[.slice A l.length c, .slice none 0 0, .slice none 0 0, .int .i64 0] 76) = w2 at *
    generalize w1.heap.size = g at *
    go_loopw [19] (fun s wr => ∃ (i : Nat) (x : List Nat) (L : Int) (y : List Nat) (nv bv : Value), i ≤ l.length ∧ s = .int .i64 i ∧ Hid (GrowSt wr g g (.slice A l.length c) l x L y nv bv) ∧ Hid (Covers l [i] L y) ∧ Below w.heap.size w wr) (fun s _ => l.length - (intOf s).toNat)
    case atStart => exact ⟨0, _, _, _, _, _, Nat.zero_le _, rfl, HS0, Covers.start l, hB0⟩
    case round =>
      clear HS0 hB0
      obtain ⟨i, x, L, y, nv, bv, hi, rfl, HS, HC, hbel⟩ := hrel
      by_cases hil : i < l.length
      · obtain ⟨b, off, rfl, hb, hcell⟩ := HS.out.tasks.cells hil
        obtain ⟨t0, t1, t2, t3, t4⟩ := hcell i hil
        clear hcell
        have HSb := fun o => HS.out.alloc o
        have HSb := Lib.hid HSb
        have hgl := HS.out.blk.lt
        have hbb : ∀ o, Below w.heap.size w (wr.alloc o) := fun o => hbel.alloc hbel.size o
        obtain ⟨h0, h1, h2, h3, f0, f1, f2, f3⟩ := blk4 HS.out.blk
        have Hsum : Hid (sumAt l [i] = l[i].len) := by unfold Hid; rw [show sumAt l [i] = lenAt l i by simp [sumAt], lenAt_eq hil]
        go_wp2_with fail
        have hf := (HSb.out (.cells #[.string l[i].name, .int .i64 l[i].len, .int .i64 l[i].crew, .int .i64 l[i].pow, .slice l[i].ba l[i].bef.length l[i].bc] 41)).fresh i
        simp only [World.size_alloc] at hf
        rw [World.setCell_alloc_past _ _ _ _ (by simp; omega), World.setCell_alloc_past _ _ _ _ hgl] at hf
        have hcall := grow_any g g _ l HRT.out l.length [i] L y _ bv _ (by simp) (by simp) (Chain.one hil) hf HC.out
        rw [Hsum.out] at hcall
        refine hcall.mono ?_
        rintro e w5 ⟨rfl, hb5, L5, y5, nv5, bv5, HS5, HC5⟩
        have Bel5 : Below w.heap.size w w5 := (((hbel.setCell (p := ⟨g, 1, none⟩) hsz _).alloc (by simp [World.setCell]; exact hbel.size) _).alloc (by simp [World.setCell]; have := hbel.size; omega) _).trans (hb5.mono hsz)
        have HC6 : Hid (Covers l [i + 1] L5 y5) := Covers.next_yes (x := []) HC5
        clear hf hcall h0 h1 h2 h3 f0 f1 f2 f3 hbb HSb HS HC hb5 t0 t1 t2 t3 t4 Hsum
        go_wp2
        go_roundw
        case rel => exact ⟨i + 1, _, _, _, _, _, by omega, by go_num, HS5, HC6, Bel5⟩
        case measure => simp [intOf]; omega
      · have hie : i = l.length := by omega
        subst hie
        obtain ⟨wo, rfl⟩ : ∃ wo : World, wo = wr := ⟨_, rfl⟩
        obtain ⟨h0, h1, h2, h3, f0, f1, f2, f3⟩ := blk4 HS.out.blk
        have hbr : IntsAt wo wo.heap.size bv (ints y) := RowAt.of_own (show wo.ownsRow g 3 1 bv y.length ((ints y).map (Value.int .i64)) from HS.out.best)
        obtain ⟨A2, c2, rfl, hy1, hy2, hcy⟩ := hbr.open_
        rw [length_ints] at *
        unfold maxLen at hy2
        have hyl := HC.out.chain.short HRT.out
        have hgl := HS.out.blk.lt
        clear hbr
        go_wp2
        go_loopw [39, 8] (fun s o wi => ∃ (j : Nat), j ≤ y.length ∧ s = .int .i64 j ∧ wi.ownsRow wo.heap.size 9 1 o j ((nmsAt l (y.take j)).map Value.string) ∧ Below wo.heap.size wo wi) (fun s _ _ => y.length - (intOf s).toNat)
        case atStart => exact ⟨0, Nat.zero_le _, rfl, World.ownsRow_nil _ _ _ _, Below.refl _ _⟩
        case round =>
          obtain ⟨j, hj, rfl, hown, hbi⟩ := hrel
          have hTb := HS.out.tasks.below hbi HS.out.size
          by_cases hjl : j < y.length
          · obtain ⟨b2, off2, rfl, hb2, hcy⟩ := hcy j (by rw [length_ints]; exact hjl)
            have hyj := (hbi.cell (p := ⟨b2, off2 + j, none⟩) hb2).trans (hcy j (by rw [length_ints]; exact hjl))
            clear hcy
            have hyn := HC.out.chain.1 _ (List.getElem_mem hjl)
            obtain ⟨b, off, rfl, hb, hcell⟩ := hTb.cells hyn
            obtain ⟨t0, -, -, -, -⟩ := hcell _ hyn
            clear hcell
            rw [show (ints y)[j]'(by rw [length_ints]; exact hjl) = ((y[j] : Nat) : Int) by simp [ints]] at hyj
            have HN : Hid (nmsAt l (y.take (j + 1)) = nmsAt l (y.take j) ++ [l[y[j]].name]) := by unfold Hid; rw [take_snoc y j hjl, nmsAt_snoc l _ hyn]
            have hsz2 := hbi.size
            have hsz3 := hbel.size
            go_wp2_with (at_builtin; refine wpList_push _ rfl (.tmp 43) (.tmp 49) 25 rfl wo.heap.size 9 info_str Try.underlying25 rfl _ j _ rfl hown (.string l[y[j]].name) rfl rfl (by unfold maxLen; omega) (by omega) (by omega) ?_; intro g3 cap3 w3 hown3 hgrow3 hbg hgg)
            have hown4 : w3.ownsRow wo.heap.size 9 1 (.slice (some ⟨g3, 0, none⟩) (j + 1) cap3) (j + 1) ((nmsAt l (y.take (j + 1))).map Value.string) := by rw [HN.out, List.map_append]; exact hown3
            have hb3 := hbi.grown hgrow3 hbi.size (fun k hk => (hown.lt k hk).1)
            clear hown3 hgrow3 hgg hown HN t0 hyj hbi
            go_roundw
            case rel => exact ⟨j + 1, by omega, by go_num, hown4, hb3⟩
            case measure => simp [intOf]; omega
          · have hje : j = y.length := by omega
            subst hje
            rw [List.take_length] at hown
            clear hcy
            obtain ⟨p0, p1, p2, p3, d0, d1, d2, d3⟩ := blk4 (HS.out.blk.below hbi hgl)
            go_wp2
            refine bodyPost_ret (results_tmp3 rfl _ _ _) (by rfl) ?_
            exact ⟨hbel.trans (hbi.mono hbel.size), .inr ⟨HR.out, L, y, _, HC.out, rfl, own_mono hown hbel.size⟩⟩

end Go.Proofs.Ytcjejcbikgcnbaa
