/- schedule.right and schedule.Valid. -/
import Derived.Test.YtcjejcbikgcnbaaFields
namespace Go.Proofs.Ytcjejcbikgcnbaa
open Go.RowKit Go.Shelf Go.WideMaps Go.Maps


/-- A task whose Before are all done is done. -/
def dStep (rows : List (List Int)) (ds : List Bool) (i : Nat) : List Bool := ds.set i (ds.getD i false || (rows.getD i []).all fun k => ds.getD k.toNat false)
def dFrom (rows : List (List Int)) : Nat → Nat → List Bool → List Bool
  | _, 0, ds => ds
  | i, m + 1, ds => dFrom rows (i + 1) m (dStep rows ds i)
def dIter (rows : List (List Int)) (n : Nat) : Nat → List Bool → List Bool
  | 0, ds => ds
  | f + 1, ds => dIter rows n f (dFrom rows 0 n ds)
def doneAll (l : List Task) : Bool := (dIter (rowsOf l) l.length l.length (List.replicate l.length false)).all id
/-- What schedule.right computes. -/
noncomputable def rightW (l : List Task) : Bool := decide (l.length ≤ 8) && l.all fieldB && (distinct l && befOK l) && doneAll l

theorem length_dStep (rows : List (List Int)) (ds : List Bool) (i : Nat) : (dStep rows ds i).length = ds.length := by simp [dStep]

/-- The rows stay while a row of another element type is written. -/
theorem BefRows.kept {w w' : World} {base O : Nat} {l : List Task} {i : Nat} {cs : List Value} (h : BefRows w base O l i cs) {b e n : Nat} {vM : Value} {xs : List Value} (hM : w.ownsRow b e 1 vM n xs)
    (h1 : 3 ≠ e) (h2 : 29 ≠ e) (hg : w.grownBy w' vM.ownBlock) : BefRows w' base O l i cs :=
  ⟨h.own.kept hg (own_ne h.own hM h2), fun j hj hc hji => (h.rows j hj hc hji).kept hg (own_ne (h.rows j hj hc hji) hM h1), h.rest⟩
theorem BefRows.alloc {w : World} {base O : Nat} {l : List Task} {i : Nat} {cs : List Value} (h : BefRows w base O l i cs) (o : Obj) : BefRows (w.alloc o) base O l i cs :=
  ⟨h.own.alloc o, fun j hj hc hji => (h.rows j hj hc hji).alloc o, h.rest⟩
theorem BefRows.past {w w' : World} {base O : Nat} {l : List Task} {i : Nat} {cs : List Value} (h : BefRows w base O l i cs) (hg : w.grownBy w' none) : BefRows w' base O l i cs :=
  ⟨h.own.kept hg (.inr (by simp [Value.ownBlock])), fun j hj hc hji => (h.rows j hj hc hji).kept hg (by cases hv : cs[j].ownBlock <;> simp), h.rest⟩
theorem made_false (n : Nat) : (madeCells (Value.cells (.bool false)) (n * 1)).toList = (List.replicate n false).map Value.bool := by
  apply List.ext_getElem
  · simp [size_madeCells]
  · intro i h1 h2
    simp [madeCells, Value.cells, Nat.mod_one]
theorem own_mono_rows {w : World} {B B' O : Nat} {l : List Task} {i : Nat} {cs : List Value} (h : BefRows w B O l i cs) (hB : B' ≤ B) : BefRows w B' O l i cs :=
  ⟨own_mono h.own hB, fun j hj hc hji => own_mono (h.rows j hj hc hji) hB, h.rest⟩

theorem info_bool : (Try.prog.info? 4).map (fun i => (i.zero, i.size, i.bytes)) = some (some (.bool false), 1, 1) := by kernel_rfl
theorem enters121 : ∀ args w, (callFunc 121 args).run Try.prog w = .ok (.enter 121 args) w := enters_of Try.func121 (by kernel_rfl) rfl

set_option maxHeartbeats 400000 in
theorem rightClosure (k : Nat) (D M n : Nat) (ds : List Bool) (w : World) (hk : k < n) (_h8 : n ≤ 8) (hn : ds.length = n)
    (hD : w.cell? ⟨D, 0, none⟩ = some (.slice (some ⟨M, 0, none⟩) n n)) (hM : ∀ j (hj : j < ds.length), w.cell? ⟨M, j, none⟩ = some (.bool ds[j])) :
    Calls Try.prog 121 #[.int .i64 k, .pointer (some ⟨D, 0, none⟩)] w fun e w' => e = .returned (.bool (!ds.getD k false)) ∧ w = w' := by
  have hMk := hM k (by omega)
  have he : ds.getD k false = ds[k] := by rw [List.getD_eq_getElem?_getD, List.getElem?_eq_getElem (by omega)]; rfl
  have He := Lib.hid he
  clear hM he
  generalize ds[k] = d at *
  clear hn
  go_enter Try.func121, Try.ntmps121
  go_wp2
  go_ret
  exact ⟨ret_bool (by rw [He.out]), rfl⟩

theorem right_facts {l : List Task} {w3 wr : World} {base O M D r i : Nat} {ds : List Bool} {cs : List Value} (hil : i < l.length) (_hrl : r < l.length) (hds : ds.length = l.length)
    (hM : wr.ownsRow base 4 1 (.slice (some ⟨M, 0, none⟩) l.length l.length) l.length (ds.map Value.bool)) (hgr : w3.grownBy wr (some M))
    (HI : dIter (rowsOf l) l.length (l.length - r - 1) (dFrom (rowsOf l) i (l.length - i) ds) = dIter (rowsOf l) l.length l.length (List.replicate l.length false))
    (hM3 : w3.ownsRow base 4 1 (.slice (some ⟨M, 0, none⟩) l.length l.length) l.length ((List.replicate l.length false).map Value.bool)) (hR3 : BefRows w3 base O l l.length cs)
    (hD3 : w3.heap[D]? = some (.cells #[.slice (some ⟨M, 0, none⟩) l.length l.length] 89)) (hne : M < D) :
    ∃ di, ds.getD i false = di ∧ ∃ ci, wr.cell? ⟨D, 0, none⟩ = some (.slice (some ⟨M, 0, none⟩) l.length l.length) ∧ wr.cell? ⟨M, i, none⟩ = some (.bool di) ∧ wr.frozen? ⟨M, i, none⟩ = false ∧
      wr.cell? ⟨O, i, none⟩ = some ci ∧ IntsAt wr wr.heap.size ci (pls l l[i].bef) ∧ (∀ j (hj : j < ds.length), wr.cell? ⟨M, j, none⟩ = some (.bool ds[j])) ∧
      Hid (∀ wq : World, wq.heap = wr.heap → (wq.setCell ⟨M, i, none⟩ (.bool (di || (pls l l[i].bef).all fun k => ds.getD k.toNat false))).ownsRow base 4 1 (.slice (some ⟨M, 0, none⟩) l.length l.length) l.length ((dStep (rowsOf l) ds i).map Value.bool)) ∧
      Hid (∀ x, w3.grownBy (wr.setCell ⟨M, i, none⟩ x) (some M)) ∧ Hid ((dStep (rowsOf l) ds i).length = l.length) ∧
      Hid (dIter (rowsOf l) l.length (l.length - r - 1) (dFrom (rowsOf l) (i + 1) (l.length - (i + 1)) (dStep (rowsOf l) ds i)) = dIter (rowsOf l) l.length l.length (List.replicate l.length false)) := by
  have hRr := hR3.kept hM3 (by decide) (by decide) hgr
  have hcs := own_len hRr.own
  have hgetI : (rowsOf l).getD i [] = pls l l[i].bef := by unfold rowsOf; rw [List.getD_eq_getElem?_getD, List.getElem?_map, List.getElem?_eq_getElem hil]; rfl
  have hgetD : ds.getD i false = ds[i]'(by omega) := by rw [List.getD_eq_getElem?_getD, List.getElem?_eq_getElem (by omega)]; rfl
  have hall : ∀ j (hj : j < ds.length), wr.cell? ⟨M, j, none⟩ = some (.bool ds[j]) := fun j hj => by
    have := hM.cellAt j (by omega)
    rw [List.getElem?_map, List.getElem?_eq_getElem hj] at this
    exact this
  refine ⟨_, rfl, cs[i]'(by omega), ?_, ?_, hM.frozenAt i, ?_, RowAt.of_own (hRr.rows i hil (by omega) hil), hall, fun wq hq => ?_, fun x => ?_, ?_, ?_⟩
  · rw [cell_of_row _ _ 0 _ _ _ (heap_kept hgr hD3 (by simp; omega))]; rfl
  · rw [hgetD]; exact hall i (by omega)
  · have := hRr.own.cellAt i (by omega)
    rw [List.getElem?_eq_getElem (by omega)] at this
    exact this
  · have hMq : wq.ownsRow base 4 1 (.slice (some ⟨M, 0, none⟩) l.length l.length) l.length (ds.map Value.bool) := by
      unfold World.ownsRow at hM ⊢
      rw [hq]
      exact hM
    unfold dStep
    rw [List.map_set, hgetI]
    exact (hMq.stored i _).1
  · exact grown_past hgr (hM.stored i x).2 (fun g hg => .inr hg)
  · unfold Hid; rw [length_dStep, hds]
  · unfold Hid
    rw [← HI, show l.length - i = (l.length - (i + 1)) + 1 by omega]
    rfl

theorem right_call {l : List Task} {wq : World} {M D i : Nat} {ci : Value} {ds : List Bool} (hil : i < l.length) (h8 : l.length ≤ 8) (hds : ds.length = l.length)
    (hk : ∀ t ∈ pls l l[i].bef, ∃ m, m < l.length ∧ t = (m : Int)) (hrow : IntsAt wq wq.heap.size ci (pls l l[i].bef)) (hD : wq.cell? ⟨D, 0, none⟩ = some (.slice (some ⟨M, 0, none⟩) l.length l.length))
    (hM : ∀ j (hj : j < ds.length), wq.cell? ⟨M, j, none⟩ = some (.bool ds[j])) :
    Calls Try.prog 82 #[ci, .func (.func 121) #[] #[.pointer (some ⟨D, 0, none⟩)]] wq fun e w' => e = .returned (.bool (!((pls l l[i].bef).all fun k => ds.getD k.toNat false))) ∧ w' = wq := by
  refine (containsFuncSInt ci (pls l l[i].bef) 121 #[.pointer (some ⟨D, 0, none⟩)] (fun k => !ds.getD k.toNat false) enters121 wq.heap.size wq hrow ?_).mono ?_
  · intro t ht
    obtain ⟨m, hm, rfl⟩ := hk t ht
    have := rightClosure m D M l.length ds wq hm h8 hds hD hM
    simpa using this
  · rintro e w' ⟨rfl, rfl⟩
    refine ⟨ret_bool ?_, rfl⟩
    rw [Bool.eq_iff_iff]
    simp
set_option maxRecDepth 100000 in
set_option maxHeartbeats 4000000 in
theorem schedRight (v : Value) (l : List Task) (w : World) (hl : TasksAt w w.heap.size v l) :
    Calls Try.prog 85 #[v] w fun e w' => e = .returned (.bool (rightW l)) ∧ Below w.heap.size w w' := by
  have HL := Lib.hid hl
  obtain ⟨A, c, rfl, hc1, hc2, hcell⟩ := hl.open_
  unfold maxLen at hc2
  clear hl
  by_cases h8 : l.length ≤ 8
  · go_enter Try.func85, Try.ntmps85
    go_wp2
    go_loopw [14] (fun x wr => ∃ j : Nat, j ≤ l.length ∧ x = .int .i64 j ∧ Hid (∀ i (hi : i < l.length), i < j → fieldB l[i] = true) ∧ Below w.heap.size w wr) (fun x _ => l.length - (intOf x).toNat)
    case atStart => exact ⟨0, Nat.zero_le _, rfl, fun i _ hi => absurd hi (Nat.not_lt_zero i), Below.refl _ _⟩
    case round =>
      obtain ⟨j, hj, rfl, Hf, hbel⟩ := hrel
      by_cases hlt : j < l.length
      · obtain ⟨b, off, rfl, hb, hcell⟩ := hcell j hlt
        obtain ⟨h0, h1, h2, h3, h4⟩ := (hcell j hlt).below hbel hb
        clear hcell
        have hok := HL.out.ok hlt
        have hN := fun W => decIsName l[j].name hok.name W
        have hbx : ∀ o, Below w.heap.size w (wr.alloc o) := fun o => hbel.alloc hbel.size o
        have HJ : fieldB l[j] = false → Hid (rightW l = false) := by
          intro h
          unfold Hid rightW
          have : l.all fieldB = false := by rw [List.all_eq_false]; exact ⟨l[j], List.getElem_mem hlt, by simp [h]⟩
          simp [this]
        have Hok := Lib.hid hok
        clear hok
        have HT : fieldB l[j] = true → Hid (∀ i (hi : i < l.length), i < j + 1 → fieldB l[i] = true) := by
          intro h i hi hij
          by_cases e : i = j
          · subst e; exact h
          · exact Hf.out i hi (by omega)
        unfold fieldB betweenB at HJ HT
        generalize l[j].name = nm at *
        generalize l[j].len = a1 at *
        generalize l[j].crew = a2 at *
        generalize l[j].pow = a3 at *
        generalize l[j].bef.length = a4 at *
        generalize l[j].ba = a5 at *
        generalize l[j].bc = a6 at *
        cases hn : nameB nm with
        | false =>
          have HR := HJ (by simp [hn])
          clear HJ HT
          have hN := fun W => by have := hN W; rw [hn] at this; exact this
          go_wp2_with (go_at_call 120; refine (hN _).mono ?_; rintro e w' ⟨rfl, rfl⟩)
          go_ret
          exact ⟨ret_bool HR.out.symm, hbx _⟩
        | true =>
          have hN := fun W => by have := hN W; rw [hn] at this; exact this
          by_cases c1 : 1 ≤ a1
          rotate_left
          · have HR := HJ (by simp [hn]; omega)
            clear HJ HT hn
            go_wp2_with (go_at_call 120; refine (hN _).mono ?_; rintro e w' ⟨rfl, rfl⟩)
            go_ret
            exact ⟨ret_bool HR.out.symm, hbx _⟩
          by_cases c2 : a1 ≤ 10000
          rotate_left
          · have HR := HJ (by simp [hn]; omega)
            clear HJ HT hn
            go_wp2_with (go_at_call 120; refine (hN _).mono ?_; rintro e w' ⟨rfl, rfl⟩)
            go_ret
            exact ⟨ret_bool HR.out.symm, hbx _⟩
          by_cases c3 : 0 ≤ a2
          rotate_left
          · have HR := HJ (by simp [hn]; omega)
            clear HJ HT hn
            go_wp2_with (go_at_call 120; refine (hN _).mono ?_; rintro e w' ⟨rfl, rfl⟩)
            go_ret
            exact ⟨ret_bool HR.out.symm, hbx _⟩
          by_cases c4 : a2 ≤ 100
          rotate_left
          · have HR := HJ (by simp [hn]; omega)
            clear HJ HT hn
            go_wp2_with (go_at_call 120; refine (hN _).mono ?_; rintro e w' ⟨rfl, rfl⟩)
            go_ret
            exact ⟨ret_bool HR.out.symm, hbx _⟩
          by_cases c5 : 0 ≤ a3
          rotate_left
          · have HR := HJ (by simp [hn]; omega)
            clear HJ HT hn
            go_wp2_with (go_at_call 120; refine (hN _).mono ?_; rintro e w' ⟨rfl, rfl⟩)
            go_ret
            exact ⟨ret_bool HR.out.symm, hbx _⟩
          by_cases c6 : a3 ≤ 100
          rotate_left
          · have HR := HJ (by simp [hn]; omega)
            clear HJ HT hn
            go_wp2_with (go_at_call 120; refine (hN _).mono ?_; rintro e w' ⟨rfl, rfl⟩)
            go_ret
            exact ⟨ret_bool HR.out.symm, hbx _⟩
          have HS := HT (by simp [hn]; omega)
          clear HJ HT hn
          go_wp2_with (go_at_call 120; refine (hN _).mono ?_; rintro e w' ⟨rfl, rfl⟩)
          go_roundw
          case rel => exact ⟨j + 1, by omega, by go_num, HS, hbx _⟩
          case measure => simp [intOf]; omega
      · have hje : j = l.length := by omega
        subst hje
        clear hcell
        have HA : Hid (l.all fieldB = true) := by
          unfold Hid
          rw [List.all_eq_true]
          intro t ht
          obtain ⟨i, hi, rfl⟩ := List.getElem_of_mem ht
          exact Hf.out i hi hi
        clear Hf
        have hB := schedBefore _ l wr ((HL.out.below hbel (Nat.le_refl _)).mono hbel.size) h8
        obtain ⟨i0, hi0, hz0, hz1, hz2⟩ := info_parts info_bool
        have hbytes : i0.bytes * l.length ≤ 281474976710656 := by rw [hz2]; omega
        go_wp2_with (first
          | (go_at_call 91; refine hB.mono ?_; rintro e w1 ⟨hb1, ⟨hno, rfl⟩ | ⟨hyes, O, cs, rfl, hR⟩⟩)
          | (at_make; refine wpList_make_full _ rfl _ _ 89 rfl w.heap.size 4 i0 (.bool false) 1 Try.underlying89 hi0 hz0 hz1 .i64 .i64 _ _ l.length rfl rfl rfl rfl hbytes (by unfold maxLen; omega) (hbel.trans (hb1.mono hbel.size)).size ?_; intro w2 hown2 hgrow2))
        · have HR : Hid (rightW l = false) := by unfold Hid rightW; simp only [hno, Bool.and_false, Bool.false_and]
          clear HA
          go_ret
          exact ⟨ret_bool HR.out.symm, hbel.trans (hb1.mono hbel.size)⟩
        · have HK : Hid (∀ i (hi : i < l.length), ∀ t ∈ pls l l[i].bef, ∃ m, m < l.length ∧ t = (m : Int)) := by
            intro i hi t ht
            unfold pls at ht
            rw [List.mem_map] at ht
            obtain ⟨s, hs, rfl⟩ := ht
            rw [Bool.and_eq_true] at hyes
            obtain ⟨m, hm, e, -⟩ := pl_mem (((befOK_iff l).1 hyes.2 l[i] (List.getElem_mem hi)).2 s hs).1
            exact ⟨m, hm, e⟩
          have HW : Hid (rightW l = doneAll l) := by unfold Hid rightW; simp only [hyes, h8, HA.out, decide_true, Bool.true_and, Bool.and_true]
          have hbel3 := ((hbel.trans (hb1.mono hbel.size)).grown hgrow2 (hbel.trans (hb1.mono hbel.size)).size (fun k hk => by cases hk)).alloc ((hbel.trans (hb1.mono hbel.size)).grown hgrow2 (hbel.trans (hb1.mono hbel.size)).size (fun k hk => by cases hk)).size (.cells #[.slice (some ⟨w1.heap.size, 0, none⟩) l.length l.length] 89)
          have hR3 := ((own_mono_rows hR hbel.size).past hgrow2).alloc (.cells #[.slice (some ⟨w1.heap.size, 0, none⟩) l.length l.length] 89)
          have hM3 := hown2.alloc (.cells #[.slice (some ⟨w1.heap.size, 0, none⟩) l.length l.length] 89)
          rw [made_false] at hM3
          have hD3 := heap_alloc_new w2 (.cells #[.slice (some ⟨w1.heap.size, 0, none⟩) l.length l.length] 89)
          have hne : w1.heap.size < w2.heap.size := by
            have := hown2.lt w1.heap.size rfl
            exact this.2
          clear hown2 hgrow2 hB hyes HA hi0 hz0 hz1 hz2 hbytes hb1 hbel hR
          generalize w2.alloc (.cells #[.slice (some ⟨w1.heap.size, 0, none⟩) l.length l.length] 89) = w3 at *
          generalize w1.heap.size = M at *
          generalize w2.heap.size = D at *
          go_loopw [65] (fun x wr => ∃ (r : Nat) (ds : List Bool), r ≤ l.length ∧ x = .int .i64 r ∧ ds.length = l.length ∧ wr.ownsRow w.heap.size 4 1 (.slice (some ⟨M, 0, none⟩) l.length l.length) l.length (ds.map Value.bool) ∧
              w3.grownBy wr (some M) ∧ Hid (dIter (rowsOf l) l.length (l.length - r) ds = dIter (rowsOf l) l.length l.length (List.replicate l.length false))) (fun x _ => l.length - (intOf x).toNat)
          case atStart => exact ⟨0, _, Nat.zero_le _, rfl, by simp, hM3, World.grownBy.refl _ _, rfl⟩
          case round =>
            obtain ⟨r, ds, hr, rfl, hds, hM, hgr, HI⟩ := hrel
            by_cases hrl : r < l.length
            · obtain ⟨wo, rfl⟩ : ∃ wo : World, wo = wr := ⟨_, rfl⟩
              have HDS := Lib.hid hds
              clear hds
              go_wp2
              go_loopw [69] (fun x wr => ∃ (i : Nat) (ds : List Bool), i ≤ l.length ∧ x = .int .i64 i ∧ Hid (ds.length = l.length) ∧ wr.ownsRow w.heap.size 4 1 (.slice (some ⟨M, 0, none⟩) l.length l.length) l.length (ds.map Value.bool) ∧
                  w3.grownBy wr (some M) ∧ Hid (dIter (rowsOf l) l.length (l.length - r - 1) (dFrom (rowsOf l) i (l.length - i) ds) = dIter (rowsOf l) l.length l.length (List.replicate l.length false))) (fun x _ => l.length - (intOf x).toNat)
              case atStart => exact ⟨0, ds, Nat.zero_le _, rfl, HDS.out, hM, hgr, by unfold Hid; rw [← HI.out, show l.length - r = (l.length - r - 1) + 1 by omega]; rfl⟩
              case round =>
                clear hM hgr HI HDS
                obtain ⟨i, ds, hi, rfl, HDS, hM, hgr, HI⟩ := hrel
                by_cases hil : i < l.length
                · obtain ⟨di, hdi, ci, hcD, hcM, hfM, hcO, hRow, hMall, HST, HGST, HLEN, HI2⟩ := right_facts hil hrl HDS.out hM hgr HI.out hM3 hR3 hD3 hne
                  clear hM hgr HI hM3 hR3 hD3
                  have HDI := Lib.hid hdi
                  have HMall := Lib.hid hMall
                  clear hdi hMall
                  go_wp2
                  cases di with
                  | true =>
                    refine wp_region_tail 16 (by kernel_rfl) (by kernel_rfl) ?_
                    simp only [List.take_succ_cons, List.take_zero, List.drop_succ_cons, List.drop_zero]
                    repeat (go_big_quiet_step (fail))
                    refine wpQuiet_nil ?_
                    go_wp2
                    go_roundw
                    case rel => exact ⟨i + 1, _, by omega, by go_num, HLEN, HST.out wr rfl, grown_drew (HGST.out _), HI2⟩
                    case measure => simp [intOf]; omega
                  | false =>
                    have hcall := right_call (ci := ci) (M := M) (D := D) (wq := wr.drew) hil h8 HDS.out (HK.out i hil) hRow hcD HMall.out
                    have HDS2 := HDS
                    clear HDS
                    generalize hav : ((pls l l[i].bef).all fun k => ds.getD k.toNat false) = av at *
                    have Hav := Lib.hid hav
                    clear hav
                    refine wp_region_tail 16 (by kernel_rfl) (by kernel_rfl) ?_
                    simp only [List.take_succ_cons, List.take_zero, List.drop_succ_cons, List.drop_zero]
                    repeat (first | go_big_quiet_skip | (go_big_quiet_want; go_big_quiet_op; first | go_big_quiet_on | (apply Exists.intro; refine ⟨?_, ?_⟩; (go_at_call 82; exact hcall); go_big_quiet_on)))
                    refine wpQuiet_nil ?_
                    go_wp2
                    go_roundw
                    case rel => exact ⟨i + 1, _, by omega, by go_num, HLEN, HST.out wr rfl, grown_drew (HGST.out _), HI2⟩
                    case measure => simp [intOf]; omega
                · have hie : i = l.length := by omega
                  subst hie
                  have HI3 : Hid (dIter (rowsOf l) l.length (l.length - (r + 1)) ds = dIter (rowsOf l) l.length l.length (List.replicate l.length false)) := by
                    unfold Hid
                    rw [← HI.out, Nat.sub_self]
                    rfl
                  clear HI
                  go_wp2
                  go_roundw
                  case rel => exact ⟨r + 1, _, by omega, by go_num, HDS.out, hM, hgr, HI3⟩
                  case measure => simp [intOf]; omega
            · have hre : r = l.length := by omega
              subst hre
              have HDA : Hid ((!decide (false ∈ ds)) = rightW l) := by
                unfold Hid
                rw [HW.out]
                unfold doneAll
                rw [← HI.out, Nat.sub_self]
                show _ = ds.all id
                rw [Bool.eq_iff_iff]
                simp only [Bool.not_eq_true', decide_eq_false_iff_not, List.all_eq_true, id]
                constructor
                · intro h x hx
                  cases x with
                  | true => rfl
                  | false => exact absurd hx h
                · intro h hx
                  exact absurd (h _ hx) (by decide)
              have hrow : BoolsAt wr wr.heap.size (.slice (some ⟨M, 0, none⟩) l.length l.length) ds := RowAt.of_own hM
              have hcon := containsBool _ ds false wr.heap.size wr hrow
              have hcD : wr.cell? ⟨D, 0, none⟩ = some (.slice (some ⟨M, 0, none⟩) l.length l.length) := by
                rw [cell_of_row _ _ 0 _ _ _ (heap_kept hgr hD3 (by simp; omega))]; rfl
              have hbel4 := hbel3.grown hgr hbel3.size (fun k hk => by cases hk; exact (hM.lt M rfl).1)
              clear hrow HI hM hgr hR3 hM3 hD3 hds HK
              generalize decide (false ∈ ds) = z at *
              go_wp2_with (go_at_call 122; refine hcon.mono ?_; rintro e w' ⟨rfl, rfl⟩)
              go_ret
              exact ⟨ret_bool HDA.out, hbel4⟩
  · have hF : Hid (rightW l = false) := by unfold Hid rightW; simp [h8]
    clear hcell
    go_enter Try.func85, Try.ntmps85
    go_wp2
    go_ret
    exact ⟨ret_bool hF.out.symm, Below.refl _ _⟩

end Go.Proofs.Ytcjejcbikgcnbaa
