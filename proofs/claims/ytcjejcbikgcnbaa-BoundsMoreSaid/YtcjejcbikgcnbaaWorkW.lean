/- bounds.Work: the walk. -/
import Derived.Test.YtcjejcbikgcnbaaWork
import Derived.Laws.EntriesVeiled
import Derived.IntWalk
namespace Go.Proofs.Ytcjejcbikgcnbaa
open Go.RowKit Go.Shelf

theorem field_mem {l : List Task} (hR : RightT l) {t : Task} (ht : t ∈ l) : fieldB t = true := by
  obtain ⟨i, hi, rfl⟩ := List.getElem_of_mem ht
  exact hR.field i hi

def WorkPost (l : List Task) (c p : Int) (w : World) (e : Ending) (w' : World) : Prop :=
  e = .returned (.tuple #[.int .i64 (if givenN l c p = 0 then workN l c p else 0), .int .i64 (givenN l c p)]) ∧ Below w.heap.size w w'

set_option maxRecDepth 100000 in
set_option maxHeartbeats 4000000 in
theorem boundsWork (v : Value) (l : List Task) (c p : Int) (w : World) (hl : TasksAt w w.heap.size v l) :
    Calls Try.prog 23 #[v, .int .i64 c, .int .i64 p] w (WorkPost l c p w) := by
  have hG := boundsGiven v l c p w hl
  have HL := Lib.hid hl
  clear hl
  by_cases hg : givenN l c p = 0
  · obtain ⟨hR, hc1, hp1, hc0, hp0, hfit⟩ := givenN_zero hg
    rw [hg] at hG
    have Hg := Lib.hid hg
    have h8 := hR.len
    have HRow : Hid (∀ k : Nat, k < 2 → ∃ lim K f, WorkRow l c p k lim K f ∧ (Value.int .i64 lim, Value.func (.func K) #[] #[]) = (if k = 0 then (Value.int .i64 c, Value.func (.func 73) #[] #[]) else (Value.int .i64 p, Value.func (.func 74) #[] #[])) ∧ workAt l c p (k + 1) = stepN (workAt l c p k) (needN f l) lim) := fun k hk => by
      rcases (show k = 0 ∨ k = 1 by omega) with rfl | rfl
      · exact ⟨c, _, Task.crew, ⟨enters73, workCrew, fun t ht => fieldB_crew (field_mem hR ht), fun t ht => (hfit t ht).1, hc1⟩, rfl, rfl⟩
      · exact ⟨p, _, Task.pow, ⟨enters74, workPow, fun t ht => fieldB_pow (field_mem hR ht), fun t ht => (hfit t ht).2, hp1⟩, rfl, rfl⟩
    have HRT := Lib.hid hR
    obtain ⟨A, cc, rfl, hA1, hA2, -⟩ := HL.out.open_
    unfold maxLen at hA2
    clear hg hR hfit
    go_enter Try.func23, Try.ntmps23
    go_wp2_with (go_at_call 72; refine hG.mono ?_; rintro e w1 ⟨rfl, hb1⟩)
    have hN := World.cell?_alloc_new w1 #[.int .i64 c, .func (.func 73) #[] #[], .int .i64 p, .func (.func 74) #[] #[]] 85
    have hgl : w1.heap.size < (w1.alloc (.cells #[.int .i64 c, .func (.func 73) #[] #[], .int .i64 p, .func (.func 74) #[] #[]] 85)).heap.size := by simp
    have hbw := hb1.alloc hb1.size (.cells #[.int .i64 c, .func (.func 73) #[] #[], .int .i64 p, .func (.func 74) #[] #[]] 85)
    have HCell : Hid (∀ (k lim : Int) (K : Nat), True) := fun _ _ _ => trivial
    generalize w1.alloc (.cells #[.int .i64 c, .func (.func 73) #[] #[], .int .i64 p, .func (.func 74) #[] #[]] 85) = w2 at *
    generalize w1.heap.size = g at *
    clear hb1 hG
    have HCells : Hid (∀ k, k < 2 → ∃ lim K f, WorkRow l c p k lim K f ∧ w2.cell? ⟨g, k * 2, none⟩ = some (.int .i64 lim) ∧ w2.cell? ⟨g, k * 2 + 1, none⟩ = some (.func (.func K) #[] #[]) ∧ workAt l c p (k + 1) = stepN (workAt l c p k) (needN f l) lim) := fun k hk => by
      obtain ⟨lim, K, f, h1, h2, h3⟩ := HRow.out k hk
      refine ⟨lim, K, f, h1, ?_, ?_, h3⟩
      · rcases (show k = 0 ∨ k = 1 by omega) with rfl | rfl
        · rw [if_pos rfl] at h2; injection h2 with h2 _; rw [hN, h2]; rfl
        · rw [if_neg (by decide)] at h2; injection h2 with h2 _; rw [hN, h2]; rfl
      · rcases (show k = 0 ∨ k = 1 by omega) with rfl | rfl
        · rw [if_pos rfl] at h2; injection h2 with _ h2; rw [hN, h2]; rfl
        · rw [if_neg (by decide)] at h2; injection h2 with _ h2; rw [hN, h2]; rfl
    clear hN HRow HCell
    go_loopw [28, 9] (fun s b wr => ∃ k : Nat, k ≤ 2 ∧ s = .int .i64 k ∧ b = .int .i64 (workAt l c p k) ∧ Below w.heap.size w wr ∧ Below w2.heap.size w2 wr) (fun s _ _ => 2 - (intOf s).toNat)
    case atStart => exact ⟨0, by omega, rfl, rfl, hbw, Below.refl _ _⟩
    case round =>
      obtain ⟨k, hk, rfl, rfl, hbel, hbel2⟩ := hrel
      by_cases hk2 : k < 2
      · obtain ⟨lim, K, f, hrow, hc1', hc2', hst⟩ := HCells.out k hk2
        have hl1 := (hbel2.cell (p := ⟨g, k * 2, none⟩) hgl).trans hc1'
        have hl2 := (hbel2.cell (p := ⟨g, k * 2 + 1, none⟩) hgl).trans hc2'
        have Hst := Lib.hid hst
        have hsz := hbel.size
        have hsz2 := hbel2.size
        have hk2i : (k : Int) < 2 := by omega
        clear hc1' hc2' hst
        go_wp2_with fail
        have hq0 := World.cell?_alloc_new wr #[.int .i64 lim, .func (.func K) #[] #[]] 85 0
        have hq1 := World.cell?_alloc_new wr #[.int .i64 lim, .func (.func K) #[] #[]] 85 1
        have hxl : wr.heap.size < (wr.alloc (.cells #[.int .i64 lim, .func (.func K) #[] #[]] 85)).heap.size := by simp
        have hbx := hbel.alloc hbel.size (.cells #[.int .i64 lim, .func (.func K) #[] #[]] 85)
        have hbx2 := hbel2.alloc hbel2.size (.cells #[.int .i64 lim, .func (.func K) #[] #[]] 85)
        generalize wr.alloc (.cells #[.int .i64 lim, .func (.func K) #[] #[]] 85) = wx at *
        generalize wr.heap.size = x at *
        clear hl1 hl2
        obtain ⟨eg, hcall, hfb, hff, hlb⟩ := hrow
        go_loopw [34, 12] (fun s b wi => ∃ j : Nat, j ≤ l.length ∧ s = .int .i64 j ∧ b = .int .i64 (needN f (l.take j)) ∧ Below wx.heap.size wx wi) (fun s _ _ => l.length - (intOf s).toNat)
        case atStart => exact ⟨0, by omega, rfl, rfl, Below.refl _ _⟩
        case round =>
          obtain ⟨j, hj, rfl, rfl, hbi⟩ := hrel
          by_cases hjl : j < l.length
          · have HT := HL.out.below ((hbx.trans (hbi.mono hbx.size))) (Nat.le_refl _)
            obtain ⟨b, off, rfl, hb, hcell⟩ := HT.cells hjl
            obtain ⟨t0, t1, t2, t3, t4⟩ := hcell j hjl
            clear hcell HT
            have hx1 := (hbi.cell (p := ⟨x, 1, none⟩) hxl).trans hq1
            simp only [List.getElem?_toArray, List.getElem?_cons_succ, List.getElem?_cons_zero] at hx1
            have hszi := hbi.size
            have hszx := hbx.size
            clear hb
            go_wp2_with fail
            have hy := World.cell?_alloc_new wr #[.string l[j].name, .int .i64 l[j].len, .int .i64 l[j].crew, .int .i64 l[j].pow, .slice l[j].ba l[j].bef.length l[j].bc] 41
            have y0 := hy 0
            have y1 := hy 1
            have y2 := hy 2
            have y3 := hy 3
            have y4 := hy 4
            simp only [List.getElem?_toArray, List.getElem?_cons_succ, List.getElem?_cons_zero] at y0 y1 y2 y3 y4
            have hxt := (World.cell?_alloc_past (.cells #[.string l[j].name, .int .i64 l[j].len, .int .i64 l[j].crew, .int .i64 l[j].pow, .slice l[j].ba l[j].bef.length l[j].bc] 41) x 1 (by omega : x < wr.heap.size)).trans hx1
            have hbt := (hbi.alloc hbi.size (.cells #[.string l[j].name, .int .i64 l[j].len, .int .i64 l[j].crew, .int .i64 l[j].pow, .slice l[j].ba l[j].bef.length l[j].bc] 41))
            have hbd := hbt.drew
            clear hy t0 t1 t2 t3 t4 hx1
            generalize wr.alloc (.cells #[.string l[j].name, .int .i64 l[j].len, .int .i64 l[j].crew, .int .i64 l[j].pow, .slice l[j].ba l[j].bef.length l[j].bc] 41) = wt at *
            generalize wr.heap.size = gt at *
            obtain ⟨hf1, hf2⟩ := hfb l[j] (List.getElem_mem hjl)
            obtain ⟨hl1, hl2⟩ := fieldB_len (HRT.out.field j hjl)
            obtain ⟨hm1, hm2⟩ := mul_bd hf1 hf2 hl1 hl2
            have hsb := needN_bd f (l.take j) fun t ht => by
              have h := hfb t (List.mem_of_mem_take ht)
              have h' := fieldB_len (field_mem HRT.out (List.mem_of_mem_take ht))
              exact mul_bd h.1 h.2 h'.1 h'.2
            have hjl8 : (l.take j).length ≤ 8 := by rw [List.length_take]; omega
            have hstep := Lib.hid (needN_take f l j hjl)
            have hw1 : Hid (IntKind.i64.wrap (f l[j] * l[j].len) = f l[j] * l[j].len) := IntWalk.i64_in _ (by omega)
            have hw2 : Hid (IntKind.i64.wrap (needN f (l.take j) + f l[j] * l[j].len) = needN f (l.take j) + f l[j] * l[j].len) := IntWalk.i64_in _ (by omega)
            have HC := Lib.hid (hcall l[j])
            clear hsb hm1 hm2 hcall
            unfold Task.val at HC
            go_region_held3 (fun w' => w'.cell? ⟨x, 1, none⟩ = some (.func (.func K) #[] #[]) ∧ w'.cell? ⟨gt, 0, none⟩ = some (.string l[j].name) ∧ w'.cell? ⟨gt, 1, none⟩ = some (.int .i64 l[j].len) ∧ w'.cell? ⟨gt, 2, none⟩ = some (.int .i64 l[j].crew) ∧ w'.cell? ⟨gt, 3, none⟩ = some (.int .i64 l[j].pow) ∧ w'.cell? ⟨gt, 4, none⟩ = some (.slice l[j].ba l[j].bef.length l[j].bc) ∧ Below wx.heap.size wx w')
              (first
                | (exact ⟨by assumption, by assumption, by assumption, by assumption, by assumption, by assumption, by assumption⟩)
                | (exact ⟨(hb2.cell (World.block_lt_of_cell? _ _ (by assumption))).trans (by assumption), (hb2.cell (World.block_lt_of_cell? _ _ (by assumption))).trans (by assumption), (hb2.cell (World.block_lt_of_cell? _ _ (by assumption))).trans (by assumption), (hb2.cell (World.block_lt_of_cell? _ _ (by assumption))).trans (by assumption), (hb2.cell (World.block_lt_of_cell? _ _ (by assumption))).trans (by assumption), (hb2.cell (World.block_lt_of_cell? _ _ (by assumption))).trans (by assumption), Below.trans (by assumption) (hb2.mono (Below.size (by assumption)))⟩)
                | (go_split_ands; exact ⟨by assumption, by assumption, by assumption, by assumption, by assumption, by assumption, by apply below_drew; assumption⟩)
                | go_keep)
              (first | (go_at_fn K; refine (HC.out _).mono ?_; rintro e w2 ⟨rfl, hb2⟩))
            rw [hw1.out, hw2.out, ← hstep.out]
            have hbel9 : Below wx.heap.size wx w2 := by
              first
                | assumption
                | (go_split_ands; assumption)
            clear hw1 hw2 hstep HC hb2
            go_wp2
            go_roundw
            case rel => exact ⟨j + 1, by omega, by go_num, rfl, hbel9⟩
            case measure => simp [intOf]; omega
          · have hje : j = l.length := by omega
            subst hje
            rw [List.take_length] at *
            have hsb := needN_bd f l fun t ht => by
              have h := hfb t ht
              have h' := fieldB_len (field_mem HRT.out ht)
              exact mul_bd h.1 h.2 h'.1 h'.2
            have hx0 := (hbi.cell (p := ⟨x, 0, none⟩) hxl).trans hq0
            simp only [List.getElem?_toArray, List.getElem?_cons_zero] at hx0
            have hB1 := hbx.trans (hbi.mono hbx.size)
            have hB2 := hbx2.trans (hbi.mono hbx2.size)
            by_cases hs0 : 0 < needN f l
            · have hlp : 1 ≤ lim := lim_pos (c := c) (p := p) (k := k) (K := K) ⟨eg, hcall, hfb, hff, hlb⟩ HRT.out hs0
              have hd1 : Hid (stepN (workAt l c p k) (needN f l) lim = if workAt l c p k < (needN f l + lim - 1) / lim then (needN f l + lim - 1) / lim else workAt l c p k) := by unfold Hid stepN; rw [if_pos hs0]
              have hlz : ¬ lim = 0 := by omega
              clear hcall hfb hff eg hq0 hq1 hbi hbel hbel2 hbx hbx2
              go_wp2_with fail
              go_roundw
              case rel => exact ⟨k + 1, by omega, by go_num, by rw [Hst.out, hd1.out], hB1, hB2⟩
              case measure => simp [intOf]; omega
            · have hsb0 : decide (0 < needN f l) = false := by simpa using hs0
              have hd1 : Hid (stepN (workAt l c p k) (needN f l) lim = workAt l c p k) := by unfold Hid stepN; rw [if_neg hs0]
              clear hcall hfb hff eg hq0 hq1 hbi hbel hbel2 hbx hbx2
              go_wp2_with fail
              go_roundw
              case rel => exact ⟨k + 1, by omega, by go_num, by rw [Hst.out, hd1.out], hB1, hB2⟩
              case measure => simp [intOf]; omega
      · have hk2e : k = 2 := by omega
        subst hk2e
        go_wp2_with fail
        refine bodyPost_ret (results_tmp2 rfl _ _ _) (by rfl) ?_
        refine ⟨?_, hbel⟩
        rw [Hg.out, if_pos rfl]
        rfl
  · have Hg := Lib.hid hg
    generalize hx : givenN l c p = x at *
    have hxb : (x == 0) = false := by simpa using Hg.out
    clear hg
    go_enter Try.func23, Try.ntmps23
    go_wp2_with (go_at_call 72; refine hG.mono ?_; rintro e w1 ⟨rfl, hb1⟩)
    refine bodyPost_ret (results_tmp2 rfl _ _ _) (by rfl) ?_
    refine ⟨?_, hb1⟩
    rw [hx, if_neg Hg.out]
    rfl

end Go.Proofs.Ytcjejcbikgcnbaa
