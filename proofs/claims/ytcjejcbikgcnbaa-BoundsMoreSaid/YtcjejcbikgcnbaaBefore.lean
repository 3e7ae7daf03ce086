/- schedule.before: for each task the indices of those in its Before. -/
import Derived.Test.YtcjejcbikgcnbaaIndex
namespace Go.Proofs.Ytcjejcbikgcnbaa
open Go.RowKit Go.Shelf Go.WideMaps Go.Maps

/-- A task's Before names other tasks, each once. -/
def Good (l : List Task) (t : Task) (L : List ByteArray) : Prop := L.Nodup ∧ ∀ s ∈ L, s ∈ names l ∧ s ≠ t.name
noncomputable def befOK (l : List Task) : Bool := @decide (∀ t ∈ l, Good l t t.bef) (Classical.propDecidable _)
theorem befOK_iff (l : List Task) : befOK l = true ↔ ∀ t ∈ l, Good l t t.bef := by unfold befOK; simp
theorem Good.nil (l : List Task) (t : Task) : Good l t [] := ⟨List.nodup_nil, by simp⟩
theorem Good.snoc {l : List Task} {t : Task} {L : List ByteArray} {s : ByteArray} (h : Good l t L) (h1 : s ∈ names l) (h2 : s ≠ t.name) (h3 : s ∉ L) : Good l t (L ++ [s]) := by
  refine ⟨nodup_snoc.2 ⟨h.1, h3⟩, fun x hx => ?_⟩
  rw [List.mem_append, List.mem_singleton] at hx
  rcases hx with hx | rfl
  · exact h.2 x hx
  · exact ⟨h1, h2⟩

/-- The indices of names. -/
def pls (l : List Task) (L : List ByteArray) : List Int := L.map (pl l)
def rowsOf (l : List Task) : List (List Int) := l.map fun t => pls l t.bef
theorem pls_snoc (l : List Task) (L : List ByteArray) (s : ByteArray) : pls l (L ++ [s]) = pls l L ++ [pl l s] := by simp [pls]
theorem mem_pls {l : List Task} {t : Task} {L : List ByteArray} {s : ByteArray} (h : Good l t L) (hs : s ∈ names l) : decide (pl l s ∈ pls l L) = decide (s ∈ L) := by
  rw [Bool.eq_iff_iff, decide_eq_true_iff, decide_eq_true_iff]
  unfold pls
  rw [List.mem_map]
  constructor
  · rintro ⟨s', h', e⟩
    rw [← pl_inj (h.2 s' h').1 hs e]
    exact h'
  · exact fun h' => ⟨s, h', rfl⟩

theorem info_slice : (Try.prog.info? 29).map (fun i => (i.zero, i.size, i.bytes)) = some (some (.slice none 0 0), 1, 24) := by kernel_rfl
theorem info_int : (Try.prog.info? 3).map (fun i => (i.zero, i.size, i.bytes)) = some (some (.int .i64 0), 1, 8) := by kernel_rfl

theorem Good.le {l : List Task} {t : Task} {L : List ByteArray} (h : Good l t L) : L.length ≤ l.length := by
  have := List.Nodup.length_le_of_subset h.1 (fun s hs => (h.2 s hs).1)
  simpa [names] using this

/-- The rows that schedule.before has made: block O holds their slices. -/
structure BefRows (w : World) (base O : Nat) (l : List Task) (i : Nat) (cs : List Value) : Prop where
  own : w.ownsRow base 29 1 (.slice (some ⟨O, 0, none⟩) l.length l.length) l.length cs
  rows : ∀ j (hj : j < l.length) (hc : j < cs.length), j < i → w.ownsRow base 3 1 cs[j] l[j].bef.length ((pls l l[j].bef).map (Value.int .i64))
  rest : ∀ j (hc : j < cs.length), i ≤ j → cs[j] = .slice none 0 0

theorem made_zero (n : Nat) : (madeCells (Value.cells (.int .i64 0)) (n * 1)).toList = (List.replicate n 0).map (Value.int .i64) := by
  apply List.ext_getElem
  · simp [size_madeCells]
  · intro i h1 h2
    simp [madeCells, Value.cells, Nat.mod_one]
theorem made_nil (n : Nat) : (madeCells (Value.cells (.slice none 0 0)) (n * 1)).toList = List.replicate n (.slice none 0 0) := by
  apply List.ext_getElem
  · simp [size_madeCells]
  · intro i h1 h2
    simp [madeCells, Value.cells, Nat.mod_one]

theorem bef_bad {l : List Task} {i k : Nat} (hi : i < l.length) (_hk : k < l[i].bef.length) (h : ¬ Good l l[i] (l[i].bef.take (k + 1))) : befOK l = false := by
  cases hb : befOK l with
  | false => rfl
  | true =>
    exfalso
    obtain ⟨h1, h2⟩ := (befOK_iff l).1 hb l[i] (List.getElem_mem hi)
    exact h ⟨h1.sublist (List.take_sublist _ _), fun s hs => h2 s (List.mem_of_mem_take hs)⟩
theorem good_next {l : List Task} {i k : Nat} (hi : i < l.length) (hk : k < l[i].bef.length) (h : Good l l[i] (l[i].bef.take (k + 1))) :
    l[i].bef[k] ∈ names l ∧ l[i].bef[k] ≠ l[i].name ∧ l[i].bef[k] ∉ l[i].bef.take k := by
  rw [take_snoc _ _ hk] at h
  obtain ⟨h1, h2⟩ := h
  have := h2 l[i].bef[k] (List.mem_append_right _ (List.mem_singleton.2 rfl))
  exact ⟨this.1, this.2, (nodup_snoc.1 h1).2⟩

/-- What schedule.before leaves. -/
def BefPost (l : List Task) (w : World) (e : Ending) (w' : World) : Prop :=
  Below w.heap.size w w' ∧
      ((distinct l && befOK l) = false ∧ e = .returned (.tuple #[.slice none 0 0, .bool false]) ∨
       (distinct l && befOK l) = true ∧ ∃ O cs, e = .returned (.tuple #[.slice (some ⟨O, 0, none⟩) l.length l.length, .bool true]) ∧ BefRows w' w.heap.size O l l.length cs)
theorem BefPost.no {l : List Task} {w w' : World} (hb : Below w.heap.size w w') (h : befOK l = false) : BefPost l w (.returned (.tuple #[.slice none 0 0, .bool false])) w' := ⟨hb, .inl ⟨by simp [h], rfl⟩⟩

set_option maxRecDepth 100000 in
set_option maxHeartbeats 4000000 in
theorem schedBefore (v : Value) (l : List Task) (w : World) (hl : TasksAt w w.heap.size v l) (h8 : l.length ≤ 8) :
    Calls Try.prog 91 #[v] w (BefPost l w) := by
  have hI := schedIndex v l w hl
  obtain ⟨A, c, rfl, hc1, hc2, hcell⟩ := hl.open_
  cases hd : distinct l with
  | false =>
    rw [hd] at hI
    clear hcell hl
    go_enter Try.func91, Try.ntmps91
    go_wp2_with (go_at_call 124; refine hI.mono ?_; rintro e w1 ⟨bm, rfl, hbm, hmap, hb1⟩)
    go_ret2
    exact ⟨hb1, .inl ⟨by rw [hd]; rfl, rfl⟩⟩
  | true =>
    rw [hd] at hI
    have HL := Lib.hid hl
    clear hl
    have Hd := Lib.hid hd
    clear hd
    obtain ⟨i0, hi0, hz0, hz1, hz2⟩ := info_parts info_slice
    have hbytes : i0.bytes * l.length ≤ 281474976710656 := by rw [hz2]; omega
    go_enter Try.func91, Try.ntmps91
    go_wp2_with (first
      | (go_at_call 124; refine hI.mono ?_; rintro e w1 ⟨bm, rfl, hbm, hmap, hb1⟩)
      | (at_make; refine wpList_make_full _ rfl _ _ 96 rfl w.heap.size 29 i0 (.slice none 0 0) 1 Try.underlying96 hi0 hz0 hz1 .i64 .i64 _ _ l.length rfl rfl rfl rfl hbytes (by unfold maxLen; omega) hb1.size ?_; intro w2 hown2 hgrow2))
    have hrows : BefRows w2 w.heap.size w1.heap.size l 0 (List.replicate l.length (.slice none 0 0)) :=
      ⟨by rw [made_nil] at hown2; exact hown2, fun j _ _ hj => absurd hj (Nat.not_lt_zero j), fun j hc _ => by simp⟩
    have hmap2 := hmap.kept hgrow2 (by simp)
    have hb2 := hb1.grown hgrow2 hb1.size (fun k hk => by cases hk)
    have hO : w.heap.size ≤ w1.heap.size := hb1.size
    have hbmO : bm < w1.heap.size := hmap.lt
    clear hown2 hgrow2 hmap hI hb1 hbytes hz0 hz1 hz2 hi0
    generalize w1.heap.size = O at *
    go_loopw [25] (fun x wr => ∃ (i : Nat) (cs : List Value), i ≤ l.length ∧ x = .int .i64 i ∧ BefRows wr w.heap.size O l i cs ∧ NamesMap wr bm l l.length ∧ Hid (∀ j (hj : j < l.length), j < i → Good l l[j] l[j].bef) ∧ Below w.heap.size w wr) (fun x _ => l.length - (intOf x).toNat)
    case atStart => exact ⟨0, _, Nat.zero_le _, rfl, hrows, hmap2, fun j _ hj => absurd hj (Nat.not_lt_zero j), hb2⟩
    case round =>
      clear hrows hmap2 hb2
      obtain ⟨i, cs, hi, rfl, hR, hM, Hg, hbel⟩ := hrel
      by_cases hlt : i < l.length
      · obtain ⟨b, off, rfl, hb, hcell⟩ := hcell i hlt
        obtain ⟨h0, h1, h2, h3, h4⟩ := (hcell i hlt).below hbel hb
        clear hcell
        obtain ⟨hm1, hm2, hbef⟩ := HL.out.open_bef hlt
        have hok := HL.out.ok hlt
        have Hok := Lib.hid hok.bef
        clear hok
        have HLi := Lib.hid (rfl : l[i] = l[i])
        unfold maxLen at hm2
        go_wp2
        have hcs := own_len hR.own
        have hci : cs[i]? = some (.slice none 0 0) := by rw [List.getElem?_eq_getElem (by omega)]; exact congrArg some (hR.rest i (by omega) (Nat.le_refl _))
        have hset : cs.set i (.slice none 0 0) = cs := by
          apply List.ext_getElem?
          intro j
          rw [List.getElem?_set]
          split
          · rename_i e; subst e; rw [if_pos (by omega), hci]
          · rfl
        have Hcs := Lib.hid hcs
        have Hset := Lib.hid hset
        clear hcs hci hset
        obtain ⟨wo, rfl⟩ : ∃ wo : World, wo = wr := ⟨_, rfl⟩
        go_loopw [33] (fun x wi => ∃ (k : Nat) (v : Value), k ≤ l[i].bef.length ∧ x = .int .i64 k ∧ wi.ownsRow w.heap.size 29 1 (.slice (some ⟨O, 0, none⟩) l.length l.length) l.length (cs.set i v) ∧
            wi.ownsRow wo.heap.size 3 1 v k ((pls l (l[i].bef.take k)).map (Value.int .i64)) ∧ Hid (Good l l[i] (l[i].bef.take k)) ∧ wo.grownBy wi (some O)) (fun x _ => l[i].bef.length - (intOf x).toNat)
        case atStart => exact ⟨0, .slice none 0 0, Nat.zero_le _, rfl, by rw [Hset.out]; exact hR.own.alloc _, by simpa [pls] using World.ownsRow_nil _ _ _ _, by rw [List.take_zero]; exact Good.nil l _, World.grownBy_alloc _ _ _⟩
        case round =>
          obtain ⟨k, v, hk, rfl, hOw, hv, Hgk, hgr⟩ := hrel
          have hbi : Below w.heap.size w wr := hbel.grown hgr hbel.size (fun k hk => by cases hk; exact hO)
          have hMi := hM.kept hgr (by simp; omega)
          clear h0 h1 h2 h3 h4
          by_cases hlk : k < l[i].bef.length
          · obtain ⟨b', off', hba, hb', hs⟩ := hbef k hlk
            have hsk := (hbi.cell (p := ⟨b', off' + k, none⟩) hb').trans (hs k hlk)
            clear hs hbef
            have hlook := hMi.look Hd.out (Hok.out l[i].bef[k] (List.getElem_mem hlk))
            have hcO := hOw.cellAt i (by omega)
            rw [List.getElem?_set_self (by have := Hcs.out; omega)] at hcO
            have hfO := hOw.frozenAt i
            rw [hba] at *
            generalize hs : l[i].bef[k] = s at *
            have Hs := Lib.hid hs
            clear hs
            by_cases hm : s ∈ names l
            · rw [if_pos hm, decide_eq_true hm] at hlook
              obtain ⟨p, hp, e, hpn⟩ := pl_mem hm
              have He := Lib.hid e
              rw [e] at hlook
              clear e
              by_cases hself : s = l[i].name
              · have hpi : p = i := distinct_inj Hd.out hp hlt (hpn.trans hself)
                have HSelf : Hid (l[i].bef[k] = l[i].name) := Hs.out.trans hself
                subst hpi
                clear hself hpn
                go_wp2
                refine bodyPost_ret (results_tmp2 rfl _ _ _) (by rfl) ?_
                exact BefPost.no hbi (bef_bad hlt hlk (fun h => (good_next hlt hlk h).2.1 HSelf.out))
              · have hpi : ((p : Int) == (i : Int)) = false := beq_eq_false_iff_ne.2 (fun e => hself (hpn.symm.trans (by congr 2; omega)))
                have hrow : IntsAt wr wr.heap.size v (pls l (l[i].bef.take k)) := RowAt.of_own hv
                have hcon := containsInt v (pls l (l[i].bef.take k)) p wr.heap.size wr hrow
                rw [show decide ((p : Int) ∈ pls l (l[i].bef.take k)) = decide (s ∈ l[i].bef.take k) by rw [← He.out]; exact mem_pls Hgk.out hm] at hcon
                clear hrow
                by_cases hin : s ∈ l[i].bef.take k
                · rw [decide_eq_true hin] at hcon
                  have Hin := Lib.hid hin
                  clear hin
                  go_wp2_with (go_at_call 94; refine hcon.mono ?_; rintro e w' ⟨rfl, rfl⟩)
                  refine bodyPost_ret (results_tmp2 rfl _ _ _) (by rfl) ?_
                  exact BefPost.no hbi (bef_bad hlt hlk (fun h => (good_next hlt hlk h).2.2 (Hs.out.symm ▸ Hin.out)))
                · rw [decide_eq_false hin] at hcon
                  have HG : Hid (Good l l[i] (l[i].bef.take (k + 1))) := by unfold Hid; rw [take_snoc _ _ hlk, Hs.out]; exact Hgk.out.snoc hm hself hin
                  have hk8 : k + 1 ≤ l.length := by have := HG.out.le; rw [List.length_take] at this; omega
                  clear hin
                  go_wp2_with (first
                    | (go_at_call 94; refine hcon.mono ?_; rintro e w' ⟨rfl, rfl⟩)
                    | (at_builtin; refine wpList_push _ rfl (.tmp 63) (.tmp 65) 29 rfl wo.heap.size 3 info_int Try.underlying29 rfl v k _ rfl hv (.int .i64 p) rfl rfl (by unfold maxLen; omega) (by omega) hgr.size ?_; intro g cap w3 hown3 hgrow3 hbg hgg; have hO3 := hOw.kept hgrow3 (own_ne hOw hv (by decide)); have hcO3 := hO3.cellAt i (by omega); rw [List.getElem?_set_self (by have := Hcs.out; omega)] at hcO3; have hfO3 := hO3.frozenAt i))
                  obtain ⟨hO4, hg4⟩ := hO3.stored i (.slice (some ⟨g, 0, none⟩) (k + 1) cap)
                  rw [List.set_set] at hO4
                  have hv4 := hown3.kept hg4 (own_ne hown3 hO3 (by decide))
                  have HG4 := grown_past (grown_past hgr hgrow3 (fun g hg => .inl (hv.lt g hg).1)) hg4 (fun g hg => .inr hg)
                  go_roundw
                  case rel =>
                    refine ⟨k + 1, _, by omega, by go_num, hO4, ?_, HG.out, HG4⟩
                    rw [take_snoc _ _ hlk, Hs.out, pls_snoc, He.out, List.map_append]
                    exact hv4
                  case measure => simp [intOf]; omega
            · rw [if_neg hm, decide_eq_false hm] at hlook
              go_wp2
              refine bodyPost_ret (results_tmp2 rfl _ _ _) (by rfl) ?_
              exact BefPost.no hbi (bef_bad hlt hlk (fun h => hm (Hs.out ▸ (good_next hlt hlk h).1)))
          · have hke : k = l[i].bef.length := by omega
            subst hke
            clear hbef
            rw [List.take_length] at hv Hgk
            have HR : Hid (BefRows wr w.heap.size O l (i + 1) (cs.set i v)) := by
              refine ⟨hOw, fun j hj hc hji => ?_, fun j hc hij => ?_⟩
              · by_cases e : j = i
                · subst e
                  rw [List.getElem_set_self]
                  exact own_mono hv hbel.size
                · rw [List.getElem_set_ne (fun e' => e e'.symm)]
                  have hrow := hR.rows j hj (by rw [List.length_set] at hc; exact hc) (by omega)
                  exact hrow.kept hgr (own_ne hrow hR.own (by decide))
              · rw [List.getElem_set_ne (by omega)]
                exact hR.rest j (by rw [List.length_set] at hc; exact hc) (by omega)
            have HG2 : Hid (∀ j (hj : j < l.length), j < i + 1 → Good l l[j] l[j].bef) := by
              intro j hj hji
              by_cases e : j = i
              · subst e; exact Hgk.out
              · exact Hg.out j hj (by omega)
            clear hOw hv Hgk hgr hR
            go_wp2
            go_roundw
            case rel => exact ⟨i + 1, _, by omega, by go_num, HR.out, hMi, HG2, hbi⟩
            case measure => simp [intOf]; omega
      · have hie : i = l.length := by omega
        subst hie
        clear hcell
        go_wp2
        refine bodyPost_ret (results_tmp2 rfl _ _ _) (by rfl) ?_
        refine ⟨hbel, .inr ⟨?_, O, cs, rfl, hR⟩⟩
        rw [Hd.out, Bool.true_and, befOK_iff]
        intro t ht
        obtain ⟨j, hj, rfl⟩ := List.getElem_of_mem ht
        exact Hg.out j hj hj

end Go.Proofs.Ytcjejcbikgcnbaa
