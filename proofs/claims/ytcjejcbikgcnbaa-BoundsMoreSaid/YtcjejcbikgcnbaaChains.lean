/- The reference's Chains: the greatest sums of chains that end with each task, by rounds. -/
import Derived.Test.YtcjejcbikgcnbaaBefore
namespace Go.Proofs.Ytcjejcbikgcnbaa
open Go.RowKit Go.Shelf Go.WideMaps Go.Maps

/-- One task's value by the values so far. -/
def cVal (len : Int) (x : List Int) (js : List Int) : Int := js.foldl (fun n j => max n (len + x.getD j.toNat 0)) len
def lens (l : List Task) : List Int := l.map Task.len
def cStep (ls : List Int) (rows : List (List Int)) (x : List Int) (i : Nat) : List Int := x.set i (cVal (ls.getD i 0) x (rows.getD i []))
def cFrom (ls : List Int) (rows : List (List Int)) : Nat → Nat → List Int → List Int
  | _, 0, x => x
  | i, m + 1, x => cFrom ls rows (i + 1) m (cStep ls rows x i)
def cIter (ls : List Int) (rows : List (List Int)) (n : Nat) : Nat → List Int → Option (List Int)
  | 0, _ => none
  | f + 1, x => if cFrom ls rows 0 n x = x then some x else cIter ls rows n f (cFrom ls rows 0 n x)
def chainsF (l : List Task) : Option (List Int) := cIter (lens l) (rowsOf l) l.length (l.length + 1) (List.replicate l.length 0)

theorem imax_eq (a b : Int) : (if a < b then b else a) = max a b := by omega
theorem getD_lens {l : List Task} {i : Nat} (h : i < l.length) : (lens l).getD i 0 = l[i].len := by unfold lens; rw [List.getD_eq_getElem?_getD, List.getElem?_map, List.getElem?_eq_getElem h]; rfl
theorem getD_rows {l : List Task} {i : Nat} (h : i < l.length) : (rowsOf l).getD i [] = pls l l[i].bef := by unfold rowsOf; rw [List.getD_eq_getElem?_getD, List.getElem?_map, List.getElem?_eq_getElem h]; rfl
theorem getD_get (x : List Int) (i : Nat) (h : i < x.length) : x.getD i 0 = x[i] := by rw [List.getD_eq_getElem?_getD, List.getElem?_eq_getElem h]; rfl
theorem cStep_eq {l : List Task} {i : Nat} (h : i < l.length) (x : List Int) : cStep (lens l) (rowsOf l) x i = x.set i (cVal l[i].len x (pls l l[i].bef)) := by unfold cStep; rw [getD_lens h, getD_rows h]
theorem set_same (x : List Int) (i : Nat) (h : i < x.length) : x.set i x[i] = x := by
  apply List.ext_getElem?
  intro j
  rw [List.getElem?_set]
  split
  · rename_i e; subst e; simp
  · rfl
theorem cVal_bound {len : Int} {x js : List Int} {b : Int} (hl0 : 0 ≤ len) (hl1 : len ≤ 10000) (hb : 0 ≤ b) (hx : ∀ j, 0 ≤ x.getD j 0 ∧ x.getD j 0 ≤ b) : 0 ≤ cVal len x js ∧ cVal len x js ≤ b + 10000 := by
  unfold cVal
  suffices h : ∀ (js : List Int) (n : Int), 0 ≤ n → n ≤ b + 10000 → 0 ≤ js.foldl (fun n j => max n (len + x.getD j.toNat 0)) n ∧ js.foldl (fun n j => max n (len + x.getD j.toNat 0)) n ≤ b + 10000 from h js len hl0 (by omega)
  intro js
  induction js with
  | nil => exact fun n h0 h1 => ⟨h0, h1⟩
  | cons j js ih =>
    intro n h0 h1
    have := hx j.toNat
    exact ih (max n (len + x.getD j.toNat 0)) (by omega) (by omega)
theorem cVal_snoc (len : Int) (x js : List Int) (j : Int) : cVal len x (js ++ [j]) = max (cVal len x js) (len + x.getD j.toNat 0) := by simp [cVal, List.foldl_append]
theorem getD_set_int (x : List Int) (i j : Nat) (v : Int) (hi : i < x.length) : (x.set i v).getD j 0 = if j = i then v else x.getD j 0 := by
  rw [List.getD_eq_getElem?_getD, List.getElem?_set, List.getD_eq_getElem?_getD]
  by_cases e : i = j
  · subst e; simp [hi]
  · rw [if_neg e, if_neg (fun h => e h.symm)]
theorem length_cStep (ls : List Int) (rows : List (List Int)) (x : List Int) (i : Nat) : (cStep ls rows x i).length = x.length := by simp [cStep]
theorem length_cFrom (ls : List Int) (rows : List (List Int)) : ∀ (m i : Nat) (x : List Int), (cFrom ls rows i m x).length = x.length
  | 0, _, _ => rfl
  | m + 1, i, x => by unfold cFrom; rw [length_cFrom ls rows m, length_cStep]
/-- What stands ahead of i stays. -/
theorem cFrom_old (ls : List Int) (rows : List (List Int)) : ∀ (m i : Nat) (x : List Int) (j : Nat), j < i → (cFrom ls rows i m x).getD j 0 = x.getD j 0
  | 0, _, _, _, _ => rfl
  | m + 1, i, x, j, hj => by
    unfold cFrom
    rw [cFrom_old ls rows m (i + 1) _ j (by omega)]
    unfold cStep
    rw [List.getD_eq_getElem?_getD, List.getElem?_set_ne (by omega), ← List.getD_eq_getElem?_getD]

/-- What Chains leaves. -/
def ChainsPost (l : List Task) (w : World) (e : Ending) (w' : World) : Prop :=
  Below w.heap.size w w' ∧ match chainsF l with
      | none => e = .returned (.tuple #[.slice none 0 0, .bool false])
      | some x => ∃ O, e = .returned (.tuple #[.slice (some ⟨O, 0, none⟩) l.length l.length, .bool true]) ∧ x.length = l.length ∧ w'.ownsRow w.heap.size 3 1 (.slice (some ⟨O, 0, none⟩) l.length l.length) l.length (x.map (Value.int .i64))
theorem ChainsPost.no {l : List Task} {w w' : World} {O : Nat} (hO : w.heap.size = O) (h : chainsF l = none) (hb : Below O w w') : ChainsPost l w (.returned (.tuple #[.slice none 0 0, .bool false])) w' := by
  subst hO
  refine ⟨hb, ?_⟩
  rw [h]
theorem ChainsPost.yes {l : List Task} {w w' : World} {O : Nat} {x : List Int} (hO : w.heap.size = O) (h : chainsF l = some x) (hb : Below O w w') (hx : x.length = l.length)
    (hM : w'.ownsRow O 3 1 (.slice (some ⟨O, 0, none⟩) l.length l.length) l.length (x.map (Value.int .i64))) : ChainsPost l w (.returned (.tuple #[.slice (some ⟨O, 0, none⟩) l.length l.length, .bool true])) w' := by
  subst hO
  refine ⟨hb, ?_⟩
  rw [h]
  exact ⟨_, rfl, hx, hM⟩

set_option maxRecDepth 100000 in
set_option maxHeartbeats 4000000 in
theorem refChains (v : Value) (l : List Task) (w : World) (hl : TasksAt w w.heap.size v l) (h8 : l.length ≤ 8) (hlen : ∀ t ∈ l, 1 ≤ t.len ∧ t.len ≤ 10000) (hbef : ∀ t ∈ l, ∀ s ∈ t.bef, s ∈ names l) :
    Calls Try.prog 69 #[v] w (ChainsPost l w) := by
  have HL := Lib.hid hl
  have Hlen := Lib.hid hlen
  have Hbef := Lib.hid hbef
  obtain ⟨A, c, rfl, hc1, hc2, hcell⟩ := hl.open_
  unfold maxLen at hc2
  clear hl hlen hbef
  obtain ⟨i0, hi0, hz0, hz1, hz2⟩ := info_parts info_int
  have hbytes : i0.bytes * l.length ≤ 281474976710656 := by rw [hz2]; omega
  go_enter Try.func69, Try.ntmps69
  go_wp2_with (at_make; refine wpList_make_full _ rfl _ _ 29 rfl w.heap.size 3 i0 (.int .i64 0) 1 Try.underlying29 hi0 hz0 hz1 .i64 .i64 _ _ l.length rfl rfl rfl rfl hbytes (by unfold maxLen; omega) (Nat.le_refl _) ?_; intro w2 hown2 hgrow2)
  have hb2 := (Below.refl w.heap.size w).grown hgrow2 (Nat.le_refl _) (fun k hk => by cases hk)
  rw [made_zero] at hown2
  clear hgrow2 hi0 hz0 hz1 hz2 hbytes
  generalize hO : w.heap.size = O at *
  have HO := Lib.hid hO
  clear hO
  go_loopw [5] (fun x wr => ∃ (r : Nat) (xs : List Int), r ≤ l.length + 1 ∧ x = .int .i64 r ∧ Hid (xs.length = l.length) ∧ wr.ownsRow O 3 1 (.slice (some ⟨O, 0, none⟩) l.length l.length) l.length (xs.map (Value.int .i64)) ∧
      Below O w wr ∧ Hid (∀ j, 0 ≤ xs.getD j 0 ∧ xs.getD j 0 ≤ 10000 * (8 * (r : Int))) ∧ Hid (cIter (lens l) (rowsOf l) l.length (l.length + 1 - r) xs = chainsF l)) (fun x _ => l.length + 1 - (intOf x).toNat)
  case atStart => exact ⟨0, List.replicate l.length 0, Nat.zero_le _, rfl, by unfold Hid; simp, hown2, hb2, fun j => by rw [List.getD_eq_getElem?_getD, List.getElem?_replicate]; split <;> simp, rfl⟩
  case round =>
    clear hown2 hb2
    obtain ⟨r, xs, hr, rfl, Hxs, hM, hbel, Hbd, HI⟩ := hrel
    by_cases hrl : r ≤ l.length
    · obtain ⟨wo, rfl⟩ : ∃ wo : World, wo = wr := ⟨_, rfl⟩
      go_wp2
      go_loopw [7, 6] (fun x ch wr => ∃ (i : Nat) (ys : List Int) (cg : Bool), i ≤ l.length ∧ x = .int .i64 i ∧ ch = .bool cg ∧ Hid (ys.length = l.length) ∧ wr.ownsRow O 3 1 (.slice (some ⟨O, 0, none⟩) l.length l.length) l.length (ys.map (Value.int .i64)) ∧
          Below O w wr ∧ Hid (∀ j, 0 ≤ ys.getD j 0 ∧ ys.getD j 0 ≤ 10000 * (8 * (r : Int) + i)) ∧ Hid (cFrom (lens l) (rowsOf l) i (l.length - i) ys = cFrom (lens l) (rowsOf l) 0 l.length xs) ∧
          Hid (if cg then ∃ j, j < i ∧ ys.getD j 0 ≠ xs.getD j 0 else ys = xs)) (fun x _ _ => l.length - (intOf x).toNat)
      case atStart => exact ⟨0, xs, false, Nat.zero_le _, rfl, rfl, Hxs, hM, hbel, by simpa using Hbd, rfl, rfl⟩
      case round =>
        clear hM hbel Hbd
        obtain ⟨i, ys, cg, hi, rfl, rfl, Hys, hM, hbel, Hbd, HF, HC⟩ := hrel
        by_cases hil : i < l.length
        · obtain ⟨b, off, rfl, hb, hcell⟩ := hcell i hil
          obtain ⟨h0, h1, h2, h3, h4⟩ := (hcell i hil).below hbel hb
          clear hcell
          obtain ⟨hm1, hm2, hbef⟩ := HL.out.open_bef hil
          have HT := Lib.hid (HL.out.below hbel (Nat.le_refl _))
          have hln := Hlen.out _ (List.getElem_mem hil)
          have HB := Lib.hid (Hbef.out _ (List.getElem_mem hil))
          unfold maxLen at hm2
          have Hli : Hid (True) := trivial
          go_wp2
          obtain ⟨wi, rfl⟩ : ∃ wi : World, wi = wr := ⟨_, rfl⟩
          go_loopw [9, 8] (fun x nn wr => ∃ (k : Nat) (n : Int), k ≤ l[i].bef.length ∧ x = .int .i64 k ∧ nn = .int .i64 n ∧ Hid (n = cVal l[i].len ys (pls l (l[i].bef.take k))) ∧ ∃ q, wr = wi.drewN q) (fun x _ _ => l[i].bef.length - (intOf x).toNat)
          case atStart => exact ⟨0, l[i].len, Nat.zero_le _, rfl, rfl, rfl, 0, rfl⟩
          case round =>
            obtain ⟨k, n, hk, rfl, rfl, HN, q, rfl⟩ := hrel
            by_cases hkl : k < l[i].bef.length
            · obtain ⟨b', off', hba, hb', hs⟩ := hbef k hkl
              have hsk := (hbel.cell (p := ⟨b', off' + k, none⟩) hb').trans (hs k hkl)
              clear hs hbef
              obtain ⟨p, hp, hpe, -⟩ := pl_mem (HB.out _ (List.getElem_mem hkl))
              have hF : ∀ q, Calls Try.prog 67 #[.slice (some ⟨b, off, none⟩) l.length c, .string l[i].bef[k]] (wi.drewN q) fun e w' => e = .returned (.int .i64 p) ∧ wi.drewN q = w' := fun q =>
                (refFind _ l _ _ _ (HT.out.drewN q)).mono fun e w' ⟨he, hw⟩ => ⟨by rw [he]; exact ret_int hpe, hw⟩
              have hcp := hM.cellAt p (by omega)
              rw [List.getElem?_map, List.getElem?_eq_getElem (by have := Hys.out; omega)] at hcp
              have hbd := cVal_bound (js := pls l (l[i].bef.take k)) (b := 10000 * (8 * (r : Int) + i)) (by omega) hln.2 (by omega) Hbd.out
              rw [← HN.out] at hbd
              have hyp := Hbd.out p
              have hget : ys.getD p 0 = ys[p]'(by have := Hys.out; omega) := by rw [List.getD_eq_getElem?_getD, List.getElem?_eq_getElem (by have := Hys.out; omega)]; rfl
              rw [hget] at hyp
              have HN2 : Hid (max n (l[i].len + ys[p]'(by have := Hys.out; omega)) = cVal l[i].len ys (pls l (l[i].bef.take (k + 1)))) := by
                unfold Hid
                rw [take_snoc _ _ hkl, pls_snoc, cVal_snoc, ← HN.out, hpe, Int.toNat_natCast, hget]
              clear hget
              obtain ⟨hbd1, hbd2⟩ := hbd
              obtain ⟨hyp1, hyp2⟩ := hyp
              go_wp2
              go_quiet ((go_at_call 67; exact quiet_add (hF _)))
              go_wp2
              go_roundw
              case rel => exact ⟨k + 1, _, by omega, by go_num, rfl, by rw [imax_eq]; exact HN2, _, rfl⟩
              case measure => simp [intOf]; omega
            · have hke : k = l[i].bef.length := by omega
              subst hke
              have HNf : Hid (n = cVal l[i].len ys (pls l l[i].bef)) := by have := HN.out; rw [List.take_length] at this; exact this
              have hbd := cVal_bound (js := pls l l[i].bef) (b := 10000 * (8 * (r : Int) + i)) (by omega) hln.2 (by omega) Hbd.out
              rw [← HNf.out] at hbd
              obtain ⟨hbd1, hbd2⟩ := hbd
              have hci := hM.cellAt i (by omega)
              rw [List.getElem?_map, List.getElem?_eq_getElem (by have := Hys.out; omega)] at hci
              have hfi := hM.frozenAt i
              obtain ⟨hM2, hg2⟩ := hM.stored i (.int .i64 n)
              have HS : Hid (ys.set i n = cStep (lens l) (rowsOf l) ys i) := by unfold Hid; rw [cStep_eq hil, HNf.out]
              have HB2 : Hid (∀ j, 0 ≤ (ys.set i n).getD j 0 ∧ (ys.set i n).getD j 0 ≤ 10000 * (8 * (r : Int) + ((i + 1 : Nat) : Int))) := by
                intro j
                rw [getD_set_int _ _ _ _ (by have := Hys.out; omega)]
                have := Hbd.out j
                split
                · omega
                · omega
              have HF2 : Hid (cFrom (lens l) (rowsOf l) (i + 1) (l.length - (i + 1)) (ys.set i n) = cFrom (lens l) (rowsOf l) 0 l.length xs) := by
                unfold Hid
                rw [← HF.out, HS.out, show l.length - i = (l.length - (i + 1)) + 1 by omega]
                rfl
              have hbel2 := hbel.setCell (p := ⟨O, i, none⟩) (Nat.le_refl _) (.int .i64 n)
              have hM3 : (wi.setCell ⟨O, i, none⟩ (.int .i64 n)).ownsRow O 3 1 (.slice (some ⟨O, 0, none⟩) l.length l.length) l.length ((ys.set i n).map (Value.int .i64)) := by rw [List.map_set]; exact hM2
              have HL2 : Hid ((ys.set i n).length = l.length) := by unfold Hid; rw [List.length_set]; exact Hys.out
              have Hyi := Lib.hid (getD_get ys i (by have := Hys.out; omega))
              clear HN HF HS hg2 hM hM2
              cases cg with
              | true =>
                have HC2 : Hid (∃ j, j < i + 1 ∧ (ys.set i n).getD j 0 ≠ xs.getD j 0) := by
                  obtain ⟨j, hj, hne⟩ := HC.out
                  exact ⟨j, by omega, by rw [getD_set_int _ _ _ _ (by have := Hys.out; omega), if_neg (by omega)]; exact hne⟩
                clear HC
                go_wp2
                go_roundw
                case rel => exact ⟨i + 1, ys.set i n, true, by omega, by go_num, rfl, HL2, hM3, below_drewN hbel2 q, HB2, HF2, HC2⟩
                case measure => simp [intOf]; omega
              | false =>
                have hxy : ys = xs := HC.out
                by_cases hne : n = ys[i]'(by have := Hys.out; omega)
                · have hb : (n != ys[i]'(by have := Hys.out; omega)) = false := by simpa using hne
                  have HC2 : Hid (ys.set i n = xs) := by unfold Hid; rw [hne, set_same, hxy]
                  have Hne := Lib.hid hne
                  clear HC hxy hne
                  go_wp2
                  go_roundw
                  case rel => exact ⟨i + 1, ys.set i n, false, by omega, by go_num, rfl, HL2, hM3, below_drewN hbel2 q, HB2, HF2, HC2⟩
                  case measure => simp [intOf]; omega
                · have hb : (n != ys[i]'(by have := Hys.out; omega)) = true := by simpa using hne
                  have HC2 : Hid (∃ j, j < i + 1 ∧ (ys.set i n).getD j 0 ≠ xs.getD j 0) := ⟨i, by omega, by rw [getD_set_int _ _ _ _ (by have := Hys.out; omega), if_pos rfl, ← hxy, Hyi.out]; exact hne⟩
                  clear HC hxy
                  go_wp2
                  go_roundw
                  case rel => exact ⟨i + 1, ys.set i n, true, by omega, by go_num, rfl, HL2, hM3, below_drewN hbel2 q, HB2, HF2, HC2⟩
                  case measure => simp [intOf]; omega
        · have hie : i = l.length := by omega
          subst hie
          clear hcell
          have HY : Hid (ys = cFrom (lens l) (rowsOf l) 0 l.length xs) := by have := HF.out; rw [Nat.sub_self] at this; exact this
          clear HF
          cases cg with
          | true =>
            have HI2 : Hid (cIter (lens l) (rowsOf l) l.length (l.length + 1 - (r + 1)) ys = chainsF l) := by
              unfold Hid
              rw [← HI.out, show l.length + 1 - r = (l.length + 1 - (r + 1)) + 1 by omega]
              unfold cIter
              rw [← HY.out, if_neg]
              · cases l.length + 1 - (r + 1) <;> rfl
              · obtain ⟨j, _, hne⟩ := HC.out
                exact fun e => hne (by rw [e])
            have HB2 : Hid (∀ j, 0 ≤ ys.getD j 0 ∧ ys.getD j 0 ≤ 10000 * (8 * ((r + 1 : Nat) : Int))) := fun j => by have := Hbd.out j; omega
            clear HI HC Hbd
            go_wp2
            go_roundw
            case rel => exact ⟨r + 1, ys, by omega, by go_num, Hys, hM, hbel, HB2, HI2⟩
            case measure => simp [intOf]; omega
          | false =>
            have hxy : ys = xs := HC.out
            have HI2 : Hid (chainsF l = some ys) := by
              unfold Hid
              rw [← HI.out, show l.length + 1 - r = (l.length - r) + 1 by omega]
              unfold cIter
              rw [← HY.out, if_pos hxy, hxy]
            clear HI HC Hbd hxy
            go_wp2
            refine bodyPost_ret (results_tmp2 rfl _ _ _) (by rfl) ?_
            exact ChainsPost.yes HO.out HI2.out hbel Hys.out hM
    · have hre : r = l.length + 1 := by omega
      subst hre
      have HI2 : Hid (chainsF l = none) := by
        unfold Hid
        rw [← HI.out, Nat.sub_self]
        rfl
      clear HI hM Hbd hcell
      go_wp2
      refine bodyPost_ret (results_tmp2 rfl _ _ _) (by rfl) ?_
      exact ChainsPost.no HO.out HI2.out hbel

end Go.Proofs.Ytcjejcbikgcnbaa
