/- The reference's Right and Valid. -/
import Derived.Test.YtcjejcbikgcnbaaChains
import Derived.Test.YtcjejcbikgcnbaaFields
namespace Go.Proofs.Ytcjejcbikgcnbaa
open Go.RowKit Go.Shelf Go.WideMaps Go.Maps

/-- One task is right. -/
def OneR (l : List Task) (i : Nat) (t : Task) : Prop := fieldB t = true ∧ pl l t.name = (i : Int) ∧ t.bef.length ≤ l.length ∧ Good l t t.bef
/-- What the reference's Right computes. -/
noncomputable def rightR (l : List Task) : Bool := @decide (l.length ≤ 8 ∧ ∀ i (hi : i < l.length), OneR l i l[i]) (Classical.propDecidable _) && (chainsF l).isSome
theorem rightR_no {l : List Task} {i : Nat} (hi : i < l.length) (h : ¬ OneR l i l[i]) : rightR l = false := by
  unfold rightR
  rw [Bool.and_eq_false_iff]
  left
  simp only [decide_eq_false_iff_not]
  exact fun ⟨_, h'⟩ => h (h' i hi)
theorem rightR_no8 {l : List Task} (h : ¬ l.length ≤ 8) : rightR l = false := by
  unfold rightR
  rw [Bool.and_eq_false_iff]
  left
  simp only [decide_eq_false_iff_not]
  exact fun ⟨h', _⟩ => h h'
theorem rightR_yes {l : List Task} (h8 : l.length ≤ 8) (h : ∀ i (hi : i < l.length), OneR l i l[i]) : rightR l = (chainsF l).isSome := by
  unfold rightR
  rw [show @decide (l.length ≤ 8 ∧ ∀ i (hi : i < l.length), OneR l i l[i]) (Classical.propDecidable _) = true by simp only [decide_eq_true_eq]; exact ⟨h8, h⟩, Bool.true_and]

set_option maxRecDepth 100000 in
set_option maxHeartbeats 8000000 in
theorem refRight (v : Value) (l : List Task) (w : World) (hl : TasksAt w w.heap.size v l) :
    Calls Try.prog 19 #[v] w fun e w' => e = .returned (.bool (rightR l)) ∧ Below w.heap.size w w' := by
  have HL := Lib.hid hl
  obtain ⟨A, c, rfl, hc1, hc2, hcell⟩ := hl.open_
  unfold maxLen at hc2
  clear hl
  by_cases h8 : l.length ≤ 8
  · go_enter Try.func19, Try.ntmps19
    go_wp2
    go_loopw [3] (fun x wr => ∃ i : Nat, i ≤ l.length ∧ x = .int .i64 i ∧ Hid (∀ j (hj : j < l.length), j < i → OneR l j l[j]) ∧ Below w.heap.size w wr) (fun x _ => l.length - (intOf x).toNat)
    case atStart => exact ⟨0, Nat.zero_le _, rfl, fun j _ hj => absurd hj (Nat.not_lt_zero j), Below.refl _ _⟩
    case round =>
      obtain ⟨i, hi, rfl, Hone, hbel⟩ := hrel
      by_cases hlt : i < l.length
      · obtain ⟨b, off, rfl, hb, hcell⟩ := hcell i hlt
        obtain ⟨h0, h1, h2, h3, h4⟩ := (hcell i hlt).below hbel hb
        clear hcell
        obtain ⟨hm1, hm2, hbef⟩ := HL.out.open_bef hlt
        unfold maxLen at hm2
        have hok := HL.out.ok hlt
        have hbx : ∀ o, Below w.heap.size w (wr.alloc o) := fun o => hbel.alloc hbel.size o
        have HT : ∀ o, TasksAt (wr.alloc o) w.heap.size (.slice (some ⟨b, off, none⟩) l.length c) l := fun o => HL.out.below (hbx o) (Nat.le_refl _)
        have HT := Lib.hid HT
        have hN := fun W => refIsName l[i].name hok.name W
        have hF : ∀ o, Calls Try.prog 67 #[.slice (some ⟨b, off, none⟩) l.length c, .string l[i].name] (wr.alloc o) fun e w' => e = .returned (.int .i64 (pl l l[i].name)) ∧ wr.alloc o = w' := fun o => refFind _ l _ _ _ (HT.out o)
        have HNO : ∀ _ : ¬ OneR l i l[i], Hid (rightR l = false) := fun h => rightR_no hlt h
        obtain ⟨p, hp, hpe, -⟩ := pl_mem (mem_names.2 ⟨i, hlt, rfl⟩)
        rw [hpe] at hF
        cases hn : nameB l[i].name with
        | false =>
          have HR := HNO (fun h => by have := h.1; simp [fieldB, hn] at this)
          have hN := fun W => by have := hN W; rw [hn] at this; exact this
          clear HNO hpe hok hn
          go_wp2_with (go_at_call 66; refine (hN _).mono ?_; rintro e w' ⟨rfl, rfl⟩)
          go_ret
          exact ⟨ret_bool HR.out.symm, hbx _⟩
        | true =>
          have hN := fun W => by have := hN W; rw [hn] at this; exact this
          by_cases hself : p = i
          rotate_left
          · have HR := HNO (fun h => hself (by have := h.2.1; rw [hpe] at this; omega))
            have hne : ((p : Int) != (i : Int)) = true := by rw [bne_iff_ne]; omega
            clear HNO hpe hok hn hself
            go_wp2_with (first | (go_at_call 66; refine (hN _).mono ?_; rintro e w' ⟨rfl, rfl⟩) | (go_at_call 67; refine (hF _).mono ?_; rintro e w' ⟨rfl, rfl⟩))
            go_ret
            exact ⟨ret_bool HR.out.symm, hbx _⟩
          subst hself
          have hne : ((p : Int) != (p : Int)) = false := by simp
          cases hb1 : betweenB l[p].len 1 10000 with
          | false =>
            have HR := HNO (fun h => by have := h.1; simp [fieldB, hb1] at this)
            clear HNO hpe hok hn
            go_wp2_with (first | (go_at_call 66; refine (hN _).mono ?_; rintro e w' ⟨rfl, rfl⟩) | (go_at_call 67; refine (hF _).mono ?_; rintro e w' ⟨rfl, rfl⟩) | (go_at_call 68; refine (refBetween _ _ _ _).mono ?_; rintro e w' ⟨rfl, rfl⟩))
            go_ret
            exact ⟨ret_bool HR.out.symm, hbx _⟩
          | true =>
          cases hb2 : betweenB l[p].crew 0 100 with
          | false =>
            have HR := HNO (fun h => by have := h.1; simp [fieldB, hb2] at this)
            clear HNO hpe hok hn
            go_wp2_with (first | (go_at_call 66; refine (hN _).mono ?_; rintro e w' ⟨rfl, rfl⟩) | (go_at_call 67; refine (hF _).mono ?_; rintro e w' ⟨rfl, rfl⟩) | (go_at_call 68; refine (refBetween _ _ _ _).mono ?_; rintro e w' ⟨rfl, rfl⟩))
            go_ret
            exact ⟨ret_bool HR.out.symm, hbx _⟩
          | true =>
          cases hb3 : betweenB l[p].pow 0 100 with
          | false =>
            have HR := HNO (fun h => by have := h.1; simp [fieldB, hb3] at this)
            clear HNO hpe hok hn
            go_wp2_with (first | (go_at_call 66; refine (hN _).mono ?_; rintro e w' ⟨rfl, rfl⟩) | (go_at_call 67; refine (hF _).mono ?_; rintro e w' ⟨rfl, rfl⟩) | (go_at_call 68; refine (refBetween _ _ _ _).mono ?_; rintro e w' ⟨rfl, rfl⟩))
            go_ret
            exact ⟨ret_bool HR.out.symm, hbx _⟩
          | true =>
          have HFB : Hid (fieldB l[p] = true) := by unfold Hid fieldB; rw [hn, hb1, hb2, hb3]; rfl
          by_cases hbl : l[p].bef.length ≤ l.length
          rotate_left
          · have HR := HNO (fun h => hbl h.2.2.1)
            clear HNO hpe hok hn
            go_wp2_with (first | (go_at_call 66; refine (hN _).mono ?_; rintro e w' ⟨rfl, rfl⟩) | (go_at_call 67; refine (hF _).mono ?_; rintro e w' ⟨rfl, rfl⟩) | (go_at_call 68; refine (refBetween _ _ _ _).mono ?_; rintro e w' ⟨rfl, rfl⟩))
            go_ret
            exact ⟨ret_bool HR.out.symm, hbx _⟩
          have Hpe := Lib.hid hpe
          have hblb : decide (l.length < l[p].bef.length) = false := by simpa using hbl
          clear hpe hok hn
          go_wp2_with (first | (go_at_call 66; refine (hN _).mono ?_; rintro e w' ⟨rfl, rfl⟩) | (go_at_call 67; refine (hF _).mono ?_; rintro e w' ⟨rfl, rfl⟩) | (go_at_call 68; refine (refBetween _ _ _ _).mono ?_; rintro e w' ⟨rfl, rfl⟩))
          have hX0 : (wr.alloc (.cells #[.string l[p].name, .int .i64 l[p].len, .int .i64 l[p].crew, .int .i64 l[p].pow, .slice l[p].ba l[p].bef.length l[p].bc] 41)).cell? ⟨wr.heap.size, 0, none⟩ = some (.string l[p].name) := by simp [go_sem]
          have hX4 : (wr.alloc (.cells #[.string l[p].name, .int .i64 l[p].len, .int .i64 l[p].crew, .int .i64 l[p].pow, .slice l[p].ba l[p].bef.length l[p].bc] 41)).cell? ⟨wr.heap.size, 4, none⟩ = some (.slice l[p].ba l[p].bef.length l[p].bc) := by simp [go_sem]
          have hTb := Lib.hid (HT.out (.cells #[.string l[p].name, .int .i64 l[p].len, .int .i64 l[p].crew, .int .i64 l[p].pow, .slice l[p].ba l[p].bef.length l[p].bc] 41))
          have hBb := hbx (.cells #[.string l[p].name, .int .i64 l[p].len, .int .i64 l[p].crew, .int .i64 l[p].pow, .slice l[p].ba l[p].bef.length l[p].bc] 41)
          clear hF HT hbx h0 h1 h2 h3 h4
          generalize wr.alloc (.cells #[.string l[p].name, .int .i64 l[p].len, .int .i64 l[p].crew, .int .i64 l[p].pow, .slice l[p].ba l[p].bef.length l[p].bc] 41) = wb at *
          generalize wr.heap.size = X at *
          generalize l[p].ba = ba at *
          go_loopw [5] (fun x wk => ∃ k : Nat, k ≤ l[p].bef.length ∧ x = .int .i64 k ∧ Hid (Good l l[p] (l[p].bef.take k)) ∧ ∃ q, wk = wb.drewN q) (fun x _ => l[p].bef.length - (intOf x).toNat)
          case atStart => exact ⟨0, Nat.zero_le _, rfl, by rw [List.take_zero]; exact Good.nil l _, 0, rfl⟩
          case round =>
            obtain ⟨k, hk, rfl, HG, q, rfl⟩ := hrel
            by_cases hkl : k < l[p].bef.length
            · obtain ⟨b', off', rfl, hb', hs⟩ := hbef k hkl
              have HSall : Hid (∀ j (hj : j < l[p].bef.length), wb.cell? ⟨b', off' + j, none⟩ = some (.string l[p].bef[j])) := fun j hj => (hBb.cell (p := ⟨b', off' + j, none⟩) hb').trans (hs j hj)
              have hsk := HSall.out k hkl
              clear hs hbef
              have HNO2 : ¬ Good l l[p] (l[p].bef.take (k + 1)) → Hid (rightR l = false) := fun h => HNO (fun h' => h ⟨h'.2.2.2.1.sublist (List.take_sublist _ _), fun s hs => h'.2.2.2.2 s (List.mem_of_mem_take hs)⟩)
              have HGN : Good l l[p] (l[p].bef.take (k + 1)) → l[p].bef[k] ∈ names l ∧ l[p].bef[k] ≠ l[p].name ∧ l[p].bef[k] ∉ l[p].bef.take k := good_next hp hkl
              have HNO2 := Lib.hid HNO2
              clear HNO
              have hFs0 : ∀ q, Calls Try.prog 67 #[.slice (some ⟨b, off, none⟩) l.length c, .string l[p].bef[k]] (wb.drewN q) fun e w' => e = .returned (.int .i64 (pl l l[p].bef[k])) ∧ wb.drewN q = w' := fun q => refFind _ l _ _ _ (hTb.out.drewN q)
              by_cases hm : l[p].bef[k] ∈ names l
              rotate_left
              · have HR := HNO2.out (fun h => hm (HGN h).1)
                have hFs := hFs0
                rw [pl_not hm] at hFs
                clear hm HGN HNO2 hFs0
                go_wp2
                go_quiet ((go_at_call 67; exact quiet_add (hFs _)))
                go_wp2
                go_ret
                exact ⟨ret_bool HR.out.symm, below_drewN (below_drewN hBb _) _⟩
              obtain ⟨p2, hp2, hp2e, -⟩ := pl_mem hm
              have hFs := hFs0
              rw [hp2e] at hFs
              clear hp2e hFs0
              by_cases hsn : l[p].bef[k] = l[p].name
              · have HR := HNO2.out (fun h => (HGN h).2.1 hsn)
                have hsb : (l[p].bef[k].toList == l[p].name.toList) = true := by rw [str_beq]; simpa using hsn
                clear hsn HGN HNO2 hm
                go_wp2
                go_quiet ((go_at_call 67; exact quiet_add (hFs _)))
                go_wp2
                go_ret
                exact ⟨ret_bool HR.out.symm, below_drewN (below_drewN hBb _) _⟩
              have hsb : (l[p].bef[k].toList == l[p].name.toList) = false := by rw [str_beq]; simpa using hsn
              have HGS : l[p].bef[k] ∉ l[p].bef.take k → Hid (Good l l[p] (l[p].bef.take (k + 1))) := fun h => by unfold Hid; rw [take_snoc _ _ hkl]; exact HG.out.snoc hm hsn h
              have HGS := Lib.hid HGS
              have HGN := Lib.hid HGN
              clear hsn hm
              go_wp2
              go_quiet ((go_at_call 67; exact quiet_add (hFs _)))
              go_wp2
              clear hFs
              go_loopw [6] (fun x wk => ∃ j : Nat, j ≤ k ∧ x = .int .i64 j ∧ Hid (l[p].bef[k] ∉ l[p].bef.take j) ∧ ∃ q, wk = wb.drewN q) (fun x _ => k - (intOf x).toNat)
              case atStart => exact ⟨0, Nat.zero_le _, rfl, by rw [List.take_zero]; simp [Hid], q2'⟩
              case round =>
                obtain ⟨j, hj, rfl, HJ, q, rfl⟩ := hrel
                by_cases hjk : j < k
                · have hsj := HSall.out j (by omega)
                  by_cases hq : l[p].bef[j]'(by omega) = l[p].bef[k]
                  · have hqb : ((l[p].bef[j]'(by omega)).toList == l[p].bef[k].toList) = true := by rw [str_beq]; simpa using hq
                    have HR := HNO2.out (fun h => (HGN.out h).2.2 (by rw [← hq, List.mem_take_iff_getElem]; exact ⟨j, by omega, rfl⟩))
                    clear hq
                    go_wp2
                    go_quiet (fail)
                    go_wp2
                    go_ret
                    exact ⟨ret_bool HR.out.symm, below_drewN (below_drewN hBb _) _⟩
                  · have hqb : ((l[p].bef[j]'(by omega)).toList == l[p].bef[k].toList) = false := by rw [str_beq]; simpa using hq
                    go_wp2
                    go_quiet (fail)
                    go_wp2
                    go_roundw
                    case rel => exact ⟨j + 1, by omega, by go_num, notin_snoc (by omega) HJ.out hq, _, rfl⟩
                    case measure => simp [intOf]; omega
                · have hjk : j = k := by omega
                  subst hjk
                  have HG2 := HGS.out HJ.out
                  go_wp2
                  go_roundw
                  case rel => exact ⟨j + 1, by omega, by go_num, HG2, _, rfl⟩
                  case measure => simp [intOf]; omega
            · have hke : k = l[p].bef.length := by omega
              subst hke
              have HO2 : Hid (∀ j (hj : j < l.length), j < p + 1 → OneR l j l[j]) := by
                intro j hj hjp
                by_cases e : j = p
                · subst e
                  have := HG.out
                  rw [List.take_length] at this
                  exact ⟨HFB.out, Hpe.out, hbl, this⟩
                · exact Hone.out j hj (by omega)
              clear hbef
              go_wp2
              go_roundw
              case rel => exact ⟨p + 1, by omega, by go_num, HO2, below_drewN hBb _⟩
              case measure => simp [intOf]; omega
      · have hie : i = l.length := by omega
        subst hie
        have HR : Hid (rightR l = (chainsF l).isSome) := rightR_yes h8 (fun j hj => Hone.out j hj hj)
        have hC := refChains _ l wr ((HL.out.below hbel (Nat.le_refl _)).mono hbel.size) h8 (fun t ht => by
          obtain ⟨j, hj, rfl⟩ := List.getElem_of_mem ht
          exact fieldB_len (Hone.out j hj hj).1) (fun t ht s hs => by
          obtain ⟨j, hj, rfl⟩ := List.getElem_of_mem ht
          exact ((Hone.out j hj hj).2.2.2.2 s hs).1)
        unfold ChainsPost at hC
        clear hcell
        cases hcf : chainsF l with
        | none =>
          rw [hcf] at hC HR
          go_wp2_with (go_at_call 69; refine hC.mono ?_; rintro e w1 ⟨hb1, rfl⟩)
          go_ret
          exact ⟨ret_bool HR.out.symm, hbel.trans (hb1.mono hbel.size)⟩
        | some x =>
          rw [hcf] at hC HR
          go_wp2_with (go_at_call 69; refine hC.mono ?_; rintro e w1 ⟨hb1, O, rfl, _, _⟩)
          go_ret
          exact ⟨ret_bool HR.out.symm, hbel.trans (hb1.mono hbel.size)⟩
  · have hF : Hid (rightR l = false) := rightR_no8 h8
    clear hcell
    go_enter Try.func19, Try.ntmps19
    go_wp2
    go_ret
    exact ⟨ret_bool hF.out.symm, Below.refl _ _⟩

end Go.Proofs.Ytcjejcbikgcnbaa
