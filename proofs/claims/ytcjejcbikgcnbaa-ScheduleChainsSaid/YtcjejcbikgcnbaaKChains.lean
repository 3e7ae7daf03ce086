/- For every input the law returns true, and its arguments read as they did: LawChains, RowChains. -/
import Derived.Test.YtcjejcbikgcnbaaG10
import Derived.Test.YtcjejcbikgcnbaaG7

/- The law ScheduleChains: the walk. -/
namespace Go.Proofs.Ytcjejcbikgcnbaa
open Go.RowKit Go.Shelf

theorem entersChains : ∀ args w, (callFunc 47 args).run Try.prog w = .ok (.enter 47 args) w := enters_of Try.func47 (by kernel_rfl) rfl

/-- What the closure asks. -/
def chainP (cl : List ByteArray) (a : ByteArray) (t : Task) : Bool := decide (t.name ∈ cl) && (if a = ⟨#[]⟩ then decide (t.bef.length = 0) else decide (a ∈ t.bef))

set_option maxRecDepth 100000 in
set_option maxHeartbeats 2000000 in
theorem chainsClosure (t : Task) (clv : Value) (cl : List ByteArray) (a : ByteArray) (g7 g13 : Nat) (w : World) (_ht : t.ok) (hb : StrsAt w w.heap.size t.bv t.bef) (hcl : StrsAt w w.heap.size clv cl) (h7 : w.cell? ⟨g7, 0, none⟩ = some clv) (h13 : w.cell? ⟨g13, 0, none⟩ = some (.string a)) :
    Calls Try.prog 47 #[t.val, .pointer (some ⟨g7, 0, none⟩), .pointer (some ⟨g13, 0, none⟩)] w fun e w' => e = .returned (.bool (chainP cl a t)) ∧ Below w.heap.size w w' := by
  have hbo : ∀ o, Below w.heap.size w (w.alloc o) := fun o => (Below.refl _ _).alloc (Nat.le_refl _) o
  have hC1 : ∀ o, Calls Try.prog 48 #[clv, .string t.name] (w.alloc o) fun e w' => e = .returned (.bool (decide (t.name ∈ cl))) ∧ w.alloc o = w' := fun o => containsStr clv cl t.name w.heap.size (w.alloc o) (hcl.below (hbo o) (Nat.le_refl _))
  have hC2 : ∀ o, Calls Try.prog 48 #[t.bv, .string a] (w.alloc o) fun e w' => e = .returned (.bool (decide (a ∈ t.bef))) ∧ w.alloc o = w' := fun o => containsStr t.bv t.bef a w.heap.size (w.alloc o) (hb.below (hbo o) (Nat.le_refl _))
  have y7 : ∀ o, (w.alloc o).cell? ⟨g7, 0, none⟩ = some clv := fun o => ((hbo o).cell (p := ⟨g7, 0, none⟩) (cell_lt h7)).trans h7
  have y13 : ∀ o, (w.alloc o).cell? ⟨g13, 0, none⟩ = some (.string a) := fun o => ((hbo o).cell (p := ⟨g13, 0, none⟩) (cell_lt h13)).trans h13
  obtain ⟨A0, c0, hA, hc1, hc2, -⟩ := hb.open_
  obtain ⟨A3, c3, rfl, hd1, hd2, -⟩ := hcl.open_
  unfold maxLen at hc2 hd2
  clear hb hA hcl h7 h13
  obtain ⟨name, len, crew, pow, ba, bc, bef⟩ := t
  unfold Task.val
  unfold Task.bv at hC2
  simp only at *
  have HV : Hid (chainP cl a ⟨name, len, crew, pow, ba, bc, bef⟩ = (decide (name ∈ cl) && (if a = ⟨#[]⟩ then decide (bef.length = 0) else decide (a ∈ bef)))) := rfl
  generalize decide (name ∈ cl) = n1 at *
  generalize decide (a ∈ bef) = n2 at *
  cases n1 with
  | false =>
    go_enter Try.func47, Try.ntmps47
    go_wp2_with (go_at_call 48; refine (hC1 _).mono ?_; rintro e w1 ⟨rfl, rfl⟩)
    go_ret
    exact ⟨ret_bool (by rw [HV.out]; rfl), hbo _⟩
  | true =>
    by_cases ha : a = ⟨#[]⟩
    · subst ha
      have he : (⟨#[]⟩ : ByteArray).toList = [] := by simp [Go.ByteArray.toList_eq]
      by_cases hl : bef.length = 0
      · have hlb : ((bef.length : Int) == 0) = true := beq_iff_eq.2 (by omega)
        have HV' : Hid (chainP cl ⟨#[]⟩ ⟨name, len, crew, pow, ba, bc, bef⟩ = true) := by unfold Hid; rw [HV.out, if_pos rfl]; simp [hl]
        clear HV hl
        go_enter Try.func47, Try.ntmps47
        go_wp2_with (go_at_call 48; refine (hC1 _).mono ?_; rintro e w1 ⟨rfl, rfl⟩)
        go_ret
        exact ⟨ret_bool HV'.out.symm, hbo _⟩
      · have hlb : ((bef.length : Int) == 0) = false := beq_eq_false_iff_ne.2 (by omega)
        have HV' : Hid (chainP cl ⟨#[]⟩ ⟨name, len, crew, pow, ba, bc, bef⟩ = false) := by unfold Hid; rw [HV.out, if_pos rfl]; simp [hl]
        clear HV hl
        go_enter Try.func47, Try.ntmps47
        go_wp2_with (go_at_call 48; refine (hC1 _).mono ?_; rintro e w1 ⟨rfl, rfl⟩)
        go_ret
        exact ⟨ret_bool HV'.out.symm, hbo _⟩
    · have he : a.toList.isEmpty = false := by
        rw [Go.ByteArray.toList_eq]
        obtain ⟨⟨d⟩⟩ := a
        cases d with
        | nil => exact absurd rfl ha
        | cons x d => rfl
      have he2 : ¬ a.toList = [] := by
        intro e
        rw [e] at he
        cases he
      have HV' : Hid (chainP cl a ⟨name, len, crew, pow, ba, bc, bef⟩ = n2) := by unfold Hid; rw [HV.out, if_neg ha]; rfl
      clear HV ha
      go_enter Try.func47, Try.ntmps47
      go_wp2_with fail
      refine (hC1 _).mono ?_
      rintro e w1 ⟨rfl, rfl⟩
      go_wp2_with fail
      refine (hC2 _).mono ?_
      rintro e w1 ⟨rfl, rfl⟩
      go_wp2_with fail
      go_ret
      exact ⟨ret_bool HV'.out.symm, hbo _⟩

theorem toList_ne {a : ByteArray} (ha : ¬ a = ⟨#[]⟩) : a.toList.isEmpty = false ∧ ¬ a.toList = [] := by
  have he : a.toList.isEmpty = false := by
    rw [Go.ByteArray.toList_eq]
    obtain ⟨⟨d⟩⟩ := a
    cases d with
    | nil => exact absurd rfl ha
    | cons x d => rfl
  refine ⟨he, fun e => ?_⟩
  rw [e] at he
  cases he
theorem toList_empty : (⟨#[]⟩ : ByteArray).toList = [] := by simp [Go.ByteArray.toList_eq]
theorem lastM_bd {q : Nat → Bool} {i0 : Int} {n : Nat} (h0 : -1 ≤ i0 ∧ i0 ≤ n) : ∀ k, k ≤ n → -1 ≤ lastM q i0 k ∧ lastM q i0 k ≤ n
  | 0, _ => h0
  | k + 1, hk => by
    have := lastM_bd (q := q) h0 k (by omega)
    unfold lastM
    split <;> omega
theorem idx_le {α : Type} (p : α → Bool) (l : List α) : idxOf (l.findIdx? p) ≤ l.length := by
  cases h : l.findIdx? p with
  | none => simp only [idxOf]; omega
  | some i =>
    have := (List.findIdx?_eq_some_iff_getElem.1 h).1
    simp only [idxOf]; omega

set_option maxRecDepth 100000 in
set_option maxHeartbeats 8000000 in
theorem lawScheduleChains (v : Value) (l : List Task) (c p : Int) (w : World) (hl : TasksAt w w.heap.size v l) :
    Calls Try.prog 8 #[v, .int .i64 c, .int .i64 p] w fun e w' => e = .returned (.bool true) ∧ Below w.heap.size w w' := by
  have hA := lawAwake43 w
  have HT : Hid (∀ w1, Below w.heap.size w w1 → TasksAt w1 w1.heap.size v l) := fun w1 hb => (hl.below hb (Nat.le_refl _)).mono hb.size
  have hLong := fun w1 hb => lawShort v (.slice none 0 0) l [] w1 (HT.out w1 hb) (noRows w1) (by simp)
  have HCr : Hid (∀ w1, Below w.heap.size w w1 → Calls Try.prog 39 #[v] w1 (CritPost l w1)) := fun w1 hb => schedCritical v l w1 (HT.out w1 hb)
  have HLe : Hid (∀ c p w1, Below w.heap.size w w1 → Calls Try.prog 41 #[v, .int .i64 c, .int .i64 p] w1 (LeastPost l c p w1)) := fun c p w1 hb => schedLeast v l c p w1 (HT.out w1 hb)
  obtain ⟨A, cc, rfl, hA1, hA2, -⟩ := hl.open_
  unfold maxLen at hA2
  clear hl
  cases hlg : shortB l [] with
  | false =>
    rw [hlg] at hLong
    clear hlg
    go_enter Try.func8, Try.ntmps8
    go_wp2_with (first
      | (go_at_call 37; refine hA.mono ?_; rintro e w1 ⟨rfl, hb1⟩)
      | (go_at_call 38; refine (hLong _ hb1).mono ?_; rintro e w2 ⟨rfl, hb2⟩))
    go_ret
    exact ⟨rfl, hb1.trans (hb2.mono hb1.size)⟩
  | true =>
    rw [hlg] at hLong
    clear hlg
    by_cases h6 : 6 < l.length
    · have h6b : decide ((6 : Int) < l.length) = true := by simp; omega
      go_enter Try.func8, Try.ntmps8
      go_wp2_with (first
        | (go_at_call 37; refine hA.mono ?_; rintro e w1 ⟨rfl, hb1⟩)
        | (go_at_call 38; refine (hLong _ hb1).mono ?_; rintro e w2 ⟨rfl, hb2⟩))
      go_ret
      exact ⟨rfl, hb1.trans (hb2.mono hb1.size)⟩
    have h6b : decide ((6 : Int) < l.length) = false := by simp; omega
    by_cases h0 : l.length = 0
    · have h0b : ((l.length : Int) == 0) = true := beq_iff_eq.2 (by omega)
      clear h0
      go_enter Try.func8, Try.ntmps8
      go_wp2_with (first
        | (go_at_call 37; refine hA.mono ?_; rintro e w1 ⟨rfl, hb1⟩)
        | (go_at_call 38; refine (hLong _ hb1).mono ?_; rintro e w2 ⟨rfl, hb2⟩))
      go_ret
      exact ⟨rfl, hb1.trans (hb2.mono hb1.size)⟩
    have h0b : ((l.length : Int) == 0) = false := beq_eq_false_iff_ne.2 (by omega)
    have hl0 : 0 < l.length := by omega
    clear h0
    go_enter Try.func8, Try.ntmps8
    go_wp2_with (first
      | (go_at_call 37; refine hA.mono ?_; rintro e w1 ⟨rfl, hb1⟩)
      | (go_at_call 38; refine (hLong _ hb1).mono ?_; rintro e w2 ⟨rfl, hb2⟩))
    have hb := hb1.trans (hb2.mono hb1.size)
    clear hb1 hb2 hA hLong
    refine (HCr.out _ hb).mono ?_
    rintro e w3 ⟨hb3, hpost⟩
    have hbx := hb.trans (hb3.mono hb.size)
    rcases hpost with ⟨hr, rfl⟩ | ⟨hr, A3, cap3, rfl, hown⟩
    · have hno : ((0 : Int) != 0) = false := rfl
      go_wp2_with fail
      go_ret
      exact ⟨rfl, hbx.alloc hbx.size _⟩
    have hR := (right_iff l).1 hr
    have HR := Lib.hid hR
    have hv : validB l 1000 1000 = true := by unfold validB betweenB; rw [hr]; rfl
    have hfree := free_least (c := 1000) (p := 1000) hR (by omega)
    have hany := free_any (c := 1000) (p := 1000) hR (by omega)
    have hs3 : StrsAt w3 w3.heap.size (.slice A3 (critL l l.length).length cap3) (critL l l.length) := RowAt.of_own hown
    have HS3 := Lib.hid hs3
    have g7lt : w3.heap.size < (w3.alloc (.cells #[.slice A3 (critL l l.length).length cap3] 25)).heap.size := by simp
    have HB7 := Lib.hid (Blk.new w3 25 #[.slice A3 (critL l l.length).length cap3])
    have hbx4 := hbx.alloc hbx.size (.cells #[.slice A3 (critL l l.length).length cap3] 25)
    have HS4 : Hid (StrsAt (w3.alloc (.cells #[.slice A3 (critL l l.length).length cap3] 25)) (w3.alloc (.cells #[.slice A3 (critL l l.length).length cap3] 25)).heap.size (.slice A3 (critL l l.length).length cap3) (critL l l.length)) := (hs3.below ((Below.refl _ _).alloc (Nat.le_refl _) _) (Nat.le_refl _)).mono (by simp)
    have hLs := HLe.out 1000 1000 _ hbx4
    have hcap := (RowAt.open_ hs3)
    clear hb hb3 hown hs3 hr hR HS3
    go_wp2_with fail
    refine hLs.mono ?_
    rintro e w5 ⟨hb5, hpost⟩
    rcases hpost with ⟨hno, _⟩ | ⟨_, hno, _⟩ | ⟨_, _, A7, cap7, rfl, hown7⟩
    · rw [hv] at hno; cases hno
    · rw [hany] at hno; cases hno
    obtain ⟨hf1, hf2, hf3⟩ := hfree
    have hsI : IntsAt w5 w5.heap.size (.slice A7 (leastN l 1000 1000).2.length cap7) (leastN l 1000 1000).2 := RowAt.of_own hown7
    rw [hf1, hf2]
    rw [hf2] at hsI
    have HSt : Hid (∀ w', Below w5.heap.size w5 w' → ∀ j, j < l.length → ∃ b off, A7 = some ⟨b, off, none⟩ ∧ w'.cell? ⟨b, off + j, none⟩ = some (.int .i64 (upI l j - lenAt l j))) := fun w' hb j hj => by
      obtain ⟨A', c', e', e1, e2, e3⟩ := hsI.open_
      injection e' with e4 _ e5
      subst e4 e5
      obtain ⟨b, off, ea, hlt, hc⟩ := e3 j (by omega)
      refine ⟨b, off, ea, (hb.cell (p := ⟨b, off + j, none⟩) hlt).trans ?_⟩
      rw [hc j (by omega), ← atI_get (by omega), hf3 j hj]
    have hcapI : l.length ≤ cap7 ∧ cap7 ≤ 9223372036854775807 := by
      obtain ⟨A', c', e', e1, e2, e3⟩ := hsI.open_
      injection e' with e4 _ e5
      unfold maxLen at e2
      omega
    have hbx5 := hbx4.trans (hb5.mono hbx4.size)
    have HB75 : Hid (Blk w5 w3.heap.size 25 #[.slice A3 (critL l l.length).length cap3]) := HB7.out.below hb5 g7lt
    have HS5 : Hid (StrsAt w5 w5.heap.size (.slice A3 (critL l l.length).length cap3) (critL l l.length)) := (HS4.out.below hb5 (Nat.le_refl _)).mono hb5.size
    have hb75 := Nat.lt_of_lt_of_le g7lt hb5.size
    clear hb5 hown7 hsI hf1 hf2 hf3 hv hany HB7 HS4 hLs hcap hbx4 hbx g7lt
    generalize w3.heap.size = g7 at *
    have hut := upTo_bd HR.out l.length (Nat.le_refl _)
    have hut1 := hut.1
    have hut2 := hut.2.1
    have HCm : Hid (∀ j (hj : j < l.length), decide (l[j].name ∈ critL l l.length) = decide (critI l j = upTo l l.length)) := fun j hj => by rw [decide_eq_decide]; exact mem_crit HR.out hj
    have hcln := critL_len (l := l) l.length
    have hbA : Below w5.heap.size w5 (w5.alloc (.cells #[.string ⟨#[]⟩] 9)) := (Below.refl _ _).alloc (Nat.le_refl _) _
    have HBA := Lib.hid (Blk.new w5 9 #[.string ⟨#[]⟩])
    clear hut
    generalize hcl : critL l l.length = cl at *
    clear hcl
    generalize hU : upTo l l.length = U at *
    have HU := Lib.hid hU
    clear hU
    go_wp2_with fail
    generalize w5.alloc (.cells #[.string ⟨#[]⟩] 9) = w6 at *
    go_loopw [12] (fun sv wr => ∃ (sum : Int) (a : ByteArray), sv = .int .i64 sum ∧ Hid (ChainSt l sum a) ∧ Hid (Blk wr w5.heap.size 9 #[.string a]) ∧ Below w5.heap.size w5 wr) (fun sv _ => (U - intOf sv).toNat)
    case atStart => exact ⟨0, ⟨#[]⟩, rfl, .inl ⟨rfl, rfl⟩, HBA, hbA⟩
    case round =>
      clear HBA hbA
      obtain ⟨sum, a, rfl, HCh, HB13, hbel⟩ := hrel
      have hcb := chain_le HR.out HCh.out
      rw [HU.out] at hcb
      obtain ⟨hcb1, hcb2, -⟩ := hcb
      by_cases hlt : sum < U
      · have hbx6 : Below w.heap.size w wr := hbx5.trans (hbel.mono hbx5.size)
        have hTw := HT.out wr hbx6
        have h7w : ∀ w', Below wr.heap.size wr w' → w'.cell? ⟨g7, 0, none⟩ = some (.slice A3 cl.length cap3) := fun w' hb' => by
          have h1 := (HB75.out.below hbel hb75).below hb' (Nat.lt_of_lt_of_le hb75 hbel.size)
          simpa using h1.cell 0
        have h13w : ∀ w', Below wr.heap.size wr w' → w'.cell? ⟨w5.heap.size, 0, none⟩ = some (.string a) := fun w' hb' => by
          have h1 := HB13.out.below hb' HB13.out.lt
          simpa using h1.cell 0
        have hSw : ∀ w', Below wr.heap.size wr w' → StrsAt w' w'.heap.size (.slice A3 cl.length cap3) cl := fun w' hb' => (((HS5.out.below hbel (Nat.le_refl _)).mono hbel.size).below hb' (Nat.le_refl _)).mono hb'.size
        have hIx := indexFuncTask (.slice A l.length cc) l 47 #[.pointer (some ⟨g7, 0, none⟩), .pointer (some ⟨w5.heap.size, 0, none⟩)] (chainP cl a) entersChains wr hTw (fun t ht w' hb' =>
          chainsClosure t _ cl a g7 w5.heap.size w' (hTw.2.2 t ht) (((hTw.2.1 t ht).below hb' (Nat.le_refl _)).mono hb'.size) (hSw w' hb') (h7w w' hb') (h13w w' hb'))
        have hi1 := idx_bd (chainP cl a) l
        have hi2 := idx_le (chainP cl a) l
        have H7 := Lib.hid h7w
        have H13 := Lib.hid h13w
        have HSw := Lib.hid hSw
        have HTw := Lib.hid hTw
        clear h7w h13w hSw hTw
        generalize idxOf (l.findIdx? (chainP cl a)) = i0 at *
        obtain ⟨w7, rfl⟩ : ∃ w7 : World, w7 = wr := ⟨_, rfl⟩
        go_wp2_with (go_at_call 46; refine hIx.mono ?_; rintro e w8 ⟨rfl, hb8⟩)
        go_loopw [68, 14] (fun ix iv wr => ∃ k : Nat, k ≤ l.length ∧ ix = .int .i64 k ∧ iv = .int .i64 (lastM (goesOn l sum a) i0 k) ∧ Below w7.heap.size w7 wr) (fun ix _ _ => l.length - (intOf ix).toNat)
        case atStart => exact ⟨0, Nat.zero_le _, rfl, rfl, hb8⟩
        case round =>
          clear hb8 hIx
          obtain ⟨k, hk, rfl, rfl, hbe⟩ := hrel
          have hbx7 : Below w5.heap.size w5 wr := hbel.trans (hbe.mono hbel.size)
          by_cases hkl : k < l.length
          · have hT2 := HT.out wr (hbx5.trans (hbx7.mono hbx5.size))
            obtain ⟨b0, off0, rfl, hb0, hct⟩ := hT2.cells hkl
            obtain ⟨t0, t1, t2, t3, t4⟩ := hct k hkl
            have hsz := hbe.size
            have hbxx : ∀ o, Below w7.heap.size w7 (wr.alloc o) := fun o => hbe.alloc hsz o
            obtain ⟨bs, offs, rfl, hcs⟩ := HSt.out _ (hbx7.alloc hbx7.size (.cells #[.string l[k].name, .int .i64 l[k].len, .int .i64 l[k].crew, .int .i64 l[k].pow, .slice l[k].ba l[k].bef.length l[k].bc] 41)) k hkl
            have x7 := H7.out _ (hbxx (.cells #[.string l[k].name, .int .i64 l[k].len, .int .i64 l[k].crew, .int .i64 l[k].pow, .slice l[k].ba l[k].bef.length l[k].bc] 41))
            have x13 := H13.out _ (hbxx (.cells #[.string l[k].name, .int .i64 l[k].len, .int .i64 l[k].crew, .int .i64 l[k].pow, .slice l[k].ba l[k].bef.length l[k].bc] 41))
            have hC1 := containsStr (.slice A3 cl.length cap3) cl l[k].name _ _ (HSw.out _ (hbxx (.cells #[.string l[k].name, .int .i64 l[k].len, .int .i64 l[k].crew, .int .i64 l[k].pow, .slice l[k].ba l[k].bef.length l[k].bc] 41)))
            have hC2 := containsStr l[k].bv l[k].bef a _ _ ((HTw.out.below (hbxx (.cells #[.string l[k].name, .int .i64 l[k].len, .int .i64 l[k].crew, .int .i64 l[k].pow, .slice l[k].ba l[k].bef.length l[k].bc] 41)) (Nat.le_refl _)).bef hkl)
            have hbxx' := hbxx (.cells #[.string l[k].name, .int .i64 l[k].len, .int .i64 l[k].crew, .int .i64 l[k].pow, .slice l[k].ba l[k].bef.length l[k].bc] 41)
            have y := World.cell?_alloc_new wr #[.string l[k].name, .int .i64 l[k].len, .int .i64 l[k].crew, .int .i64 l[k].pow, .slice l[k].ba l[k].bef.length l[k].bc] 41
            have y0 := y 0
            have y4 := y 4
            simp only [List.getElem?_toArray, List.getElem?_cons_succ, List.getElem?_cons_zero] at y0 y4
            have HG : Hid (goesOn l sum a k = (decide (l[k].name ∈ cl) && decide (upI l k - lenAt l k = sum) && (decide (a = ⟨#[]⟩) || decide (a ∈ l[k].bef)))) := by
              unfold Hid goesOn
              rw [HCm.out k hkl, HU.out, List.getD_eq_getElem?_getD, List.getElem?_eq_getElem hkl]
              rfl
            have HSt' : Hid (lastM (goesOn l sum a) i0 (k + 1) = if goesOn l sum a k = true then (k : Int) else lastM (goesOn l sum a) i0 k) := rfl
            have hlb := lastM_bd (q := goesOn l sum a) (i0 := i0) (n := l.length) ⟨hi1, hi2⟩ k hk
            have hqs : ((upI l k - lenAt l k) == sum) = decide (upI l k - lenAt l k = sum) := rfl
            have hua := up_bd HR.out hkl
            have hla := lenAt_bd HR.out k
            have i3 : (0 : Int) ≤ (k : Int) := Int.natCast_nonneg _
            have i4 : (k : Int) < (l.length : Int) := by omega
            have i5 : (l.length : Int) ≤ (cap7 : Int) := by omega
            clear hct hbxx y hT2
            unfold Task.bv at hC2
            generalize goesOn l sum a k = gk at *
            generalize decide (l[k].name ∈ cl) = q1 at *
            generalize decide (a ∈ l[k].bef) = q3 at *
            generalize upI l k - lenAt l k = st at *
            generalize lastM (goesOn l sum a) i0 k = lm at *
            go_wp2_with fail
            generalize wr.alloc (.cells #[.string l[k].name, .int .i64 l[k].len, .int .i64 l[k].crew, .int .i64 l[k].pow, .slice l[k].ba l[k].bef.length l[k].bc] 41) = wx at *
            refine hC1.mono ?_
            rintro e w9 ⟨rfl, rfl⟩
            cases q1 with
            | false =>
              have HS1 : Hid (lastM (goesOn l sum a) i0 (k + 1) = lm) := by unfold Hid; rw [HSt'.out, HG.out]; rfl
              clear HSt' HG hqs hC2
              go_wp2_with fail
              go_roundw
              case rel => exact ⟨k + 1, by omega, by go_num, by rw [HS1.out], hbxx'⟩
              case measure => simp [intOf]; omega
            | true =>
              by_cases hq2 : st = sum
              · have hqb : (st == sum) = true := by rw [hqs]; simpa using hq2
                rw [decide_eq_true hq2] at HG
                have Hq2 := Lib.hid hq2
                clear hqs hq2
                by_cases ha : a = ⟨#[]⟩
                · subst ha
                  have he := toList_empty
                  have HS1 : Hid (lastM (goesOn l sum ⟨#[]⟩) i0 (k + 1) = (k : Int)) := by unfold Hid; rw [HSt'.out, HG.out]; simp
                  clear HSt' HG hC2
                  go_wp2_with fail
                  go_roundw
                  case rel => exact ⟨k + 1, by omega, by go_num, by rw [HS1.out], hbxx'⟩
                  case measure => simp [intOf]; omega
                · obtain ⟨he1, he2⟩ := toList_ne ha
                  rw [decide_eq_false ha] at HG
                  have Ha := Lib.hid ha
                  clear ha
                  cases q3 with
                  | true =>
                    have HS1 : Hid (lastM (goesOn l sum a) i0 (k + 1) = (k : Int)) := by unfold Hid; rw [HSt'.out, HG.out]; simp
                    clear HSt' HG
                    go_wp2_with fail
                    refine hC2.mono ?_
                    rintro e w9 ⟨rfl, rfl⟩
                    go_wp2_with fail
                    go_roundw
                    case rel => exact ⟨k + 1, by omega, by go_num, by rw [HS1.out], hbxx'⟩
                    case measure => simp [intOf]; omega
                  | false =>
                    have HS1 : Hid (lastM (goesOn l sum a) i0 (k + 1) = lm) := by unfold Hid; rw [HSt'.out, HG.out]; simp
                    clear HSt' HG
                    go_wp2_with fail
                    refine hC2.mono ?_
                    rintro e w9 ⟨rfl, rfl⟩
                    go_wp2_with fail
                    go_roundw
                    case rel => exact ⟨k + 1, by omega, by go_num, by rw [HS1.out], hbxx'⟩
                    case measure => simp [intOf]; omega
              · have hqb : (st == sum) = false := by rw [hqs]; simpa using hq2
                rw [decide_eq_false hq2] at HG
                have HS1 : Hid (lastM (goesOn l sum a) i0 (k + 1) = lm) := by unfold Hid; rw [HSt'.out, HG.out]; simp
                clear HSt' HG hC2 hqs hq2
                go_wp2_with fail
                go_roundw
                case rel => exact ⟨k + 1, by omega, by go_num, by rw [HS1.out], hbxx'⟩
                case measure => simp [intOf]; omega
          · have hke : k = l.length := by omega
            subst hke
            obtain ⟨j, hj, hgo, hlm⟩ := lastM_hit (i0 := i0) l.length (goes_exists HR.out HCh.out (by rw [HU.out]; exact hlt))
            obtain ⟨hnext, hst⟩ := goes_next hj hgo
            rw [hlm]
            have hT2 := HT.out wr (hbx5.trans (hbx7.mono hbx5.size))
            obtain ⟨b0, off0, rfl, hb0, hct⟩ := hT2.cells hj
            obtain ⟨t0, t1, t2, t3, t4⟩ := hct j hj
            obtain ⟨bs, offs, rfl, hcs⟩ := HSt.out _ hbx7 j hj
            rw [hst] at hcs
            have hln := fieldB_len (HR.out.field j hj)
            have hnb := chain_le HR.out hnext
            rw [HU.out] at hnb
            have hnb1 := hnb.2.1
            rw [← lenAt_eq hj] at t1 hln
            have hss : (sum != sum) = false := by simp
            have HN := Lib.hid hnext
            have hB13 := HB13.out.below hbe HB13.out.lt
            have c13 : wr.cell? ⟨w5.heap.size, 0, none⟩ = some (.string a) := by simpa using hB13.cell 0
            have f13 := hB13.frozen 0
            have HBn : Hid (Blk (wr.setCell ⟨w5.heap.size, 0, none⟩ (.string l[j].name)) w5.heap.size 9 #[.string l[j].name]) := by
              have := hB13.set_ 0 (.string l[j].name)
              unfold Hid
              simpa using this
            have hbn := hbx7.setCell (p := ⟨w5.heap.size, 0, none⟩) (Nat.le_refl _) (.string l[j].name)
            clear hnext hst hgo hlm hct hnb hT2
            generalize lenAt l j = ln at *
            have w1 : IntKind.i64.wrap (sum + ln) = sum + ln := IntWalk.i64_in _ (by omega)
            have i3 : (0 : Int) ≤ (j : Int) := Int.natCast_nonneg _
            have i4 : (j : Int) < (l.length : Int) := by omega
            have i5 : (l.length : Int) ≤ (cap7 : Int) := by omega
            go_wp2_with fail
            refine wp_region_tail 13 (by kernel_rfl) (by kernel_rfl) ?_
            simp only [List.take_succ_cons, List.take_zero, List.drop_succ_cons, List.drop_zero]
            repeat (go_big_quiet_step (fail))
            refine wpQuiet_nil ?_
            go_wp2_with fail
            go_roundw
            case rel => exact ⟨sum + ln, _, rfl, HN, HBn.out.drewN 1, hbn.drew⟩
            case measure => simp [intOf]; omega
      · have hsu : sum = U := by omega
        subst hsu
        have hbx6 : Below w.heap.size w wr := hbx5.trans (hbel.mono hbx5.size)
        have hss : (sum != sum) = false := by simp
        have HCn : Hid (∀ hv : validB l c p = true, l.any (tooMuch c p) = false → sum ≤ (leastN l c p).1) := fun hv hn => by
          rw [← HU.out]
          have hv' := valid_right hv
          exact least_chain hv'.1 ⟨hv'.2.1, hv'.2.2.2.1⟩ hn
        have hLs := HLe.out c p wr hbx6
        go_wp2_with fail
        refine hLs.mono ?_
        rintro e w8 ⟨hb8, hpost⟩
        have hbx8 := hbx6.trans (hb8.mono hbx6.size)
        rcases hpost with ⟨_, rfl⟩ | ⟨_, _, rfl⟩ | ⟨hv, hn, A9, cap9, rfl, -⟩
        · go_wp2_with fail
          go_ret
          exact ⟨rfl, hbx8⟩
        · go_wp2_with fail
          go_ret
          exact ⟨rfl, hbx8⟩
        · have hle := HCn.out hv hn
          clear hv hn
          generalize leastN l c p = r at *
          obtain ⟨rn, rl⟩ := r
          simp only at hle ⊢
          go_wp2_with fail
          go_ret
          exact ⟨rfl, hbx8⟩

end Go.Proofs.Ytcjejcbikgcnbaa

/- ScheduleChains: for every input the law returns true, and its arguments read as they did. -/
namespace Go.Proofs.Ytcjejcbikgcnbaa
open Go.ChangeShapes Go.WideShapes Go.ChangeAt Go.RowKit

set_option maxRecDepth 100000 in
theorem scheduleChains_lifted (os : Os) (started : os.Started) (H : Type) (enc : TypeId × Value → H) :
    ReturnsInHanded {} Try.checked os 8 .any (Rows.scheduleChainsSpec.pre6 enc Try.prog Try.f8 Rows.scheduleChainsRow.domain false) (Rows.scheduleChainsSpec.post enc Try.prog Try.f8 false true false false) := by
  refine law_lifted started (by kernel_rfl) Try.func8 rfl (by kernel_rfl) ?_ ?_ (ChangeSpec.witness6 (enc := enc) (C := Try.checked) false ⟨#[], #[.slice none 0 0, .int .i64 0, .int .i64 0], []⟩ 8 (by kernel_rfl) (by kernel_rfl) (by kernel_rfl) (by kernel_rfl)) ?_
  · rw [Try.params8]
    intro t ht
    simp only [List.mem_cons, List.not_mem_nil, or_false] at ht
    rcases ht with rfl | rfl | rfl <;> exact ⟨by kernel_rfl, of_decide_eq_true (by kernel_rfl)⟩
  · intro ds hds
    match ds, hds with
    | [d0, d1, d2], _ => exact ⟨rfl, rfl, rfl⟩
  · intro W base args ds ps hval hA
    rw [Try.params8] at hA hval
    obtain ⟨v0, vs0, d0, ds0, p0, q0, hargs, rfl, rfl, h0, r0⟩ := trodAll_cons hA
    obtain ⟨v1, vs1, d1, ds1, p1, q1, rfl, rfl, rfl, h1, r1⟩ := trodAll_cons r0
    obtain ⟨v2, vs2, d2, ds2, p2, q2, rfl, rfl, rfl, h2, r2⟩ := trodAll_cons r1
    obtain ⟨rfl, rfl, rfl⟩ := trodAll_nil r2
    obtain rfl : args = #[v0, v1, v2] := by cases args; simp_all
    obtain ⟨a0, n0, c0, rfl⟩ := okWide_slice Try.underlying22 (hval 0 22 v0 rfl rfl)
    obtain ⟨fuel0, hf0⟩ := h0
    obtain ⟨x0, hx0⟩ := tasks_of_trod hf0
    obtain ⟨x1, rfl, -, -, wf1⟩ := open_int Try.underlying3 (hval 1 3 v1 rfl rfl) h1
    clear wf1
    obtain ⟨x2, rfl, -, -, wf2⟩ := open_int Try.underlying3 (hval 2 3 v2 rfl rfl) h2
    clear wf2
    exact lawScheduleChains _ x0 x1 x2 W hx0

theorem scheduleChains_holds : Rows.ScheduleChainsSaid :=
  OpenClaim.holds_of_wide 8 Try.f8 rfl rfl rfl rfl rfl rfl rfl ⟨rfl, rfl, rfl, rfl, rfl⟩ rfl rfl rfl rfl rfl (by kernel_rfl) Try.func8 (by kernel_rfl)
    (of_decide_eq_true (by kernel_rfl)) (by unfold Func.isWrapper; first | (rw [if_pos (by decide +kernel)]; kernel_rfl) | (rw [if_neg (by decide +kernel)]; exact ⟨rfl, rfl⟩))
    (fun os started H enc _ => scheduleChains_lifted os started H enc)
#print axioms scheduleChains_holds

end Go.Proofs.Ytcjejcbikgcnbaa
