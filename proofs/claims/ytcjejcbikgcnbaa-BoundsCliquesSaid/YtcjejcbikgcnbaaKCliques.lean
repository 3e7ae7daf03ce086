/- For every input the law returns true, and its arguments read as they did: LawCliques, RowCliques. -/
import Derived.Test.YtcjejcbikgcnbaaG11
import Derived.Test.YtcjejcbikgcnbaaG7

/- The law BoundsCliques: the walk. -/
namespace Go.Proofs.Ytcjejcbikgcnbaa
open Go.RowKit Go.Shelf

theorem entersCqI : ∀ args w, (callFunc 59 args).run Try.prog w = .ok (.enter 59 args) w := enters_of Try.func59 (by kernel_rfl) rfl
theorem entersCqN : ∀ args w, (callFunc 60 args).run Try.prog w = .ok (.enter 60 args) w := enters_of Try.func60 (by kernel_rfl) rfl

set_option maxHeartbeats 1000000 in
theorem cqName (t : Task) (a : ByteArray) (D : Nat) (w : World) (hD : D < w.heap.size) (hc : w.cell? ⟨D, 0, none⟩ = some (.string a)) :
    Calls Try.prog 60 #[t.val, .pointer (some ⟨D, 0, none⟩)] w fun e w' => e = .returned (.bool (decide (t.name = a))) ∧ Below w.heap.size w w' := by
  have hbo : ∀ o, Below w.heap.size w (w.alloc o) := fun o => (Below.refl _ _).alloc (Nat.le_refl _) o
  obtain ⟨name, len, crew, pow, ba, bc, bef⟩ := t
  unfold Task.val
  simp only
  have hb : (name.toList == a.toList) = decide (name = a) := str_beq name a
  generalize decide (name = a) = q at *
  go_enter Try.func60, Try.ntmps60
  go_wp2
  go_ret
  exact ⟨rfl, hbo _⟩

set_option maxRecDepth 100000 in
set_option maxHeartbeats 1000000 in
theorem cqIndex (v : Value) (l : List Task) (a : ByteArray) (g : Nat) (w : World) (hl : TasksAt w w.heap.size v l) (hg : w.cell? ⟨g, 0, none⟩ = some v) :
    Calls Try.prog 59 #[.string a, .pointer (some ⟨g, 0, none⟩)] w fun e w' => e = .returned (.int .i64 (pl l a)) ∧ Below w.heap.size w w' := by
  have hbo : ∀ o, Below w.heap.size w (w.alloc o) := fun o => (Below.refl _ _).alloc (Nat.le_refl _) o
  have hlt := World.block_lt_of_cell? _ _ hg
  have hg' := (World.cell?_alloc_lt w (.cells #[.string a] 9) ⟨g, 0, none⟩ hlt).trans hg
  have hT := (hl.below (hbo (.cells #[.string a] 9)) (Nat.le_refl _)).mono (show w.heap.size ≤ (w.alloc (.cells #[.string a] 9)).heap.size by simp)
  have hI := indexFuncTask v l 60 #[.pointer (some ⟨w.heap.size, 0, none⟩)] (fun t => decide (t.name = a)) entersCqN _ hT (fun t ht w' hb => by
    have hsz := hb.size
    simp only [World.size_alloc] at hsz
    refine cqName t a w.heap.size w' (by omega) ?_
    rw [hb.cell (by simp)]
    simp)
  have HP : Hid (idxOf (l.findIdx? fun t => decide (t.name = a)) = pl l a) := rfl
  rw [HP.out] at hI
  generalize pl l a = x at *
  obtain ⟨A, cc, rfl, hA1, hA2, -⟩ := hl.open_
  unfold maxLen at hA2
  clear hl hT HP hg
  go_enter Try.func59, Try.ntmps59
  go_wp2_with (go_at_call 46; refine hI.mono ?_; rintro e w1 ⟨rfl, hb1⟩)
  go_ret
  exact ⟨rfl, (hbo _).trans (hb1.mono (by simp))⟩

theorem nms_len {l : List Task} {z : List Nat} : (nmsAt l z).length = z.length := by simp [nmsAt]
theorem nms_get {l : List Task} {z : List Nat} (hz : ∀ i ∈ z, i < l.length) {k : Nat} (hk : k < z.length) : (nmsAt l z)[k]'(by rw [nms_len]; exact hk) = (l[z[k]]'(hz _ (List.getElem_mem hk))).name := by
  have := hz _ (List.getElem_mem hk)
  simp [nmsAt, names, this]
theorem nms_fresh {l : List Task} (hR : RightT l) {z : List Nat} (hz : ∀ i ∈ z, i < l.length) (hn : z.Nodup) {k : Nat} (hk : k < z.length) : (nmsAt l z)[k]'(by rw [nms_len]; exact hk) ∉ (nmsAt l z).take k := by
  intro hm
  obtain ⟨j, hj, e⟩ := List.mem_take_iff_getElem.1 hm
  rw [nms_len] at hj
  rw [nms_get hz hk, nms_get hz (by omega)] at e
  have h1 := distinct_inj hR.dist (hz _ (List.getElem_mem (show j < z.length by omega))) (hz _ (List.getElem_mem hk)) e
  exact (List.pairwise_iff_getElem.1 hn) j k (by omega) hk (by omega) h1
theorem sumAt_take {l : List Task} {z : List Nat} {k : Nat} (hk : k < z.length) : sumAt l (z.take (k + 1)) = sumAt l (z.take k) + lenAt l z[k] := by rw [take_snoc z k hk, sumAt_snoc]
/-- The longest chain is no heavier than the heaviest clique. -/
theorem path_clique {l : List Task} {c p L K : Int} {y : List Nat} {s : Nat} (hR : RightT l) (hc : Covers l [l.length] L y) (hh : Heavy l c p (2 ^ l.length) K s) : L ≤ K := by
  rw [← hc.sum]
  refine heavy_all hh (hc.chain.nodup hR) hc.chain.1 fun i hi k hk hik => ?_
  obtain ⟨a, ha, rfl⟩ := List.mem_iff_getElem.1 hi
  obtain ⟨b, hb, rfl⟩ := List.mem_iff_getElem.1 hk
  have hreach : ∀ a b, (hab : a < b) → (hb : b < y.length) → reach l (y[a]'(by omega)) y[b] := by
    intro a b hab hb
    induction b with
    | zero => omega
    | succ b ih =>
      have he := hc.chain.2 b hb
      by_cases e : a = b
      · subst e; exact reach_one he
      · exact reach_trans (ih (by omega) (by omega)) (reach_one he)
  refine ⟨hc.chain.1 _ hi, hc.chain.1 _ hk, ?_⟩
  have hab : a ≠ b := fun e => hik (by subst e; rfl)
  rcases Nat.lt_or_gt_of_ne hab with h | h
  · exact .inl (hreach a b h hb)
  · exact .inr (.inl (hreach b a h ha))

set_option maxRecDepth 100000 in
set_option maxHeartbeats 8000000 in
theorem lawBoundsCliques (v : Value) (l : List Task) (c p : Int) (w : World) (hl : TasksAt w w.heap.size v l) :
    Calls Try.prog 13 #[v, .int .i64 c, .int .i64 p] w fun e w' => e = .returned (.bool true) ∧ Below w.heap.size w w' := by
  have hb0 : ∀ o, Below w.heap.size w (w.alloc o) := fun o => (Below.refl _ _).alloc (Nat.le_refl _) o
  have hA := fun o => lawAwake (w.alloc o)
  have HT : Hid (∀ w1, Below w.heap.size w w1 → TasksAt w1 w1.heap.size v l) := fun w1 hb => (hl.below hb (Nat.le_refl _)).mono hb.size
  have hRt := fun w1 hb => lawRight v l c p w1 (HT.out w1 hb)
  have HCq : Hid (∀ w1, Below w.heap.size w w1 → Calls Try.prog 24 #[v, .int .i64 c, .int .i64 p] w1 (CliquePost l c p w1)) := fun w1 hb => boundsClique v l c p w1 (HT.out w1 hb)
  have HPa : Hid (∀ w1, Below w.heap.size w w1 → Calls Try.prog 18 #[v] w1 (PathPost l w1)) := fun w1 hb => boundsPath v l w1 (HT.out w1 hb)
  have HLe : Hid (∀ w1, Below w.heap.size w w1 → Calls Try.prog 41 #[v, .int .i64 c, .int .i64 p] w1 (LeastPost l c p w1)) := fun w1 hb => schedLeast v l c p w1 (HT.out w1 hb)
  obtain ⟨A, cc, rfl, hA1, hA2, -⟩ := hl.open_
  unfold maxLen at hA2
  have HB3 := Lib.hid (Blk.new w 22 #[.slice A l.length cc])
  clear hl
  cases hlg : smallB l c p with
  | false =>
    rw [hlg] at hRt
    clear hlg
    go_enter Try.func13, Try.ntmps13
    go_wp2_with (first
      | (go_at_call 16; refine (hA _).mono ?_; rintro e w1 ⟨rfl, hb1⟩; have hbx := (hb0 (.cells #[.slice A l.length cc] 22)).trans (hb1.mono (by simp)); have z1 := (HB3.out.below hb1 HB3.out.lt).cell 0; simp only [List.getElem?_toArray, List.getElem?_cons_zero] at z1)
      | (go_at_call 30; refine (hRt _ hbx).mono ?_; rintro e w2 ⟨rfl, hb2⟩))
    go_ret
    exact ⟨rfl, hbx.trans (hb2.mono hbx.size)⟩
  | true =>
    obtain ⟨h6, hg⟩ := smallB_yes hlg
    rw [hlg] at hRt
    clear hlg
    have Hg := Lib.hid hg
    have hv := given_valid hg
    have hgl := given_lims hg
    have hfit : l.any (tooMuch c p) = false := by
      have := givenN_no hv
      rw [hg] at this
      cases hq : l.any (tooMuch c p) with
      | false => rfl
      | true => rw [hq] at this; simp at this
    have Hv := Lib.hid hv
    have Hfit := Lib.hid hfit
    have HR := Lib.hid hgl.1
    have HCp := Lib.hid hgl.2
    clear hg hv hfit hgl
    go_enter Try.func13, Try.ntmps13
    go_wp2_with (first
      | (go_at_call 16; refine (hA _).mono ?_; rintro e w1 ⟨rfl, hb1⟩; have hbx := (hb0 (.cells #[.slice A l.length cc] 22)).trans (hb1.mono (by simp)); have HB31 := Lib.hid (HB3.out.below hb1 HB3.out.lt); have z1 := HB31.out.cell 0; simp only [List.getElem?_toArray, List.getElem?_cons_zero] at z1)
      | (go_at_call 30; refine (hRt _ hbx).mono ?_; rintro e w2 ⟨rfl, hb2⟩; clear z1; have HB32 := Lib.hid (HB31.out.below hb2 HB31.out.lt); have z1 := HB32.out.cell 0; simp only [List.getElem?_toArray, List.getElem?_cons_zero] at z1; have hbx2 := hbx.trans (hb2.mono hbx.size)))
    refine (HCq.out _ hbx2).mono ?_
    rintro e w3 ⟨hb3, hpost⟩
    rcases hpost with ⟨hno, _⟩ | ⟨_, K, s, v3, hh, rfl, hown3⟩
    · exact absurd Hg.out hno
    have hbx3 := hbx2.trans (hb3.mono hbx2.size)
    have HB33 := Lib.hid (HB32.out.below hb3 HB32.out.lt)
    have HS3 : Hid (StrsAt w3 w3.heap.size v3 (nmsAt l (memb s l.length))) := RowAt.of_own hown3
    have Hh := Lib.hid hh
    clear z1 HB31 HB32 hb1 hb2 hb3 hown3 hh hA hRt
    have z1 := HB33.out.cell 0
    simp only [List.getElem?_toArray, List.getElem?_cons_zero] at z1
    go_wp2_with fail
    refine (HPa.out _ hbx3).mono ?_
    rintro e w4 ⟨hb4, hpost⟩
    rcases hpost with ⟨hno, _⟩ | ⟨_, L, y, v4, hc, rfl, hown4⟩
    · rw [(right_iff l).2 HR.out] at hno; cases hno
    have hbx4 := hbx3.trans (hb4.mono hbx3.size)
    have HB34 := Lib.hid (HB33.out.below hb4 HB33.out.lt)
    have HS34 : Hid (StrsAt w4 w4.heap.size v3 (nmsAt l (memb s l.length))) := (HS3.out.below hb4 (Nat.le_refl _)).mono hb4.size
    have HS4 : Hid (StrsAt w4 w4.heap.size v4 (nmsAt l y)) := RowAt.of_own (n := y.length) hown4
    have Hc := Lib.hid hc
    clear z1 HB33 HS3 hb4 hown4 hc
    have z1 := HB34.out.cell 0
    simp only [List.getElem?_toArray, List.getElem?_cons_zero] at z1
    go_wp2_with fail
    refine (HLe.out _ hbx4).mono ?_
    rintro e w5 ⟨hb5, hpost⟩
    rcases hpost with ⟨hno, _⟩ | ⟨_, hno, _⟩ | ⟨_, _, A7, cap7, rfl, hown7⟩
    · rw [Hv.out] at hno; cases hno
    · rw [Hfit.out] at hno; cases hno
    have hbx5 := hbx4.trans (hb5.mono hbx4.size)
    obtain ⟨k1, k2, k3, k4⟩ := least_keeps HR.out HCp.out Hfit.out
    have HB35 := Lib.hid (HB34.out.below hb5 HB34.out.lt)
    have HS35 : Hid (StrsAt w5 w5.heap.size v3 (nmsAt l (memb s l.length))) := (HS34.out.below hb5 (Nat.le_refl _)).mono hb5.size
    have HS45 : Hid (StrsAt w5 w5.heap.size v4 (nmsAt l y)) := (HS4.out.below hb5 (Nat.le_refl _)).mono hb5.size
    have HI5 : Hid (IntsAt w5 w5.heap.size (.slice A7 (leastN l c p).2.length cap7) (leastN l c p).2) := RowAt.of_own hown7
    have hLK := path_clique HR.out Hc.out Hh.out
    have HAp : Hid (∀ i k, i ∈ memb s l.length → k ∈ memb s l.length → i ≠ k → endN l (leastN l c p).2 i ≤ atI (leastN l c p).2 k ∨ endN l (leastN l c p).2 k ≤ atI (leastN l c p).2 i) := fun i k hi hk hik => by
      obtain ⟨h1, h2⟩ := keeps_facts k2 k1
      exact excl_apart HR.out k2 (fun i hi => by rw [atI_get (by omega)]; exact (k3 _ (List.getElem_mem _)).1) h1 h2 hik (heavy_apart Hh.out i hi k hk hik)
    have HSb : Hid (∀ i, i < l.length → 0 ≤ atI (leastN l c p).2 i ∧ atI (leastN l c p).2 i ≤ 80000) := fun i hi => by rw [atI_get (by omega)]; exact k3 _ (List.getElem_mem _)
    have hznd := nodup_memb s l.length
    have hzlt : ∀ i ∈ memb s l.length, i < l.length := fun i hi => (mem_memb.1 hi).1
    have hzsum := Hh.out.sum
    have hynd := Hc.out.chain.nodup HR.out
    have hylt := Hc.out.chain.1
    have hysum := Hc.out.sum
    have hyedge := Hc.out.chain.2
    have hzl : (memb s l.length).length ≤ l.length := by
      have := List.Nodup.length_le_of_subset hznd (l₂ := List.range l.length) (fun i hi => List.mem_range.2 (hzlt i hi))
      simpa using this
    have hyl := Hc.out.chain.short HR.out
    have HZ : Hid ((memb s l.length).Nodup ∧ (∀ i ∈ memb s l.length, i < l.length) ∧ sumAt l (memb s l.length) = K) := ⟨hznd, hzlt, hzsum⟩
    have HY : Hid (y.Nodup ∧ (∀ i ∈ y, i < l.length) ∧ sumAt l y = L ∧ ∀ j (h : j + 1 < y.length), edge l (y[j]'(by omega)) y[j + 1]) := ⟨hynd, hylt, hysum, hyedge⟩
    have HN3 : Hid ((nmsAt l (memb s l.length)).length = (memb s l.length).length) := nms_len
    have HN4 : Hid ((nmsAt l y).length = y.length) := nms_len
    have hKb := sumAt_bd HR.out (memb s l.length)
    have hLb := sumAt_bd HR.out y
    rw [hzsum] at hKb
    rw [hysum] at hLb
    have HCap7 : Hid (l.length ≤ cap7) := by
      obtain ⟨A', c', e', e1, -, -⟩ := HI5.out.open_
      injection e' with _ _ e5
      unfold Hid
      omega
    have e3 := HS35.out.open_
    have e4 := HS45.out.open_
    have e5 := HI5.out.open_
    obtain ⟨A3, cap3, ev3, hc31, hc32, -⟩ := e3
    obtain ⟨A4, cap4, ev4, hc41, hc42, -⟩ := e4
    obtain ⟨A7', cap7', ee, hc71, hc72, -⟩ := e5
    rw [HN3.out] at ev3 hc31
    rw [HN4.out] at ev4 hc41
    rw [k2] at ee hc71 HI5 ⊢
    subst ev3 ev4
    injection ee with ee1 _ ee3
    subst ee1 ee3
    unfold maxLen at hc32 hc42 hc72
    clear z1 HB34 HS34 HS4 hb5 hown7 k1 k3 k4 hznd hzlt hzsum hynd hylt hysum hyedge Hh Hc
    generalize hz : memb s l.length = z at *
    clear hz
    generalize hS : (leastN l c p).2 = S at *
    clear hS
    have z1 := HB35.out.cell 0
    simp only [List.getElem?_toArray, List.getElem?_cons_zero] at z1
    have hlc : decide (K < L) = false := by simpa using hLK
    go_wp2_with fail
    generalize (leastN l c p).1 = n0 at *
    have HXz : Hid (∀ w', Below w5.heap.size w5 w' → StrsAt w' w'.heap.size (.slice A3 z.length cap3) (nmsAt l z)) := fun w' hb => (HS35.out.below hb (Nat.le_refl _)).mono hb.size
    have HXy : Hid (∀ w', Below w5.heap.size w5 w' → StrsAt w' w'.heap.size (.slice A4 y.length cap4) (nmsAt l y)) := fun w' hb => (HS45.out.below hb (Nat.le_refl _)).mono hb.size
    have HTw : Hid (∀ w', Below w5.heap.size w5 w' → TasksAt w' w'.heap.size (.slice A l.length cc) l) := fun w' hb => HT.out w' (hbx5.trans (hb.mono hbx5.size))
    have HB3w : Hid (∀ w', Below w5.heap.size w5 w' → w'.cell? ⟨w.heap.size, 0, none⟩ = some (.slice A l.length cc)) := fun w' hb => (HB35.out.below hb HB35.out.lt).cell 0
    have HSc : Hid (∀ w', Below w5.heap.size w5 w' → ∀ i, i < l.length → ∃ b off, A7 = some ⟨b, off, none⟩ ∧ w'.cell? ⟨b, off + i, none⟩ = some (.int .i64 (atI S i))) := fun w' hb i hi => by
      obtain ⟨A', c', e', e1, e2, e3⟩ := (HI5.out.below hb (Nat.le_refl _)).open_
      injection e' with e4 _ e5
      subst e4 e5
      obtain ⟨b, off, ea, hlt, hc⟩ := e3 i (by omega)
      exact ⟨b, off, ea, by rw [atI_get (by omega)]; exact hc i (by omega)⟩
    have HIx : Hid (∀ i (hi : i < l.length) w', Below w5.heap.size w5 w' → Calls Try.prog 59 #[.string l[i].name, .pointer (some ⟨w.heap.size, 0, none⟩)] w' fun e w'' => e = .returned (.int .i64 i) ∧ Below w'.heap.size w' w'') := fun i hi w' hb => by
      have := cqIndex _ l l[i].name w.heap.size w' (HTw.out w' hb) (HB3w.out w' hb)
      rwa [pl_name HR.out.dist hi] at this
    have HLb : Hid (∀ i, 0 ≤ lenAt l i ∧ lenAt l i ≤ 10000) := fun i => lenAt_bd HR.out i
    have HSm : Hid (∀ x : List Nat, 0 ≤ sumAt l x ∧ sumAt l x ≤ 10000 * x.length) := fun x => sumAt_bd HR.out x
    have eg := entersCqI
    have hRT := HR.out
    have HFz : Hid (∀ k (hk : k < z.length), (nmsAt l z)[k]'(by rw [nms_len]; exact hk) ∉ (nmsAt l z).take k) := fun k hk => nms_fresh hRT HZ.out.2.1 HZ.out.1 hk
    clear hRT z1 HS35 HS45 HI5 HB35 hc31 hc41 hc71 HN3 HN4 hlc hLK
    clear k2
    have hz8 : z.length ≤ 6 := by omega
    have hy8 : y.length ≤ 6 := by omega
    have hcz := (HXz.out w5 (Below.refl _ _)).open_
    have hcy := (HXy.out w5 (Below.refl _ _)).open_
    obtain ⟨A3', cap3', ev3, hcz1, -, -⟩ := hcz
    obtain ⟨A4', cap4', ev4, hcy1, -, -⟩ := hcy
    rw [nms_len] at ev3 hcz1 ev4 hcy1
    injection ev3 with e31 _ e33
    injection ev4 with e41 _ e43
    subst e31 e33 e41 e43
    have hcap7 := HCap7.out
    clear HCap7
    go_loopw [81, 17] (fun ix sv wr => ∃ k : Nat, k ≤ z.length ∧ ix = .int .i64 k ∧ sv = .int .i64 (sumAt l (z.take k)) ∧ Below w5.heap.size w5 wr) (fun ix _ _ => z.length - (intOf ix).toNat)
    case atStart => exact ⟨0, Nat.zero_le _, rfl, rfl, Below.refl _ _⟩
    case round =>
      obtain ⟨k, hk, rfl, rfl, hbel⟩ := hrel
      by_cases hkl : k < z.length
      · have hx := HZ.out.2.1 _ (List.getElem_mem hkl)
        have hnm : (nmsAt l z)[k]'(by rw [nms_len]; exact hkl) = l[z[k]].name := nms_get HZ.out.2.1 hkl
        obtain ⟨A', c', e', e1, e2, e3⟩ := (HXz.out wr hbel).open_
        rw [nms_len] at e'
        injection e' with e4 _ e5
        subst e4 e5
        obtain ⟨bn, offn, rfl, hbn, hcn⟩ := e3 k (by rw [nms_len]; exact hkl)
        have n1 := hcn k (by rw [nms_len]; exact hkl)
        rw [hnm] at n1
        have hI := HIx.out z[k] hx wr hbel
        have hCon : ∀ w', Below w5.heap.size w5 w' → Calls Try.prog 48 #[.slice (some ⟨bn, offn, none⟩) k cap3, .string l[z[k]].name] w' fun e w'' => e = .returned (.bool false) ∧ w' = w'' := fun w' hb => by
          have h1 : RowAt (Value.string) w' w'.heap.size (.slice (some ⟨bn, offn, none⟩) z.length cap3) (nmsAt l z) := HXz.out w' hb
          have := containsStr _ _ l[z[k]].name _ w' (RowAt.take h1 k (by rw [nms_len]; omega))
          rwa [decide_eq_false (by rw [← hnm]; exact HFz.out k hkl)] at this
        have HCon := Lib.hid hCon
        have HSum : Hid (sumAt l (z.take (k + 1)) = sumAt l (z.take k) + lenAt l z[k]) := sumAt_take hkl
        have hsb := HSm.out (z.take k)
        have hlb := HLb.out z[k]
        rw [List.length_take] at hsb
        have HLx := Lib.hid (lenAt_eq hx)
        have HZm : Hid (z[k] ∈ z) := List.getElem_mem hkl
        have HZd : Hid (∀ m (hm : m < k), z[k] ≠ z[m]'(by omega)) := fun m hm e => (List.pairwise_iff_getElem.1 HZ.out.1) m k (by omega) hkl hm e.symm
        clear e1 e2 e3 hcn hnm hCon
        have i3 : (0 : Int) ≤ (k : Int) := Int.natCast_nonneg _
        have i4 : (k : Int) < (z.length : Int) := by omega
        have i5 : (k : Int) ≤ (cap3 : Int) := by omega
        have hsz := hbel.size
        obtain ⟨w8, rfl⟩ : ∃ w8 : World, w8 = wr := ⟨_, rfl⟩
        go_wp2_with (go_at_fn 59; refine hI.mono ?_; rintro e w6 ⟨rfl, hb6⟩)
        have hb56 : Below w5.heap.size w5 w6 := hbel.trans (hb6.mono hbel.size)
        have hC6 := HCon.out w6 hb56
        have z6 := HB3w.out w6 hb56
        obtain ⟨b0, off0, rfl, hb0, hct⟩ := (HTw.out w6 hb56).cells hx
        obtain ⟨-, t1, -, -, -⟩ := hct _ hx
        rw [← HLx.out] at t1
        clear hct hI hb6
        generalize hxe : z[k] = x at *
        have Hxe := Lib.hid hxe
        clear hxe
        have hx0 : (0 : Int) ≤ (x : Int) := Int.natCast_nonneg _
        have hx1 : (x : Int) < (l.length : Int) := by omega
        have w1 : IntKind.i64.wrap (sumAt l (z.take k) + lenAt l x) = sumAt l (z.take k) + lenAt l x := IntWalk.i64_in _ (by omega)
        go_wp2_with (go_at_call 48; refine hC6.mono ?_; rintro e w7 ⟨rfl, rfl⟩)
        clear hC6 z6 w1 hsb hlb n1 t1
        obtain ⟨bS, offS, rfl, -⟩ := HSc.out w6 hb56 x hx
        have hlx := HLb.out x
        have HEn : Hid (endN l S x = atI S x + lenAt l x) := rfl
        generalize lenAt l x = lx at *
        go_loopw [109] (fun ix wr => ∃ m : Nat, m ≤ k ∧ ix = .int .i64 m ∧ Below w5.heap.size w5 wr) (fun ix _ => k - (intOf ix).toNat)
        case atStart => exact ⟨0, Nat.zero_le _, rfl, hb56⟩
        case round =>
          clear hb56
          obtain ⟨m, hm, rfl, hbm⟩ := hrel
          by_cases hmk : m < k
          · have hmz : m < z.length := by omega
            have hy := HZ.out.2.1 _ (List.getElem_mem hmz)
            have hnm : (nmsAt l z)[m]'(by rw [nms_len]; exact hmz) = l[z[m]].name := nms_get HZ.out.2.1 hmz
            obtain ⟨A', c', e', e1, e2, e3⟩ := (HXz.out wr hbm).open_
            rw [nms_len] at e'
            injection e' with e4 _ e5
            subst e4 e5
            obtain ⟨bn', offn', e6, hbn', hcn⟩ := e3 m (by rw [nms_len]; exact hmz)
            injection e6 with e6
            injection e6 with e7 e8 _
            subst e7 e8
            have n1 := hcn m (by rw [nms_len]; exact hmz)
            rw [hnm] at n1
            have hI := HIx.out z[m] hy wr hbm
            have hdis := HAp.out x z[m] HZm.out (List.getElem_mem hmz) (HZd.out m hmk)
            clear e1 e2 e3 hcn hnm
            generalize hye : z[m] = y1 at *
            have Hye := Lib.hid hye
            clear hye
            have hy0 : (0 : Int) ≤ (y1 : Int) := Int.natCast_nonneg _
            have hy1 : (y1 : Int) < (l.length : Int) := by omega
            have i6 : (0 : Int) ≤ (m : Int) := Int.natCast_nonneg _
            have i7 : (m : Int) < (k : Int) := by omega
            obtain ⟨w7, rfl⟩ : ∃ w7 : World, w7 = wr := ⟨_, rfl⟩
            go_wp2_with (go_at_fn 59; refine hI.mono ?_; rintro e w9 ⟨rfl, hb9⟩)
            have hb59 : Below w5.heap.size w5 w9 := hbm.trans (hb9.mono hbm.size)
            obtain ⟨b', off', e', s1⟩ := HSc.out w9 hb59 x hx
            injection e' with e'
            injection e' with e7 e8 _
            subst e7 e8
            obtain ⟨b', off', e', s2⟩ := HSc.out w9 hb59 y1 hy
            injection e' with e'
            injection e' with e7 e8 _
            subst e7 e8
            have z9 := HB3w.out w9 hb59
            obtain ⟨b', off', e', -, hct⟩ := (HTw.out w9 hb59).cells hx
            injection e' with e'
            injection e' with e7 e8 _
            subst e7 e8
            obtain ⟨-, t1, -, -, -⟩ := hct _ hx
            obtain ⟨-, t2, -, -, -⟩ := hct _ hy
            rw [← HLx.out] at t1
            rw [← lenAt_eq hy] at t2
            have hsx := HSb.out x hx
            have hsy := HSb.out y1 hy
            have hly := HLb.out y1
            rw [HEn.out] at hdis
            unfold endN at hdis
            clear hct hI hb9 n1
            generalize atI S x = sx at *
            generalize atI S y1 = sy at *
            generalize lenAt l y1 = ly at *
            have w1 : IntKind.i64.wrap (sx + lx) = sx + lx := IntWalk.i64_in _ (by omega)
            have w2 : IntKind.i64.wrap (sy + ly) = sy + ly := IntWalk.i64_in _ (by omega)
            by_cases c1 : sx < sy + ly
            · have d1 : decide (sx < sy + ly) = true := by simpa using c1
              have d2 : decide (sy < sx + lx) = false := decide_eq_false (by omega)
              clear c1 hdis
              go_quiet (fail)
              go_wp2
              go_roundw
              case rel => exact ⟨m + 1, by omega, by go_num, below_drewN hb59 _⟩
              case measure => simp [intOf]; omega
            · have d1 : decide (sx < sy + ly) = false := by simpa using c1
              clear c1 hdis
              go_quiet (fail)
              go_wp2
              go_roundw
              case rel => exact ⟨m + 1, by omega, by go_num, below_drewN hb59 _⟩
              case measure => simp [intOf]; omega
          · have hme : m = k := by omega
            subst hme
            go_wp2_with fail
            go_roundw
            case rel => exact ⟨m + 1, by omega, by go_num, by rw [HSum.out], hbm⟩
            case measure => simp [intOf]; omega
      · have hke : k = z.length := by omega
        subst hke
        rw [List.take_length, HZ.out.2.2]
        have hne : (K != K) = false := by simp
        go_wp2_with fail
        go_loopw [155, 17] (fun ix sv wr => ∃ k : Nat, k ≤ y.length ∧ ix = .int .i64 k ∧ sv = .int .i64 (sumAt l (y.take k)) ∧ Below w5.heap.size w5 wr) (fun ix _ _ => y.length - (intOf ix).toNat)
        case atStart => exact ⟨0, Nat.zero_le _, rfl, rfl, hbel⟩
        case round =>
          clear hbel
          obtain ⟨k, hk, rfl, rfl, hbel⟩ := hrel
          by_cases hkl : k < y.length
          · have hx := HY.out.2.1 _ (List.getElem_mem hkl)
            have hnm : (nmsAt l y)[k]'(by rw [nms_len]; exact hkl) = l[y[k]].name := nms_get HY.out.2.1 hkl
            obtain ⟨A', c', e', e1, e2, e3⟩ := (HXy.out wr hbel).open_
            rw [nms_len] at e'
            injection e' with e4 _ e5
            subst e4 e5
            obtain ⟨bn, offn, rfl, hbn, hcn⟩ := e3 k (by rw [nms_len]; exact hkl)
            have n1 := hcn k (by rw [nms_len]; exact hkl)
            rw [hnm] at n1
            have hI := HIx.out y[k] hx wr hbel
            have HSum : Hid (sumAt l (y.take (k + 1)) = sumAt l (y.take k) + lenAt l y[k]) := sumAt_take hkl
            have hsb := HSm.out (y.take k)
            have hlb := HLb.out y[k]
            rw [List.length_take] at hsb
            have HLx := Lib.hid (lenAt_eq hx)
            have HEd : Hid (∀ m (hm : m + 1 = k), (l[y[m]'(by omega)]'(HY.out.2.1 _ (List.getElem_mem (by omega)))).name ∈ l[y[k]].bef) := fun m hm => by
              subst hm
              obtain ⟨_, _, h⟩ := HY.out.2.2.2 m hkl
              exact h
            have i3 : (0 : Int) ≤ (k : Int) := Int.natCast_nonneg _
            have i4 : (k : Int) < (y.length : Int) := by omega
            have hsz := hbel.size
            obtain ⟨w8, rfl⟩ : ∃ w8 : World, w8 = wr := ⟨_, rfl⟩
            go_wp2_with (go_at_fn 59; refine hI.mono ?_; rintro e w6 ⟨rfl, hb6⟩)
            have hb56 : Below w5.heap.size w5 w6 := hbel.trans (hb6.mono hbel.size)
            have z6 := HB3w.out w6 hb56
            obtain ⟨b0, off0, rfl, hb0, hct⟩ := (HTw.out w6 hb56).cells hx
            obtain ⟨-, t1, -, -, t4⟩ := hct _ hx
            rw [← HLx.out] at t1
            have hbf := (HTw.out w6 hb56).bef hx
            have HNm : Hid (∀ m (hm : m + 1 = k), w6.cell? ⟨bn, offn + m, none⟩ = some (.string (l[y[m]'(by omega)]'(HY.out.2.1 _ (List.getElem_mem (by omega)))).name)) := fun m hm => by
              obtain ⟨A', c', e', -, -, e3⟩ := (HXy.out w6 hb56).open_
              injection e' with e' _ _
              obtain ⟨bn', offn', e6, -, hcn⟩ := e3 m (by rw [nms_len]; omega)
              rw [← e'] at e6
              injection e6 with e6
              injection e6 with e7 e8 _
              subst e7 e8
              have := hcn m (by rw [nms_len]; omega)
              rwa [nms_get HY.out.2.1 (by omega)] at this
            clear hct hI hb6 e1 e2 e3 hcn hnm n1
            generalize y[k] = x at *
            have hx0 : (0 : Int) ≤ (x : Int) := Int.natCast_nonneg _
            have hx1 : (x : Int) < (l.length : Int) := by omega
            generalize lenAt l x = lx at *
            have w1 : IntKind.i64.wrap (sumAt l (y.take k) + lx) = sumAt l (y.take k) + lx := IntWalk.i64_in _ (by omega)
            have dx : decide ((x : Int) < 0) = false := decide_eq_false (by omega)
            by_cases hk0 : k = 0
            · have d1 : decide (0 < k) = false := by subst hk0; rfl
              clear hk0
              go_wp2_with fail
              go_quiet (fail)
              go_wp2_with fail
              go_roundw
              case rel => exact ⟨k + 1, by omega, by go_num, by rw [HSum.out], below_drewN hb56 _⟩
              case measure => simp [intOf]; omega
            · have d1 : decide (0 < k) = true := decide_eq_true (by omega)
              have n1 := HNm.out (k - 1) (by omega)
              have hmem := HEd.out (k - 1) (by omega)
              generalize (l[y[k - 1]'(by omega)]'(HY.out.2.1 _ (List.getElem_mem (by omega)))).name = nm at *
              have hC := fun q => containsStr l[x].bv l[x].bef nm w6.heap.size (w6.drewN q) (RowAt.below hbf (below_drewN (Below.refl w6.heap.size w6) q) (Nat.le_refl _))
              rw [decide_eq_true hmem] at hC
              have hC := fun q => quiet_left (hC q)
              unfold Task.bv at hC
              have e1 : ((k : Int) - 1).toNat = k - 1 := by omega
              have i7 : (0 : Int) ≤ (k : Int) - 1 := by omega
              have i8 : (k : Int) - 1 < (y.length : Int) := by omega
              clear hk0 hmem hbf
              go_wp2_with fail
              go_quiet ((go_at_call 48; exact hC _))
              go_wp2_with fail
              go_roundw
              case rel => exact ⟨k + 1, by omega, by go_num, by rw [HSum.out], below_drewN hb56 _⟩
              case measure => simp [intOf]; omega
          · have hke : k = y.length := by omega
            subst hke
            rw [List.take_length, HY.out.2.2.1]
            have hee : (L == L) = true := by simp
            go_wp2_with fail
            go_ret
            exact ⟨rfl, hbx5.trans (hbel.mono hbx5.size)⟩

end Go.Proofs.Ytcjejcbikgcnbaa

/- BoundsCliques: for every input the law returns true, and its arguments read as they did. -/
namespace Go.Proofs.Ytcjejcbikgcnbaa
open Go.ChangeShapes Go.WideShapes Go.ChangeAt Go.RowKit

set_option maxRecDepth 100000 in
theorem boundsCliques_lifted (os : Os) (started : os.Started) (H : Type) (enc : TypeId × Value → H) :
    ReturnsInHanded {} Try.checked os 13 .any (Rows.boundsCliquesSpec.pre6 enc Try.prog Try.f13 Rows.boundsCliquesRow.domain false) (Rows.boundsCliquesSpec.post enc Try.prog Try.f13 false true false false) := by
  refine law_lifted started (by kernel_rfl) Try.func13 rfl (by kernel_rfl) ?_ ?_ (ChangeSpec.witness6 (enc := enc) (C := Try.checked) false ⟨#[], #[.slice none 0 0, .int .i64 0, .int .i64 0], []⟩ 8 (by kernel_rfl) (by kernel_rfl) (by kernel_rfl) (by kernel_rfl)) ?_
  · rw [Try.params13]
    intro t ht
    simp only [List.mem_cons, List.not_mem_nil, or_false] at ht
    rcases ht with rfl | rfl | rfl <;> exact ⟨by kernel_rfl, of_decide_eq_true (by kernel_rfl)⟩
  · intro ds hds
    match ds, hds with
    | [d0, d1, d2], _ => exact ⟨rfl, rfl, rfl⟩
  · intro W base args ds ps hval hA
    rw [Try.params13] at hA hval
    obtain ⟨v0, vs0, d0, ds0, p0, q0, hargs, rfl, rfl, h0, r0⟩ := trodAll_cons hA
    obtain ⟨v1, vs1, d1, ds1, p1, q1, rfl, rfl, rfl, h1, r1⟩ := trodAll_cons r0
    obtain ⟨v2, vs2, d2, ds2, p2, q2, rfl, rfl, rfl, h2, r2⟩ := trodAll_cons r1
    obtain ⟨rfl, rfl, rfl⟩ := trodAll_nil r2
    obtain rfl : args = #[v0, v1, v2] := by cases args; simp_all
    obtain ⟨a0, n0, c0, rfl⟩ := okWide_slice Try.underlying22 (hval 0 22 v0 rfl rfl)
    obtain ⟨fuel0, hf0⟩ := h0
    obtain ⟨x0, hx0⟩ := tasks_of_trod hf0
    obtain ⟨x1, rfl, -, -, wf1⟩ := open_int Try.underlying3 (hval 1 3 v1 rfl rfl) h1
    clear wf1
    obtain ⟨x2, rfl, -, -, wf2⟩ := open_int Try.underlying3 (hval 2 3 v2 rfl rfl) h2
    clear wf2
    exact lawBoundsCliques _ x0 x1 x2 W hx0

theorem boundsCliques_holds : Rows.BoundsCliquesSaid :=
  OpenClaim.holds_of_wide 13 Try.f13 rfl rfl rfl rfl rfl rfl rfl ⟨rfl, rfl, rfl, rfl, rfl⟩ rfl rfl rfl rfl rfl (by kernel_rfl) Try.func13 (by kernel_rfl)
    (of_decide_eq_true (by kernel_rfl)) (by unfold Func.isWrapper; first | (rw [if_pos (by decide +kernel)]; kernel_rfl) | (rw [if_neg (by decide +kernel)]; exact ⟨rfl, rfl⟩))
    (fun os started H enc _ => boundsCliques_lifted os started H enc)
#print axioms boundsCliques_holds

end Go.Proofs.Ytcjejcbikgcnbaa
