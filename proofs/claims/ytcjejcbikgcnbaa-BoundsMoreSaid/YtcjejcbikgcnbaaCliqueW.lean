/- bounds.Clique: the walk. -/
import Derived.Test.YtcjejcbikgcnbaaBits
import Derived.Deep.LoopGhost
import Derived.WalkMore
namespace Go.Proofs.Ytcjejcbikgcnbaa
open Go.RowKit Go.Shelf

/-- What Clique leaves. -/
def CliquePost (l : List Task) (c p : Int) (w : World) (e : Ending) (w' : World) : Prop :=
  Below w.heap.size w w' ∧ (givenN l c p ≠ 0 ∧ e = .returned (.tuple #[.int .i64 0, .slice none 0 0, .int .i64 (givenN l c p)]) ∨
    givenN l c p = 0 ∧ ∃ (L : Int) (s : Nat) (v : Value), Heavy l c p (2 ^ l.length) L s ∧ e = .returned (.tuple #[.int .i64 L, v, .int .i64 0]) ∧ w'.ownsRow w.heap.size 9 1 v (memb s l.length).length ((nmsAt l (memb s l.length)).map Value.string))
theorem enters76 : ∀ args w, (callFunc 76 args).run Try.prog w = .ok (.enter 76 args) w := enters_of Try.func76 (by kernel_rfl) rfl

set_option maxRecDepth 100000 in
set_option maxHeartbeats 4000000 in
theorem boundsClique (v : Value) (l : List Task) (c p : Int) (w : World) (hl : TasksAt w w.heap.size v l) :
    Calls Try.prog 24 #[v, .int .i64 c, .int .i64 p] w (CliquePost l c p w) := by
  have HL := Lib.hid hl
  obtain ⟨A, cc, rfl, hA1, hA2, -⟩ := hl.open_
  unfold maxLen at hA2
  clear hl
  have hb0 : ∀ o1 o2 o3, Below w.heap.size w (((w.alloc o1).alloc o2).alloc o3) := fun o1 o2 o3 => (((Below.refl _ _).alloc (Nat.le_refl _) o1).alloc (by simp) o2).alloc (by simp; omega) o3
  have hG : ∀ o1 o2 o3, Calls Try.prog 72 #[.slice A l.length cc, .int .i64 c, .int .i64 p] (((w.alloc o1).alloc o2).alloc o3) fun e w' => e = .returned (.int .i64 (givenN l c p)) ∧ Below (((w.alloc o1).alloc o2).alloc o3).heap.size (((w.alloc o1).alloc o2).alloc o3) w' := fun o1 o2 o3 =>
    boundsGiven _ l c p _ ((HL.out.below (hb0 o1 o2 o3) (Nat.le_refl _)).mono (by simp; omega))
  have q0 : (((w.alloc (.cells #[.slice A l.length cc] 22)).alloc (.cells #[.int .i64 c] 3)).alloc (.cells #[.int .i64 p] 3)).cell? ⟨w.heap.size, 0, none⟩ = some (.slice A l.length cc) := by
    rw [World.cell?_alloc_lt _ _ _ (by simp; omega), World.cell?_alloc_lt _ _ _ (by simp), World.cell?_alloc_new]; rfl
  have q1 : (((w.alloc (.cells #[.slice A l.length cc] 22)).alloc (.cells #[.int .i64 c] 3)).alloc (.cells #[.int .i64 p] 3)).cell? ⟨w.heap.size + 1, 0, none⟩ = some (.int .i64 c) := by
    rw [World.cell?_alloc_lt _ _ _ (by simp), show w.heap.size + 1 = (w.alloc (.cells #[.slice A l.length cc] 22)).heap.size by simp, World.cell?_alloc_new]; rfl
  have q2 : (((w.alloc (.cells #[.slice A l.length cc] 22)).alloc (.cells #[.int .i64 c] 3)).alloc (.cells #[.int .i64 p] 3)).cell? ⟨w.heap.size + 1 + 1, 0, none⟩ = some (.int .i64 p) := by
    rw [show w.heap.size + 1 + 1 = ((w.alloc (.cells #[.slice A l.length cc] 22)).alloc (.cells #[.int .i64 c] 3)).heap.size by simp, World.cell?_alloc_new]; rfl
  by_cases hg : givenN l c p = 0
  · rw [hg] at hG
    have Hg := Lib.hid hg
    clear hg
    obtain ⟨hR, -⟩ := givenN_zero Hg.out
    have h8 := hR.len
    have HRT := Lib.hid hR
    have hco : ∀ w1, Below w.heap.size w w1 → Calls Try.prog 75 #[.slice A l.length cc] w1 (ComesPost l w1) := fun w1 hb => boundsComes _ l w1 ((HL.out.below hb (Nat.le_refl _)).mono hb.size) h8
    clear hR
    go_enter Try.func24, Try.ntmps24
    go_wp2_with fail
    go_step3
    have hG' := hG (.cells #[.slice A l.length cc] 22) (.cells #[.int .i64 c] 3) (.cells #[.int .i64 p] 3)
    have hb0' := hb0 (.cells #[.slice A l.length cc] 22) (.cells #[.int .i64 c] 3) (.cells #[.int .i64 p] 3)
    have hsz0 : (((w.alloc (.cells #[.slice A l.length cc] 22)).alloc (.cells #[.int .i64 c] 3)).alloc (.cells #[.int .i64 p] 3)).heap.size = w.heap.size + 1 + 1 + 1 := by simp only [World.size_alloc]
    clear hG hb0
    generalize (((w.alloc (.cells #[.slice A l.length cc] 22)).alloc (.cells #[.int .i64 c] 3)).alloc (.cells #[.int .i64 p] 3)) = w0 at *
    have hw1 : w.heap.size < w0.heap.size := by omega
    have hw2 : w.heap.size + 1 < w0.heap.size := by omega
    have hw3 : w.heap.size + 1 + 1 < w0.heap.size := by omega
    go_wp2_with (first
      | (go_at_call 72; refine hG'.mono ?_; rintro e w1 ⟨rfl, hb1⟩; have z1 := (hb1.cell (p := ⟨w.heap.size, 0, none⟩) hw1).trans q0; have z2 := (hb1.cell (p := ⟨w.heap.size + 1, 0, none⟩) hw2).trans q1; have z3 := (hb1.cell (p := ⟨w.heap.size + 1 + 1, 0, none⟩) hw3).trans q2)
      | (go_at_call 75; refine (hco _ (hb0'.trans (hb1.mono (by omega)))).mono ?_; rintro e w2 ⟨hb2, M, D, b, rfl, hM, HS⟩))
    go_step3
    have hbb := hb0'.trans (hb1.mono (by omega))
    have hbc := hbb.trans (hb2.mono hbb.size)
    have y1 := hb2.cell (p := ⟨w.heap.size, 0, none⟩) (by have := hb1.size; simp only; omega) |>.trans z1
    have y2 := hb2.cell (p := ⟨w.heap.size + 1, 0, none⟩) (by have := hb1.size; simp only; omega) |>.trans z2
    have y3 := hb2.cell (p := ⟨w.heap.size + 1 + 1, 0, none⟩) (by have := hb1.size; simp only; omega) |>.trans z3
    have hs1 := hb1.size
    have hs2 := hb2.size
    have hw21 : w.heap.size < w2.heap.size := by omega
    have hw22 : w.heap.size + 1 < w2.heap.size := by omega
    have hw23 : w.heap.size + 1 + 1 < w2.heap.size := by omega
    go_wp2_with fail
    have hpow := pow_wrap h8
    have hpow2 := pow_small h8
    rw [hpow]
    have HP := Lib.hid (rfl : 2 ^ l.length = 2 ^ l.length)
    obtain ⟨N, hNe⟩ : ∃ N : Nat, N = 2 ^ l.length := ⟨_, rfl⟩
    rw [← hNe] at hpow2 ⊢
    have HN := Lib.hid hNe
    have hx0 := World.cell?_alloc_new w2 #[.slice (some ⟨M, 0, none⟩) l.length l.length] 87 0
    have x1 := (World.cell?_alloc_lt w2 (.cells #[.slice (some ⟨M, 0, none⟩) l.length l.length] 87) ⟨w.heap.size, 0, none⟩ hw21).trans y1
    have x2 := (World.cell?_alloc_lt w2 (.cells #[.slice (some ⟨M, 0, none⟩) l.length l.length] 87) ⟨w.heap.size + 1, 0, none⟩ hw22).trans y2
    have x3 := (World.cell?_alloc_lt w2 (.cells #[.slice (some ⟨M, 0, none⟩) l.length l.length] 87) ⟨w.heap.size + 1 + 1, 0, none⟩ hw23).trans y3
    have hM3 := hM.alloc (.cells #[.slice (some ⟨M, 0, none⟩) l.length l.length] 87)
    have hb3 := hbc.alloc hbc.size (.cells #[.slice (some ⟨M, 0, none⟩) l.length l.length] 87)
    generalize w2.alloc (.cells #[.slice (some ⟨M, 0, none⟩) l.length l.length] 87) = w3 at *
    generalize w2.heap.size = P at *
    clear hpow hNe q0 q1 q2 z1 z2 z3 y1 y2 y3 hM hbb hbc hG' hco
    have HM := Lib.hid hM3
    go_loopg [34, 12, 13] N (fun g s most best wr => ∃ (S bs : Nat) (L : Int), S + g = N ∧ s = .int .i64 S ∧ most = .int .i64 L ∧ best = .int .i64 bs ∧ bs < N ∧ L ≤ 80000 ∧ Hid (Heavy l c p S L bs) ∧ ∃ q, wr = w3.drewN q)
    case atStart => exact ⟨0, 0, 0, by omega, rfl, rfl, rfl, by rw [HN.out]; exact Nat.two_pow_pos _, by omega, Heavy.start l c p, 0, rfl⟩
    case round =>
      obtain ⟨S, bs, L, hSg, rfl, rfl, rfl, hbs, hL, HH, q, rfl⟩ := hrel
      cases gk with
      | zero =>
        have hSe : S = N := by omega
        subst hSe
        have hbq := below_drewN hb3 q
        go_wp2_with fail
        go_loopg [80, 18] l.length (fun g s o wr => ∃ i : Nat, i + g = l.length ∧ s = .int .i64 i ∧ wr.ownsRow w.heap.size 9 1 o (memb bs i).length ((nmsAt l (memb bs i)).map Value.string) ∧ Below w.heap.size w wr)
        case atStart => exact ⟨0, by omega, rfl, by simpa [memb, nmsAt] using World.ownsRow_nil _ _ _ _, hbq⟩
        case round =>
          clear hbq
          obtain ⟨i, hig, rfl, hown, hbel⟩ := hrel
          cases gk with
          | zero =>
            have hie : i = l.length := by omega
            subst hie
            go_wp2_with fail
            try rw [Exit.noGoto_ret]
            refine bodyPost_ret (results_tmp3 rfl _ _ _) (by rfl) ?_
            refine ⟨hbel, .inr ⟨Hg.out, L, bs, _, ?_, rfl, hown⟩⟩
            rw [← HN.out]
            exact HH.out
          | succ g2 =>
            have hil : i < l.length := by omega
            have hili : (i : Int) < (l.length : Int) := by omega
            have HT := HL.out.below hbel (Nat.le_refl _)
            obtain ⟨b0, off, e0, hb0, hcell⟩ := HT.cells hil
            subst e0
            obtain ⟨t0, t1, t2, t3, t4⟩ := hcell i hil
            clear hcell
            have hsz := hbel.size
            have hml : (memb bs i).length ≤ 8 := by
              have := List.length_filter_le (fun i => bs.testBit i) (List.range i)
              rw [List.length_range] at this
              unfold memb
              omega
            have hbx := hbel.alloc hbel.size (.cells #[.string l[i].name, .int .i64 l[i].len, .int .i64 l[i].crew, .int .i64 l[i].pow, .slice l[i].ba l[i].bef.length l[i].bc] 41)
            cases hb : bs.testBit i with
            | false =>
              have hbz := bit_no1 hb
              have Hm : Hid (memb bs (i + 1) = memb bs i) := by unfold Hid; rw [memb_succ, hb]; rfl
              clear hb
              have hownx := hown.alloc (.cells #[.string l[i].name, .int .i64 l[i].len, .int .i64 l[i].crew, .int .i64 l[i].pow, .slice l[i].ba l[i].bef.length l[i].bc] 41)
              go_wp2_with fail
              go_roundg g2
              case rel => exact ⟨i + 1, by omega, by go_num, by rw [Hm.out]; exact hownx, hbx⟩
              case measure => omega
            | true =>
              have hbz := bit_yes1 hb
              have Hm : Hid (memb bs (i + 1) = memb bs i ++ [i]) := by unfold Hid; rw [memb_succ, hb]; rfl
              clear hb
              have hownx := hown.alloc (.cells #[.string l[i].name, .int .i64 l[i].len, .int .i64 l[i].crew, .int .i64 l[i].pow, .slice l[i].ba l[i].bef.length l[i].bc] 41)
              go_wp2_with (at_builtin; refine wpList_pushN _ rfl (.tmp 90) (.tmp 93) 25 rfl w.heap.size 9 info_str Try.underlying25 rfl _ (memb bs i).length _ rfl hownx (.string l[i].name) rfl (wr.heap.size + 1) (by simp) rfl (by unfold maxLen; omega) (by omega) hbx.size ?_; intro g3 cap3 w4 hown3 hgrow3 hbg hgg)
              have hown4 : w4.ownsRow w.heap.size 9 1 (.slice (some ⟨g3, 0, none⟩) ((memb bs i).length + 1) cap3) ((memb bs i).length + 1) ((nmsAt l (memb bs (i + 1))).map Value.string) := by rw [Hm.out, nmsAt_snoc l _ hil, List.map_append]; exact hown3
              have hb4 := hbx.grown hgrow3 hbx.size (fun k hk => (hownx.lt k hk).1)
              go_roundg g2
              case rel => exact ⟨i + 1, by omega, by go_num, by rw [Hm.out, List.length_append, ← Hm.out]; exact hown4, hb4⟩
              case measure => omega
      | succ g =>
        have hSN : (S : Int) < (N : Int) := by omega
        go_wp2_with fail
        obtain ⟨wo, rfl⟩ : ∃ wo : World, wo = w3.drewN q := ⟨_, rfl⟩
        go_loopg [39, 15] l.length (fun g2 s sum wr => ∃ i : Nat, i + g2 = l.length ∧ s = .int .i64 i ∧ sum = .int .i64 (sumAt l (memb S i)) ∧ Hid (isClique l c p S i) ∧ ∃ q, wr = w3.drewN q)
        case atStart => exact ⟨0, by omega, rfl, rfl, fun i k h => absurd h (Nat.not_lt_zero i), _, rfl⟩
        case round =>
          obtain ⟨i, hig, rfl, rfl, HC, q2, rfl⟩ := hrel
          cases gk with
          | zero =>
            have hie : i = l.length := by omega
            subst hie
            have hsb := sumAt_bd HRT.out (memb S l.length)
            have hml : (memb S l.length).length ≤ 8 := by
              have := List.length_filter_le (fun i => S.testBit i) (List.range l.length)
              rw [List.length_range] at this
              unfold memb
              omega
            by_cases hlt : L < sumAt l (memb S l.length)
            · have HH' := Lib.hid (HH.out.more (by rw [← HN.out]; omega) HC.out hlt)
              go_wp2_with fail
              go_roundg g
              case rel => exact ⟨S + 1, S, _, by omega, by go_num, rfl, rfl, by omega, by omega, HH', _, rfl⟩
              case measure => omega
            · have HH' := Lib.hid (HH.out.less hlt)
              have hltb : decide (L < sumAt l (memb S l.length)) = false := by simpa using hlt
              go_wp2_with fail
              go_roundg g
              case rel => exact ⟨S + 1, bs, L, by omega, by go_num, rfl, rfl, hbs, hL, HH', _, rfl⟩
              case measure => omega
          | succ g2 =>
            have hil : i < l.length := by omega
            cases hb : S.testBit i with
            | false =>
              have hbi := bit_no0 hb
              have HC' : Hid (isClique l c p S (i + 1)) := fun x y hx hy hxs hys => by
                rcases (show x < i ∨ x = i by omega) with h | rfl
                · exact HC.out x y h hy hxs hys
                · rw [hb] at hxs; cases hxs
              have Hs : Hid (sumAt l (memb S (i + 1)) = sumAt l (memb S i)) := by unfold Hid; rw [memb_succ, hb]; rfl
              clear hb
              go_wp2_with fail
              go_roundg g2
              case rel => exact ⟨i + 1, by omega, by go_num, by rw [Hs.out], HC', _, rfl⟩
              case measure => omega
            | true =>
              have hbi := bit_yes0 hb
              have HTi := HL.out.below (below_drewN hb3 q2) (Nat.le_refl _)
              obtain ⟨b0, off, e0, hb0, hcell⟩ := HTi.cells hil
              subst e0
              obtain ⟨-, t1, -, -, -⟩ := hcell i hil
              have hlen := fieldB_len (HRT.out.field i hil)
              have Hs : Hid (sumAt l (memb S (i + 1)) = sumAt l (memb S i) + l[i].len) := by unfold Hid; rw [memb_succ, hb, if_pos rfl, sumAt_snoc, lenAt_eq hil]
              have hsb := sumAt_bd HRT.out (memb S i)
              have hml : (memb S i).length ≤ 8 := by
                have := List.length_filter_le (fun i => S.testBit i) (List.range i)
                rw [List.length_range] at this
                unfold memb
                omega
              obtain ⟨hl1, hl2⟩ := hlen
              have Hb := Lib.hid hb
              clear hcell hb
              go_wp2_with fail
              obtain ⟨wi, rfl⟩ : ∃ wi : World, wi = w3.drewN q2 := ⟨_, rfl⟩
              go_loopg [55] i (fun g3 s wr => ∃ k : Nat, k + g3 = i ∧ s = .int .i64 k ∧ Hid (∀ y, y < k → S.testBit y = true → excl l c p i y) ∧ ∃ q, wr = w3.drewN q)
              case atStart => exact ⟨0, by omega, rfl, fun y hy => absurd hy (Nat.not_lt_zero y), _, rfl⟩
              case round =>
                obtain ⟨k, hkg, rfl, HE, q3, rfl⟩ := hrel
                cases gk with
                | zero =>
                  have hke : k = i := by omega
                  subst hke
                  have HC' : Hid (isClique l c p S (k + 1)) := fun x y hx hy hxs hys => by
                    rcases (show x < k ∨ x = k by omega) with h | rfl
                    · exact HC.out x y h hy hxs hys
                    · exact HE.out y hy hys
                  go_wp2_with fail
                  go_roundg g2
                  case rel => exact ⟨k + 1, by omega, by go_num, by rw [Hs.out], HC', _, rfl⟩
                  case measure => omega
                | succ g3 =>
                  have hki : (k : Int) < (i : Int) := by omega
                  have hkl : k < l.length := by omega
                  cases hbk : S.testBit k with
                  | false =>
                    have hbz := bit_no1 hbk
                    have HE' : Hid (∀ y, y < k + 1 → S.testBit y = true → excl l c p i y) := fun y hy hys => by
                      rcases (show y < k ∨ y = k by omega) with h | rfl
                      · exact HE.out y h hys
                      · rw [hbk] at hys; cases hys
                    clear hbk
                    go_wp2_with fail
                    go_roundg g3
                    case rel => exact ⟨k + 1, by omega, by go_num, HE', _, rfl⟩
                    case measure => omega
                  | true =>
                    have hbz := bit_yes1 hbk
                    have Hbk := Lib.hid hbk
                    clear hbk
                    have hcl := cliqueClosure _ l c p P w.heap.size (w.heap.size + 1) (w.heap.size + 1 + 1) w.heap.size _ M D b i k (w3.drewN q3) HRT.out ⟨by simpa using hx0, x1, x2, x3⟩ (HL.out.below (below_drewN hb3 q3) (Nat.le_refl _)) (HM.out.drewN q3) hil hkl
                    have eg := enters76
                    cases hex : exclT b l[i] l[k] c p i k with
                    | true =>
                      rw [hex] at hcl
                      have HE' : Hid (∀ y, y < k + 1 → S.testBit y = true → excl l c p i y) := fun y hy hys => by
                        rcases (show y < k ∨ y = k by omega) with h | rfl
                        · exact HE.out y h hys
                        · exact (exclT_iff HS hil hkl).1 hex
                      clear hex
                      go_wp2_with (go_at_fn 76; refine hcl.mono ?_; rintro e w9 ⟨rfl, q9, rfl⟩)
                      go_roundg g3
                      case rel => exact ⟨k + 1, by omega, by go_num, HE', _, rfl⟩
                      case measure => omega
                    | false =>
                      rw [hex] at hcl
                      have HH' := Lib.hid (HH.out.no (fun hc => by
                        have := (exclT_iff HS hil hkl).2 (hc i k hil (by omega) Hb.out Hbk.out)
                        rw [hex] at this
                        cases this))
                      clear hex
                      go_wp2_with (go_at_fn 76; refine hcl.mono ?_; rintro e w9 ⟨rfl, q9, rfl⟩)
                      go_roundg g
                      case rel => exact ⟨S + 1, bs, L, by omega, by go_num, rfl, rfl, hbs, hL, HH', _, rfl⟩
                      case measure => omega
  · have Hg := Lib.hid hg
    generalize hx : givenN l c p = x at *
    have hxb : (x == 0) = false := by simpa using Hg.out
    have Hx := Lib.hid hx
    clear hg hx
    go_enter Try.func24, Try.ntmps24
    go_wp2_with fail
    go_step3
    have hG' := hG (.cells #[.slice A l.length cc] 22) (.cells #[.int .i64 c] 3) (.cells #[.int .i64 p] 3)
    have hb0' := hb0 (.cells #[.slice A l.length cc] 22) (.cells #[.int .i64 c] 3) (.cells #[.int .i64 p] 3)
    clear hG hb0
    generalize (((w.alloc (.cells #[.slice A l.length cc] 22)).alloc (.cells #[.int .i64 c] 3)).alloc (.cells #[.int .i64 p] 3)) = w0 at *
    go_wp2_with (go_at_call 72; refine hG'.mono ?_; rintro e w1 ⟨rfl, hb1⟩)
    try rw [Exit.noGoto_ret]
    refine bodyPost_ret (results_tmp3 rfl _ _ _) (by rfl) ?_
    refine ⟨hb0'.trans (hb1.mono hb0'.size), .inl ⟨by rw [Hx.out]; exact Hg.out, ?_⟩⟩
    rw [Hx.out]
    rfl

end Go.Proofs.Ytcjejcbikgcnbaa
