/- Parts of the proof, laid into one text: RefComes, RefExcl, RefCliqueW, RefBest, BestN. -/
import Derived.Test.YtphbfhffiljbfaaGreatG2
import Derived.Test.YtphbfhffiljbfaaGreatG3

/- The reference's Comes of layer 44. -/
namespace Go.Proofs.YtphbfhffiljbfaaGreat
open Go.RowKit Go.Shelf

noncomputable def reachB (l : List Task) (i k : Nat) : Bool := @decide (reach l i k) (Classical.propDecidable _)
theorem reachB_iff {l : List Task} {i k : Nat} : reachB l i k = true ↔ reach l i k := by unfold reachB; exact @decide_eq_true_iff _ (Classical.propDecidable _)
theorem reachB_no {l : List Task} {i k : Nat} (h : ¬ reach l i k) : reachB l i k = false := by
  cases hb : reachB l i k with
  | false => rfl
  | true => exact absurd (reachB_iff.1 hb) h

set_option maxRecDepth 100000 in
set_option maxHeartbeats 2000000 in
theorem refComes (v : Value) (l : List Task) (B : Nat) : ∀ (f i k : Nat) (w : World), i < l.length → k < l.length → (∀ z, Chain l (z ++ [k]) → (z ++ [k]).length ≤ f) → TasksAt w B v l →
    Calls Tryz.prog 139 #[v, .int .i64 i, .int .i64 k] w fun e w' => e = .returned (.bool (reachB l i k)) ∧ ∃ q, w.drewN q = w' := by
  intro f
  induction f with
  | zero => intro i k w hi hk h; have := h [] (Chain.one hk); simp at this
  | succ f ih =>
    intro i k w hi hk hch hl
    have IH : Hid (∀ x, edge l x k → ∀ q, Calls Tryz.prog 139 #[v, .int .i64 i, .int .i64 x] (w.drewN q) fun e w' => e = .returned (.bool (reachB l i x)) ∧ ∃ q', (w.drewN q).drewN q' = w') := fun x he q => ih i x _ hi he.1 (fun z hz => by
      have h1 : Chain l ((z ++ [x]) ++ [k]) := hz.snoc hk (fun hx => by simpa using he)
      have := hch (z ++ [x]) h1
      simpa using this) (hl.drewN q)
    clear ih hch
    have HL := Lib.hid hl
    obtain ⟨A, c, rfl, hc1, hc2, hcell⟩ := hl.open_
    unfold maxLen at hc2
    clear hl hcell
    go_enter Tryz.func139, Tryz.ntmps139
    go_wp2
    go_loopw [7] (fun s wr => ∃ (x : Nat), x ≤ l.length ∧ s = .int .i64 x ∧ Hid (∀ y, y < x → edge l y k → ¬ (y = i ∨ reach l i y)) ∧ ∃ q, wr = w.drewN q) (fun s _ => l.length - (intOf s).toNat)
    case atStart => exact ⟨0, Nat.zero_le _, rfl, fun y hy => absurd hy (Nat.not_lt_zero y), 0, rfl⟩
    case round =>
      obtain ⟨x, hx, rfl, HN, q, rfl⟩ := hrel
      by_cases hxl : x < l.length
      · have hbf := rbefore _ l x k (w.drewN q) B (HL.out.drewN q) hxl hk
        by_cases hE : l[x].name ∈ l[k].bef
        · have he : edge l x k := ⟨hxl, hk, hE⟩
          have hcall := fun q => IH.out x he q
          rw [decide_eq_true hE] at hbf
          have He := Lib.hid he
          clear hE he
          by_cases hxi : x = i
          · subst hxi
            have hV : Hid (reachB l x k = true) := reachB_iff.2 (reach_iff.2 ⟨x, He.out, .inl rfl⟩)
            have hb : ((x : Int) == (x : Int)) = true := by simp
            go_wp2_with (go_at_call 100; refine hbf.mono ?_; rintro e w' ⟨rfl, q1, rfl⟩)
            go_ret
            exact ⟨ret_bool hV.out.symm, _, rfl⟩
          · have hb : ((x : Int) == (i : Int)) = false := by simp; omega
            have Hxi := Lib.hid hxi
            clear hxi
            cases hr : reachB l i x with
            | true =>
              have hV : Hid (reachB l i k = true) := reachB_iff.2 (reach_iff.2 ⟨x, He.out, .inr (reachB_iff.1 hr)⟩)
              rw [hr] at hcall
              clear hr
              go_wp2_with (first | (go_at_call 100; refine hbf.mono ?_; rintro e w' ⟨rfl, q1, rfl⟩) | (go_at_call 139; refine (hcall _).mono ?_; rintro e w' ⟨rfl, q2, rfl⟩))
              go_ret
              exact ⟨ret_bool hV.out.symm, _, rfl⟩
            | false =>
              have HN' : Hid (∀ y, y < x + 1 → edge l y k → ¬ (y = i ∨ reach l i y)) := fun y hy hey => by
                rcases (show y < x ∨ y = x by omega) with h | rfl
                · exact HN.out y h hey
                · rintro (h | h)
                  · exact Hxi.out h
                  · rw [reachB_iff.2 h] at hr; cases hr
              rw [hr] at hcall
              clear hr HN
              go_wp2_with (first | (go_at_call 100; refine hbf.mono ?_; rintro e w' ⟨rfl, q1, rfl⟩) | (go_at_call 139; refine (hcall _).mono ?_; rintro e w' ⟨rfl, q2, rfl⟩))
              go_roundw
              case rel => exact ⟨x + 1, by omega, by go_num, HN', _, rfl⟩
              case measure => simp [intOf]; omega
        · have HN' : Hid (∀ y, y < x + 1 → edge l y k → ¬ (y = i ∨ reach l i y)) := fun y hy hey => by
            rcases (show y < x ∨ y = x by omega) with h | rfl
            · exact HN.out y h hey
            · exact absurd hey.2.2 hE
          rw [decide_eq_false hE] at hbf
          clear hE HN
          go_wp2_with (go_at_call 100; refine hbf.mono ?_; rintro e w' ⟨rfl, q1, rfl⟩)
          go_roundw
          case rel => exact ⟨x + 1, by omega, by go_num, HN', _, rfl⟩
          case measure => simp [intOf]; omega
      · have hxe : x = l.length := by omega
        subst hxe
        have hV : Hid (reachB l i k = false) := reachB_no fun h => by
          obtain ⟨y, hy, hh⟩ := reach_iff.1 h
          exact HN.out y hy.1 hy hh
        clear HN
        go_wp2
        go_ret
        exact ⟨ret_bool hV.out.symm, q, rfl⟩

end Go.Proofs.YtphbfhffiljbfaaGreat

/- The reference's Exclude of layer 44. -/
namespace Go.Proofs.YtphbfhffiljbfaaGreat
open Go.RowKit Go.Shelf

noncomputable def exclB (l : List Task) (c p : Int) (i k : Nat) (t u : Task) : Bool := reachB l i k || reachB l k i || decide (c < t.crew + u.crew) || decide (p < t.pow + u.pow)
theorem exclB_iff {l : List Task} {c p : Int} {i k : Nat} (hi : i < l.length) (hk : k < l.length) : exclB l c p i k l[i] l[k] = true ↔ excl l c p i k := by
  unfold exclB
  simp only [Bool.or_eq_true, decide_eq_true_eq, reachB_iff]
  constructor
  · rintro (((h | h) | h) | h)
    · exact ⟨hi, hk, .inl h⟩
    · exact ⟨hi, hk, .inr (.inl h)⟩
    · exact ⟨hi, hk, .inr (.inr (.inl h))⟩
    · exact ⟨hi, hk, .inr (.inr (.inr h))⟩
  · rintro ⟨_, _, h | h | h | h⟩
    · exact .inl (.inl (.inl h))
    · exact .inl (.inl (.inr h))
    · exact .inl (.inr h)
    · exact .inr h

set_option maxRecDepth 100000 in
set_option maxHeartbeats 4000000 in
theorem refExclude (v : Value) (l : List Task) (c p : Int) (B : Nat) (i k : Nat) (w : World) (hR : RightT l) (hl : TasksAt w B v l) (hi : i < l.length) (hk : k < l.length) :
    Calls Tryz.prog 101 #[v, .int .i64 c, .int .i64 p, .int .i64 i, .int .i64 k] w
      fun e w' => e = .returned (.bool (exclB l c p i k l[i] l[k])) ∧ ∃ q, w.drewN q = w' := by
  have hci := fieldB_crew (hR.field i hi)
  have hck := fieldB_crew (hR.field k hk)
  have hpi := fieldB_pow (hR.field i hi)
  have hpk := fieldB_pow (hR.field k hk)
  have HC1 := fun q => quiet_left' (refComes v l B l.length i k (w.drewN q) hi hk (fun z hz => hz.short hR) (hl.drewN q))
  have HC2 := fun q => quiet_left' (refComes v l B l.length k i (w.drewN q) hk hi (fun z hz => hz.short hR) (hl.drewN q))
  obtain ⟨A, cc, rfl, hc1, hc2, -⟩ := hl.open_
  obtain ⟨b0, off, rfl, hb0, hcell⟩ := hl.cells hi
  obtain ⟨-, -, ti2, ti3, -⟩ := hcell i hi
  obtain ⟨-, -, tk2, tk3, -⟩ := hcell k hk
  have i1 : (0 : Int) ≤ (i : Int) := Int.natCast_nonneg _
  have i2 : (i : Int) < (l.length : Int) := by omega
  have i3 : (0 : Int) ≤ (k : Int) := Int.natCast_nonneg _
  have i4 : (k : Int) < (l.length : Int) := by omega
  clear hcell hl hR
  unfold exclB
  generalize l[i] = t at *
  generalize l[k] = u at *
  obtain ⟨tn, tl, tc, tp, ta, tb, tf⟩ := t
  obtain ⟨un, ul, uc, up, ua, ub, uf⟩ := u
  simp only at ti2 ti3 tk2 tk3 hci hck hpi hpk ⊢
  have hs1 := Lib.hid (bound_sum hci hck)
  have hs2 := Lib.hid (bound_sum hpi hpk)
  generalize reachB l i k = e1 at *
  generalize reachB l k i = e2 at *
  cases e1 with
  | true =>
    go_enter Tryz.func101, Tryz.ntmps101
    go_wp2_with fail
    go_quiet ((go_at_call 139; (first | with_reducible exact HC1 _ | with_reducible exact HC2 _)))
    go_wp2
    go_ret
    exact ⟨rfl, _, rfl⟩
  | false =>
    cases e2 with
    | true =>
      go_enter Tryz.func101, Tryz.ntmps101
      go_wp2_with fail
      go_quiet ((go_at_call 139; (first | with_reducible exact HC1 _ | with_reducible exact HC2 _)))
      go_wp2
      go_ret
      exact ⟨rfl, _, rfl⟩
    | false =>
      by_cases h1 : c < tc + uc
      · have hd : decide (c < tc + uc) = true := by simpa using h1
        rw [hd]
        have e1 := hs1.out
        go_enter Tryz.func101, Tryz.ntmps101
        go_wp2_with fail
        go_quiet ((go_at_call 139; (first | with_reducible exact HC1 _ | with_reducible exact HC2 _)))
        go_wp2
        go_ret
        exact ⟨rfl, _, rfl⟩
      · have hd : decide (c < tc + uc) = false := by simpa using h1
        rw [hd]
        have e1 := hs1.out
        have e2 := hs2.out
        go_enter Tryz.func101, Tryz.ntmps101
        go_wp2_with fail
        go_quiet ((go_at_call 139; (first | with_reducible exact HC1 _ | with_reducible exact HC2 _)))
        go_wp2
        go_ret
        exact ⟨rfl, _, rfl⟩

end Go.Proofs.YtphbfhffiljbfaaGreat

/- The reference's Clique of layer 44. -/
namespace Go.Proofs.YtphbfhffiljbfaaGreat
open Go.RowKit Go.Shelf

theorem own_below {w w' : World} {B e s n : Nat} {v : Value} {xs : List Value} (h : w.ownsRow B e s v n xs) (hb : Below w.heap.size w w') : w'.ownsRow B e s v n xs := by
  refine h.kept (grown_below (row := none) hb) ?_
  cases v.ownBlock with
  | none => exact .inl rfl
  | some g => exact .inr (by simp)

theorem clique_next {l : List Task} {c p : Int} {S i : Nat} (hb : S.testBit i = true) : isClique l c p S (i + 1) ↔ isClique l c p S i ∧ ∀ y ∈ memb S i, excl l c p y i := by
  constructor
  · intro h
    refine ⟨fun x y hx hy hxs hys => h x y (by omega) hy hxs hys, fun y hy => ?_⟩
    obtain ⟨h1, h2⟩ := mem_memb.1 hy
    exact excl_symm (h i y (by omega) h1 hb h2)
  · rintro ⟨h, h'⟩ x y hx hy hxs hys
    rcases (show x < i ∨ x = i by omega) with hlt | rfl
    · exact h x y hlt hy hxs hys
    · exact excl_symm (h' y (mem_memb.2 ⟨hy, hys⟩))
theorem clique_skip {l : List Task} {c p : Int} {S i : Nat} (hb : S.testBit i = false) : isClique l c p S (i + 1) ↔ isClique l c p S i := by
  constructor
  · exact fun h x y hx hy hxs hys => h x y (by omega) hy hxs hys
  · intro h x y hx hy hxs hys
    rcases (show x < i ∨ x = i by omega) with hlt | rfl
    · exact h x y hlt hy hxs hys
    · rw [hb] at hxs; cases hxs
theorem memb_len (S n : Nat) : (memb S n).length ≤ n := by
  have := List.length_filter_le (fun i => S.testBit i) (List.range n)
  rw [List.length_range] at this
  exact this

def RefCliquePost (l : List Task) (c p : Int) (w : World) (e : Ending) (w' : World) : Prop :=
  Below w.heap.size w w' ∧ ∃ (L : Int) (s : Nat) (v : Value), Heavy l c p (2 ^ l.length) L s ∧ e = .returned (.tuple #[.int .i64 L, v]) ∧ w'.ownsRow w.heap.size 3 1 v (memb s l.length).length (nats (memb s l.length))

set_option maxRecDepth 100000 in
set_option maxHeartbeats 8000000 in
theorem refClique (v : Value) (l : List Task) (c p : Int) (w : World) (hR : RightT l) (hl : TasksAt w w.heap.size v l) :
    Calls Tryz.prog 58 #[v, .int .i64 c, .int .i64 p] w (RefCliquePost l c p w) := by
  have HX : Hid (∀ (i k : Nat) (wr : World) (hi : i < l.length) (hk : k < l.length), Below w.heap.size w wr → Calls Tryz.prog 101 #[v, .int .i64 c, .int .i64 p, .int .i64 i, .int .i64 k] wr fun e w' => e = .returned (.bool (exclB l c p i k l[i] l[k])) ∧ ∃ q, wr.drewN q = w') := fun i k wr hi hk hb =>
    refExclude v l c p w.heap.size i k wr hR (hl.below hb (Nat.le_refl _)) hi hk
  have HL := Lib.hid hl
  have HRT := Lib.hid hR
  have h8 := hR.len
  have hpow := pow_wrap h8
  have hpow2 := pow_small h8
  obtain ⟨N, hNe⟩ : ∃ N : Nat, N = 2 ^ l.length := ⟨_, rfl⟩
  rw [← hNe] at hpow hpow2
  have HN := Lib.hid hNe
  have Hpow := Lib.hid hpow
  clear hpow
  obtain ⟨A, cc, rfl, hc1, hc2, -⟩ := hl.open_
  unfold maxLen at hc2
  clear hl hR hNe
  go_enter Tryz.func58, Tryz.ntmps58
  go_wp2
  go_loopw [10, 8, 9] (fun s m o wr => ∃ (S bs : Nat) (L : Int), S ≤ N ∧ s = .int .i64 S ∧ m = .int .i64 L ∧ L ≤ 80000 ∧ Hid (Heavy l c p S L bs) ∧ wr.ownsRow w.heap.size 3 1 o (memb bs l.length).length (nats (memb bs l.length)) ∧ Below w.heap.size w wr) (fun s _ _ _ => N - (intOf s).toNat)
  case atStart => exact ⟨0, 0, 0, Nat.zero_le _, rfl, rfl, by omega, Heavy.start l c p, by rw [memb_none]; exact World.ownsRow_nil _ _ _ _, Below.refl _ _⟩
  case round =>
    obtain ⟨S, bs, L, hS, rfl, rfl, hL, HH, hown, hbel⟩ := hrel
    obtain ⟨wo, rfl⟩ : ∃ wo : World, wo = wr := ⟨_, rfl⟩
    have hSb : S ≤ 256 := by omega
    by_cases hSN : S < N
    · have hSNi : (S : Int) < (N : Int) := by omega
      have Hown := Lib.hid hown
      have hpow := Hpow.out
      clear hown
      go_wp2_with fail
      clear hpow
      go_loopw [14, 11, 12, 13] (fun s m sum ok wi => ∃ (i : Nat) (b : Bool), i ≤ l.length ∧ s = .int .i64 i ∧ wi.ownsRow wo.heap.size 3 1 m (memb S i).length (nats (memb S i)) ∧ sum = .int .i64 (sumAt l (memb S i)) ∧ ok = .bool b ∧ Hid (b = true ↔ isClique l c p S i) ∧ Below wo.heap.size wo wi) (fun s _ _ _ _ => l.length - (intOf s).toNat)
      case atStart => exact ⟨0, true, Nat.zero_le _, rfl, World.ownsRow_nil _ _ _ _, rfl, rfl, ⟨fun _ i k h => absurd h (Nat.not_lt_zero i), fun _ => rfl⟩, Below.refl _ _⟩
      case round =>
        obtain ⟨i, b, hi, rfl, hownm, rfl, rfl, HC, hbi⟩ := hrel
        have hml := memb_len S i
        have hsb := sumAt_bd HRT.out (memb S i)
        have hbx := hbel.trans (hbi.mono hbel.size)
        by_cases hil : i < l.length
        · cases hbit : S.testBit i with
          | false =>
            have hbz := bit_no0 hbit
            have Hm : Hid (memb S (i + 1) = memb S i) := by unfold Hid; rw [memb_succ, hbit]; rfl
            have HC' : Hid (b = true ↔ isClique l c p S (i + 1)) := HC.out.trans (clique_skip hbit).symm
            clear hbit
            go_wp2_with fail
            go_roundw
            case rel => exact ⟨i + 1, b, by omega, by go_num, by rw [Hm.out]; exact hownm, by rw [Hm.out], rfl, HC', hbi⟩
            case measure => simp [intOf]; omega
          | true =>
            have hbz := bit_yes0 hbit
            have Hm : Hid (memb S (i + 1) = memb S i ++ [i]) := by unfold Hid; rw [memb_succ, hbit]; rfl
            have Hbit := Lib.hid hbit
            have hbr := own_open wr _ _ _ (memb S i) hownm
            obtain ⟨A2, c2, rfl, hy1, hy2, hcy⟩ := hbr
            have hcy := Lib.hid hcy
            clear hbit
            go_wp2_with fail
            obtain ⟨wx, rfl⟩ : ∃ wx : World, wx = wr := ⟨_, rfl⟩
            go_loopw [15, 13] (fun s ok wi => ∃ (k : Nat) (b2 : Bool), k ≤ (memb S i).length ∧ s = .int .i64 k ∧ ok = .bool b2 ∧ Hid (b2 = true ↔ b = true ∧ ∀ y ∈ (memb S i).take k, excl l c p y i) ∧ ∃ q, wi = wx.drewN q) (fun s _ _ => (memb S i).length - (intOf s).toNat)
            case atStart => exact ⟨0, b, Nat.zero_le _, rfl, rfl, ⟨fun h => ⟨h, by simp⟩, fun h => h.1⟩, 0, rfl⟩
            case round =>
              obtain ⟨k, b2, hk, rfl, rfl, HE, q, rfl⟩ := hrel
              by_cases hkl : k < (memb S i).length
              · have hyk : (memb S i)[k] < l.length := by
                  have := (mem_memb.1 (List.getElem_mem hkl)).1
                  omega
                cases b2 with
                | false =>
                  have HE' : Hid (false = true ↔ b = true ∧ ∀ y ∈ (memb S i).take (k + 1), excl l c p y i) := by
                    refine ⟨fun h => by simp at h, fun h => HE.out.2 ⟨h.1, fun y hy => h.2 y ?_⟩⟩
                    rw [take_snoc _ k hkl]
                    exact List.mem_append_left _ hy
                  clear HE
                  go_wp2_with fail
                  go_roundw
                  case rel => exact ⟨k + 1, false, by omega, by go_num, rfl, HE', _, rfl⟩
                  case measure => simp [intOf]; omega
                | true =>
                  obtain ⟨b3, off3, rfl, hb3, hcy⟩ := hcy.out k hkl
                  have hyc := hcy k hkl
                  have hcall := HX.out ((memb S i)[k]) i (wx.drewN q) hyk hil (below_drewN hbx q)
                  have HE' : Hid (exclB l c p ((memb S i)[k]) i l[(memb S i)[k]] l[i] = true ↔ b = true ∧ ∀ y ∈ (memb S i).take (k + 1), excl l c p y i) := by
                    unfold Hid
                    rw [exclB_iff hyk hil, take_snoc _ k hkl]
                    constructor
                    · intro h
                      refine ⟨(HE.out.1 rfl).1, fun y hy => ?_⟩
                      rw [List.mem_append, List.mem_singleton] at hy
                      rcases hy with hy | rfl
                      · exact (HE.out.1 rfl).2 y hy
                      · exact h
                    · intro h
                      exact h.2 _ (List.mem_append_right _ (List.mem_singleton.2 rfl))
                  clear HE hcy
                  generalize exclB l c p ((memb S i)[k]) i l[(memb S i)[k]] l[i] = b4 at *
                  generalize (memb S i)[k] = yk at *
                  go_wp2_with (go_at_call 101; refine hcall.mono ?_; rintro e w9 ⟨rfl, q9, rfl⟩)
                  go_roundw
                  case rel => exact ⟨k + 1, b4, by omega, by go_num, rfl, HE', _, rfl⟩
                  case measure => simp [intOf]; omega
              · have hke : k = (memb S i).length := by omega
                subst hke
                have HC' : Hid (b2 = true ↔ isClique l c p S (i + 1)) := by
                  unfold Hid
                  rw [clique_next Hbit.out, HE.out, List.take_length, HC.out]
                have hsz := hbi.size
                have Hs : Hid (sumAt l (memb S (i + 1)) = sumAt l (memb S i) + l[i].len) := by unfold Hid; rw [Hm.out, sumAt_snoc, lenAt_eq hil]
                obtain ⟨hl1, hl2⟩ := fieldB_len (HRT.out.field i hil)
                have hbiq := below_drewN hbi q
                clear HE HC hcy
                go_wp2_with (at_builtin; refine wpList_push _ rfl (.tmp 52) (.tmp 54) 23 rfl wo.heap.size 3 info_int Tryz.underlying23 rfl _ (memb S i).length _ rfl (own_drewN hownm q) (.int .i64 i) rfl rfl (by unfold maxLen; omega) (by omega) (by simpa using hsz) ?_; intro g3 cap3 w3 hown3 hgrow3 hbg hgg; have hbi3 := hbiq.grown hgrow3 (by simpa using hsz) (fun k hk => (hownm.lt k hk).1); have t1 := (TasksAt.cells (HL.out.below (hbel.trans (hbi3.mono hbel.size)) (Nat.le_refl _)) hil); obtain ⟨b, off, e1, hb, hcell⟩ := t1; subst e1; obtain ⟨-, t1, -, -, -⟩ := hcell i hil)
                rw [← show nats (memb S i ++ [i]) = nats (memb S i) ++ [Value.int .i64 i] by simp [nats, ints], ← Hm.out] at hown3
                go_roundw
                case rel => exact ⟨i + 1, b2, by omega, by go_num, by rw [Hm.out, List.length_append, ← Hm.out]; exact hown3, by rw [Hs.out], rfl, HC', hbi3⟩
                case measure => simp [intOf]; omega
        · have hie : i = l.length := by omega
          subst hie
          have hownm' := own_mono hownm hbel.size
          have hown' := own_below Hown.out hbi
          clear hownm
          cases b with
          | false =>
            have HH' := Lib.hid (HH.out.no (fun hc => by have := HC.out.2 hc; cases this))
            clear HH HC
            go_wp2_with fail
            go_roundw
            case rel => exact ⟨S + 1, bs, L, by omega, by go_num, rfl, hL, HH', hown', hbx⟩
            case measure => simp [intOf]; omega
          | true =>
            by_cases hlt : L < sumAt l (memb S l.length)
            · have HH' := Lib.hid (HH.out.more (by rw [← HN.out]; exact hSN) (HC.out.1 rfl) hlt)
              clear HH HC
              go_wp2_with fail
              go_roundw
              case rel => exact ⟨S + 1, S, _, by omega, by go_num, rfl, by omega, HH', hownm', hbx⟩
              case measure => simp [intOf]; omega
            · have HH' := Lib.hid (HH.out.less hlt)
              have hltb : decide (L < sumAt l (memb S l.length)) = false := by simpa using hlt
              clear HH HC
              go_wp2_with fail
              go_roundw
              case rel => exact ⟨S + 1, bs, L, by omega, by go_num, rfl, hL, HH', hown', hbx⟩
              case measure => simp [intOf]; omega
    · have hSe : S = N := by omega
      subst hSe
      have hpow := Hpow.out
      go_wp2_with fail
      refine bodyPost_ret (results_tmp2 rfl _ _ _) (by rfl) ?_
      refine ⟨hbel, L, bs, _, ?_, rfl, hown⟩
      rw [← HN.out]
      exact HH.out

end Go.Proofs.YtphbfhffiljbfaaGreat

/- The reference's Best of layer 44. -/
namespace Go.Proofs.YtphbfhffiljbfaaGreat
open Go.RowKit Go.Shelf

def RefBestPost (l : List Task) (c p : Int) (w : World) (e : Ending) (w' : World) : Prop :=
  Below w.heap.size w w' ∧ ∃ (L K : Int) (y : List Nat) (s : Nat), Covers l [l.length] L y ∧ Heavy l c p (2 ^ l.length) K s ∧ e = .returned (.int .i64 (max3 (workN l c p) L K))

set_option maxRecDepth 100000 in
set_option maxHeartbeats 4000000 in
theorem refBest (v : Value) (l : List Task) (c p : Int) (w : World) (hg : givenN l c p = 0) (hl : TasksAt w w.heap.size v l) :
    Calls Tryz.prog 28 #[v, .int .i64 c, .int .i64 p] w (RefBestPost l c p w) := by
  have hR := (givenN_zero hg).1
  have HT : ∀ w1, Below w.heap.size w w1 → TasksAt w1 w1.heap.size v l := fun w1 hb => (hl.below hb (Nat.le_refl _)).mono hb.size
  have hP := refPath v l w hR hl
  have hC := fun w1 hb => refClique v l c p w1 hR (HT w1 hb)
  have hW := fun w1 hb => refWork v l c p _ w1 (HT w1 hb) hg
  have HX : ∀ L K x, x = max3 (workN l c p) L K → Ending.returned (.int .i64 x) = .returned (.int .i64 (max3 (workN l c p) L K)) := fun L K x e => by rw [e]
  clear hl HT hg hR
  go_enter Tryz.func28, Tryz.ntmps28
  go_wp2_with fail
  refine hP.mono ?_
  rintro e w1 ⟨hb1, L, y, v1, hc, rfl, -⟩
  have Hc := Lib.hid hc
  clear hP hc
  go_wp2_with fail
  refine (hC _ hb1).mono ?_
  rintro e w2 ⟨hb2, K, s, v2, hh, rfl, -⟩
  have Hh := Lib.hid hh
  have hb := hb1.trans (hb2.mono hb1.size)
  clear hC hh hb1 hb2
  go_wp2_with (go_at_call 59; refine (hW _ hb).mono ?_; rintro e w3 ⟨rfl, q, rfl⟩)
  all_goals
    go_ret
    refine ⟨below_drewN hb q, L, K, y, s, Hc.out, Hh.out, HX _ _ _ ?_⟩
    unfold max3
    repeat' split
    all_goals omega

end Go.Proofs.YtphbfhffiljbfaaGreat

/- The bounds as functions; Best, Path and Clique once more. -/
namespace Go.Proofs.YtphbfhffiljbfaaGreat
open Go.RowKit Go.Shelf

noncomputable def pathN (l : List Task) : Int := Classical.epsilon fun L => ∃ y, Covers l [l.length] L y
noncomputable def cliqueN (l : List Task) (c p : Int) : Int := Classical.epsilon fun L => ∃ s, Heavy l c p (2 ^ l.length) L s
noncomputable def bestN (l : List Task) (c p : Int) : Int := max3 (workN l c p) (pathN l) (cliqueN l c p)
theorem pathN_eq {l : List Task} {L : Int} {y : List Nat} (h : Covers l [l.length] L y) : pathN l = L := by
  obtain ⟨y', h'⟩ := Classical.epsilon_spec (p := fun L => ∃ y, Covers l [l.length] L y) ⟨L, y, h⟩
  exact (h'.uniq h).1
theorem cliqueN_eq {l : List Task} {c p L : Int} {s : Nat} (h : Heavy l c p (2 ^ l.length) L s) : cliqueN l c p = L := by
  obtain ⟨s', h'⟩ := Classical.epsilon_spec (p := fun L => ∃ s, Heavy l c p (2 ^ l.length) L s) ⟨L, s, h⟩
  exact (h'.uniq h).1

theorem bestCall (v : Value) (l : List Task) (c p : Int) (w : World) (hl : TasksAt w w.heap.size v l) :
    Calls Tryz.prog 20 #[v, .int .i64 c, .int .i64 p] w fun e w' => e = .returned (.tuple #[.int .i64 (if givenN l c p = 0 then bestN l c p else 0), .int .i64 (givenN l c p)]) ∧ Below w.heap.size w w' :=
  (boundsBest v l c p w hl).mono fun e w' h => by
    obtain ⟨hb, ⟨hno, rfl⟩ | ⟨hz, L, K, y, s, hc, hh, rfl⟩⟩ := h
    · rw [if_neg hno]
      exact ⟨rfl, hb⟩
    · rw [if_pos hz, hz]
      unfold bestN
      rw [pathN_eq hc, cliqueN_eq hh]
      exact ⟨rfl, hb⟩
theorem upN_bd {n b m : Int} (hn : 0 ≤ n) (hm : n ≤ m) (hb : 0 < n → 1 ≤ b) : 0 ≤ upN n b ∧ upN n b ≤ m := by
  unfold upN
  by_cases h : n = 0
  · rw [if_pos h]; omega
  · have h0 : 0 < n := by omega
    have h1 := hb h0
    rw [if_neg h]
    have h2 : 1 ≤ (n + b - 1) / b := (Int.le_ediv_iff_mul_le (by omega)).2 (by omega)
    have h3 : (n + b - 1) / b < n + 1 := Int.ediv_lt_of_lt_mul (by omega) (by
      have : n * 1 ≤ n * b := Int.mul_le_mul_of_nonneg_left h1 (by omega)
      rw [Int.add_mul]
      omega)
    omega
theorem need_bd {l : List Task} (hR : RightT l) (f : Task → Int) (hf : ∀ t, fieldB t = true → 0 ≤ f t ∧ f t ≤ 100) : 0 ≤ needN f l ∧ needN f l ≤ 8000000 := by
  have h := needN_bd f l fun t ht => by
    have hx := field_mem hR ht
    have h' := fieldB_len hx
    exact mul_bd (hf t hx).1 (hf t hx).2 h'.1 h'.2
  have := hR.len
  omega
theorem work_bd {l : List Task} {c p : Int} (hg : givenN l c p = 0) : 0 ≤ workN l c p ∧ workN l c p ≤ 8000000 := by
  obtain ⟨hR, -, -, -, -, hfit⟩ := givenN_zero hg
  have hA := need_bd hR Task.crew fun t h => fieldB_crew h
  have hB := need_bd hR Task.pow fun t h => fieldB_pow h
  have hc : 0 < needN Task.crew l → 1 ≤ c := lim_of (fun t ht => (fieldB_crew (field_mem hR ht)).1) fun t ht => (hfit t ht).1
  have hp : 0 < needN Task.pow l → 1 ≤ p := lim_of (fun t ht => (fieldB_pow (field_mem hR ht)).1) fun t ht => (hfit t ht).2
  rw [workN_up hA.1 hB.1 hc]
  have h1 := upN_bd hA.1 hA.2 hc
  have h2 := upN_bd hB.1 hB.2 hp
  unfold max2
  split <;> omega
theorem covers_bd {l : List Task} (hR : RightT l) {L : Int} {y : List Nat} (h : Covers l [l.length] L y) : 0 ≤ L ∧ L ≤ 80000 := by
  have h1 := sumAt_bd hR y
  have h2 := h.chain.short hR
  have h3 := hR.len
  have h4 := h.sum
  omega
theorem heavy_bd {l : List Task} (hR : RightT l) {c p L : Int} {S s : Nat} (h : Heavy l c p S L s) : 0 ≤ L ∧ L ≤ 80000 := by
  have h1 := sumAt_bd hR (memb s l.length)
  have h2 := memb_len s l.length
  have h3 := hR.len
  have h4 := h.sum
  omega
theorem bestYes (v : Value) (l : List Task) (c p : Int) (w : World) (hl : TasksAt w w.heap.size v l) (hg : givenN l c p = 0) :
    Calls Tryz.prog 20 #[v, .int .i64 c, .int .i64 p] w fun e w' => e = .returned (.tuple #[.int .i64 (bestN l c p), .int .i64 0]) ∧ (0 ≤ bestN l c p ∧ bestN l c p ≤ 8000000) ∧ Below w.heap.size w w' :=
  (boundsBest v l c p w hl).mono fun e w' h => by
    obtain ⟨hb, ⟨hno, rfl⟩ | ⟨hz, L, K, y, s, hc, hh, rfl⟩⟩ := h
    · exact absurd hg hno
    · have hR := (givenN_zero hg).1
      have h1 := work_bd hg
      have h2 := covers_bd hR hc
      have h3 := heavy_bd hR hh
      unfold bestN
      rw [pathN_eq hc, cliqueN_eq hh]
      refine ⟨rfl, ?_, hb⟩
      unfold max3
      repeat' split
      all_goals omega
theorem bestNo (v : Value) (l : List Task) (c p : Int) (w : World) (hl : TasksAt w w.heap.size v l) (hg : givenN l c p ≠ 0) :
    Calls Tryz.prog 20 #[v, .int .i64 c, .int .i64 p] w fun e w' => e = .returned (.tuple #[.int .i64 0, .int .i64 (givenN l c p)]) ∧ Below w.heap.size w w' := by
  have := bestCall v l c p w hl
  rw [if_neg hg] at this
  exact this
theorem refBestN (v : Value) (l : List Task) (c p : Int) (w : World) (hg : givenN l c p = 0) (hl : TasksAt w w.heap.size v l) :
    Calls Tryz.prog 28 #[v, .int .i64 c, .int .i64 p] w fun e w' => e = .returned (.int .i64 (bestN l c p)) ∧ (0 ≤ bestN l c p ∧ bestN l c p ≤ 8000000) ∧ Below w.heap.size w w' :=
  (refBest v l c p w hg hl).mono fun e w' h => by
    obtain ⟨hb, L, K, y, s, hc, hh, rfl⟩ := h
    have hR := (givenN_zero hg).1
    have h1 := work_bd hg
    have h2 := covers_bd hR hc
    have h3 := heavy_bd hR hh
    unfold bestN
    rw [pathN_eq hc, cliqueN_eq hh]
    refine ⟨rfl, ?_, hb⟩
    unfold max3
    repeat' split
    all_goals omega

end Go.Proofs.YtphbfhffiljbfaaGreat
