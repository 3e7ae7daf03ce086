/- Parts of the proof, laid into one text: Con, StateP, RpFind, RefOrd, RpGiven. -/
import Derived.Test.YtfcfphamecbcgaaGreatG13
import Derived.Test.YtfcfphamecbcgaaGreatG4
import Derived.Test.YtfcfphamecbcgaaGreatG6
import Derived.Test.YtfcfphamecbcgaaGreatG9

/- What is computed of tasks rests on what they read as, not on where their Before lies. No program in sight. -/
namespace Go.Proofs.YtfcfphamecbcgaaGreat
open Go.RowKit Go.Shelf

/-- A task, read. -/
def Task.norm (t : Task) : Task := { t with ba := none, bc := 0 }
def norms (l : List Task) : List Task := l.map Task.norm
theorem norms_len (l : List Task) : (norms l).length = l.length := by simp [norms]
theorem map_norm {β : Type} (f : Task → β) (hf : ∀ t, f t.norm = f t) (l : List Task) : (norms l).map f = l.map f := by
  unfold norms
  rw [List.map_map]
  exact List.map_congr_left fun t _ => hf t
section
variable {l m : List Task}
theorem con_map {β : Type} (f : Task → β) (hf : ∀ t, f t.norm = f t) (h : norms l = norms m) : l.map f = m.map f := by rw [← map_norm f hf l, h, map_norm f hf m]
theorem con_len (h : norms l = norms m) : l.length = m.length := by rw [← norms_len l, h, norms_len]
theorem con_names (h : norms l = norms m) : names l = names m := con_map Task.name (fun _ => rfl) h
theorem place_names (l : List Task) (s : ByteArray) : place l s = (names l).findIdx? fun x => decide (x = s) := by
  unfold place names
  rw [List.findIdx?_map]
  rfl
theorem con_pl (h : norms l = norms m) : pl l = pl m := by
  funext s
  unfold pl
  rw [place_names, place_names, con_names h]
theorem con_lens (h : norms l = norms m) : lens l = lens m := con_map Task.len (fun _ => rfl) h
theorem con_rows (h : norms l = norms m) : rowsOf l = rowsOf m := by
  unfold rowsOf
  have : pls l = pls m := by funext L; unfold pls; rw [con_pl h]
  rw [this]
  exact con_map (fun t => pls m t.bef) (fun _ => rfl) h
theorem con_f {f : Task → Int} (hf : ∀ t, f t.norm = f t) (h : norms l = norms m) (i : Nat) : fAt f l i = fAt f m i := by unfold fAt; rw [con_map f hf h]
theorem con_lenAt (h : norms l = norms m) (i : Nat) : lenAt l i = lenAt m i := by unfold lenAt; rw [con_lens h]
theorem con_rowAt (h : norms l = norms m) (i : Nat) : rowAt l i = rowAt m i := by unfold rowAt; rw [con_rows h]
theorem con_end (h : norms l = norms m) (s : List Int) (i : Nat) : endN l s i = endN m s i := by unfold endN; rw [con_lenAt h]
theorem con_on (h : norms l = norms m) (s : List Int) (t : Int) (i : Nat) : onB l s t i = onB m s t i := by unfold onB; rw [con_end h]
theorem con_used {f : Task → Int} (hf : ∀ t, f t.norm = f t) (h : norms l = norms m) (s : List Int) (t : Int) : ∀ k, usedTo f l s t k = usedTo f m s t k
  | 0 => rfl
  | k + 1 => by rw [usedTo, usedTo, con_used hf h s t k, con_on h, con_f hf h]
theorem con_fits (h : norms l = norms m) (c p : Int) (s : List Int) (t : Int) : fitsB l c p s t = fitsB m c p s t := by
  unfold fitsB
  rw [con_used (fun _ => rfl) h, con_used (f := Task.pow) (fun _ => rfl) h, con_len h]
theorem con_whole (h : norms l = norms m) (c p : Int) (s : List Int) (i : Nat) : wholeB l c p s i = wholeB m c p s i := by
  unfold wholeB
  have : badB l c p s i = badB m c p s i := by
    funext x
    unfold badB
    rw [con_end h, con_fits h]
  rw [con_fits h, this]
theorem con_first (h : norms l = norms m) (s r : List Int) : firstN l s r = firstN m s r := by
  unfold firstN
  have : (fun a k : Int => max2 a (endN l s k.toNat)) = fun a k => max2 a (endN m s k.toNat) := by funext a k; rw [con_end h]
  rw [this]
theorem con_timesTo (h : norms l = norms m) (s : List Int) (f : Int) : ∀ k, timesTo l s f k = timesTo m s f k
  | 0 => rfl
  | k + 1 => by rw [timesTo, timesTo, con_timesTo h s f k, con_end h]
theorem con_times (h : norms l = norms m) (s : List Int) (i : Nat) : timesN l s i = timesN m s i := by unfold timesN; rw [con_rowAt h, con_first h, con_len h, con_timesTo h]
theorem con_putN (h : norms l = norms m) (c p : Int) (s : List Int) (i : Nat) : putN l c p s i = putN m c p s i := by
  unfold putN
  have : (fun x => wholeB l c p (s.set i x) i) = fun x => wholeB m c p (s.set i x) i := by funext x; rw [con_whole h]
  rw [con_times h, this]
theorem con_skip (h : norms l = norms m) (s : List Int) (i : Nat) : skipB l s i = skipB m s i := by unfold skipB; rw [con_rowAt h]
theorem con_lenPl (h : norms l = norms m) (s : List Int) : ∀ k, lenPl l s k = lenPl m s k
  | 0 => rfl
  | k + 1 => by rw [lenPl, lenPl, con_lenPl h s k, con_end h]
theorem con_lenTo (h : norms l = norms m) (s : List Int) : ∀ k, lenTo l s k = lenTo m s k
  | 0 => rfl
  | k + 1 => by rw [lenTo, lenTo, con_lenTo h s k, con_end h]
theorem con_srch (h : norms l = norms m) (c p : Int) : ∀ (k : Nat) (s : List Int) (b : Int × List Int), srch l c p k s b = srch m c p k s b
  | 0, s, b => by rw [srch, srch, con_lenPl h, con_len h]
  | k + 1, s, b => by
    rw [srch, srch, con_len h]
    congr 1
    funext b i
    rw [con_skip h, con_putN h, con_srch h c p k]
theorem con_least (h : norms l = norms m) (c p : Int) : leastN l c p = leastN m c p := by
  unfold leastN
  rw [con_len h, con_srch h]
theorem con_any (h : norms l = norms m) (c p : Int) : l.any (tooMuch c p) = m.any (tooMuch c p) := by
  have e : ∀ l : List Task, l.any (tooMuch c p) = (l.map (tooMuch c p)).any id := fun l => by rw [List.any_map]; rfl
  rw [e, e, con_map (tooMuch c p) (fun _ => rfl) h]
theorem con_tk (h : norms l = norms m) (i : Nat) : (tk l i).name = (tk m i).name ∧ (tk l i).len = (tk m i).len ∧ (tk l i).crew = (tk m i).crew ∧ (tk l i).pow = (tk m i).pow ∧ (tk l i).bef = (tk m i).bef := by
  have e : ∀ l : List Task, (tk l i).norm = (norms l).getD i default := fun l => by
    unfold tk norms
    rw [List.getD_eq_getElem?_getD, List.getD_eq_getElem?_getD, List.getElem?_map]
    cases l[i]? <;> rfl
  have e2 : (tk l i).norm = (tk m i).norm := by rw [e, e, h]
  unfold Task.norm at e2
  injection e2 with a1 a2 a3 a4 _ _ a7
  exact ⟨a1, a2, a3, a4, a7⟩
/-- Tasks that read as right ones are right. -/
theorem con_sub (h : norms l = norms m) {k : List Task} {z : List Nat} (hS : SubT k z l) : SubT k z m := by
  refine ⟨by rw [← con_len h]; exact hS.len, hS.nd, hS.lt, fun a ha => ?_, fun a ha => ?_, fun a ha => ?_, fun a ha => ?_, fun a ha => ?_, fun a ha s => ?_⟩
  · rw [← (con_tk h a).1]; exact hS.name a ha
  · rw [← (con_tk h a).2.2.1]; exact hS.crew a ha
  · rw [← (con_tk h a).2.2.2.1]; exact hS.pow a ha
  · rw [← (con_tk h a).2.1]; exact hS.ln a ha
  · rw [← (con_tk h a).2.2.2.2]; exact hS.befnd a ha
  · rw [← (con_tk h a).2.2.2.2]; exact hS.bef a ha s
end

end Go.Proofs.YtfcfphamecbcgaaGreat

/- The state of tasks at a time, and the state of a state. No program in sight. -/
namespace Go.Proofs.YtfcfphamecbcgaaGreat
open Go.RowKit Go.Shelf

/-- A task has not ended. -/
def liveB (l : List Task) (s : List Int) (a : Int) (i : Nat) : Bool := decide (a < endN l s i)
def liveZ (l : List Task) (s : List Int) (a : Int) : List Nat := (List.range l.length).filter (liveB l s a)
/-- What is left of a task. -/
def stTask (l : List Task) (s : List Int) (a : Int) (i : Nat) : Task :=
  ⟨(tk l i).name, if atI s i < a then endN l s i - a else (tk l i).len, (tk l i).crew, (tk l i).pow, none, 0, (tk l i).bef.filter fun x => liveB l s a (pl l x).toNat⟩
def stateN (l : List Task) (s : List Int) (a : Int) : List Task := (liveZ l s a).map (stTask l s a)
/-- Starts keep the order. -/
def ordB (l : List Task) (s : List Int) : Bool := (List.range l.length).all fun i => (rowAt l i).all fun k => decide (endN l s k.toNat ≤ atI s i)
/-- The error's number of tasks, starts and a time. -/
noncomputable def givenR (l : List Task) (s : List Int) (a : Int) : Int :=
  if rightR l = true then (if startsN l s = 0 then (if a < 0 ∨ 1000000 < a then 2 else (if ordB l s = true then 0 else 17)) else startsN l s) else 1
theorem givenR_zero {l : List Task} {s : List Int} {a : Int} (h : givenR l s a = 0) : RightT l ∧ startsN l s = 0 ∧ 0 ≤ a ∧ a ≤ 1000000 ∧ ordB l s = true := by
  unfold givenR at h
  split at h
  · rename_i h1
    split at h
    · rename_i h2
      split at h
      · cases h
      · rename_i h3
        split at h
        · rename_i h4
          exact ⟨(right_iff l).1 h1, h2, by omega, by omega, h4⟩
        · cases h
    · rename_i h2
      exact absurd h h2
  · cases h
theorem ord_facts {l : List Task} {s : List Int} (h : ordB l s = true) {i : Nat} (hi : i < l.length) {k : Int} (hk : k ∈ rowAt l i) : endN l s k.toNat ≤ atI s i := by
  unfold ordB at h
  rw [List.all_eq_true] at h
  have := h i (List.mem_range.2 hi)
  rw [List.all_eq_true] at this
  simpa using this k hk
theorem ord_of {l : List Task} {s : List Int} (h : ∀ i, i < l.length → ∀ k ∈ rowAt l i, endN l s k.toNat ≤ atI s i) : ordB l s = true := by
  unfold ordB
  rw [List.all_eq_true]
  intro i hi
  rw [List.all_eq_true]
  intro k hk
  simpa using h i (List.mem_range.1 hi) k hk

section
variable {l : List Task} {s : List Int} {a : Int}
theorem mem_live {i : Nat} : i ∈ liveZ l s a ↔ i < l.length ∧ a < endN l s i := by
  unfold liveZ liveB
  rw [List.mem_filter, List.mem_range, decide_eq_true_iff]
theorem live_nodup : (liveZ l s a).Nodup := List.nodup_range.sublist List.filter_sublist
theorem state_len : (stateN l s a).length = (liveZ l s a).length := by simp [stateN]
theorem tk_state {b : Nat} (hb : b < (liveZ l s a).length) : tk (stateN l s a) b = stTask l s a (zAt (liveZ l s a) b) := by
  unfold stateN
  rw [tk_get (by simpa using hb), zAt_get hb]
  simp
theorem norms_state : norms (stateN l s a) = stateN l s a := by
  unfold norms stateN
  rw [List.map_map]
  rfl
theorem con_state {m : List Task} (h : norms l = norms m) : stateN l s a = stateN m s a := by
  have h1 : liveB l s a = liveB m s a := by funext i; unfold liveB; rw [con_end h]
  have h2 : stTask l s a = stTask m s a := by
    funext i
    obtain ⟨e1, e2, e3, e4, e5⟩ := con_tk h i
    unfold stTask
    rw [e1, e2, e3, e4, e5, con_end h, h1, con_pl h]
  unfold stateN liveZ
  rw [h1, h2, con_len h]
theorem sub_state (hR : RightT l) : SubT l (liveZ l s a) (stateN l s a) := by
  have hz : ∀ b, b < (liveZ l s a).length → zAt (liveZ l s a) b < l.length ∧ a < endN l s (zAt (liveZ l s a) b) := fun b hb => mem_live.1 (zAt_mem hb)
  refine ⟨state_len, live_nodup, fun i hi => (mem_live.1 hi).1, fun b hb => by rw [tk_state hb]; rfl, fun b hb => by rw [tk_state hb]; rfl, fun b hb => by rw [tk_state hb]; rfl, fun b hb => ?_, fun b hb => ?_, fun b hb x => ?_⟩
  · obtain ⟨h1, h2⟩ := hz b hb
    have hl := (fieldB_len (hR.field _ h1)).1
    rw [tk_state hb]
    unfold stTask
    rw [← tk_get h1] at hl
    unfold endN at h2 ⊢
    rw [tk_len h1] at h2 ⊢
    show 1 ≤ (if atI s _ < a then _ else _) ∧ (if atI s _ < a then _ else _) ≤ _
    split <;> omega
  · obtain ⟨h1, -⟩ := hz b hb
    rw [tk_state hb]
    exact (((befOK_iff l).1 hR.bef _ (List.getElem_mem h1)).1.sublist (by rw [← tk_get h1]; exact List.filter_sublist))
  · obtain ⟨h1, -⟩ := hz b hb
    rw [tk_state hb]
    show x ∈ (tk l (zAt (liveZ l s a) b)).bef.filter _ ↔ _
    rw [List.mem_filter]
    constructor
    · rintro ⟨hx, hlv⟩
      refine ⟨hx, ?_⟩
      obtain ⟨i, hi, e1, e2⟩ := pl_mem (((befOK_iff l).1 hR.bef _ (List.getElem_mem h1)).2 x (by rw [← tk_get h1]; exact hx)).1
      rw [e1, Int.toNat_natCast] at hlv
      have hm : i ∈ liveZ l s a := mem_live.2 ⟨hi, by unfold liveB at hlv; simpa using hlv⟩
      obtain ⟨k, hk, e⟩ := List.mem_iff_getElem.1 hm
      exact ⟨k, hk, by rw [zAt_get hk, e, tk_get hi]; exact e2⟩
    · rintro ⟨hx, k, hk, rfl⟩
      refine ⟨hx, ?_⟩
      obtain ⟨h3, h4⟩ := hz k hk
      rw [tk_get h3, pl_name hR.dist h3, Int.toNat_natCast]
      unfold liveB
      simpa using h4
/-- The starts that are left, counted from the time on. -/
def restS (l : List Task) (s : List Int) (a : Int) : List Int := (liveZ l s a).map fun i => max 0 (atI s i - a)
theorem rest_at {b : Nat} (hb : b < (liveZ l s a).length) : atI (restS l s a) b = max 0 (atI s (zAt (liveZ l s a) b) - a) := by
  unfold restS
  rw [atI_get (by simpa using hb), zAt_get hb]
  simp
theorem state_end (_hR : RightT l) {b : Nat} (hb : b < (liveZ l s a).length) : endN (stateN l s a) (restS l s a) b = endN l s (zAt (liveZ l s a) b) - a := by
  have h1 := (mem_live.1 (zAt_mem hb)).1
  have h2 := (mem_live.1 (zAt_mem hb)).2
  unfold endN at h2 ⊢
  rw [rest_at hb, tk_len (by rw [state_len]; exact hb), tk_state hb]
  rw [tk_len h1] at h2 ⊢
  unfold stTask
  show max 0 _ + (if atI s _ < a then _ else _) = _
  unfold endN
  rw [tk_len h1]
  split <;> omega
theorem state_ord (hR : RightT l) (ho : ordB l s = true) : ordB (stateN l s a) (restS l s a) = true := by
  have hS := sub_state (s := s) (a := a) hR
  refine ord_of fun b hb k hk => ?_
  rw [state_len] at hb
  obtain ⟨b', hb', rfl, hrow⟩ := hS.row hR hb hk
  have h1 := ord_facts ho (hS.zlt hb) hrow
  rw [Int.toNat_natCast] at h1 ⊢
  have h2 := (mem_live.1 (zAt_mem hb')).2
  rw [state_end hR hb', rest_at hb]
  omega
theorem map_zAt (z : List Nat) : (List.range z.length).map (zAt z) = z := by
  apply List.ext_getElem
  · simp
  · intro i h1 h2
    simp [zAt_get h2]
/-- The state at a later time is that of the state. -/
theorem state_step (hR : RightT l) {d : Int} (hd : 0 ≤ d) : stateN (stateN l s a) (restS l s a) d = stateN l s (a + d) := by
  have hS := sub_state (s := s) (a := a) hR
  have hlive : ∀ b, b < (liveZ l s a).length → liveB (stateN l s a) (restS l s a) d b = liveB l s (a + d) (zAt (liveZ l s a) b) := fun b hb => by
    unfold liveB
    rw [state_end hR hb]
    exact decide_eq_decide.2 (by omega)
  have hz : liveZ l s (a + d) = (liveZ (stateN l s a) (restS l s a) d).map (zAt (liveZ l s a)) := by
    have e1 : liveZ l s (a + d) = (liveZ l s a).filter (liveB l s (a + d)) := by
      unfold liveZ
      rw [List.filter_filter]
      refine List.filter_congr fun i _ => ?_
      unfold liveB
      rw [Bool.eq_iff_iff, Bool.and_eq_true, decide_eq_true_iff, decide_eq_true_iff]
      omega
    have e2 : liveZ (stateN l s a) (restS l s a) d = (List.range (liveZ l s a).length).filter (liveB l s (a + d) ∘ zAt (liveZ l s a)) := by
      conv => lhs; unfold liveZ
      rw [state_len]
      exact List.filter_congr fun b hb => hlive b (List.mem_range.1 hb)
    rw [e1, e2, ← List.filter_map, map_zAt]
  have hML : (stateN l s a).length = (liveZ l s a).length := state_len
  have hE := fun b (hb : b < (liveZ l s a).length) => state_end (s := s) hR hb
  have hT := fun b (hb : b < (liveZ l s a).length) => tk_state (l := l) (s := s) (a := a) hb
  generalize stateN l s a = m at *
  show (liveZ m (restS l s a) d).map (stTask m (restS l s a) d) = (liveZ l s (a + d)).map (stTask l s (a + d))
  rw [hz, List.map_map]
  refine List.map_congr_left fun b hb => ?_
  have hb' : b < (liveZ l s a).length := by
    have := (mem_live.1 hb).1
    omega
  have h1 := (mem_live.1 (zAt_mem hb')).1
  have h2 := (mem_live.1 (zAt_mem hb')).2
  have he := hE b hb'
  have hr := rest_at hb'
  have ht := hT b hb'
  have hlen : (if max 0 (atI s (zAt (liveZ l s a) b) - a) < d then endN l s (zAt (liveZ l s a) b) - a - d else (stTask l s a (zAt (liveZ l s a) b)).len) = if atI s (zAt (liveZ l s a) b) < a + d then endN l s (zAt (liveZ l s a) b) - (a + d) else (tk l (zAt (liveZ l s a) b)).len := by
    unfold stTask
    show (if _ then _ else (if atI s _ < a then _ else _)) = _
    generalize atI s (zAt (liveZ l s a) b) = x
    generalize endN l s (zAt (liveZ l s a) b) = e
    by_cases c1 : max 0 (x - a) < d
    · rw [if_pos c1, if_pos (by omega)]; omega
    · rw [if_neg c1]
      by_cases c2 : x < a
      · rw [if_pos c2, if_pos (by omega)]; omega
      · rw [if_neg c2, if_neg (by omega)]
  have hbef : ((stTask l s a (zAt (liveZ l s a) b)).bef.filter fun x => liveB m (restS l s a) d (pl m x).toNat) = (tk l (zAt (liveZ l s a) b)).bef.filter fun x => liveB l s (a + d) (pl l x).toNat := by
    show ((tk l (zAt (liveZ l s a) b)).bef.filter _).filter _ = _
    rw [List.filter_filter]
    refine List.filter_congr fun x hx => ?_
    obtain ⟨i, hi, e1, e2⟩ := pl_mem (((befOK_iff l).1 hR.bef _ (List.getElem_mem h1)).2 x (by rw [← tk_get h1]; exact hx)).1
    rw [e1, Int.toNat_natCast]
    by_cases hv : a < endN l s i
    · have hm : i ∈ liveZ l s a := mem_live.2 ⟨hi, hv⟩
      obtain ⟨k, hk, e⟩ := List.mem_iff_getElem.1 hm
      have hzk : zAt (liveZ l s a) k = i := by rw [zAt_get hk, e]
      have hpk := hS.pl hR hk
      rw [hzk, tk_get hi, e2] at hpk
      rw [hpk, Int.toNat_natCast, hlive k hk, hzk]
      have hv2 : liveB l s a i = true := by unfold liveB; exact decide_eq_true hv
      rw [hv2, Bool.and_true]
    · have h3 : liveB l s a i = false := by unfold liveB; exact decide_eq_false hv
      have h4 : liveB l s (a + d) i = false := by unfold liveB; exact decide_eq_false (by omega)
      rw [h3, h4, Bool.and_false]
  show (⟨(tk m b).name, if atI (restS l s a) b < d then endN m (restS l s a) b - d else (tk m b).len, (tk m b).crew, (tk m b).pow, none, 0, (tk m b).bef.filter fun x => liveB m (restS l s a) d (pl m x).toNat⟩ : Task) = _
  rw [he, hr, ht, hlen, hbef]
  rfl
end

end Go.Proofs.YtfcfphamecbcgaaGreat

/- replan.find, replan.ended, the reference's Ended. -/
namespace Go.Proofs.YtfcfphamecbcgaaGreat
open Go.RowKit Go.Shelf

theorem entersFind1 : ∀ args w, (callFunc 38 args).run Tryz.prog w = .ok (.enter 38 args) w := enters_of Tryz.func38 (by kernel_rfl) rfl

set_option maxHeartbeats 1000000 in
theorem findClosure (t : Task) (a : ByteArray) (D : Nat) (w : World) (_hD : D < w.heap.size) (hc : w.cell? ⟨D, 0, none⟩ = some (.string a)) :
    Calls Tryz.prog 38 #[t.val, .pointer (some ⟨D, 0, none⟩)] w fun e w' => e = .returned (.bool (decide (t.name = a))) ∧ Below w.heap.size w w' := by
  have hbo : ∀ o, Below w.heap.size w (w.alloc o) := fun o => (Below.refl _ _).alloc (Nat.le_refl _) o
  obtain ⟨name, len, crew, pow, ba, bc, bef⟩ := t
  unfold Task.val
  simp only
  have hb : (name.toList == a.toList) = decide (name = a) := str_beq name a
  generalize decide (name = a) = q at *
  go_enter Tryz.func38, Tryz.ntmps38
  go_wp2
  go_ret
  exact ⟨rfl, hbo _⟩

set_option maxRecDepth 100000 in
set_option maxHeartbeats 1000000 in
theorem rpFind (v : Value) (l : List Task) (a : ByteArray) (w : World) (hl : TasksAt w w.heap.size v l) :
    Calls Tryz.prog 23 #[v, .string a] w fun e w' => e = .returned (.int .i64 (pl l a)) ∧ Below w.heap.size w w' := by
  have hbo : ∀ o, Below w.heap.size w (w.alloc o) := fun o => (Below.refl _ _).alloc (Nat.le_refl _) o
  have hT := (hl.below (hbo (.cells #[.string a] 9)) (Nat.le_refl _)).mono (show w.heap.size ≤ (w.alloc (.cells #[.string a] 9)).heap.size by simp)
  have hI := indexFuncTask v l 38 #[.pointer (some ⟨w.heap.size, 0, none⟩)] (fun t => decide (t.name = a)) entersFind1 _ hT (fun t ht w' hb => by
    have hsz := hb.size
    simp only [World.size_alloc] at hsz
    refine findClosure t a w.heap.size w' (by omega) ?_
    rw [hb.cell (by simp)]
    simp)
  have HP : Hid (idxOf (l.findIdx? fun t => decide (t.name = a)) = pl l a) := rfl
  rw [HP.out] at hI
  generalize pl l a = x at *
  obtain ⟨A, cc, rfl, hA1, hA2, -⟩ := hl.open_
  unfold maxLen at hA2
  clear hl hT HP
  go_enter Tryz.func23, Tryz.ntmps23
  go_wp2_with (go_at_call 34; refine hI.mono ?_; rintro e w1 ⟨rfl, hb1⟩)
  go_ret
  exact ⟨rfl, (hbo _).trans (hb1.mono (by simp))⟩

set_option maxHeartbeats 1000000 in
theorem rpEnded (t : Task) (x a : Int) (w : World) (h1 : -1000000000 ≤ x ∧ x ≤ 1000000000) (h2 : -1000000000 ≤ t.len ∧ t.len ≤ 1000000000) :
    Calls Tryz.prog 47 #[t.val, .int .i64 x, .int .i64 a] w fun e w' => e = .returned (.bool (decide (x + t.len ≤ a))) ∧ Below w.heap.size w w' := by
  have hbo : ∀ o, Below w.heap.size w (w.alloc o) := fun o => (Below.refl _ _).alloc (Nat.le_refl _) o
  obtain ⟨name, len, crew, pow, ba, bc, bef⟩ := t
  unfold Task.val
  simp only at *
  have hw : IntKind.i64.wrap (x + len) = x + len := IntWalk.i64_in _ (by omega)
  obtain ⟨h3, h4⟩ := h1
  obtain ⟨h5, h6⟩ := h2
  go_enter Tryz.func47, Tryz.ntmps47
  go_wp2
  go_ret
  exact ⟨rfl, hbo _⟩

set_option maxRecDepth 100000 in
set_option maxHeartbeats 1000000 in
theorem refEnded (v u : Value) (l : List Task) (s : List Int) (a : Int) (i : Nat) (B : Nat) (w : World) (hR : RightT l) (hl : TasksAt w B v l) (hs : IntsAt w B u s) (hlen : s.length = l.length) (hbd : ∀ x ∈ s, 0 ≤ x ∧ x ≤ 1000000) (hi : i < l.length) :
    Calls Tryz.prog 30 #[v, u, .int .i64 a, .int .i64 i] w fun e w' => e = .returned (.bool (decide (endN l s i ≤ a))) ∧ ∃ q, w.drewN q = w' := by
  have hln := fieldB_len (hR.field i hi)
  have hx := hbd _ (List.getElem_mem (show i < s.length by omega))
  obtain ⟨A, cc, rfl, hA1, hA2, -⟩ := hl.open_
  obtain ⟨b0, off0, rfl, hb0, hct⟩ := hl.cells hi
  obtain ⟨-, t1, -, -, -⟩ := hct i hi
  obtain ⟨A1, c1, rfl, hB1, hB2, hBc⟩ := hs.open_
  obtain ⟨b1, off1, rfl, hb1, hsc⟩ := hBc i (by omega)
  have s1 := hsc i (by omega)
  have HE : Hid (endN l s i = s[i]'(by omega) + l[i].len) := by unfold Hid endN; rw [atI_get (by omega), lenAt_eq hi]
  unfold maxLen at hA2 hB2
  have i1 : (0 : Int) ≤ (i : Int) := Int.natCast_nonneg _
  have i2 : (i : Int) < (l.length : Int) := by omega
  have i3 : (i : Int) < (s.length : Int) := by omega
  have hw : IntKind.i64.wrap (s[i]'(by omega) + l[i].len) = s[i]'(by omega) + l[i].len := IntWalk.i64_in _ (by omega)
  rw [HE.out]
  clear hl hs hct hBc hsc hbd hR HE
  generalize s[i]'(by omega) = x at *
  clear hlen
  generalize l[i].len = n at *
  go_enter Tryz.func30, Tryz.ntmps30
  go_wp2_with fail
  go_quiet (fail)
  go_wp2
  go_ret
  exact ⟨rfl, _, rfl⟩

end Go.Proofs.YtfcfphamecbcgaaGreat

/- The reference's Keeps and Given of layer 45; replan.given. -/
namespace Go.Proofs.YtfcfphamecbcgaaGreat
open Go.RowKit Go.Shelf

theorem ord_late (l : List Task) (s : List Int) : ordB l s = (List.range l.length).all fun i => !(rowAt l i).any (lateB l s i) := by
  unfold ordB
  congr 1
  funext i
  rw [Bool.eq_iff_iff, List.all_eq_true, Bool.not_eq_true', List.any_eq_false]
  refine forall_congr' fun k => forall_congr' fun _ => ?_
  unfold lateB
  simp

set_option maxRecDepth 100000 in
set_option maxHeartbeats 4000000 in
theorem refOrd (v u : Value) (l : List Task) (s : List Int) (B : Nat) (w : World) (hR : RightT l) (hl : TasksAt w B v l) (hs : IntsAt w B u s) (hlen : s.length = l.length) (hbd : ∀ x ∈ s, 0 ≤ x ∧ x ≤ 1000000) :
    Calls Tryz.prog 44 #[v, u] w fun e w' => e = .returned (.bool (ordB l s)) ∧ ∃ q, w.drewN q = w' := by
  have h8 := hR.len
  have HR := Lib.hid hR
  have HFind : Hid (∀ s q, Calls Tryz.prog 45 #[v, .string s] (w.drewN q) fun e w'' => e = .returned (.int .i64 (pl l s)) ∧ w.drewN q = w'') := fun s q => refFind v l s (w.drewN q) B (hl.drewN q)
  have hat : ∀ i, i < l.length → 0 ≤ atI s i ∧ atI s i ≤ 1000000 := fun i hi => by rw [atI_get (by omega)]; exact hbd _ (List.getElem_mem _)
  have Hat := Lib.hid hat
  have HL := Lib.hid hl
  obtain ⟨A, cc, rfl, hA1, hA2, -⟩ := hl.open_
  obtain ⟨A1, c1, rfl, hB1, hB2, hBc⟩ := hs.open_
  unfold maxLen at hA2 hB2
  have HC : Hid (∀ (k : Nat), k < l.length → ∃ b1 off1, A1 = some ⟨b1, off1, none⟩ ∧ w.cell? ⟨b1, off1 + k, none⟩ = some (.int .i64 (atI s k))) := fun k hk => by
    obtain ⟨b1, off1, e, hb, hc⟩ := hBc k (by omega)
    exact ⟨b1, off1, e, by rw [atI_get (by omega)]; exact hc k (by omega)⟩
  rw [hlen] at hB1 ⊢
  have HV : Hid (ordB l s = (List.range l.length).all fun i => !(rowAt l i).any (lateB l s i)) := ord_late l s
  clear hl hs hBc hat hbd hR
  go_enter Tryz.func44, Tryz.ntmps44
  go_wp2_with fail
  go_loopw [5] (fun ix wr => ∃ (k : Nat), k ≤ l.length ∧ ix = .int .i64 k ∧ Hid ((List.range k).all (fun i => !(rowAt l i).any (lateB l s i)) = true) ∧ ∃ q, wr = w.drewN q) (fun ix _ => l.length - (intOf ix).toNat)
  case atStart => exact ⟨0, Nat.zero_le _, rfl, rfl, 0, rfl⟩
  case round =>
    obtain ⟨k, hk, rfl, HN, q0, rfl⟩ := hrel
    have k1 : (0 : Int) ≤ (k : Int) := Int.natCast_nonneg _
    by_cases hkl : k < l.length
    · obtain ⟨b0, off0, rfl, hb0, hct⟩ := HL.out.cells hkl
      obtain ⟨-, -, -, -, t4⟩ := hct k hkl
      obtain ⟨hm1, hm2, hbef⟩ := HL.out.open_bef hkl
      unfold maxLen at hm2
      have HBf := Lib.hid hbef
      have hrow : rowAt l k = pls l l[k].bef := getD_rows hkl
      have HRow := Lib.hid hrow
      have HMem : Hid (∀ s ∈ l[k].bef, ∃ j : Nat, j < l.length ∧ pl l s = (j : Int)) := fun s hs => mem_row HR.out hkl (by unfold pls; exact List.mem_map.2 ⟨s, hs, rfl⟩)
      have HCT : Hid (∀ (j : Nat) (hj : j < l.length), w.cell? ⟨b0, off0 + j * 5 + 1, none⟩ = some (.int .i64 l[j].len) ∧ 1 ≤ l[j].len ∧ l[j].len ≤ 10000) := fun j hj => ⟨(hct j hj).2.1, fieldB_len (HR.out.field j hj)⟩
      clear hct hbef hrow
      have k2 : (k : Int) < (l.length : Int) := by omega
      go_wp2_with fail
      go_loopw [6] (fun ix wr => ∃ m : Nat, m ≤ l[k].bef.length ∧ ix = .int .i64 m ∧ Hid (((pls l l[k].bef).take m).any (lateB l s k) = false) ∧ ∃ q, wr = w.drewN q) (fun ix _ => l[k].bef.length - (intOf ix).toNat)
      case atStart => exact ⟨0, Nat.zero_le _, rfl, rfl, q0, rfl⟩
      case round =>
        obtain ⟨m, hm, rfl, HM, q, rfl⟩ := hrel
        by_cases hml : m < l[k].bef.length
        · obtain ⟨b', off', hba, hb', hs'⟩ := HBf.out m hml
          have hsk := hs' m hml
          obtain ⟨j, hj, hje⟩ := HMem.out _ (List.getElem_mem hml)
          have hF := HFind.out l[k].bef[m] q
          rw [hje] at hF
          obtain ⟨b1, off1, rfl, r1⟩ := HC.out j hj
          obtain ⟨b2, off2, e2, r2⟩ := HC.out k hkl
          injection e2 with e2
          injection e2 with e3 e4
          subst e3 e4
          obtain ⟨hl1, hl2, hl3⟩ := HCT.out j hj
          have ha1 := Hat.out j hj
          have ha2 := Hat.out k hkl
          have hg : (pls l l[k].bef)[m]'(by simp [pls]; exact hml) = (j : Int) := by rw [← hje]; simp [pls]
          have HLt : Hid (lateB l s k ((pls l l[k].bef)[m]'(by simp [pls]; exact hml)) = decide (atI s k < atI s j + l[j].len)) := by
            unfold Hid lateB endN
            rw [hg, Int.toNat_natCast, lenAt_eq hj]
          have HY : Hid (lateB l s k ((pls l l[k].bef)[m]'(by simp [pls]; exact hml)) = false → ((pls l l[k].bef).take (m + 1)).any (lateB l s k) = false) := fun h => any_take (by simp [pls]; exact hml) HM.out h
          have HX : Hid (lateB l s k ((pls l l[k].bef)[m]'(by simp [pls]; exact hml)) = true → ordB l s = false) := fun h => by
            rw [HV.out, all_range_no hkl (by rw [HRow.out, any_hit (by simp [pls]; exact hml) h]; rfl)]
          clear hs' hje hg HM
          generalize lateB l s k ((pls l l[k].bef)[m]'(by simp [pls]; exact hml)) = lt at *
          generalize l[j].len = ln at *
          generalize atI s j = x at *
          generalize atI s k = z at *
          have j1 : (0 : Int) ≤ (j : Int) := Int.natCast_nonneg _
          have j2 : (j : Int) < (l.length : Int) := by omega
          have i3 : (0 : Int) ≤ (m : Int) := Int.natCast_nonneg _
          have i4 : (m : Int) < (l[k].bef.length : Int) := by omega
          have w1 : IntKind.i64.wrap (x + ln) = x + ln := IntWalk.i64_in _ (by omega)
          by_cases hq : z < x + ln
          · have HX' := Lib.hid (HX.out (by rw [HLt.out]; simpa using hq))
            clear HX HY HLt
            go_wp2_with (go_at_call 45; refine hF.mono ?_; rintro e w' ⟨rfl, rfl⟩)
            go_quiet (fail)
            go_wp2_with fail
            go_ret
            exact ⟨ret_bool HX'.out.symm, _, (by first | rfl | exact (World.drewN_drewN ..).symm)⟩
          · have HY' := Lib.hid (HY.out (by rw [HLt.out]; simpa using hq))
            have hqb : decide (z < x + ln) = false := by simpa using hq
            clear HX HY HLt
            go_wp2_with (go_at_call 45; refine hF.mono ?_; rintro e w' ⟨rfl, rfl⟩)
            go_quiet (fail)
            go_wp2_with fail
            go_roundw
            case rel => exact ⟨m + 1, by omega, by go_num, HY', _, rfl⟩
            case measure => simp [intOf]; omega
        · have hme : m = l[k].bef.length := by omega
          subst hme
          have HN' : Hid ((List.range (k + 1)).all (fun i => !(rowAt l i).any (lateB l s i)) = true) := by
            have := HM.out
            rw [show (pls l l[k].bef).take l[k].bef.length = pls l l[k].bef by rw [show l[k].bef.length = (pls l l[k].bef).length by simp [pls], List.take_length]] at this
            unfold Hid
            rw [all_range_succ, HN.out, HRow.out, this]
            rfl
          clear HM HN
          go_wp2_with fail
          go_roundw
          case rel => exact ⟨k + 1, by omega, by go_num, HN', q, rfl⟩
          case measure => simp [intOf]; omega
    · obtain rfl : k = l.length := by omega
      have HB : Hid (ordB l s = true) := by unfold Hid; rw [HV.out]; exact HN.out
      go_wp2_with fail
      go_ret
      exact ⟨ret_bool HB.out.symm, q0, rfl⟩

set_option maxRecDepth 100000 in
set_option maxHeartbeats 4000000 in
theorem refGiven45 (v u : Value) (l : List Task) (s : List Int) (a : Int) (w : World) (hl : TasksAt w w.heap.size v l) (hs : IntsAt w w.heap.size u s) (hw : Wide s) :
    Calls Tryz.prog 26 #[v, u, .int .i64 a] w fun e w' => e = .returned (.int .i64 (givenR l s a)) ∧ Below w.heap.size w w' := by
  have hRt := refRight v l w hl
  have HT : Hid (∀ w1, Below w.heap.size w w1 → TasksAt w1 w1.heap.size v l) := fun w1 hb => (hl.below hb (Nat.le_refl _)).mono hb.size
  have HS : Hid (∀ w1, Below w.heap.size w w1 → IntsAt w1 w1.heap.size u s) := fun w1 hb => (hs.below hb (Nat.le_refl _)).mono hb.size
  have HSt : Hid (∀ w1, Below w.heap.size w w1 → Calls Tryz.prog 43 #[v, u] w1 fun e w' => e = .returned (.int .i64 (startsN l s)) ∧ w1 = w') := fun w1 hb => refStarts v u l s w1.heap.size w1 (HT.out w1 hb) (HS.out w1 hb) hw
  obtain ⟨A, cc, rfl, hA1, hA2, -⟩ := hl.open_
  obtain ⟨A1, c1, rfl, hB1, hB2, -⟩ := hs.open_
  unfold maxLen at hA2 hB2
  clear hl hs hw
  cases hr : rightR l with
  | false =>
    have HV : Hid (givenR l s a = 1) := by unfold Hid givenR; rw [hr]; exact if_neg (by simp)
    rw [hr] at hRt
    clear hr HSt
    go_enter Tryz.func26, Tryz.ntmps26
    go_wp2_with (go_at_call 42; refine hRt.mono ?_; rintro e w1 ⟨rfl, hb1⟩)
    go_ret
    exact ⟨ret_int HV.out.symm, hb1⟩
  | true =>
    have HR : Hid (RightT l) := (right_iff l).1 hr
    have HV : Hid (givenR l s a = (if startsN l s = 0 then (if a < 0 ∨ 1000000 < a then 2 else (if ordB l s = true then 0 else 17)) else startsN l s)) := by unfold Hid givenR; rw [hr]; exact if_pos rfl
    rw [hr] at hRt
    clear hr
    by_cases hst : startsN l s = 0
    rotate_left
    · have HV' : Hid (givenR l s a = startsN l s) := by unfold Hid; rw [HV.out, if_neg hst]
      have Hst := Lib.hid hst
      rw [HV'.out]
      generalize startsN l s = x at *
      have hb : (x != 0) = true := bne_iff_ne.2 Hst.out
      clear hst HV HV'
      go_enter Tryz.func26, Tryz.ntmps26
      go_wp2_with (first
        | (go_at_call 42; refine hRt.mono ?_; rintro e w1 ⟨rfl, hb1⟩; have hSt := HSt.out w1 hb1)
        | (go_at_call 43; refine hSt.mono ?_; rintro e w2 ⟨rfl, rfl⟩))
      go_ret
      exact ⟨rfl, hb1⟩
    · obtain ⟨hlen, hbd⟩ := startsN_zero hst
      have HO : Hid (∀ w1, Below w.heap.size w w1 → Calls Tryz.prog 44 #[.slice A l.length cc, .slice A1 s.length c1] w1 fun e w' => e = .returned (.bool (ordB l s)) ∧ ∃ q, w1.drewN q = w') := fun w1 hb => refOrd _ _ l s w1.heap.size w1 HR.out (HT.out w1 hb) (HS.out w1 hb) hlen hbd
      rw [hst] at HSt
      have HV2 : Hid (givenR l s a = if a < 0 ∨ 1000000 < a then 2 else if ordB l s = true then 0 else 17) := by unfold Hid; rw [HV.out, if_pos hst]
      clear hst hlen hbd HV
      by_cases ha : a < 0
      · have HV3 : Hid (givenR l s a = 2) := by unfold Hid; rw [HV2.out, if_pos (.inl ha)]
        have d1 : decide (a < 0) = true := decide_eq_true ha
        clear ha HV2
        go_enter Tryz.func26, Tryz.ntmps26
        go_wp2_with (first
          | (go_at_call 42; refine hRt.mono ?_; rintro e w1 ⟨rfl, hb1⟩; have hSt := HSt.out w1 hb1)
          | (go_at_call 43; refine hSt.mono ?_; rintro e w2 ⟨rfl, rfl⟩))
        go_ret
        exact ⟨ret_int HV3.out.symm, hb1⟩
      by_cases ha2 : 1000000 < a
      · have HV3 : Hid (givenR l s a = 2) := by unfold Hid; rw [HV2.out, if_pos (.inr ha2)]
        have d1 : decide (a < 0) = false := decide_eq_false ha
        have d2 : decide (1000000 < a) = true := decide_eq_true ha2
        clear ha ha2 HV2
        go_enter Tryz.func26, Tryz.ntmps26
        go_wp2_with (first
          | (go_at_call 42; refine hRt.mono ?_; rintro e w1 ⟨rfl, hb1⟩; have hSt := HSt.out w1 hb1)
          | (go_at_call 43; refine hSt.mono ?_; rintro e w2 ⟨rfl, rfl⟩))
        go_ret
        exact ⟨ret_int HV3.out.symm, hb1⟩
      have HV3 : Hid (givenR l s a = if ordB l s = true then 0 else 17) := by unfold Hid; rw [HV2.out, if_neg (by omega)]
      have d1 : decide (a < 0) = false := decide_eq_false ha
      have d2 : decide (1000000 < a) = false := decide_eq_false ha2
      clear ha ha2 HV2
      generalize ordB l s = ob at *
      cases ob with
      | true =>
        have HV4 : Hid (givenR l s a = 0) := HV3.out
        clear HV3
        go_enter Tryz.func26, Tryz.ntmps26
        go_wp2_with (first
          | (go_at_call 42; refine hRt.mono ?_; rintro e w1 ⟨rfl, hb1⟩; have hSt := HSt.out w1 hb1; have hO := HO.out w1 hb1)
          | (go_at_call 43; refine hSt.mono ?_; rintro e w2 ⟨rfl, rfl⟩)
          | (go_at_call 44; refine hO.mono ?_; rintro e w3 ⟨rfl, q, rfl⟩))
        go_ret
        exact ⟨ret_int HV4.out.symm, below_drewN hb1 q⟩
      | false =>
        have HV4 : Hid (givenR l s a = 17) := HV3.out
        clear HV3
        go_enter Tryz.func26, Tryz.ntmps26
        go_wp2_with (first
          | (go_at_call 42; refine hRt.mono ?_; rintro e w1 ⟨rfl, hb1⟩; have hSt := HSt.out w1 hb1; have hO := HO.out w1 hb1)
          | (go_at_call 43; refine hSt.mono ?_; rintro e w2 ⟨rfl, rfl⟩)
          | (go_at_call 44; refine hO.mono ?_; rintro e w3 ⟨rfl, q, rfl⟩))
        go_ret
        exact ⟨ret_int HV4.out.symm, below_drewN hb1 q⟩

end Go.Proofs.YtfcfphamecbcgaaGreat

/- replan.given. -/
namespace Go.Proofs.YtfcfphamecbcgaaGreat
open Go.RowKit Go.Shelf

set_option maxRecDepth 100000 in
set_option maxHeartbeats 4000000 in
theorem rpGiven (v u : Value) (l : List Task) (s : List Int) (a : Int) (w : World) (hl : TasksAt w w.heap.size v l) (hs : IntsAt w w.heap.size u s) (hw : Wide s) :
    Calls Tryz.prog 32 #[v, u, .int .i64 a] w fun e w' => e = .returned (.int .i64 (givenR l s a)) ∧ Below w.heap.size w w' := by
  have hLn := schedLength v u l s w hl hs hw
  have HT : Hid (∀ w1, Below w.heap.size w w1 → TasksAt w1 w1.heap.size v l) := fun w1 hb => (hl.below hb (Nat.le_refl _)).mono hb.size
  have HTw : Hid (∀ w1, Below w.heap.size w w1 → TasksAt w1 w.heap.size v l) := fun w1 hb => hl.below hb (Nat.le_refl _)
  have HSw : Hid (∀ w1, Below w.heap.size w w1 → IntsAt w1 w.heap.size u s) := fun w1 hb => hs.below hb (Nat.le_refl _)
  have HFind : Hid (∀ x w1, Below w.heap.size w w1 → Calls Tryz.prog 23 #[v, .string x] w1 fun e w'' => e = .returned (.int .i64 (pl l x)) ∧ Below w1.heap.size w1 w'') := fun x w1 hb => rpFind v l x w1 (HT.out w1 hb)
  obtain ⟨A, cc, rfl, hA1, hA2, -⟩ := hl.open_
  obtain ⟨A1, c1, rfl, hB1, hB2, hBc⟩ := hs.open_
  unfold maxLen at hA2 hB2
  have HC0 : Hid (s.length = l.length → ∀ (k : Nat), k < l.length → ∃ b1 off1, A1 = some ⟨b1, off1, none⟩ ∧ b1 < w.heap.size ∧ w.cell? ⟨b1, off1 + k, none⟩ = some (.int .i64 (atI s k))) := fun hlen k hk => by
    obtain ⟨b1, off1, e, hb, hc⟩ := hBc k (by omega)
    exact ⟨b1, off1, e, hb, by rw [atI_get (by omega)]; exact hc k (by omega)⟩
  clear hl hs hBc
  go_enter Tryz.func32, Tryz.ntmps32
  go_wp2_with fail
  refine hLn.mono ?_
  rintro e w1 ⟨hb1, hpost⟩
  rcases hpost with ⟨hr, rfl⟩ | ⟨hr, rfl⟩
  · have HV : Hid (givenR l s a = 1) := by unfold Hid givenR; rw [hr]; exact if_neg (by simp)
    clear hr
    go_wp2_with fail
    go_ret
    exact ⟨ret_int HV.out.symm, hb1⟩
  have hR : RightT l := (right_iff l).1 hr
  have HR := Lib.hid hR
  have HV : Hid (givenR l s a = (if startsN l s = 0 then (if a < 0 ∨ 1000000 < a then 2 else (if ordB l s = true then 0 else 17)) else startsN l s)) := by unfold Hid givenR; rw [hr]; exact if_pos rfl
  by_cases hst : startsN l s = 0
  rotate_left
  · have HV' : Hid (givenR l s a = startsN l s) := by unfold Hid; rw [HV.out, if_neg hst]
    have Hst := Lib.hid hst
    generalize startsN l s = x at *
    have hb : (x != 0) = true := bne_iff_ne.2 Hst.out
    clear hst HV hr hR
    go_wp2_with fail
    go_ret
    exact ⟨ret_int HV'.out.symm, hb1⟩
  obtain ⟨hlen, hbd⟩ := startsN_zero hst
  have HV2 : Hid (givenR l s a = if a < 0 ∨ 1000000 < a then 2 else if ordB l s = true then 0 else 17) := by unfold Hid; rw [HV.out, if_pos hst]
  have HC := Lib.hid (HC0.out hlen)
  have Hat : Hid (∀ i, i < l.length → 0 ≤ atI s i ∧ atI s i ≤ 1000000) := fun i hi => by rw [atI_get (by omega)]; exact hbd _ (List.getElem_mem _)
  have HOr : Hid (ordB l s = (List.range l.length).all fun i => !(rowAt l i).any (lateB l s i)) := ord_late l s
  rw [hst, hlen]
  rw [hlen] at hB1
  have h8 := hR.len
  clear hst hlen hbd HV HC0 hr hR
  by_cases ha : a < 0
  · have HV3 : Hid (givenR l s a = 2) := by unfold Hid; rw [HV2.out, if_pos (.inl ha)]
    have d1 : decide (a < 0) = true := decide_eq_true ha
    clear ha HV2
    go_wp2_with fail
    go_ret
    exact ⟨ret_int HV3.out.symm, hb1⟩
  by_cases ha2 : 1000000 < a
  · have HV3 : Hid (givenR l s a = 2) := by unfold Hid; rw [HV2.out, if_pos (.inr ha2)]
    have d1 : decide (a < 0) = false := decide_eq_false ha
    have d2 : decide (1000000 < a) = true := decide_eq_true ha2
    clear ha ha2 HV2
    go_wp2_with fail
    go_ret
    exact ⟨ret_int HV3.out.symm, hb1⟩
  have HV3 : Hid (givenR l s a = if ordB l s = true then 0 else 17) := by unfold Hid; rw [HV2.out, if_neg (by omega)]
  have d1 : decide (a < 0) = false := decide_eq_false ha
  have d2 : decide (1000000 < a) = false := decide_eq_false ha2
  clear ha ha2 HV2
  go_wp2_with fail
  go_loopw [31] (fun ix wr => ∃ (k : Nat), k ≤ l.length ∧ ix = .int .i64 k ∧ Hid ((List.range k).all (fun i => !(rowAt l i).any (lateB l s i)) = true) ∧ Below w.heap.size w wr) (fun ix _ => l.length - (intOf ix).toNat)
  case atStart => exact ⟨0, Nat.zero_le _, rfl, rfl, hb1⟩
  case round =>
    obtain ⟨k, hk, rfl, HN, hbel⟩ := hrel
    have k1 : (0 : Int) ≤ (k : Int) := Int.natCast_nonneg _
    by_cases hkl : k < l.length
    · have hTr := HTw.out wr hbel
      obtain ⟨b0, off0, rfl, hb0, hct⟩ := hTr.cells hkl
      obtain ⟨t0, t1, t2, t3, t4⟩ := hct k hkl
      obtain ⟨hm1, hm2, hbef⟩ := hTr.open_bef hkl
      unfold maxLen at hm2
      have hba2 : Below w.heap.size w (wr.alloc (.cells #[.string l[k].name, .int .i64 l[k].len, .int .i64 l[k].crew, .int .i64 l[k].pow, .slice l[k].ba l[k].bef.length l[k].bc] 40)) := hbel.alloc hbel.size _
      have HBf : Hid (∀ i (_ : i < l[k].bef.length), ∃ b off, l[k].ba = some ⟨b, off, none⟩ ∧ ∀ w', Below w.heap.size w w' → ∀ j (hj : j < l[k].bef.length), w'.cell? ⟨b, off + j, none⟩ = some (.string l[k].bef[j])) := fun i hi => by
        obtain ⟨-, -, h⟩ := (HTw.out w (Below.refl _ _)).open_bef hkl
        obtain ⟨b, off, e, hb, hc⟩ := h i hi
        exact ⟨b, off, e, fun w' hb' j hj => (hb'.cell (p := ⟨b, off + j, none⟩) hb).trans (hc j hj)⟩
      have hrow : rowAt l k = pls l l[k].bef := getD_rows hkl
      have HRow := Lib.hid hrow
      have HMem : Hid (∀ s ∈ l[k].bef, ∃ j : Nat, j < l.length ∧ pl l s = (j : Int)) := fun s hs => mem_row HR.out hkl (by unfold pls; exact List.mem_map.2 ⟨s, hs, rfl⟩)
      have HCT : Hid (∀ w', Below w.heap.size w w' → ∀ (j : Nat) (hj : j < l.length), w'.cell? ⟨b0, off0 + j * 5 + 1, none⟩ = some (.int .i64 l[j].len) ∧ 1 ≤ l[j].len ∧ l[j].len ≤ 10000) := fun w' hb j hj => by
        obtain ⟨b9, off9, e9, -, h9⟩ := (HTw.out w' hb).cells hkl
        injection e9 with e9
        injection e9 with e10 e11
        subst e10 e11
        exact ⟨(h9 j hj).2.1, fieldB_len (HR.out.field j hj)⟩
      clear hct hbef hrow hTr
      have k2 : (k : Int) < (l.length : Int) := by omega
      generalize l[k].ba = ba at *
      go_wp2_with fail
      clear t0 t1 t2 t3 t4
      go_loopw [39] (fun ix wx => ∃ m : Nat, m ≤ l[k].bef.length ∧ ix = .int .i64 m ∧ Hid (((pls l l[k].bef).take m).any (lateB l s k) = false) ∧ Below w.heap.size w wx) (fun ix _ => l[k].bef.length - (intOf ix).toNat)
      case atStart => exact ⟨0, Nat.zero_le _, rfl, rfl, hba2⟩
      case round =>
        clear hba2 hbel
        obtain ⟨m, hm, rfl, HM, hbel⟩ := hrel
        by_cases hml : m < l[k].bef.length
        · obtain ⟨b', off', rfl, hs'⟩ := HBf.out m hml
          have hsk := hs' _ hbel m hml
          obtain ⟨j, hj, hje⟩ := HMem.out _ (List.getElem_mem hml)
          have hF := HFind.out l[k].bef[m] _ hbel
          rw [hje] at hF
          have ha1 := Hat.out j hj
          have ha2 := Hat.out k hkl
          have hg : (pls l l[k].bef)[m]'(by simp [pls]; exact hml) = (j : Int) := by rw [← hje]; simp [pls]
          have HLt : Hid (lateB l s k ((pls l l[k].bef)[m]'(by simp [pls]; exact hml)) = decide (atI s k < atI s j + l[j].len)) := by
            unfold Hid lateB endN
            rw [hg, Int.toNat_natCast, lenAt_eq hj]
          have HY : Hid (lateB l s k ((pls l l[k].bef)[m]'(by simp [pls]; exact hml)) = false → ((pls l l[k].bef).take (m + 1)).any (lateB l s k) = false) := fun h => any_take (by simp [pls]; exact hml) HM.out h
          have HX : Hid (lateB l s k ((pls l l[k].bef)[m]'(by simp [pls]; exact hml)) = true → givenR l s a = 17) := fun h => by
            rw [HV3.out, if_neg (by rw [HOr.out, all_range_no hkl (by rw [HRow.out, any_hit (by simp [pls]; exact hml) h]; rfl)]; simp)]
          obtain ⟨b1, off1, e1, hb1l, r1⟩ := HC.out j hj
          subst e1
          obtain ⟨b2, off2, e2, hb2l, r2⟩ := HC.out k hkl
          injection e2 with e2
          injection e2 with e3 e4
          subst e3 e4
          have HCell : Hid (∀ w', Below w.heap.size w w' → w'.cell? ⟨b1, off1 + j, none⟩ = some (.int .i64 (atI s j)) ∧ w'.cell? ⟨b1, off1 + k, none⟩ = some (.int .i64 (atI s k)) ∧ w'.cell? ⟨b0, off0 + j * 5 + 1, none⟩ = some (.int .i64 l[j].len)) := fun w' hb =>
            ⟨(hb.cell (p := ⟨b1, off1 + j, none⟩) hb1l).trans r1, (hb.cell (p := ⟨b1, off1 + k, none⟩) hb1l).trans r2, (HCT.out w' hb j hj).1⟩
          have hlj := (HCT.out w (Below.refl _ _) j hj).2
          clear hs' hje hg HM r1 r2
          generalize lateB l s k ((pls l l[k].bef)[m]'(by simp [pls]; exact hml)) = lt at *
          generalize l[j].len = ln at *
          generalize atI s j = x at *
          generalize atI s k = z at *
          have j1 : (0 : Int) ≤ (j : Int) := Int.natCast_nonneg _
          have j2 : (j : Int) < (l.length : Int) := by omega
          have i3 : (0 : Int) ≤ (m : Int) := Int.natCast_nonneg _
          have i4 : (m : Int) < (l[k].bef.length : Int) := by omega
          have w1 : IntKind.i64.wrap (x + ln) = x + ln := IntWalk.i64_in _ (by omega)
          go_wp2_with fail
          refine hF.mono ?_
          rintro e w4 ⟨rfl, hb4⟩
          have hbx4 := hbel.trans (hb4.mono hbel.size)
          obtain ⟨q1, q2, q3⟩ := HCell.out w4 hbx4
          clear hF hb4 hbel hsk HCell
          by_cases hq : z < x + ln
          · have HX' := Lib.hid (HX.out (by rw [HLt.out]; simpa using hq))
            clear HX HY HLt
            go_wp2_with fail
            go_quiet (fail)
            go_wp2_with fail
            go_ret
            exact ⟨ret_int HX'.out.symm, below_drewN hbx4 _⟩
          · have HY' := Lib.hid (HY.out (by rw [HLt.out]; simpa using hq))
            have hqb : decide (z < x + ln) = false := by simpa using hq
            clear HX HY HLt
            go_wp2_with fail
            go_quiet (fail)
            go_wp2_with fail
            go_roundw
            case rel => exact ⟨m + 1, by omega, by go_num, HY', below_drewN hbx4 _⟩
            case measure => simp [intOf]; omega
        · have hme : m = l[k].bef.length := by omega
          subst hme
          have HN' : Hid ((List.range (k + 1)).all (fun i => !(rowAt l i).any (lateB l s i)) = true) := by
            have := HM.out
            rw [show (pls l l[k].bef).take l[k].bef.length = pls l l[k].bef by rw [show l[k].bef.length = (pls l l[k].bef).length by simp [pls], List.take_length]] at this
            unfold Hid
            rw [all_range_succ, HN.out, HRow.out, this]
            rfl
          clear HM HN
          go_wp2_with fail
          go_roundw
          case rel => exact ⟨k + 1, by omega, by go_num, HN', hbel⟩
          case measure => simp [intOf]; omega
    · obtain rfl : k = l.length := by omega
      have HB : Hid (givenR l s a = 0) := by unfold Hid; rw [HV3.out, if_pos (by rw [HOr.out]; exact HN.out)]
      go_wp2_with fail
      go_ret
      exact ⟨ret_int HB.out.symm, hbel⟩

end Go.Proofs.YtfcfphamecbcgaaGreat
