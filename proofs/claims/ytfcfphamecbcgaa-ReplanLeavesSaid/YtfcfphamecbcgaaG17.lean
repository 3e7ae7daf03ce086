/- Parts of the proof, laid into one text: RefState. -/
import Derived.Deep.RegionLaw
import Derived.Test.YtfcfphamecbcgaaG16

/- The reference's State of layer 45. -/
namespace Go.Proofs.Ytfcfphamecbcgaa
open Go.RowKit Go.Shelf

theorem Blk.drew1 {w : World} {g : Nat} {t : TypeId} {cs : Array Value} (h : Blk w g t cs) : Blk w.drew g t cs := h
/-- A string, just laid in a block of its own, is appended. -/
theorem step_appS {ops : Array Oper} {o : Oper} {a : Act} {w : World} {K : Act → World → Prop} {Q : Exit → Act → World → Prop} {E : Prop} (hgd : o.guard = none) (s x : Operand)
    (ho : o.op = .call { callee := .builtin .append, args := #[s, x], argTypes := #[36, 36] }) {B m : Nat} {v : Value} {xs : List Value} (T : w.ownsRow B 9 1 v m xs) (hB : B ≤ w.heap.size) {t : ByteArray} {a1 : Nat} (N : Blk w a1 9 #[.string t])
    (hs : a.eval s = v) (hx : a.eval x = .slice (some ⟨a1, 0, none⟩) 1 1) (hlen : m ≤ 1000)
    (h : ∀ g cap w', w'.ownsRow B 9 1 (.slice (some ⟨g, 0, none⟩) (m + 1) cap) (m + 1) (xs ++ [.string t]) → w.grownBy w' v.ownBlock → K (a.put o.dst (.slice (some ⟨g, 0, none⟩) (m + 1) cap)) w') :
    if Region.wanted o (yielded ops a.tmps) = true then Oper.wp Try.prog o a w K Q else E := by
  obtain ⟨i0, hi0, hz0, hz1, hz2⟩ := info_parts info_str
  refine step_append_lies w hgd s x 36 ho B 9 i0 _ 1 16 Try.underlying36 hi0 hz0 hz1 hz2 rfl (by decide) v m xs hs T ⟨a1, 0, none⟩ 1 1 [.string t] hx rfl
    (fun j u hu => by rw [Addr.add_lit, Nat.zero_add]; exact (N.cell j).trans (by simpa using hu)) (fun u hu => by rw [List.mem_singleton.1 hu]; rfl) (by omega) (by unfold maxLen; omega) (by omega) hB _ rfl ?_
  intro g cap w' hown hgrow _ _
  exact h g cap w' hown hgrow

section
variable {l : List Task} {s : List Int} {a : Int}
/-- The state so far. -/
structure StR (W w : World) (l : List Task) (s : List Int) (a : Int) (k : Nat) (ov : Value) (ms : List Task) : Prop where
  out : w.ownsRow W.heap.size 38 5 ov ms.length (ms.flatMap Task.cells)
  strs : ∀ t ∈ ms, w.ownsRow W.heap.size 9 1 t.bv t.bef.length (t.bef.map Value.string)
  ok : ∀ t ∈ ms, t.ok
  norm : norms ms = ((List.range k).filter (liveB l s a)).map (stTask l s a)
  bel : Below W.heap.size W w
theorem StR.below {W w w' : World} {k : Nat} {ov : Value} {ms : List Task} (h : StR W w l s a k ov ms) (hb : Below w.heap.size w w') : StR W w' l s a k ov ms :=
  ⟨own_past h.out hb, fun t ht => own_past (h.strs t ht) hb, h.ok, h.norm, h.bel.trans (hb.mono h.bel.size)⟩
theorem StR.short {W w : World} {k : Nat} {ov : Value} {ms : List Task} (h : StR W w l s a k ov ms) : ms.length ≤ k := by
  have h1 := norms_len ms
  rw [h.norm, List.length_map] at h1
  have h2 := List.length_filter_le (liveB l s a) (List.range k)
  rw [List.length_range] at h2
  omega
theorem StR.skip {W w : World} {k : Nat} {ov : Value} {ms : List Task} (h : StR W w l s a k ov ms) (hl : liveB l s a k = false) : StR W w l s a (k + 1) ov ms :=
  ⟨h.out, h.strs, h.ok, by rw [live_snoc, hl, h.norm]; simp, h.bel⟩
theorem StR.push {W w w' : World} {k : Nat} {ov nv : Value} {ms : List Task} {t : Task} (h : StR W w l s a k ov ms) (hl : liveB l s a k = true) (hgrow : w.grownBy w' ov.ownBlock) (ho : w'.ownsRow W.heap.size 38 5 nv (ms.length + 1) ((ms ++ [t]).flatMap Task.cells))
    (hs : w.ownsRow W.heap.size 9 1 t.bv t.bef.length (t.bef.map Value.string)) (hok : t.ok) (hn : t.norm = stTask l s a k) : StR W w' l s a (k + 1) nv (ms ++ [t]) := by
  have hgr : Below W.heap.size W w' := h.bel.grown hgrow h.bel.size (fun k hk => (h.out.lt k hk).1)
  have hk : ∀ {e : TypeId} {n : Nat} {x : Value} {xs : List Value}, e ≠ 38 → w.ownsRow W.heap.size e 1 x n xs → w'.ownsRow W.heap.size e 1 x n xs := fun he hx => hx.kept hgrow (own_ne hx h.out he)
  refine ⟨by rw [List.length_append, List.length_singleton]; exact ho, fun t' ht' => ?_, fun t' ht' => ?_, ?_, hgr⟩
  · rcases List.mem_append.1 ht' with ht' | ht'
    · exact hk (by decide) (h.strs t' ht')
    · rw [List.mem_singleton.1 ht']; exact hk (by decide) hs
  · rcases List.mem_append.1 ht' with ht' | ht'
    · exact h.ok t' ht'
    · rw [List.mem_singleton.1 ht']; exact hok
  · rw [live_snoc, hl, if_pos rfl, ← h.norm]
    unfold norms
    rw [List.map_append, List.map_singleton, hn]
theorem StR.tasks {W w : World} {k : Nat} {ov : Value} {ms : List Task} (h : StR W w l s a k ov ms) : TasksAt w w.heap.size ov ms :=
  TasksAt.of_own h.out (fun t ht => RowAt.of_own (h.strs t ht)) (Nat.le_refl _) h.ok

/-- The Before of a task that is being made: what has not ended of the first j. -/
structure BefSt (wr w : World) (G : Nat) (t : Task) (ln : Int) (q : ByteArray → Bool) (j : Nat) (bA : Option Addr) (m cap : Nat) : Prop where
  bel : Below wr.heap.size wr w
  blk : Blk w G 38 #[.string t.name, .int .i64 ln, .int .i64 t.crew, .int .i64 t.pow, .slice bA m cap]
  len : m = ((t.bef.take j).filter q).length
  own : w.ownsRow wr.heap.size 9 1 (.slice bA m cap) m (((t.bef.take j).filter q).map Value.string)
theorem BefSt.drewN {wr w : World} {G : Nat} {t : Task} {ln : Int} {q : ByteArray → Bool} {j : Nat} {bA : Option Addr} {m cap : Nat} (h : BefSt wr w G t ln q j bA m cap) (n : Nat) : BefSt wr (w.drewN n) G t ln q j bA m cap :=
  ⟨below_drewN h.bel n, h.blk.drewN n, h.len, own_drewN h.own n⟩
theorem BefSt.allocDrew {wr w : World} {G : Nat} {t : Task} {ln : Int} {q : ByteArray → Bool} {j : Nat} {bA : Option Addr} {m cap : Nat} (h : BefSt wr w G t ln q j bA m cap) (o : Obj) : BefSt wr (w.alloc o).drew G t ln q j bA m cap :=
  ⟨(h.bel.alloc h.bel.size o).drew, h.blk.alloc o, h.len, h.own.alloc o⟩
theorem BefSt.skip {wr w : World} {G : Nat} {t : Task} {ln : Int} {q : ByteArray → Bool} {j : Nat} {bA : Option Addr} {m cap : Nat} (h : BefSt wr w G t ln q j bA m cap) (hj : j < t.bef.length) (hq : q t.bef[j] = false) : BefSt wr w G t ln q (j + 1) bA m cap := by
  have e : (t.bef.take (j + 1)).filter q = (t.bef.take j).filter q := by rw [filter_snoc hj, hq]; simp
  exact ⟨h.bel, h.blk, by rw [e]; exact h.len, by rw [e]; exact h.own⟩
theorem BefSt.push {wr w w' : World} {G g : Nat} {t : Task} {ln : Int} {q : ByteArray → Bool} {j : Nat} {bA : Option Addr} {m cap cap' : Nat} (h : BefSt wr w G t ln q j bA m cap) (hj : j < t.bef.length) (hq : q t.bef[j] = true) (hG : wr.heap.size ≤ G)
    (hg : w.grownBy w' (Value.slice bA m cap).ownBlock) (ho : w'.ownsRow wr.heap.size 9 1 (.slice (some ⟨g, 0, none⟩) (m + 1) cap') (m + 1) (((t.bef.take j).filter q).map Value.string ++ [.string t.bef[j]])) :
    BefSt wr (w'.setCell ⟨G, 4, none⟩ (.slice (some ⟨g, 0, none⟩) (m + 1) cap')) G t ln q (j + 1) (some ⟨g, 0, none⟩) (m + 1) cap' := by
  have e : (t.bef.take (j + 1)).filter q = (t.bef.take j).filter q ++ [t.bef[j]] := by rw [filter_snoc hj, hq]; simp
  have hb : Blk w' G 38 #[.string t.name, .int .i64 ln, .int .i64 t.crew, .int .i64 t.pow, .slice bA m cap] := h.blk.kept hg (h.blk.ne_own h.own (by decide))
  refine ⟨(h.bel.grown hg h.bel.size (fun k hk => (h.own.lt k hk).1)).setCell (p := ⟨G, 4, none⟩) hG _, ?_, by rw [e, List.length_append, List.length_singleton, ← h.len], ?_⟩
  · have := hb.set_ 4 (.slice (some ⟨g, 0, none⟩) (m + 1) cap')
    simpa using this
  · rw [e, List.map_append]
    exact own_setBlk ho hb (by decide)
end

end Go.Proofs.Ytfcfphamecbcgaa
