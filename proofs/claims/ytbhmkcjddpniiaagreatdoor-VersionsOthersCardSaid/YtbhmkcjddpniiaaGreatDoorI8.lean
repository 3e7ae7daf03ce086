/- Parts of the proof, laid into one text: StPutM, StPut, StDel, StDrop. -/
import Derived.BigQuiet
import Derived.Deep.AppendLies
import Derived.Deep.Cut
import Derived.Deep.Draws
import Derived.Deep.LoopGhost
import Derived.Deep.MidRow
import Derived.Deep.QuietTactic
import Derived.Deep.RegionHeld3
import Derived.Deep.RegionLaw
import Derived.IntWalk
import Derived.Laws.Bits64b
import Derived.Laws.Concat
import Derived.Laws.EntriesVeiled
import Derived.Lib.AppendIntMem
import Derived.Lib.Hide
import Derived.Lib.ItoaLen
import Derived.Lib.ItoaMem
import Derived.Lib.Join
import Derived.Lib.SliceRun
import Derived.Lib.SmallJoins
import Derived.LoopIn
import Derived.LoopNIn
import Derived.Maps.AppendAt
import Derived.Maps.Own
import Derived.Maps.OwnOps
import Derived.Maps.OwnSet
import Derived.Maps.Views
import Derived.Outline
import Derived.OwnWalkIn
import Derived.PlainAid
import Derived.RangeFuncBox
import Derived.RangeFuncLeaves
import Derived.Shelf.Abstract
import Derived.Shelf.Bits.Mul64
import Derived.Shelf.Strconv.Itoa3
import Derived.Shelf.Strings.Count
import Derived.Shelf.Strings.OnBuilder
import Derived.Shelf.Strings.Prefix
import Derived.StillTail
import Derived.StillTailTactics
import Derived.TacticsInMore
import Derived.Test.YtbhmkcjddpniiaaGreatDoorC1
import Derived.Test.YtbhmkcjddpniiaaGreatDoorC2
import Derived.Test.YtbhmkcjddpniiaaGreatDoorC3
import Derived.Test.YtbhmkcjddpniiaaGreatDoorC4
import Derived.Test.YtbhmkcjddpniiaaGreatDoorC5
import Derived.Test.YtbhmkcjddpniiaaGreatDoorC6
import Derived.Test.YtbhmkcjddpniiaaGreatDoorC7
import Derived.Test.YtbhmkcjddpniiaaGreatDoorD1
import Derived.Test.YtbhmkcjddpniiaaGreatDoorD2
import Derived.Test.YtbhmkcjddpniiaaGreatDoorD3
import Derived.Test.YtbhmkcjddpniiaaGreatDoorD4
import Derived.Test.YtbhmkcjddpniiaaGreatDoorD5
import Derived.Test.YtbhmkcjddpniiaaGreatDoorD9
import Derived.Test.YtbhmkcjddpniiaaGreatDoorG1
import Derived.Test.YtbhmkcjddpniiaaGreatDoorI1
import Derived.Test.YtbhmkcjddpniiaaGreatDoorI2
import Derived.Test.YtbhmkcjddpniiaaGreatDoorI3
import Derived.Test.YtbhmkcjddpniiaaGreatDoorI6
import Derived.Test.YtbhmkcjddpniiaaGreatDoorI7
import Derived.Test.YtbhmkcjddpniiaaGreatDoorProg
import Derived.WalkKit
import Derived.WalkLawsBesides
import Derived.WalkSpells

namespace Go.Proofs.YtbhmkcjddpniiaaGreatDoor
open Go.RowKit Go.Shelf
def sinceM (M : Nat → Prop) (a b : Nat) (g : Nat) : Prop := M g ∨ (a ≤ g ∧ g < b)
theorem size_setCellsL (g : Nat) : ∀ (vs : List Value) (o : Nat) (w : World),(w.setCells g o vs).heap.size = w.heap.size
 | [],_,_ => rfl
 | v :: vs,o,w => by
  rw [World.setCells,size_setCellsL g vs (o + 1)]
  simp [World.setCell]
section
variable {w W : World} {B D : Nat} {M : Nat → Prop} {st : St} {r : StR} {c : SetC}
theorem store_since (h : StoreAt w B D M st r) (hb : Below w.heap.size w W) : StoreAt W B D (sinceM M w.heap.size W.heap.size) st r :=
 h.more hb (fun _ hg => .inl hg) (fun _g hg => hg.elim .inl fun h => .inr h.1) (fun g hg => hg.elim (fun h1 => Nat.lt_of_lt_of_le (h.lt g h1) hb.size) fun h1 => h1.2)
theorem ownC_since {a : Nat} (h : OwnC W a c) : SetCM W (sinceM M a W.heap.size) c :=
 ⟨FlatM.of_own h.1 fun g e => .inr (h.1.lt g e),FlatM.of_own h.2.1 fun g e => .inr (h.2.1.lt g e),FlatM.of_own h.2.2 fun g e => .inr (h.2.2.lt g e)⟩
theorem own_there {W : World} {a n cap g k : Nat} {L : List SetC} (hown : W.ownsRow a 26 13 (.slice (some ⟨g,0,none⟩) n cap) n (L.flatMap SetC.cells)) (hk : k < L.length) : W.there g (k * 13) 13 := fun i hi => by
 obtain ⟨cs,hgt⟩ := own_type hown (g := g) (by simp [Value.ownBlock])
 refine ⟨?_,Blk.frozen (t := 26) (cs := cs) hgt _⟩
 have := flatGet SetC.cells 13 (fun _ => rfl) L k i hk hi
 have hlt : i < L[k].cells.length := by show i < 13;omega
 rw [List.getElem?_eq_getElem hlt] at this
 have h2 := hown.cells (g := g) (by simp [Value.ownBlock]) _ _ this
 rw [Addr.add_lit,Nat.zero_add] at h2
 rw [h2]
 rfl
theorem sets_push {v : Value} {a : Nat} (h : StoreAt w B D M st r) (hb : Below w.heap.size w W) (ha : a = w.heap.size) (hown : W.ownsRow a 26 13 v (r.L.length + 1) (r.L.flatMap SetC.cells ++ c.cells)) (hc : OwnC W a c) :
  SetsM W (sinceM M w.heap.size W.heap.size) v (r.L ++ [c]) := by
 subst ha
 refine ⟨?_,fun x hx => ?_⟩
 ·have h1 := FlatM.of_own (M := sinceM M w.heap.size W.heap.size) hown fun g e => .inr (hown.lt g e)
  rw [List.length_append,List.flatMap_append,List.flatMap_cons,List.flatMap_nil,List.append_nil]
  exact h1
 ·rcases List.mem_append.1 hx with hx | hx
  ·exact ((h.sets.2 x hx).kept (KeepM.of_below hb)).sub fun g hg => .inl hg
  ·rw [List.mem_singleton] at hx
   subst hx
   exact ownC_since hc
theorem sets_put {v : Value} {a g cap k : Nat} {W' : World} (h : StoreAt w B D M st r) (hb : Below w.heap.size w W) (ha : a = w.heap.size) (hv : v = .slice (some ⟨g,0,none⟩) r.L.length cap) (hown : W.ownsRow a 26 13 v r.L.length (r.L.flatMap SetC.cells)) (hc : OwnC W a c) (hk : k < r.L.length)
  (hW' : W' = W.setCells g (k * 13) c.cells) :
  SetsM W' (sinceM M w.heap.size W'.heap.size) v (r.L.set k c) ∧ Below w.heap.size w W' := by
 subst ha hv hW'
 have hgl := hown.lt g (by simp [Value.ownBlock])
 have hG := grown_setCells g c.cells (k * 13) W
 have hb' : Below w.heap.size w (W.setCells g (k * 13) c.cells) := hb.grown hG hb.size (fun j e => by have e1 : g = j := (by simpa using e);omega)
 obtain ⟨cs,hgt⟩ := own_type hown (g := g) (by simp [Value.ownBlock])
 have hne : ∀ {t s n : Nat} {u : Value} {xs : List Value},W.ownsRow w.heap.size t s u n xs → t ≠ 26 → (W.setCells g (k * 13) c.cells).ownsRow w.heap.size t s u n xs := fun ho ht => ho.kept hG (own_not ho (cs := cs) hgt (Ne.symm ht))
 have hc' : OwnC (W.setCells g (k * 13) c.cells) w.heap.size c := ⟨hne hc.1 (by decide),hne hc.2.1 (by decide),hne hc.2.2 (by decide)⟩
 have hcells := fun j u hu => hown.cells (g := g) (by simp [Value.ownBlock]) j u hu
 have hlenc : c.cells.length = 13 := rfl
 have hth : ∀ i,i < c.cells.length → (W.cell? ⟨g,k * 13 + i,none⟩).isSome = true := fun i hi => by
  have := flatGet SetC.cells 13 (fun _ => rfl) r.L k i hk (by omega)
  have hlt : i < r.L[k].cells.length := by show i < 13;omega
  rw [List.getElem?_eq_getElem hlt] at this
  have h2 := hcells _ _ this
  rw [Addr.add_lit,Nat.zero_add] at h2
  rw [h2]
  rfl
 have hsz : (W.setCells g (k * 13) c.cells).heap.size = W.heap.size := size_setCellsL g c.cells (k * 13) W
 refine ⟨⟨⟨_,_,by rw [List.length_set],?_,?_,fun _ => ⟨g,0,rfl,.inr ⟨hgl.1,by rw [hsz];exact hgl.2⟩,by rw [hsz];exact hgl.2,fun j u hu => ?_⟩⟩,fun x hx => ?_⟩,hb'⟩
 ·rw [List.length_set]
  rcases hown.2 with ⟨e,_⟩ | ⟨g',cap',cur,e,_,_,h1,_⟩
  ·cases e
  ·injection e with _ _ e3
   subst e3
   exact h1
 ·rcases hown.2 with ⟨e,_⟩ | ⟨g',cap',cur,e,_,_,_,h2,_⟩
  ·cases e
  ·injection e with _ _ e3
   subst e3
   exact h2
 ·rw [Nat.zero_add]
  have hjl := (List.getElem?_eq_some_iff.1 hu).1
  rw [flatLen SetC.cells 13 (fun _ => rfl),List.length_set] at hjl
  have hi : j / 13 < r.L.length := by omega
  have hr : j % 13 < 13 := Nat.mod_lt _ (by decide)
  have hj : j = j / 13 * 13 + j % 13 := by omega
  have hu2 := flatGet SetC.cells 13 (fun _ => rfl) (r.L.set k c) (j / 13) (j % 13) (by rw [List.length_set];exact hi) hr
  rw [← hj,hu] at hu2
  by_cases hjk : j / 13 = k
  ·have e1 : (r.L.set k c)[j / 13]'(by rw [List.length_set];exact hi) = c := by simp [← hjk]
   rw [e1] at hu2
   have := World.cell?_setCells_in g c.cells (k * 13) W (fun i hi => hth i hi) (j % 13) (by rw [hlenc];exact hr)
   rw [show k * 13 + j % 13 = j by omega] at this
   rw [this]
   rw [← List.getElem?_eq_getElem]
   exact hu2.symm
  ·have e1 : (r.L.set k c)[j / 13]'(by rw [List.length_set];exact hi) = r.L[j / 13] := List.getElem_set_ne (Ne.symm hjk) _
   rw [e1] at hu2
   have h3 := flatGet SetC.cells 13 (fun _ => rfl) r.L (j / 13) (j % 13) hi hr
   rw [← hj,← hu2] at h3
   have h4 := hcells _ _ h3
   rw [Addr.add_lit,Nat.zero_add] at h4
   rw [World.cell?_setCells_out g c.cells (k * 13) W ⟨g,j,none⟩ (fun _ _ => by show j < k * 13 ∨ k * 13 + c.cells.length ≤ j;rw [hlenc];omega)]
   exact h4
 ·rcases List.mem_or_eq_of_mem_set hx with hx | rfl
  ·exact ((h.sets.2 x hx).kept (KeepM.of_below hb')).sub fun g hg => .inl hg
  ·exact ownC_since hc'
end
end Go.Proofs.YtbhmkcjddpniiaaGreatDoor

namespace Go.Proofs.YtbhmkcjddpniiaaGreatDoor
open Go.RowKit Go.Shelf
def PutPost (B D : Nat) (M : Nat → Prop) (o : Int × St) (w : World) (e : Ending) (w' : World) : Prop :=
 e = .returned (.int .i64 o.1) ∧ ChgS B w w' ∧ ∃ M' r',StoreAt w' B D M' o.2 r' ∧ ∀ g,M' g → M g ∨ w.heap.size ≤ g
theorem put_stay {B D : Nat} {M : Nat → Prop} {st : St} {r : StR} {w W : World} {n : Int} (h : StoreAt w B D M st r) (hb : Below w.heap.size w W) : PutPost B D M (n,st) w (.returned (.int .i64 n)) W :=
 ⟨rfl,ChgS.of_below hb (Nat.le_trans h.base (Nat.le_of_lt h.blk.lt)),M,r,h.below hb,fun _ hg => .inl hg⟩
theorem put_become {B D : Nat} {M : Nat → Prop} {st : St} {w W W' : World} {l : List SetT} {e : Ending} {o : Int × St} (hb : Below w.heap.size w W) (hB : B ≤ w.heap.size) (ho : o = (0,{ st with sets := l,past := st.past ++ [st.sets] }))
  (h : BecomePost B D (sinceM M w.heap.size W.heap.size) st l W e W') : PutPost B D M o w (.returned (.int .i64 0)) W' := by
 obtain ⟨-,hc,r',hs⟩ := h
 subst ho
 exact ⟨rfl,(ChgS.of_below hb hB).trans hc,_,r',hs,fun g hg => hg.elim .inl fun h => .inr h.1⟩
set_option maxRecDepth 100000 in
set_option maxHeartbeats 8000000 in
theorem stPut (B D : Nat) (M : Nat → Prop) (st : St) (r : StR) (v : Value) (x : SetT) (w : World) (h : StoreAt w B D M st r) (hok : StOk st) (hv : SetAt w w.heap.size v x) (hn : SetNames x) (hp : st.past.length ≤ 1000) :
  Calls Tryz.prog 27 #[.pointer (some ⟨D,0,none⟩),v] w (PutPost B D M (putV st x) w) := by
 have HVa := fun W (hb : Below w.heap.size w W) => batValid v x W ((hv.below hb (Nat.le_refl _)).mono hb.size) hn
 have HOwn := Lib.hid fun (hl : lensOk x) W (hb : Below w.heap.size w W) => versOwn v x W ((hv.below hb (Nat.le_refl _)).mono hb.size) hl.1 hl.2.1 hl.2.2
 have HX := Lib.hid (idx_find r.L x.name)
 have HFi := Lib.hid fun W (hb : Below w.heap.size w W) => by
  have h1 := h.below hb
  have hd := h1.blk.cell 0
  simp only [List.getElem?_toArray,List.getElem?_cons_zero] at hd
  have hF := stFind D r.sv r.L x.name W hd h1.blk.lt h1.at
  rw [HX.out,h.setsE] at hF
  exact hF
 have HSa := Lib.hid fun (c : SetC) (hc : c ∈ r.L) W (hb : Below w.heap.size w W) => lsSame c.val v c.s x W ((h.below hb).sets.2 c hc).set ((hv.below hb (Nat.le_refl _)).mono hb.size)
 have HBe := Lib.hid fun lv L2 W (hb : Below w.heap.size w W) (hl : SetsM W (sinceM M w.heap.size W.heap.size) lv L2) => stBecome B D (sinceM M w.heap.size W.heap.size) st r lv L2 W (store_since h hb) hl hp
 have HCl := Lib.hid fun W (hb : Below w.heap.size w W) (h60 : r.L.length ≤ 60) => cloneSet r.sv r.L W (h.below hb).at (by omega)
 have hB := Nat.le_trans h.base (Nat.le_of_lt h.blk.lt)
 have hDl := h.blk.lt
 have h60 : r.L.length ≤ 60 := by
  have := hok.len
  rw [← h.setsE,List.length_map] at this
  exact this
 have hLe : st.sets.length = r.L.length := by rw [← h.setsE,List.length_map]
 have HLe := Lib.hid hLe
 have HS := Lib.hid h
 have HD0 := Lib.hid fun W (hb : Below w.heap.size w W) => by
  have h1 := (h.below hb).blk.cell 0
  simp only [List.getElem?_toArray,List.getElem?_cons_zero] at h1
  exact h1
 obtain ⟨Al,cl,Ai,ci,Ab,cb,rfl,-,-,-⟩ := hv
 have HD1 := Lib.hid (Blk.new w 26 #[.string x.name,.int .i64 x.depth,.int .i64 x.low,.int .i64 x.high,.int .i64 x.len,.slice Al x.lines.length cl,.int .i64 x.pipe,.int .i64 x.arbor,.int .i64 x.purch,.int .i64 x.most,.int .i64 x.brake,.slice Ai x.items.length ci,.slice Ab x.bricks.length cb])
 have HB1 := Lib.hid ((Below.refl _ w).alloc (Nat.le_refl _) (.cells #[.string x.name,.int .i64 x.depth,.int .i64 x.low,.int .i64 x.high,.int .i64 x.len,.slice Al x.lines.length cl,.int .i64 x.pipe,.int .i64 x.arbor,.int .i64 x.purch,.int .i64 x.most,.int .i64 x.brake,.slice Ai x.items.length ci,.slice Ab x.bricks.length cb] 26))
 have hva := HVa _ HB1.out
 clear h hok hn hp HVa HX hLe
 unfold setVal at *
 rcases Bool.eq_false_or_eq_true (setB x) with hvx | hvx
 rotate_left
 ·have HPV : Hid (putV st x = (1,st)) := by unfold Hid putV;rw [hvx];rfl
  rw [hvx] at hva
  clear hvx
  go_enter Tryz.func27,Tryz.ntmps27
  go_wp2_with fail
  refine hva.mono ?_
  rintro e w2 ⟨rfl,hb2⟩
  have hb := HB1.out.trans (hb2.mono HB1.out.size)
  go_wp2_with fail
  go_ret
  rw [HPV.out]
  exact put_stay HS.out hb
 have HPV : Hid (putV st x = putSt st x) := by unfold Hid putV;rw [hvx];rfl
 have HVx := Lib.hid hvx
 have HOwn := Lib.hid (HOwn.out (lens_valid hvx))
 rw [hvx] at hva
 clear hvx
 go_enter Tryz.func27,Tryz.ntmps27
 go_wp2_with fail
 refine hva.mono ?_
 rintro e w2 ⟨rfl,hb2⟩
 have HB2 := Lib.hid (HB1.out.trans (hb2.mono HB1.out.size))
 have HD2 := Lib.hid (HD1.out.below hb2 HD1.out.lt)
 clear hb2 HB1 HD1 hva
 have z0 := HD2.out.cell 0
 have z1 := HD2.out.cell 1
 have z2 := HD2.out.cell 2
 have z3 := HD2.out.cell 3
 have z4 := HD2.out.cell 4
 have z5 := HD2.out.cell 5
 have z6 := HD2.out.cell 6
 have z7 := HD2.out.cell 7
 have z8 := HD2.out.cell 8
 have z9 := HD2.out.cell 9
 have z10 := HD2.out.cell 10
 have z11 := HD2.out.cell 11
 have z12 := HD2.out.cell 12
 simp only [List.getElem?_toArray,List.getElem?_cons_succ,List.getElem?_cons_zero] at z0 z1 z2 z3 z4 z5 z6 z7 z8 z9 z10 z11 z12
 go_wp2_with fail
 refine (HFi.out w2 HB2.out).mono ?_
 rintro e w3 ⟨rfl,hb3⟩
 have HB3 := Lib.hid (HB2.out.trans (hb3.mono HB2.out.size))
 have HD3 := Lib.hid (HD2.out.below hb3 HD2.out.lt)
 clear hb3 HB2 HD2 z0 z1 z2 z3 z4 z5 z6 z7 z8 z9 z10 z11 z12 HFi
 have hd3 := HD0.out w3 HB3.out
 obtain ⟨As,cs,es⟩ : ∃ A c,r.sv = .slice A r.L.length c := let ⟨A,c,e,_⟩ := HS.out.at;⟨A,c,e⟩
 have Hes := Lib.hid es
 rw [es] at hd3
 clear es
 cases hi : idxS st.sets x.name with
 | none =>
  rw [show idxOf none = -1 from rfl]
  by_cases hfull : 60 ≤ st.sets.length
  ·have HE : Hid (putSt st x = (4,st)) := by unfold Hid putSt;rw [hi];simp [hfull]
   have f60 : (60 : Int) ≤ (r.L.length : Int) := by have := HLe.out;omega
   clear hi hfull
   go_wp2_with fail
   go_quiet (fail)
   go_wp2_with fail
   go_ret
   rw [HPV.out,HE.out]
   exact put_stay HS.out (below_drewN HB3.out _)
  ·have HE : Hid (putSt st x = (0,{ st with sets := st.sets ++ [x],past := st.past ++ [st.sets] })) := by unfold Hid putSt;rw [hi];simp [hfull]
   have f60 : (r.L.length : Int) < 60 := by have := HLe.out;omega
   clear hi hfull
   go_wp2_with fail
   refine wp_region_quiet_lit (by kernel_rfl) (by kernel_rfl) ?_
   repeat (go_big_quiet_step (fail))
   refine wpQuiet_nil ?_
   intro _ hw'
   obtain ⟨nq,hw''⟩ := hw'
   subst hw''
   have HB4 := Lib.hid (below_drewN HB3.out nq)
   have HD4 := Lib.hid (HD3.out.drewN nq)
   clear HB3 HD3 hd3
   generalize w3.drewN nq = w4 at *
   have hd4 := HD0.out w4 HB4.out
   rw [Hes.out] at hd4
   have hDl4 := Nat.lt_of_lt_of_le hDl HB4.out.size
   have hcl := HCl.out w4 HB4.out h60
   rw [Hes.out] at hcl
   go_wp2_with fail
   refine hcl.mono ?_
   rintro e w5 ⟨lv,rfl,ho5,hb5⟩
   have HB5 := Lib.hid (HB4.out.trans (hb5.mono HB4.out.size))
   have HD5 := Lib.hid (HD4.out.below hb5 HD4.out.lt)
   have HO5 := Lib.hid (own_mono ho5 HB4.out.size)
   obtain ⟨A5,c5,rfl⟩ := own_formB ho5
   have how := HOwn.out w5 HB5.out
   clear hb5 ho5 HB4 HD4 hd4 hcl HCl
   have z0 := HD5.out.cell 0
   have z1 := HD5.out.cell 1
   have z2 := HD5.out.cell 2
   have z3 := HD5.out.cell 3
   have z4 := HD5.out.cell 4
   have z5 := HD5.out.cell 5
   have z6 := HD5.out.cell 6
   have z7 := HD5.out.cell 7
   have z8 := HD5.out.cell 8
   have z9 := HD5.out.cell 9
   have z10 := HD5.out.cell 10
   have z11 := HD5.out.cell 11
   have z12 := HD5.out.cell 12
   simp only [List.getElem?_toArray,List.getElem?_cons_succ,List.getElem?_cons_zero] at z0 z1 z2 z3 z4 z5 z6 z7 z8 z9 z10 z11 z12
   go_wp2_with fail
   refine how.mono ?_
   rintro e w6 ⟨hb6,A1,k1,A2,k2,A3,k3,rfl,o1,o2,o3⟩
   unfold setVal
   have HB6 := Lib.hid (HB5.out.trans (hb6.mono HB5.out.size))
   have HOC : Hid (OwnC (w6.alloc (.cells #[.string x.name,.int .i64 x.depth,.int .i64 x.low,.int .i64 x.high,.int .i64 x.len,.slice A1 x.lines.length k1,.int .i64 x.pipe,.int .i64 x.arbor,.int .i64 x.purch,.int .i64 x.most,.int .i64 x.brake,.slice A2 x.items.length k2,.slice A3 x.bricks.length k3] 26)) w.heap.size ⟨x,A1,k1,A2,k2,A3,k3⟩) := ⟨(own_mono o1 HB5.out.size).alloc _,(own_mono o2 HB5.out.size).alloc _,(own_mono o3 HB5.out.size).alloc _⟩
   have HO6 := Lib.hid ((own_belowL HO5.out hb6).alloc (.cells #[.string x.name,.int .i64 x.depth,.int .i64 x.low,.int .i64 x.high,.int .i64 x.len,.slice A1 x.lines.length k1,.int .i64 x.pipe,.int .i64 x.arbor,.int .i64 x.purch,.int .i64 x.most,.int .i64 x.brake,.slice A2 x.items.length k2,.slice A3 x.bricks.length k3] 26))
   have HBa := Lib.hid (HB6.out.alloc HB6.out.size (.cells #[.string x.name,.int .i64 x.depth,.int .i64 x.low,.int .i64 x.high,.int .i64 x.len,.slice A1 x.lines.length k1,.int .i64 x.pipe,.int .i64 x.arbor,.int .i64 x.purch,.int .i64 x.most,.int .i64 x.brake,.slice A2 x.items.length k2,.slice A3 x.bricks.length k3] 26))
   have Hnew := Lib.hid (World.news_of_block (Blk.new w6 26 #[.string x.name,.int .i64 x.depth,.int .i64 x.low,.int .i64 x.high,.int .i64 x.len,.slice A1 x.lines.length k1,.int .i64 x.pipe,.int .i64 x.arbor,.int .i64 x.purch,.int .i64 x.most,.int .i64 x.brake,.slice A2 x.items.length k2,.slice A3 x.bricks.length k3]))
   have hsz := HBa.out.size
   obtain ⟨iF,hiF,hzF0,hzF1,hzF2⟩ := info_parts info_setc
   clear hb6 o1 o2 o3 HB5 HD5 HO5 how HOwn z0 z1 z2 z3 z4 z5 z6 z7 z8 z9 z10 z11 z12
   go_wp2_with (at_builtin;refine wpList_append_own _ rfl _ _ 66 rfl w.heap.size 26 iF (.agg #[.string ⟨#[]⟩,.int .i64 0,.int .i64 0,.int .i64 0,.int .i64 0,.slice none 0 0,.int .i64 0,.int .i64 0,.int .i64 0,.int .i64 0,.int .i64 0,.slice none 0 0,.slice none 0 0]) 13 160 Tryz.underlying66 hiF hzF0 hzF1 hzF2 rfl (by decide) _ _ _ rfl HO6.out ⟨w6.heap.size,0,none⟩ 1 1 [.string x.name,.int .i64 x.depth,.int .i64 x.low,.int .i64 x.high,.int .i64 x.len,.slice A1 x.lines.length k1,.int .i64 x.pipe,.int .i64 x.arbor,.int .i64 x.purch,.int .i64 x.most,.int .i64 x.brake,.slice A2 x.items.length k2,.slice A3 x.bricks.length k3] rfl rfl Hnew.out (by simp [Value.oneCell']) (by unfold maxLen;omega) (by omega) hsz ?_;intro v' w8 hown' hgrow _;obtain ⟨g',cap',rfl⟩ := ownsRow_succ hown';have HO8 := Lib.hid hown';have HG8 : Hid ((w6.alloc (.cells #[.string x.name,.int .i64 x.depth,.int .i64 x.low,.int .i64 x.high,.int .i64 x.len,.slice A1 x.lines.length k1,.int .i64 x.pipe,.int .i64 x.arbor,.int .i64 x.purch,.int .i64 x.most,.int .i64 x.brake,.slice A2 x.items.length k2,.slice A3 x.bricks.length k3] 26)).grownBy w8 (Value.slice A5 r.L.length c5).ownBlock) := hgrow;clear hown' hgrow)
   have hb8 : Below w.heap.size w w8 := HBa.out.grown HG8.out HBa.out.size (fun j e => (HO6.out.lt j e).1)
   have hr : ∀ {t s n : Nat} {u : Value} {xs : List Value},(w6.alloc (.cells #[.string x.name,.int .i64 x.depth,.int .i64 x.low,.int .i64 x.high,.int .i64 x.len,.slice A1 x.lines.length k1,.int .i64 x.pipe,.int .i64 x.arbor,.int .i64 x.purch,.int .i64 x.most,.int .i64 x.brake,.slice A2 x.items.length k2,.slice A3 x.bricks.length k3] 26)).ownsRow w.heap.size t s u n xs → t ≠ 26 → w8.ownsRow w.heap.size t s u n xs := fun ho ht => ho.kept HG8.out (by
    rcases Classical.em ((Value.slice A5 r.L.length c5).ownBlock = none) with e | e
    ·rw [e]
     exact Classical.em _
    ·obtain ⟨g,eg⟩ := Option.ne_none_iff_exists'.1 e
     obtain ⟨cs',hcs⟩ := own_type HO6.out eg
     rw [eg]
     exact own_not ho (cs := cs') hcs (Ne.symm ht))
   have hoc8 : OwnC w8 w.heap.size ⟨x,A1,k1,A2,k2,A3,k3⟩ := ⟨hr HOC.out.1 (by decide),hr HOC.out.2.1 (by decide),hr HOC.out.2.2 (by decide)⟩
   have hsets := sets_push (c := (⟨x,A1,k1,A2,k2,A3,k3⟩ : SetC)) HS.out hb8 rfl HO8.out hoc8
   have hbe := HBe.out _ _ w8 hb8 hsets
   have HPF : Hid (∀ e W',BecomePost B D (sinceM M w.heap.size w8.heap.size) st ((r.L ++ [(⟨x,A1,k1,A2,k2,A3,k3⟩ : SetC)]).map SetC.s) w8 e W' → e = .returned (.tuple #[]) ∧ PutPost B D M (putV st x) w (.returned (.int .i64 0)) W') := fun e W' hbp => ⟨hbp.1,put_become hb8 hB (by rw [HPV.out,HE.out,List.map_append,HS.out.setsE];rfl) hbp⟩
   clear hb8 hr hoc8 hsets HO8 HG8 HO6 HOC HBa Hnew HB6 HBe HS HE HPV
   go_wp2_with fail
   refine hbe.mono ?_
   intro e w9 hbp
   obtain ⟨he,hpp⟩ := HPF.out e w9 hbp
   subst he
   have HPP := Lib.hid hpp
   clear hbp hpp HPF hbe
   go_wp2_with fail
   go_ret
   exact HPP.out
 | some k =>
  rw [show idxOf (some k) = (k : Int) from rfl]
  obtain ⟨hk,-⟩ := idx_in HS.out.setsE hi
  have hgk : st.sets[k]? = some r.L[k].s := by rw [← HS.out.setsE,List.getElem?_map,List.getElem?_eq_getElem hk];rfl
  have hcm := List.getElem_mem hk
  have HHk := Lib.hid hk
  obtain ⟨A,cc,eA,hc1,hc2,hcell⟩ := (HS.out.below HB3.out).at.open_
  rw [Hes.out] at eA
  injection eA with eA1 _ eA2
  subst eA1 eA2
  unfold maxLen at hc2
  obtain ⟨b1,o1,e1,hb1,hx⟩ := hcell k hk
  have hy := hx k hk
  rw [e1] at hd3
  have y0 := hy 0 _ rfl
  have y1 := hy 1 _ rfl
  have y2 := hy 2 _ rfl
  have y3 := hy 3 _ rfl
  have y4 := hy 4 _ rfl
  have y5 := hy 5 _ rfl
  have y6 := hy 6 _ rfl
  have y7 := hy 7 _ rfl
  have y8 := hy 8 _ rfl
  have y9 := hy 9 _ rfl
  have y10 := hy 10 _ rfl
  have y11 := hy 11 _ rfl
  have y12 := hy 12 _ rfl
  rw [Nat.add_zero] at y0
  have hsa := fun W (hb : Below w3.heap.size w3 W) => HSa.out r.L[k] hcm W (HB3.out.trans (hb.mono HB3.out.size))
  have kc0 : (0 : Int) ≤ (k : Int) := Int.natCast_nonneg _
  have kc1 : (k : Int) < (r.L.length : Int) := by omega
  have HE1 : Hid (r.L[k].s = x → putSt st x = (0,st)) := fun e => by unfold putSt;rw [hi];dsimp only;rw [if_pos (hgk.trans (congrArg some e))]
  have HE2 : Hid (r.L[k].s ≠ x → putSt st x = (0,{ st with sets := st.sets.set k x,past := st.past ++ [st.sets] })) := fun e => by
   unfold putSt
   rw [hi]
   dsimp only
   rw [if_neg (fun h => e (by rw [hgk] at h;exact Option.some.inj h))]
  clear hi hgk hcm hx hy hcell e1
  generalize r.L[k] = c at *
  clear hk
  unfold SetC.val setVal at hsa
  have hSm := HeldB.call hsa
  have p0 := HeldB.cell hd3
  have py0 := HeldB.cell y0
  have py1 := HeldB.cell y1
  have py2 := HeldB.cell y2
  have py3 := HeldB.cell y3
  have py4 := HeldB.cell y4
  have py5 := HeldB.cell y5
  have py6 := HeldB.cell y6
  have py7 := HeldB.cell y7
  have py8 := HeldB.cell y8
  have py9 := HeldB.cell y9
  have py10 := HeldB.cell y10
  have py11 := HeldB.cell y11
  have py12 := HeldB.cell y12
  have z0 := HD3.out.cell 0
  have z1 := HD3.out.cell 1
  have z2 := HD3.out.cell 2
  have z3 := HD3.out.cell 3
  have z4 := HD3.out.cell 4
  have z5 := HD3.out.cell 5
  have z6 := HD3.out.cell 6
  have z7 := HD3.out.cell 7
  have z8 := HD3.out.cell 8
  have z9 := HD3.out.cell 9
  have z10 := HD3.out.cell 10
  have z11 := HD3.out.cell 11
  have z12 := HD3.out.cell 12
  simp only [List.getElem?_toArray,List.getElem?_cons_succ,List.getElem?_cons_zero] at z0 z1 z2 z3 z4 z5 z6 z7 z8 z9 z10 z11 z12
  have pz0 := HeldB.cell z0
  have pz1 := HeldB.cell z1
  have pz2 := HeldB.cell z2
  have pz3 := HeldB.cell z3
  have pz4 := HeldB.cell z4
  have pz5 := HeldB.cell z5
  have pz6 := HeldB.cell z6
  have pz7 := HeldB.cell z7
  have pz8 := HeldB.cell z8
  have pz9 := HeldB.cell z9
  have pz10 := HeldB.cell z10
  have pz11 := HeldB.cell z11
  have pz12 := HeldB.cell z12
  clear hsa
  go_wp2_with fail
  by_cases hq : c.s = x
  ·rw [decide_eq_true hq] at hSm
   have HE := Lib.hid (HE1.out hq)
   clear hq HE1 HE2 hd3 y0 y1 y2 y3 y4 y5 y6 y7 y8 y9 y10 y11 y12 z0 z1 z2 z3 z4 z5 z6 z7 z8 z9 z10 z11 z12
   refine wp_region_heldb (by kernel_rfl) (by kernel_rfl) ?_
   repeat (go_big_quiet_step ((go_at_call 49;exact hSm _)))
   refine wpQuiet_nil ?_
   rintro w4 ⟨⟨w4',hb4⟩,rfl⟩
   have hbz := HB3.out.trans (hb4.mono HB3.out.size)
   go_wp2_with fail
   go_ret
   rw [HPV.out,HE.out]
   exact put_stay HS.out hbz
  ·rw [decide_eq_false hq] at hSm
   have HE := Lib.hid (HE2.out hq)
   clear hq HE1 HE2 hd3 y0 y1 y2 y3 y4 y5 y6 y7 y8 y9 y10 y11 y12 z0 z1 z2 z3 z4 z5 z6 z7 z8 z9 z10 z11 z12
   refine wp_region_heldb (by kernel_rfl) (by kernel_rfl) ?_
   repeat (go_big_quiet_step ((go_at_call 49;exact hSm _)))
   refine wpQuiet_nil ?_
   rintro w4 ⟨⟨w4',hb4⟩,rfl⟩
   have HB4 := Lib.hid (HB3.out.trans (hb4.mono HB3.out.size))
   have HD4 := Lib.hid (HD3.out.below hb4 HD3.out.lt)
   clear hb4 HB3 HD3 hSm p0 py0 py1 py2 py3 py4 py5 py6 py7 py8 py9 py10 py11 py12 pz0 pz1 pz2 pz3 pz4 pz5 pz6 pz7 pz8 pz9 pz10 pz11 pz12
   have hd4 := HD0.out w4 HB4.out
   rw [Hes.out] at hd4
   have hDl4 := Nat.lt_of_lt_of_le hDl HB4.out.size
   have hcl := HCl.out w4 HB4.out h60
   rw [Hes.out] at hcl
   go_wp2_with fail
   refine hcl.mono ?_
   rintro e w5 ⟨lv,rfl,ho5,hb5⟩
   have HB5 := Lib.hid (HB4.out.trans (hb5.mono HB4.out.size))
   have HD5 := Lib.hid (HD4.out.below hb5 HD4.out.lt)
   have HO5 := Lib.hid (own_mono ho5 HB4.out.size)
   obtain ⟨g5,c5,rfl⟩ : ∃ g c,lv = .slice (some ⟨g,0,none⟩) r.L.length c := by
    rcases ho5.2 with ⟨_,h0⟩ | ⟨g,cap,cur,rfl,_⟩
    ·have := HHk.out
     omega
    ·exact ⟨g,cap,rfl⟩
   have how := HOwn.out w5 HB5.out
   clear hb5 ho5 HB4 HD4 hd4 hcl HCl
   have z0 := HD5.out.cell 0
   have z1 := HD5.out.cell 1
   have z2 := HD5.out.cell 2
   have z3 := HD5.out.cell 3
   have z4 := HD5.out.cell 4
   have z5 := HD5.out.cell 5
   have z6 := HD5.out.cell 6
   have z7 := HD5.out.cell 7
   have z8 := HD5.out.cell 8
   have z9 := HD5.out.cell 9
   have z10 := HD5.out.cell 10
   have z11 := HD5.out.cell 11
   have z12 := HD5.out.cell 12
   simp only [List.getElem?_toArray,List.getElem?_cons_succ,List.getElem?_cons_zero] at z0 z1 z2 z3 z4 z5 z6 z7 z8 z9 z10 z11 z12
   go_wp2_with fail
   refine how.mono ?_
   rintro e w6 ⟨hb6,A1,k1,A2,k2,A3,k3,rfl,o1,o2,o3⟩
   unfold setVal
   dsimp only
   have HB6 := Lib.hid (HB5.out.trans (hb6.mono HB5.out.size))
   have HOC : Hid (OwnC w6 w.heap.size ⟨x,A1,k1,A2,k2,A3,k3⟩) := ⟨own_mono o1 HB5.out.size,own_mono o2 HB5.out.size,own_mono o3 HB5.out.size⟩
   have HO6 := Lib.hid (own_belowL HO5.out hb6)
   clear hb6 o1 o2 o3 HB5 HD5 HO5 how HOwn z0 z1 z2 z3 z4 z5 z6 z7 z8 z9 z10 z11 z12
   iterate 4 (first | go_values | go_skip | go_guarded | go_step | go_upon)
   have HTh := Lib.hid (own_there HO6.out HHk.out)
   refine wpList_store_mid rfl 26 (.tmp 59) (.tmp 58) rfl g5 (k * 13) #[.string x.name,.int .i64 x.depth,.int .i64 x.low,.int .i64 x.high,.int .i64 x.len,.slice A1 x.lines.length k1,.int .i64 x.pipe,.int .i64 x.arbor,.int .i64 x.purch,.int .i64 x.most,.int .i64 x.brake,.slice A2 x.items.length k2,.slice A3 x.bricks.length k3] rfl rfl HTh.out (by kernel_rfl) (by simp [Value.oneCell']) ?_
   simp only [Act.put]
   obtain ⟨hsets,hb8⟩ := sets_put (c := (⟨x,A1,k1,A2,k2,A3,k3⟩ : SetC)) (k := k) HS.out HB6.out rfl rfl HO6.out HOC.out HHk.out rfl
   have hbe := HBe.out _ _ _ hb8 hsets
   have HPF : Hid (∀ e W',BecomePost B D (sinceM M w.heap.size (w6.setCells g5 (k * 13) (⟨x,A1,k1,A2,k2,A3,k3⟩ : SetC).cells).heap.size) st ((r.L.set k (⟨x,A1,k1,A2,k2,A3,k3⟩ : SetC)).map SetC.s) (w6.setCells g5 (k * 13) (⟨x,A1,k1,A2,k2,A3,k3⟩ : SetC).cells) e W' → e = .returned (.tuple #[]) ∧ PutPost B D M (putV st x) w (.returned (.int .i64 0)) W') := fun e W' hbp => ⟨hbp.1,put_become hb8 hB (by rw [HPV.out,HE.out,List.map_set,HS.out.setsE]) hbp⟩
   clear hsets hb8 HO6 HOC HB6 HBe HS HE HPV HTh
   change wpList _ _ _ _ _ (w6.setCells g5 (k * 13) (⟨x,A1,k1,A2,k2,A3,k3⟩ : SetC).cells)
   generalize w6.setCells g5 (k * 13) (⟨x,A1,k1,A2,k2,A3,k3⟩ : SetC).cells = w8 at *
   go_wp2_with fail
   refine hbe.mono ?_
   intro e w9 hbp
   obtain ⟨he,hpp⟩ := HPF.out e w9 hbp
   subst he
   have HPP := Lib.hid hpp
   clear hbp hpp HPF hbe
   go_wp2_with fail
   go_ret
   exact HPP.out
end Go.Proofs.YtbhmkcjddpniiaaGreatDoor

namespace Go.Proofs.YtbhmkcjddpniiaaGreatDoor
open Go.RowKit Go.Shelf
def zeroSc : List Value := [.string ⟨#[]⟩,.int .i64 0,.int .i64 0,.int .i64 0,.int .i64 0,.slice none 0 0,.int .i64 0,.int .i64 0,.int .i64 0,.int .i64 0,.int .i64 0,.slice none 0 0,.slice none 0 0]
theorem clearOneS (b o c : Nat) (w : World) (hc : ∀ j,j < 13 → (w.cell? ⟨b,o + j,none⟩).isSome = true) (hf : ∀ j,j < 13 → w.frozen? ⟨b,o + j,none⟩ = false) (ty : TypeId) :
  (Builtin.clear_ #[66] ty #[.slice (some ⟨b,o,none⟩) 1 c]).run Tryz.prog w = .ok (.tuple #[]) (w.setCells b o zeroSc) := by
 have hst := run_storeCells_cells (P := Tryz.prog) b o zeroSc 0 w (by simpa [zeroSc] using hc) (by simpa [zeroSc] using hf) (by intro v hv;simp only [zeroSc,List.mem_cons,List.not_mem_nil,or_false] at hv;rcases hv with rfl | rfl | rfl | rfl | rfl | rfl | rfl | rfl | rfl | rfl | rfl | rfl | rfl <;> rfl)
 simp only [Nat.add_zero] at hst
 have hz : (Builtin.zeroCells (Value.agg #[.string ⟨#[]⟩,.int .i64 0,.int .i64 0,.int .i64 0,.int .i64 0,.slice none 0 0,.int .i64 0,.int .i64 0,.int .i64 0,.int .i64 0,.int .i64 0,.slice none 0 0,.slice none 0 0]).cells 1).toList = zeroSc := by kernel_rfl
 simp [Builtin.clear_,run_underlying Tryz.underlying66,Tryz.zeroValue26,hz,hst]
theorem size_setCellsD (b : Nat) : ∀ (vs : List Value) (o : Nat) (w : World),(w.setCells b o vs).heap.size = w.heap.size
 | [],_,_ => rfl
 | v :: r,o,w => by rw [World.setCells,size_setCellsD b r];simp [World.setCell]
theorem heap_setCellsD (b : Nat) : ∀ (vs : List Value) (o : Nat) (w : World) {k : Nat},k ≠ b → (w.setCells b o vs).heap[k]? = w.heap[k]?
 | [],_,_,_,_ => rfl
 | v :: r,o,w,k,h => by rw [World.setCells,heap_setCellsD b r _ _ h];exact Below.heap_setCell w _ v k h
theorem setCells_ioD (b : Nat) : ∀ (vs : List Value) (o : Nat) (w : World),(w.setCells b o vs).os = w.os ∧ (w.setCells b o vs).tape = w.tape ∧ (w.setCells b o vs).output = w.output
 | [],_,_ => ⟨rfl,rfl,rfl⟩
 | v :: r,o,w => by
  obtain ⟨h1,h2,h3⟩ := setCells_ioD b r (o + 1) (w.setCell ⟨b,o,none⟩ v)
  exact ⟨h1,h2,h3⟩
def movedS (l : List SetC) (i : Nat) : List Value := (l.drop (i + 1)).flatMap SetC.cells
theorem movedS_len (l : List SetC) (i : Nat) : (movedS l i).length = (l.length - (i + 1)) * 13 := by unfold movedS;rw [flatLen SetC.cells 13 (fun _ => rfl),List.length_drop]
theorem movedS_get (l : List SetC) (i t : Nat) (ht : t < (l.length - (i + 1)) * 13) : (movedS l i)[t]? = (l.flatMap SetC.cells)[(i + 1) * 13 + t]? := by
 have h := List.take_append_drop (i + 1) l
 have e : l.flatMap SetC.cells = (l.take (i + 1)).flatMap SetC.cells ++ movedS l i := by
  unfold movedS
  rw [← List.flatMap_append,h]
 have hl : ((l.take (i + 1)).flatMap SetC.cells).length = (i + 1) * 13 := by rw [flatLen SetC.cells 13 (fun _ => rfl),List.length_take];omega
 rw [e,List.getElem?_append_right (by omega),hl]
 congr 1
 omega
theorem erasedS (l : List SetC) (i : Nat) (_hi : i < l.length) : (l.eraseIdx i).flatMap SetC.cells = (l.take i).flatMap SetC.cells ++ movedS l i := by
 rw [List.eraseIdx_eq_take_drop_succ,List.flatMap_append]
 rfl
set_option maxRecDepth 1000000 in
set_option maxHeartbeats 4000000 in
theorem deleteSets (base g cap : Nat) (l : List SetC) (i : Nat) (w : World) (hi : i < l.length) (h100 : l.length ≤ 100) (h : w.ownsRow base 26 13 (.slice (some ⟨g,0,none⟩) l.length cap) l.length (l.flatMap SetC.cells)) :
  Calls Tryz.prog 96 #[.slice (some ⟨g,0,none⟩) l.length cap,.int .i64 i,.int .i64 ((i : Int) + 1)] w fun e w' => e = .returned (.slice (some ⟨g,0,none⟩) (l.length - 1) cap) ∧
   Flat w' w'.heap.size (.slice (some ⟨g,0,none⟩) (l.length - 1) cap) (l.length - 1) ((l.eraseIdx i).flatMap SetC.cells) ∧ w.grownBy w' (some g) := by
 rcases h.2 with ⟨h1,_⟩ | ⟨g',cap',cur,h1,hb,hg,hnc,hcm,hcs,ht⟩
 ·cases h1
 injection h1 with e1 _ e2
 injection e1 with e1
 injection e1 with e1
 subst e1 e2
 obtain ⟨i0,hi0,hz0,hz1,hz2⟩ := info_parts info_setc
 have hglt := (Array.getElem?_eq_some_iff.1 hg).1
 have hcell : ∀ q k,k < cap * 13 → ((w.drewN q).cell? ⟨g,k,none⟩).isSome = true ∧ (w.drewN q).frozen? ⟨g,k,none⟩ = false := fun q k hk => by
  constructor
  ·show (w.cell? ⟨g,k,none⟩).isSome = true
   rw [cell_of_row w g k cur _ (0,0) hg,Array.getElem?_eq_getElem (by omega)]
   rfl
  ·show w.frozen? ⟨g,k,none⟩ = false
   simp [World.frozen?,hg]
 have hread : ∀ k,k < l.length * 13 → w.cell? ⟨g,k,none⟩ = (l.flatMap SetC.cells)[k]? := fun k hk => by
  rw [cell_of_row w g k cur _ (0,0) hg,← ht,List.getElem?_take,if_pos hk]
  simp
 obtain ⟨A,hA,hsrc⟩ : ∃ A : Addr,(if cap = i + 1 then some (⟨g,0,none⟩ : Addr) else some ⟨g,(i + 1) * 13,none⟩) = some A ∧ Hid (∀ t u,(movedS l i)[t]? = some u → w.drew.cell? (A.add t) = some u) := by
  by_cases hc : cap = i + 1
  ·refine ⟨⟨g,0,none⟩,by simp [hc],fun t u hu => ?_⟩
   have h0 : (movedS l i).length = 0 := by rw [movedS_len];omega
   rw [List.length_eq_zero_iff.1 h0] at hu
   simp at hu
  ·refine ⟨⟨g,(i + 1) * 13,none⟩,by simp [hc],fun t u hu => ?_⟩
   have ht : t < (l.length - (i + 1)) * 13 := by
    have := (List.getElem?_eq_some_iff.1 hu).1
    rwa [movedS_len] at this
   rw [movedS_get l i t ht] at hu
   rw [Addr.add_lit]
   exact (hread _ (by omega)).trans hu
 have s1 : Hid ((movedS l i).length = (l.length - (i + 1)) * 13) := movedS_len l i
 have s2 : Hid (∀ u ∈ movedS l i,u.oneCell' = true) := flatOneSet _
 have s3 : Hid (∀ t,t < (movedS l i).length → (w.drew.cell? ⟨g,0 + i * 13 + t,none⟩).isSome = true ∧ w.drew.frozen? ⟨g,0 + i * 13 + t,none⟩ = false) := fun t ht => by
  rw [movedS_len] at ht
  rw [Nat.zero_add]
  exact hcell 1 _ (by omega)
 obtain ⟨W1,hW1⟩ : ∃ W1,W1 = w.drew.setCells g (0 + i * 13) (movedS l i) := ⟨_,rfl⟩
 have hW1b : ∀ k,k < cap * 13 → (W1.cell? ⟨g,k,none⟩).isSome = true ∧ W1.frozen? ⟨g,k,none⟩ = false := fun k hk => by
  rw [hW1,World.frozen?_setCells]
  exact ⟨World.isSome_setCells g _ _ _ _ (hcell 1 k hk).1,(hcell 1 k hk).2⟩
 have hcl : ∀ ty,(Builtin.clear_ #[66] ty #[.slice (some ⟨g,(l.length - 1) * 13,none⟩) 1 (cap - (l.length - 1))]).run Tryz.prog W1 = .ok (.tuple #[]) (W1.setCells g ((l.length - 1) * 13) zeroSc) := fun ty =>
  clearOneS g _ _ W1 (fun j hj => (hW1b _ (by omega)).1) (fun j hj => (hW1b _ (by omega)).2) ty
 have HW1 : Hid (W1 = w.drew.setCells g (0 + i * 13) (movedS l i)) := hW1
 have HF : Hid (Flat (W1.setCells g ((l.length - 1) * 13) zeroSc) (W1.setCells g ((l.length - 1) * 13) zeroSc).heap.size (.slice (some ⟨g,0,none⟩) (l.length - 1) cap) (l.length - 1) ((l.eraseIdx i).flatMap SetC.cells) ∧ w.grownBy (W1.setCells g ((l.length - 1) * 13) zeroSc) (some g)) := by
  have hlE : ((l.eraseIdx i).flatMap SetC.cells).length = (l.length - 1) * 13 := by rw [flatLen SetC.cells 13 (fun _ => rfl),List.length_eraseIdx,if_pos hi]
  refine ⟨⟨_,_,rfl,by omega,hcm,fun _ => ⟨g,0,rfl,?_,fun j u hu => ?_⟩⟩,?_⟩
  ·rw [size_setCellsD,hW1,size_setCellsD]
   exact hglt
  ·have hj : j < (l.length - 1) * 13 := by
    have := (List.getElem?_eq_some_iff.1 hu).1
    omega
   rw [Nat.zero_add,World.cell?_setCells_out _ _ _ _ _ (fun _ _ => .inl hj),hW1,Nat.zero_add]
   rw [erasedS l i hi] at hu
   by_cases hji : j < i * 13
   ·rw [World.cell?_setCells_out _ _ _ _ _ (fun _ _ => .inl hji)]
    rw [List.getElem?_append_left (by rw [flatLen SetC.cells 13 (fun _ => rfl),List.length_take];omega)] at hu
    show w.cell? _ = _
    rw [hread j (by omega),← hu]
    conv => lhs;rw [← List.take_append_drop i l,List.flatMap_append]
    rw [List.getElem?_append_left (by rw [flatLen SetC.cells 13 (fun _ => rfl),List.length_take];omega)]
   ·obtain ⟨t,rfl⟩ : ∃ t,j = i * 13 + t := ⟨j - i * 13,by omega⟩
    rw [List.getElem?_append_right (by rw [flatLen SetC.cells 13 (fun _ => rfl),List.length_take];omega),flatLen SetC.cells 13 (fun _ => rfl),List.length_take,Nat.min_eq_left (by omega),Nat.add_sub_cancel_left] at hu
    have htl : t < (movedS l i).length := (List.getElem?_eq_some_iff.1 hu).1
    have hm := movedS_len l i
    rw [World.cell?_setCells_in g (movedS l i) (i * 13) w.drew (fun j hj => show (w.drew.cell? _).isSome = true from (hcell 1 _ (by omega)).1) t htl,← hu,List.getElem?_eq_getElem]
  ·refine ⟨?_,?_,?_,?_,fun k hk hne => ?_⟩
   ·rw [(setCells_ioD _ _ _ _).1,hW1,(setCells_ioD _ _ _ _).1];rfl
   ·rw [(setCells_ioD _ _ _ _).2.1,hW1,(setCells_ioD _ _ _ _).2.1];rfl
   ·rw [(setCells_ioD _ _ _ _).2.2,hW1,(setCells_ioD _ _ _ _).2.2];rfl
   ·rw [size_setCellsD,hW1,size_setCellsD];exact Nat.le_refl _
   ·have hkg : k ≠ g := fun e => hne (by rw [e])
    rw [heap_setCellsD _ _ _ _ hkg,hW1,heap_setCellsD _ _ _ _ hkg]
    rfl
 have hic : i ≤ cap := by omega
 have hjc : i + 1 ≤ cap := by omega
 unfold maxLen at hcm
 clear h hW1 hW1b hread hcell ht hg hcs
 generalize hn : l.length = n at *
 obtain ⟨n1,rfl⟩ : ∃ n1,n = n1 + 1 := ⟨n - 1,by omega⟩
 simp only [Nat.add_sub_cancel] at hcl HF ⊢
 have hwr : IntKind.i64.wrap ((i : Int) + 1) = (i : Int) + 1 := IntWalk.i64_in _ (by omega)
 have hp0 : (0 : Int) ≤ (i : Int) + 1 := by omega
 have hp1 : (i : Int) + 1 ≤ ((n1 + 1 : Nat) : Int) := by omega
 have hp1' : (i : Int) + 1 ≤ (n1 : Int) + 1 := by omega
 have hp2 : ((i : Int) + 1).toNat = i + 1 := by omega
 have Hn := Lib.hid hn
 have hsum : i + (n1 + 1 - (i + 1)) = n1 := by omega
 have hn1c : ¬ cap = n1 := by omega
 have hn1c' : n1 ≤ cap := by omega
 clear hn
 go_enter Tryz.func96,Tryz.ntmps96
 go_wp2_with fail
 go_region_law (refine step_append_room rfl (.tmp 22) (.tmp 25) 66 rfl 26 i0 13 Tryz.underlying66 hi0 hz1 g 0 i cap (by simp [Act.eval,Act.put]) A (n1 + 1 - (i + 1)) (cap - (i + 1)) (movedS l i) (by simp [Act.eval,Act.put]) s1.out hsrc.out s2.out (by omega) s3.out ?_;rw [← HW1.out])
 rw [show i + (n1 - i) = n1 by omega]
 go_simp
 have hq0 : (0 : Int) ≤ (n1 : Int) + 1 := by omega
 have hq1 : ((n1 : Int) + 1).toNat = n1 + 1 := by omega
 have hq2 : (n1 : Int) ≤ (n1 : Int) + 1 := by omega
 have hq3 : (n1 : Int) + 1 ≤ (cap : Int) := by omega
 clear hwr hp0 hp1 hp1' hp2
 go_wp2_with fail
 go_ret
 exact ⟨rfl,HF.out.1,HF.out.2⟩
end Go.Proofs.YtbhmkcjddpniiaaGreatDoor

namespace Go.Proofs.YtbhmkcjddpniiaaGreatDoor
open Go.RowKit Go.Shelf
theorem flatM_of_flat {w : World} {B : Nat} {M : Nat → Prop} {g o n m c : Nat} {xs : List Value} (h : Flat w B (.slice (some ⟨g,o,none⟩) n c) m xs) (hM : M g) (hg : g < w.heap.size) : FlatM w M (.slice (some ⟨g,o,none⟩) n c) m xs := by
 obtain ⟨A,c',e,h1,h2,h3⟩ := h
 injection e with e1 e2 e3
 subst e1 e2 e3
 refine ⟨_,_,rfl,h1,h2,fun hn => ?_⟩
 obtain ⟨b,off,e,_,hc⟩ := h3 hn
 injection e with e
 injection e with e1 e2
 subst e1 e2
 exact ⟨_,_,rfl,hM,hg,hc⟩
theorem sets_del {w W W' : World} {B D : Nat} {M : Nat → Prop} {st : St} {r : StR} {g cap k : Nat} (h : StoreAt w B D M st r) (hb : Below w.heap.size w W) (hown : W.ownsRow w.heap.size 26 13 (.slice (some ⟨g,0,none⟩) r.L.length cap) r.L.length (r.L.flatMap SetC.cells))
  (hk : k < r.L.length) (hf : Flat W' W'.heap.size (.slice (some ⟨g,0,none⟩) (r.L.length - 1) cap) (r.L.length - 1) ((r.L.eraseIdx k).flatMap SetC.cells)) (hg : W.grownBy W' (some g)) :
  SetsM W' (sinceM M w.heap.size W'.heap.size) (.slice (some ⟨g,0,none⟩) (r.L.length - 1) cap) (r.L.eraseIdx k) ∧ Below w.heap.size w W' := by
 have hgl := hown.lt g (by simp [Value.ownBlock])
 have hb' : Below w.heap.size w W' := hb.grown hg hb.size (fun j e => by have e1 : g = j := (by simpa using e);omega)
 have hlt : g < W'.heap.size := Nat.lt_of_lt_of_le hgl.2 hg.size
 refine ⟨⟨?_,fun x hx => ((h.sets.2 x ((List.eraseIdx_sublist r.L k).subset hx)).kept (KeepM.of_below hb')).sub fun g hg => .inl hg⟩,hb'⟩
 rw [List.length_eraseIdx,if_pos hk]
 exact flatM_of_flat hf (.inr ⟨hgl.1,hlt⟩) hlt
theorem map_eraseIdx' (L : List SetC) (k : Nat) : (L.eraseIdx k).map SetC.s = (L.map SetC.s).eraseIdx k := by
 rw [List.eraseIdx_eq_take_drop_succ,List.eraseIdx_eq_take_drop_succ,List.map_append,List.map_take,List.map_drop]
set_option maxRecDepth 100000 in
set_option maxHeartbeats 4000000 in
theorem stDrop (B D : Nat) (M : Nat → Prop) (st : St) (r : StR) (nm : ByteArray) (w : World) (h : StoreAt w B D M st r) (hok : StOk st) (hp : st.past.length ≤ 1000) :
  Calls Tryz.prog 40 #[.pointer (some ⟨D,0,none⟩),.string nm] w (PutPost B D M (dropSt st nm) w) := by
 have HX := Lib.hid (idx_find r.L nm)
 have hd := h.blk.cell 0
 simp only [List.getElem?_toArray,List.getElem?_cons_zero] at hd
 have hF := stFind D r.sv r.L nm w hd h.blk.lt h.at
 rw [HX.out,h.setsE] at hF
 have HBe := Lib.hid fun lv L2 W (hb : Below w.heap.size w W) (hl : SetsM W (sinceM M w.heap.size W.heap.size) lv L2) => stBecome B D (sinceM M w.heap.size W.heap.size) st r lv L2 W (store_since h hb) hl hp
 have HCl := Lib.hid fun W (hb : Below w.heap.size w W) (h60 : r.L.length ≤ 60) => cloneSet r.sv r.L W (h.below hb).at (by omega)
 have hB := Nat.le_trans h.base (Nat.le_of_lt h.blk.lt)
 have hDl := h.blk.lt
 have h60 : r.L.length ≤ 60 := by
  have := hok.len
  rw [← h.setsE,List.length_map] at this
  exact this
 have HS := Lib.hid h
 clear h hok hp HX
 obtain ⟨As,cs,es⟩ : ∃ A c,r.sv = .slice A r.L.length c := let ⟨A,c,e,_⟩ := HS.out.at;⟨A,c,e⟩
 have Hes := Lib.hid es
 clear es hd
 go_enter Tryz.func40,Tryz.ntmps40
 go_wp2_with fail
 refine hF.mono ?_
 rintro e w2 ⟨rfl,hb2⟩
 have HB2 := Lib.hid hb2
 clear hb2 hF
 cases hi : idxS st.sets nm with
 | none =>
  have HE : Hid (dropSt st nm = (9,st)) := by unfold Hid dropSt;rw [hi]
  rw [show idxOf none = -1 from rfl]
  clear hi
  go_wp2_with fail
  go_ret
  rw [HE.out]
  exact put_stay HS.out HB2.out
 | some k =>
  rw [show idxOf (some k) = (k : Int) from rfl]
  obtain ⟨hk,-⟩ := idx_in HS.out.setsE hi
  have HE : Hid (dropSt st nm = (0,{ st with sets := st.sets.eraseIdx k,past := st.past ++ [st.sets] })) := by unfold Hid dropSt;rw [hi]
  have HHk := Lib.hid hk
  have kc0 : (0 : Int) ≤ (k : Int) := Int.natCast_nonneg _
  have kc1 : (k : Int) ≤ 60 := by omega
  have hd2 := (HS.out.below HB2.out).blk.cell 0
  simp only [List.getElem?_toArray,List.getElem?_cons_zero] at hd2
  rw [Hes.out] at hd2
  have hDl2 := Nat.lt_of_lt_of_le hDl HB2.out.size
  have hcl := HCl.out w2 HB2.out h60
  rw [Hes.out] at hcl
  clear hi hk HCl
  go_wp2_with fail
  refine hcl.mono ?_
  rintro e w3 ⟨lv,rfl,ho3,hb3⟩
  have HB3 := Lib.hid (HB2.out.trans (hb3.mono HB2.out.size))
  have HO3 := Lib.hid (own_mono ho3 HB2.out.size)
  obtain ⟨g5,c5,rfl⟩ : ∃ g c,lv = .slice (some ⟨g,0,none⟩) r.L.length c := by
   rcases ho3.2 with ⟨_,h0⟩ | ⟨g,cap,cur,rfl,_⟩
   ·have := HHk.out
    omega
   ·exact ⟨g,cap,rfl⟩
  have hde := deleteSets w.heap.size g5 c5 r.L k w3 HHk.out (by omega) HO3.out
  clear hb3 ho3 HB2 hcl hd2
  go_wp2_with fail
  refine hde.mono ?_
  rintro e w4 ⟨rfl,hf4,hg4⟩
  obtain ⟨hsets,hb4⟩ := sets_del HS.out HB3.out HO3.out HHk.out hf4 hg4
  have hbe := HBe.out _ _ w4 hb4 hsets
  have HPF : Hid (∀ e W',BecomePost B D (sinceM M w.heap.size w4.heap.size) st ((r.L.eraseIdx k).map SetC.s) w4 e W' → e = .returned (.tuple #[]) ∧ PutPost B D M (dropSt st nm) w (.returned (.int .i64 0)) W') := fun e W' hbp => ⟨hbp.1,put_become hb4 hB (by rw [HE.out,map_eraseIdx',HS.out.setsE]) hbp⟩
  clear hsets hb4 hf4 hg4 hde HO3 HB3 HBe HS HE
  go_wp2_with fail
  refine hbe.mono ?_
  intro e w9 hbp
  obtain ⟨he,hpp⟩ := HPF.out e w9 hbp
  subst he
  have HPP := Lib.hid hpp
  clear hbp hpp HPF hbe
  go_wp2_with fail
  go_ret
  exact HPP.out
end Go.Proofs.YtbhmkcjddpniiaaGreatDoor
