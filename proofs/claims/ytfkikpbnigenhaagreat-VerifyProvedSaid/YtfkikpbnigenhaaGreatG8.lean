/- Parts of the proof, laid into one text: SortInt, Put, Needs, Search, Visit, VisitW, VisitL, VisitA, Least. -/
import Derived.BigQuiet
import Derived.Deep.AppendLies
import Derived.Deep.Draws
import Derived.Deep.LoopGhost
import Derived.Deep.QuietTactic
import Derived.Deep.RegionHeld3
import Derived.Deep.RegionLaw
import Derived.IntWalk
import Derived.Laws.CopyOwn
import Derived.Laws.EntriesVeiled
import Derived.Lib.Hide
import Derived.Maps.AppendAt
import Derived.Maps.Own
import Derived.Maps.OwnOps
import Derived.Maps.OwnSet
import Derived.Maps.Views
import Derived.PlainAid
import Derived.Shelf.Abstract
import Derived.Shelf.Sort.Plain
import Derived.Sort.OwnSortedInts
import Derived.StillTailTactics
import Derived.Test.YtfkikpbnigenhaaGreatC1
import Derived.Test.YtfkikpbnigenhaaGreatG1
import Derived.Test.YtfkikpbnigenhaaGreatG2
import Derived.Test.YtfkikpbnigenhaaGreatG4
import Derived.Test.YtfkikpbnigenhaaGreatProg
import Derived.WalkKit
import Derived.WalkLawsBesides
import Derived.WalkSpells

namespace Go.Proofs.YtfkikpbnigenhaaGreat
open Go.RowKit Go.Shelf Go.Sort
def sortRen : Ren := ⟨fun | 125 => 124 | 128 => 157 | 129 => 158 | 189 => 83 | 215 => 178 | 216 => 154 | 257 => 123 | 294 => 148 | 295 => 149 | 296 => 150 | 297 => 151 | 298 => 152 | 299 => 153 | 300 => 155 | 301 => 156 | 328 => 173 | 329 => 174 | 330 => 175 | 331 => 176 | 332 => 177 | 343 => 187 | n => n,fun | 0 => 0 | 3 => 3 | 4 => 4 | 5 => 5 | 9 => 9 | 28 => 22 | 46 => 155 | 51 => 185 | 53 => 162 | 131 => 154 | 182 => 191 | 183 => 192 | 218 => 211 | 222 => 215 | 228 => 220 | 229 => 136 | n => n,fun n => n⟩
theorem sortLays : Lays.n189 Tryz.prog sortRen := {
 mixed := by kernel_rfl
 f125 := Tryz.func124.trans (congrArg some (by kernel_rfl))
 f128 := Tryz.func157.trans (congrArg some (by kernel_rfl))
 f129 := Tryz.func158.trans (congrArg some (by kernel_rfl))
 f189 := Tryz.func83.trans (congrArg some (by kernel_rfl))
 f215 := Tryz.func178.trans (congrArg some (by kernel_rfl))
 f216 := Tryz.func154.trans (congrArg some (by kernel_rfl))
 f257 := Tryz.func123.trans (congrArg some (by kernel_rfl))
 f294 := Tryz.func148.trans (congrArg some (by kernel_rfl))
 f295 := Tryz.func149.trans (congrArg some (by kernel_rfl))
 f296 := Tryz.func150.trans (congrArg some (by kernel_rfl))
 f297 := Tryz.func151.trans (congrArg some (by kernel_rfl))
 f298 := Tryz.func152.trans (congrArg some (by kernel_rfl))
 f299 := Tryz.func153.trans (congrArg some (by kernel_rfl))
 f300 := Tryz.func155.trans (congrArg some (by kernel_rfl))
 f301 := Tryz.func156.trans (congrArg some (by kernel_rfl))
 f328 := Tryz.func173.trans (congrArg some (by kernel_rfl))
 f329 := Tryz.func174.trans (congrArg some (by kernel_rfl))
 f330 := Tryz.func175.trans (congrArg some (by kernel_rfl))
 f331 := Tryz.func176.trans (congrArg some (by kernel_rfl))
 f332 := Tryz.func177.trans (congrArg some (by kernel_rfl))
 f343 := Tryz.func187.trans (congrArg some (by kernel_rfl))
 t0 := Tryz.underlying0
 a0 := Tryz.isAgg0
 z0 := Tryz.sizeOf0
 v0 := Tryz.zeroValue0
 t3 := Tryz.underlying3
 a3 := Tryz.isAgg3
 z3 := Tryz.sizeOf3
 v3 := Tryz.zeroValue3
 t4 := Tryz.underlying4
 a4 := Tryz.isAgg4
 z4 := Tryz.sizeOf4
 v4 := Tryz.zeroValue4
 t5 := Tryz.underlying5
 a5 := Tryz.isAgg5
 z5 := Tryz.sizeOf5
 v5 := Tryz.zeroValue5
 t9 := Tryz.underlying9
 a9 := Tryz.isAgg9
 z9 := Tryz.sizeOf9
 v9 := Tryz.zeroValue9
 t28 := Tryz.underlying22
 a28 := Tryz.isAgg22
 z28 := Tryz.sizeOf22
 v28 := Tryz.zeroValue22
 t46 := Tryz.underlying155
 a46 := Tryz.isAgg155
 z46 := Tryz.sizeOf155
 v46 := Tryz.zeroValue155
 t51 := Tryz.underlying185
 a51 := Tryz.isAgg185
 z51 := Tryz.sizeOf185
 v51 := Tryz.zeroValue185
 t53 := Tryz.underlying162
 a53 := Tryz.isAgg162
 z53 := Tryz.sizeOf162
 v53 := Tryz.zeroValue162
 t131 := Tryz.underlying154
 a131 := Tryz.isAgg154
 z131 := Tryz.sizeOf154
 v131 := Tryz.zeroValue154
 t182 := Tryz.underlying191
 a182 := Tryz.isAgg191
 z182 := Tryz.sizeOf191
 v182 := Tryz.zeroValue191
 t183 := Tryz.underlying192
 a183 := Tryz.isAgg192
 z183 := Tryz.sizeOf192
 v183 := Tryz.zeroValue192
 t218 := Tryz.underlying211
 a218 := Tryz.isAgg211
 z218 := Tryz.sizeOf211
 v218 := Tryz.zeroValue211
 t222 := Tryz.underlying215
 a222 := Tryz.isAgg215
 z222 := Tryz.sizeOf215
 v222 := Tryz.zeroValue215
 t228 := Tryz.underlying220
 a228 := Tryz.isAgg220
 z228 := Tryz.sizeOf220
 v228 := Tryz.zeroValue220
 t229 := Tryz.underlying136
 a229 := Tryz.isAgg136
 z229 := Tryz.sizeOf136
 v229 := Tryz.zeroValue136 }
theorem sortOwn (base g cap : Nat) (zs : List Int) (w : World) (hz : zs.length ≤ 1000) (h : w.ownsRow base 3 1 (.slice (some ⟨g,0,none⟩) zs.length cap) zs.length (zs.map (Value.int .i64))) :
  Calls Tryz.prog 83 #[.slice (some ⟨g,0,none⟩) zs.length cap] w fun e w' => e = .returned (.tuple #[]) ∧ w'.ownsRow base 3 1 (.slice (some ⟨g,0,none⟩) zs.length cap) zs.length ((zs.mergeSort fun x y => decide (x ≤ y)).map (Value.int .i64)) ∧ w.grownBy w' (some g) := by
 rcases h.2 with ⟨h1,_⟩ | ⟨g',cap',cur,h1,hb,hg,hnc,hcm,hcs,ht⟩
 ·cases h1
 ·injection h1 with e1 _ e2
  injection e1 with e1
  injection e1 with e1
  subst e1 e2
  have hlt := (Array.getElem?_eq_some_iff.1 hg).1
  rw [Nat.mul_one] at ht
  have hc := Any.slices_Sort_int sortLays g 0 cap zs w (holds_of_blockI hg ht) hlt (by omega)
  refine hc.mono ?_
  rintro e w' ⟨rfl,n,os,rfl⟩
  exact ⟨rfl,ownsRow_sortedI (by simp) hb hg hnc hcm hcs,grownBy_sortedI _⟩
end Go.Proofs.YtfkikpbnigenhaaGreat

namespace Go.Proofs.YtfkikpbnigenhaaGreat
open Go.RowKit Go.Shelf
def firstN (l : List Task) (s : List Int) (r : List Int) : Int := r.foldl (fun a k => max2 a (endN l s k.toNat)) 0
def timesTo (l : List Task) (s : List Int) (f : Int) : Nat → List Int
 | 0 => [f]
 | k + 1 => if 0 ≤ atI s k ∧ f < endN l s k then timesTo l s f k ++ [endN l s k] else timesTo l s f k
def rowAt (l : List Task) (i : Nat) : List Int := (rowsOf l).getD i []
def timesN (l : List Task) (s : List Int) (i : Nat) : List Int := (timesTo l s (firstN l s (rowAt l i)) l.length).mergeSort fun x y => decide (x ≤ y)
def PutT (l : List Task) (c p : Int) (s : List Int) (i : Nat) (t : Int) : Prop := (timesN l s i).find? (fun x => wholeB l c p (s.set i x) i) = some t
theorem max2_max (a b : Int) : max2 a b = max a b := by unfold max2;split <;> omega
theorem firstN_snoc {l : List Task} {s r : List Int} {m : Nat} (h : m < r.length) : firstN l s (r.take (m + 1)) = max2 (firstN l s (r.take m)) (endN l s r[m].toNat) := by
 unfold firstN
 rw [take_snoc r m h,List.foldl_append]
 rfl
theorem firstN_bd {l : List Task} {s : List Int} {M : Int} (hM : 0 ≤ M) : ∀ (m : Nat) {r : List Int},(∀ k ∈ r,endN l s k.toNat ≤ M) → m ≤ r.length → 0 ≤ firstN l s (r.take m) ∧ firstN l s (r.take m) ≤ M
 | 0,r,_,_ => by simp [firstN,hM]
 | m + 1,r,h,hm => by
  have h1 := firstN_bd hM m h (by omega)
  have h2 := h _ (List.getElem_mem (show m < r.length by omega))
  rw [firstN_snoc (by omega)]
  unfold max2
  split <;> omega
theorem timesTo_len {l : List Task} {s : List Int} {f : Int} : ∀ k,(timesTo l s f k).length ≤ k + 1 ∧ 0 < (timesTo l s f k).length
 | 0 => by simp [timesTo]
 | k + 1 => by
  have h := timesTo_len (l := l) (s := s) (f := f) k
  unfold timesTo
  split
  ·rw [List.length_append,List.length_singleton];omega
  ·omega
theorem timesTo_bd {l : List Task} {s : List Int} {f M : Int} (hf : 0 ≤ f ∧ f ≤ M) (hs : ∀ k,k < l.length → endN l s k ≤ M) : ∀ k,k ≤ l.length → ∀ x ∈ timesTo l s f k,0 ≤ x ∧ x ≤ M
 | 0,_,x,hx => by simp only [timesTo,List.mem_singleton] at hx;omega
 | k + 1,hk,x,hx => by
  have h := timesTo_bd hf hs k (by omega)
  unfold timesTo at hx
  split at hx
  ·rename_i h'
   rcases List.mem_append.1 hx with hx | hx
   ·exact h x hx
   ·have := hs k (by omega)
    simp only [List.mem_singleton] at hx
    omega
  ·exact h x hx
set_option maxRecDepth 100000 in
set_option maxHeartbeats 8000000 in
theorem planPut (B g O S : Nat) (l : List Task) (c p : Int) (tv : Value) (cs : List Value) (s : List Int) (i : Nat) (t : Int) (w : World) (hR : RightT l) (h : PlanO w B g l c p tv O S cs s) (hi : i < l.length) (hs : ∀ x ∈ s,x ≤ 80000) (hp : PutT l c p s i t) :
  Calls Tryz.prog 49 #[.pointer (some ⟨g,0,none⟩),.int .i64 i] w fun e w' => e = .returned (.tuple #[]) ∧ PlanO w' B g l c p tv O S cs (s.set i t) ∧ w.grownBy w' (some S) := by
 have HRT := Lib.hid hR
 have H := Lib.hid h
 have h8 := hR.len
 have hlen := h.len
 have hPR := h.toR h8
 have HE : Hid (∀ (k : Nat) (w' : World),k < l.length → Below w.heap.size w w' → Calls Tryz.prog 53 #[.pointer (some ⟨g,0,none⟩),.int .i64 k] w' fun e w'' => e = .returned (.int .i64 (endN l s k)) ∧ ∃ q,w'.drewN q = w'') := fun k w' hk hb =>
  planEnd w.heap.size g l c p _ _ _ s k w' hR (hPR.below hb) hk
 have HEB : Hid (∀ k,k < l.length → -1 ≤ endN l s k ∧ endN l s k ≤ 90000) := fun k hk => by
  have := hPR.endBd hR hk
  have h2 := hs _ (List.getElem_mem (show k < s.length by omega))
  rw [← atI_get (by omega)] at h2
  unfold endN
  omega
 have HRow : Hid (rowAt l i = pls l l[i].bef) := getD_rows hi
 have HMem : Hid (∀ x ∈ pls l l[i].bef,∃ j : Nat,j < l.length ∧ x = (j : Int)) := fun x hx => mem_row hR hi hx
 obtain ⟨vr,hvr,hrow⟩ := h.row hi
 have HCell : Hid (∀ k,k < l.length → w.cell? ⟨S,k,none⟩ = some (.int .i64 (atI s k)) ∧ w.frozen? ⟨S,k,none⟩ = false) := fun k hk => h.cell hk
 have hSl := h.st.lt
 have hgl := h.blk.lt
 obtain ⟨A,cap,rfl,hc1,hc2,hrc⟩ := hrow.open_
 unfold maxLen at hc2
 have hrl : (pls l l[i].bef).length = l[i].bef.length := by simp [pls]
 have p1 := h.blk.cell 1
 have p4 := h.blk.cell 4
 simp only [List.getElem?_toArray,List.getElem?_cons_succ,List.getElem?_cons_zero] at p1 p4
 have HP := Lib.hid hp
 have i1 : (0 : Int) ≤ (i : Int) := Int.natCast_nonneg _
 have i2 : (i : Int) < (l.length : Int) := by omega
 have HF : Hid (firstN l s (rowAt l i) = firstN l s ((pls l l[i].bef).take (pls l l[i].bef).length)) := by unfold Hid;rw [HRow.out,List.take_length]
 clear h hR hPR hrow hp HRow
 generalize pls l l[i].bef = row at *
 clear hrl
 go_enter Tryz.func49,Tryz.ntmps49
 go_wp2
 go_loopw [20,4] (fun i m wr => ∃ k : Nat,k ≤ row.length ∧ i = .int .i64 k ∧ m = .int .i64 (firstN l s (row.take k)) ∧ ∃ q,wr = w.drewN q) (fun i _ _ => row.length - (intOf i).toNat)
 case atStart => exact ⟨0,Nat.zero_le _,rfl,rfl,0,rfl⟩
 case round =>
  obtain ⟨k,hk,rfl,rfl,q,rfl⟩ := hrel
  by_cases hkl : k < row.length
  ·obtain ⟨b,off,rfl,hb,hcl⟩ := hrc k hkl
   have hck := hcl k hkl
   obtain ⟨j,hj,hjx⟩ := HMem.out _ (List.getElem_mem hkl)
   rw [hjx] at hck
   have hcall := HE.out j (w.drewN q) hj (below_drewN (Below.refl _ _) q)
   have HS : Hid (firstN l s (row.take (k + 1)) = max2 (firstN l s (row.take k)) (endN l s j)) := by
    unfold Hid
    rw [firstN_snoc hkl,hjx]
    rfl
   have hbe := HEB.out j hj
   have hbf := firstN_bd (l := l) (s := s) (M := 90000) (by omega) k (r := row) (fun x hx => by obtain ⟨m,hm,rfl⟩ := HMem.out x hx;exact (HEB.out m hm).2) hk
   clear hcl hjx
   go_wp2_with (go_at_call 53;refine hcall.mono ?_;rintro e w' ⟨rfl,r,rfl⟩)
   go_roundw
   case rel => exact ⟨k + 1,by omega,by go_num,by rw [HS.out,max2_max],_,rfl⟩
   case measure => simp [intOf];omega
  ·have hke : k = row.length := by omega
   subst hke
   rw [← HF.out]
   have HTB : Hid (∀ k,k ≤ l.length → ∀ x ∈ timesTo l s (firstN l s (rowAt l i)) k,0 ≤ x ∧ x ≤ 90000) := timesTo_bd (HF.out ▸ firstN_bd (M := 90000) (by omega) row.length (r := row) (fun x hx => by obtain ⟨m,hm,rfl⟩ := HMem.out x hx;exact (HEB.out m hm).2) hk) (fun k hk => (HEB.out k hk).2)
   have HTN : Hid (timesN l s i = (timesTo l s (firstN l s (rowAt l i)) l.length).mergeSort fun x y => decide (x ≤ y)) := rfl
   clear HF HMem hrc hvr
   generalize firstN l s (rowAt l i) = f at *
   have hb0 : Below w.heap.size w ((w.drewN q).alloc (.cells #[.int .i64 f] 3)) := (below_drewN (Below.refl _ _) q).alloc (Nat.le_refl _) _
   have p4' := (hb0.cell (p := ⟨g,4,none⟩) hgl).trans p4
   go_wp2_with fail
   have hown0 : ((w.drewN q).alloc (.cells #[.int .i64 f] 3)).ownsRow w.heap.size 3 1 (.slice (some ⟨w.heap.size,0,none⟩) (timesTo l s f 0).length 1) (timesTo l s f 0).length ((timesTo l s f 0).map (Value.int .i64)) := own_of_whole (Blk.new (w.drewN q) 3 #[.int .i64 f]) (Nat.le_refl _) rfl (by simp [maxLen,timesTo])
   have Hown0 := Lib.hid hown0
   clear hown0 p1 p4 p4'
   generalize (w.drewN q).alloc (.cells #[.int .i64 f] 3) = w1 at *
   go_loopw [37,7] (fun i v wr => ∃ (k gT cap : Nat),k ≤ l.length ∧ i = .int .i64 k ∧ v = .slice (some ⟨gT,0,none⟩) (timesTo l s f k).length cap ∧
    Hid (wr.ownsRow w.heap.size 3 1 (.slice (some ⟨gT,0,none⟩) (timesTo l s f k).length cap) (timesTo l s f k).length ((timesTo l s f k).map (Value.int .i64))) ∧ Below w.heap.size w wr) (fun i _ _ => l.length - (intOf i).toNat)
   case atStart => exact ⟨0,w.heap.size,1,Nat.zero_le _,rfl,rfl,Hown0,hb0⟩
   case round =>
    clear Hown0 hb0
    obtain ⟨k,gT,capT,hk,rfl,rfl,Hown,hbel⟩ := hrel
    have hrows := timesTo_len (l := l) (s := s) (f := f) k
    have hcapT := own_cap Hown.out
    by_cases hkl : k < l.length
    ·have hsk := (hbel.cell (p := ⟨S,k,none⟩) hSl).trans (HCell.out k hkl).1
     have hcall := fun o => HE.out k o hkl
     have hbe := HEB.out k hkl
     have i3 : (0 : Int) ≤ (k : Int) := Int.natCast_nonneg _
     have i4 : (k : Int) < (l.length : Int) := by omega
     by_cases d1 : 0 ≤ atI s k
     ·by_cases d2 : f < endN l s k
      ·have HL' : Hid (timesTo l s f (k + 1) = timesTo l s f k ++ [endN l s k]) := if_pos ⟨d1,d2⟩
       have hc0 := fun r => hcall (wr.drewN r) (below_drewN hbel r)
       have hcw := hcall wr hbel
       go_wp2_with (first
        | (go_at_call 53;refine hcw.mono ?_;rintro e w' ⟨rfl,r,rfl⟩;clear hcw)
        | (go_at_call 53;refine (hc0 _).mono ?_;rintro e w' ⟨rfl,r2,rfl⟩)
        | (at_builtin;refine wpList_pushN _ rfl (.tmp 51) (.tmp 55) 22 rfl w.heap.size 3 info_int Tryz.underlying22 rfl _ (timesTo l s f k).length _ rfl (own_drewN Hown.out _) (.int .i64 (endN l s k)) rfl wr.heap.size (by simp) rfl (by unfold maxLen;omega) (by omega) (by simpa using hbel.size) ?_;intro g3 cap3 w3 hown3 hgrow3 hbg hgg))
       have hown3' : w3.ownsRow w.heap.size 3 1 (.slice (some ⟨g3,0,none⟩) (timesTo l s f (k + 1)).length cap3) (timesTo l s f (k + 1)).length ((timesTo l s f (k + 1)).map (Value.int .i64)) := by
        rw [HL'.out,List.length_append,List.length_singleton,List.map_append]
        exact hown3
       have hb3 : Below w.heap.size w w3 := (below_drewN hbel _).grown hgrow3 (by simpa using hbel.size) (fun k hk => by cases hk;exact (Hown.out.lt _ rfl).1)
       have Hown3 := Lib.hid hown3'
       clear hown3 hown3' hgrow3 hgg hc0
       go_wp2
       go_roundw
       case rel => exact ⟨k + 1,g3,cap3,by omega,by go_num,by rw [HL'.out,List.length_append,List.length_singleton],Hown3,hb3⟩
       case measure => simp [intOf];omega
      ·have HL' : Hid (timesTo l s f (k + 1) = timesTo l s f k) := if_neg (fun h => d2 h.2)
       have d2b : decide (f < endN l s k) = false := by simpa using d2
       have hc0 := hcall wr hbel
       go_wp2_with (go_at_call 53;refine hc0.mono ?_;rintro e w' ⟨rfl,r,rfl⟩)
       go_roundw
       case rel => exact ⟨k + 1,gT,capT,by omega,by go_num,by rw [HL'.out],by rw [HL'.out];exact Lib.hid (own_drewN Hown.out _),below_drewN hbel _⟩
       case measure => simp [intOf];omega
     ·have HL' : Hid (timesTo l s f (k + 1) = timesTo l s f k) := if_neg (fun h => d1 h.1)
      have d1b : decide (0 ≤ atI s k) = false := by simpa using d1
      go_wp2_with fail
      go_roundw
      case rel => exact ⟨k + 1,gT,capT,by omega,by go_num,by rw [HL'.out],by rw [HL'.out];exact Hown,hbel⟩
      case measure => simp [intOf];omega
    ·have hke : k = l.length := by omega
     subst hke
     have hTl : (timesN l s i).length = (timesTo l s f l.length).length := by rw [HTN.out,List.length_mergeSort]
     have hSort := sortOwn w.heap.size gT capT _ wr (by omega) Hown.out
     rw [← HTN.out,← hTl] at hSort
     rw [← hTl] at hcapT
     rw [← hTl]
     have HTm : Hid (∀ x ∈ timesN l s i,0 ≤ x ∧ x ≤ 90000) := fun x hx => by
      rw [HTN.out] at hx
      exact HTB.out _ (Nat.le_refl _) x ((List.mergeSort_perm _ _).mem_iff.1 hx)
     have hgT := (Hown.out.lt _ rfl)
     have hbs := fun (w2 : World) (hg : wr.grownBy w2 (some gT)) => hbel.grown hg hbel.size (fun k hk => by cases hk;exact hgT.1)
     have HTl := Lib.hid hTl
     have Hbs := Lib.hid hbs
     have hTL : (timesN l s i).length ≤ 9 := by omega
     clear hTl hbs HTB HEB HE Hown HTN
     obtain ⟨T,hT⟩ : ∃ T,T = timesN l s i := ⟨_,rfl⟩
     have HPT : Hid (T.find? (fun x => wholeB l c p (s.set i x) i) = some t) := by rw [hT];exact HP.out
     rw [← hT] at hSort HTm hcapT hTL ⊢
     clear HP hT HTl
     go_wp2_with fail
     refine hSort.mono ?_
     rintro e w2 ⟨rfl,hown2,hgrow2⟩
     have hb2 := Hbs.out w2 hgrow2
     have hset0 : s.set i (atI s i) = s := by rw [atI_get (by omega)];simp
     have hPl2 := H.out.below hb2
     rw [← hset0] at hPl2
     have HPl2 := Lib.hid hPl2
     have Hown2 := Lib.hid hown2
     have hbdi := H.out.bd _ (List.getElem_mem (show i < s.length by omega))
     rw [← atI_get (by omega)] at hbdi
     have hg2 : w.grownBy w2 (some S) := grown_below hb2
     clear hSort hown2 hgrow2 hPl2 hset0 Hbs hb2
     go_wp2_with fail
     go_loopw [62] (fun ix wr => ∃ (j : Nat) (x : Int),j ≤ T.length ∧ ix = .int .i64 j ∧ Hid (∀ y ∈ T.take j,wholeB l c p (s.set i y) i = false) ∧ Hid (PlanO wr B g l c p tv O S cs (s.set i x)) ∧
      Hid (wr.ownsRow w.heap.size 3 1 (.slice (some ⟨gT,0,none⟩) T.length capT) T.length (T.map (Value.int .i64))) ∧ w.grownBy wr (some S)) (fun ix _ => T.length - (intOf ix).toNat)
     case atStart => exact ⟨0,_,Nat.zero_le _,rfl,fun y hy => absurd hy (by simp),HPl2,Hown2,hg2⟩
     case round =>
      clear HPl2 Hown2 hg2
      obtain ⟨j,x,hj,rfl,HNo,HPl,HO,hgr⟩ := hrel
      by_cases hjl : j < T.length
      ·have hcT := HO.out.cellAt j (by omega)
       rw [List.getElem?_map,List.getElem?_eq_getElem hjl,Option.map_some] at hcT
       have hbT := HTm.out _ (List.getElem_mem hjl)
       have HJ : Hid (T.take (j + 1) = T.take j ++ [T[j]]) := take_snoc T j hjl
       have HX : Hid (∀ y ∈ T.take j,y ∈ T) := fun y hy => List.mem_of_mem_take hy
       have HFnd : Hid (wholeB l c p (s.set i T[j]) i = true → T[j] = t) := fun hw => by
        have h1 := HPT.out
        rw [← List.take_append_drop j T,List.find?_append,List.find?_eq_none.2 (fun y hy => by simpa using HNo.out y hy),Option.none_or,List.drop_eq_getElem_cons hjl,List.find?_cons] at h1
        simp only [hw] at h1
        exact Option.some.inj h1
       have HNn : Hid (wholeB l c p (s.set i T[j]) i = false → ∀ y ∈ T.take (j + 1),wholeB l c p (s.set i y) i = false) := fun hw y hy => by
        rw [HJ.out] at hy
        rcases List.mem_append.1 hy with hy | hy
        ·exact HNo.out y hy
        ·rw [List.mem_singleton.1 hy];exact hw
       clear HJ HX HNo
       generalize T[j] = y at *
       have p4 := HPl.out.blk.cell 4
       simp only [List.getElem?_toArray,List.getElem?_cons_succ,List.getElem?_cons_zero] at p4
       obtain ⟨hcS,hfS⟩ := HPl.out.cell hi
       have hP2 := HPl.out.set (i := i) (t := y) (by omega)
       rw [List.set_set] at hP2
       have hO2 := HO.out.kept (set_grown HPl.out i y) (.inr (by simp [Value.ownBlock];omega))
       have hg2 := grown_trans hgr (set_grown HPl.out i y)
       have hW := planWhole g l c p _ _ _ (s.set i y) i _ HRT.out (hP2.toR h8) hi
       have HP2 := Lib.hid hP2
       have HO2 := Lib.hid hO2
       have i3 : (0 : Int) ≤ (j : Int) := Int.natCast_nonneg _
       have i4 : (j : Int) < (T.length : Int) := by omega
       clear hP2 hO2 HPl HO hgr
       cases hwb : wholeB l c p (s.set i y) i with
       | true =>
        rw [hwb] at hW
        obtain rfl := HFnd.out hwb
        clear HFnd HNn hwb
        go_wp2_with fail
        refine hW.mono ?_
        rintro e w3 ⟨rfl,hb3⟩
        have hfin : PlanO w3 B g l c p tv O S cs (s.set i y) ∧ w.grownBy w3 (some S) := ⟨HP2.out.below hb3,grown_trans hg2 (grown_below hb3)⟩
        clear hW hb3
        go_wp2_with fail
        refine bodyPost_ret (results_none rfl _ _ _) (by rfl) ?_
        exact ⟨rfl,hfin⟩
       | false =>
        rw [hwb] at hW
        have HNn' := Lib.hid (HNn.out hwb)
        clear HFnd HNn hwb
        go_wp2_with fail
        refine hW.mono ?_
        rintro e w3 ⟨rfl,hb3⟩
        have hfin := Lib.hid (HP2.out.below hb3)
        have hfin2 := Lib.hid (HO2.out.kept (grown_below (row := none) hb3) (by simp [Value.ownBlock]))
        have hfin3 := grown_trans hg2 (grown_below hb3)
        clear hW hb3 HP2 HO2 hg2
        go_wp2_with fail
        go_roundw
        case rel => exact ⟨j + 1,y,by omega,by go_num,HNn',hfin,hfin2,hfin3⟩
        case measure => simp [intOf];omega
      ·have hje : j = T.length := by omega
       subst hje
       have h1 := HPT.out
       rw [List.find?_eq_none.2 (fun y hy => by have := HNo.out y (by rwa [List.take_length]);simpa using this)] at h1
       cases h1
end Go.Proofs.YtfkikpbnigenhaaGreat

namespace Go.Proofs.YtfkikpbnigenhaaGreat
open Go.RowKit Go.Shelf
theorem entersNeeds : ∀ args w,(callFunc 80 args).run Tryz.prog w = .ok (.enter 80 args) w := enters_of Tryz.func80 (by kernel_rfl) rfl
set_option maxHeartbeats 1000000 in
theorem needsClosure (t : Task) (c p : Int) (D : Nat) (w : World) (hD : D + 1 < w.heap.size) (hc : w.cell? ⟨D,0,none⟩ = some (.int .i64 c)) (hp : w.cell? ⟨D + 1,0,none⟩ = some (.int .i64 p)) :
  Calls Tryz.prog 80 #[t.val,.pointer (some ⟨D,0,none⟩),.pointer (some ⟨D + 1,0,none⟩)] w fun e w' => e = .returned (.bool (tooMuch c p t)) ∧ Below w.heap.size w w' := by
 have hD0 : D < w.heap.size := by omega
 obtain ⟨name,len,crew,pow,ba,bc,bef⟩ := t
 unfold Task.val
 simp only
 by_cases h : c < crew
 ·have HV : Hid (tooMuch c p ⟨name,len,crew,pow,ba,bc,bef⟩ = true) := by unfold Hid tooMuch;simp [h]
  go_enter Tryz.func80,Tryz.ntmps80
  go_wp2
  go_ret
  exact ⟨ret_bool HV.out.symm,(Below.refl _ _).alloc (Nat.le_refl _) _⟩
 ·have HV : Hid (tooMuch c p ⟨name,len,crew,pow,ba,bc,bef⟩ = decide (p < pow)) := by unfold Hid tooMuch;simp [h]
  have hb : decide (c < crew) = false := by simpa using h
  go_enter Tryz.func80,Tryz.ntmps80
  go_wp2
  go_ret
  exact ⟨ret_bool HV.out.symm,(Below.refl _ _).alloc (Nat.le_refl _) _⟩
set_option maxHeartbeats 1000000 in
theorem schedNeeds (v : Value) (l : List Task) (c p : Int) (w : World) (hl : TasksAt w w.heap.size v l) :
  Calls Tryz.prog 43 #[v,.int .i64 c,.int .i64 p] w fun e w' => e = .returned (.bool (l.any (tooMuch c p))) ∧ Below w.heap.size w w' := by
 have hb0 : ∀ o o',Below w.heap.size w ((w.alloc o).alloc o') := fun o o' => ((Below.refl _ _).alloc (Nat.le_refl _) _).alloc (by simp) _
 have HL := Lib.hid hl
 clear hl
 have HC : Hid (Calls Tryz.prog 34 #[v,.func (.func 80) #[] #[.pointer (some ⟨w.heap.size,0,none⟩),.pointer (some ⟨w.heap.size + 1,0,none⟩)]] ((w.alloc (.cells #[.int .i64 c] 3)).alloc (.cells #[.int .i64 p] 3)) fun e w' => e = .returned (.bool (l.any (tooMuch c p))) ∧ Below ((w.alloc (.cells #[.int .i64 c] 3)).alloc (.cells #[.int .i64 p] 3)).heap.size ((w.alloc (.cells #[.int .i64 c] 3)).alloc (.cells #[.int .i64 p] 3)) w') := by
  have ht1 := (HL.out.below (hb0 (.cells #[.int .i64 c] 3) (.cells #[.int .i64 p] 3)) (Nat.le_refl _)).mono (show w.heap.size ≤ ((w.alloc (.cells #[.int .i64 c] 3)).alloc (.cells #[.int .i64 p] 3)).heap.size by simp;omega)
  refine containsFuncTask v l 80 #[.pointer (some ⟨w.heap.size,0,none⟩),.pointer (some ⟨w.heap.size + 1,0,none⟩)] (tooMuch c p) entersNeeds _ ht1 ?_
  intro t ht w' hb'
  have hsz' := hb'.size
  simp only [World.size_alloc] at hsz'
  refine needsClosure t c p w.heap.size w' (by omega) ?_ ?_
  ·rw [hb'.cell (by simp;omega)]
   simp
  ·rw [hb'.cell (by simp)]
   simp
 generalize hA : l.any (tooMuch c p) = A at *
 clear hA
 go_enter Tryz.func43,Tryz.ntmps43
 go_wp2_with (go_at_call 34;refine HC.out.mono ?_;rintro e w2 ⟨rfl,hb2⟩)
 go_ret
 exact ⟨rfl,(hb0 _ _).trans (hb2.mono (by simp;omega))⟩
end Go.Proofs.YtfkikpbnigenhaaGreat

namespace Go.Proofs.YtfkikpbnigenhaaGreat
open Go.RowKit Go.Shelf
def unB (s : List Int) (k : Int) : Bool := decide (atI s k.toNat < 0)
def skipB (l : List Task) (s : List Int) (i : Nat) : Bool := decide (0 ≤ atI s i) || (rowAt l i).any (unB s)
def putN (l : List Task) (c p : Int) (s : List Int) (i : Nat) : Int := ((timesN l s i).find? (fun x => wholeB l c p (s.set i x) i)).getD 0
def srch (l : List Task) (c p : Int) : Nat → List Int → Int × List Int → Int × List Int
 | 0,s,b => if b.1 < 0 ∨ lenPl l s l.length < b.1 then (lenPl l s l.length,s) else b
 | m + 1,s,b => (List.range l.length).foldl (fun b i => if skipB l s i then b else srch l c p m (s.set i (putN l c p s i)) b) b
theorem atI_set_self {s : List Int} {i : Nat} {x : Int} (h : i < s.length) : atI (s.set i x) i = x := by
 unfold atI
 rw [List.getD_eq_getElem?_getD,List.getElem?_set_self h]
 rfl
theorem atI_set_ne {s : List Int} {i k : Nat} {x : Int} (h : i ≠ k) : atI (s.set i x) k = atI s k := by
 unfold atI
 rw [List.getD_eq_getElem?_getD,List.getElem?_set_ne h,List.getD_eq_getElem?_getD]
theorem endN_set_self {l : List Task} {s : List Int} {i : Nat} {x : Int} (h : i < s.length) : endN l (s.set i x) i = x + lenAt l i := by unfold endN;rw [atI_set_self h]
theorem endN_set_ne {l : List Task} {s : List Int} {i k : Nat} {x : Int} (h : i ≠ k) : endN l (s.set i x) k = endN l s k := by unfold endN;rw [atI_set_ne h]
theorem lenPl_set {l : List Task} {s : List Int} {i : Nat} {x : Int} (hi : i < s.length) (hs : atI s i < 0) : ∀ k,lenPl l s k ≤ lenPl l (s.set i x) k
 | 0 => Int.le_refl _
 | k + 1 => by
  have h := lenPl_set (l := l) (x := x) hi hs k
  have E : ∀ s,lenPl l s (k + 1) = if 0 ≤ atI s k then max2 (lenPl l s k) (endN l s k) else lenPl l s k := fun _ => rfl
  by_cases e : i = k
  ·subst e
   rw [E,E,if_neg (show ¬ 0 ≤ atI s i by omega)]
   split
   ·rw [max2_max];omega
   ·exact h
  ·rw [E,E,atI_set_ne e,endN_set_ne e]
   split
   ·rw [max2_max,max2_max];omega
   ·exact h
theorem skip_no {l : List Task} {s : List Int} {i : Nat} (h : skipB l s i = false) : atI s i < 0 ∧ (rowAt l i).any (unB s) = false := by
 unfold skipB at h
 simp only [Bool.or_eq_false_iff,decide_eq_false_iff_not] at h
 exact ⟨by omega,h.2⟩
theorem srch_prune {l : List Task} {c p : Int} : ∀ (m : Nat) (s : List Int) (b : Int × List Int),s.length = l.length → 0 ≤ b.1 → b.1 ≤ lenPl l s l.length → srch l c p m s b = b
 | 0,s,b,_,h1,h2 => by
  unfold srch
  rw [if_neg (by omega)]
 | m + 1,s,b,hl,h1,h2 => by
  unfold srch
  have H : ∀ (r : List Nat),(∀ i ∈ r,i < l.length) → r.foldl (fun b i => if skipB l s i then b else srch l c p m (s.set i (putN l c p s i)) b) b = b := by
   intro r
   induction r with
   | nil => intro _;rfl
   | cons i r ih =>
    intro hr
    rw [List.foldl_cons]
    have hi := hr i (by simp)
    cases hk : skipB l s i with
    | true => exact ih fun j hj => hr j (by simp [hj])
    | false =>
     have := skip_no hk
     have h3 := lenPl_set (l := l) (x := putN l c p s i) (by omega) this.1 l.length
     rw [if_neg (by simp),srch_prune m _ b (by simpa using hl) h1 (by omega)]
     exact ih fun j hj => hr j (by simp [hj])
  exact H _ fun i hi => List.mem_range.1 hi
def srchTo (l : List Task) (c p : Int) (m : Nat) (s : List Int) (b : Int × List Int) (k : Nat) : Int × List Int :=
 (List.range k).foldl (fun b i => if skipB l s i then b else srch l c p m (s.set i (putN l c p s i)) b) b
theorem srchTo_succ {l : List Task} {c p : Int} {m : Nat} {s : List Int} {b : Int × List Int} {k : Nat} :
  srchTo l c p m s b (k + 1) = if skipB l s k then srchTo l c p m s b k else srch l c p m (s.set k (putN l c p s k)) (srchTo l c p m s b k) := by
 unfold srchTo
 rw [List.range_succ,List.foldl_append]
 rfl
theorem timesTo_mem {l : List Task} {s : List Int} {f : Int} : ∀ k,f ∈ timesTo l s f k ∧ ∀ j,j < k → 0 ≤ atI s j → f < endN l s j → endN l s j ∈ timesTo l s f k
 | 0 => ⟨by simp [timesTo],fun j hj => absurd hj (by omega)⟩
 | k + 1 => by
  have h := timesTo_mem (l := l) (s := s) (f := f) k
  unfold timesTo
  split
  ·rename_i h'
   refine ⟨List.mem_append_left _ h.1,fun j hj h1 h2 => ?_⟩
   by_cases e : j = k
   ·subst e;simp
   ·exact List.mem_append_left _ (h.2 j (by omega) h1 h2)
  ·rename_i h'
   refine ⟨h.1,fun j hj h1 h2 => ?_⟩
   by_cases e : j = k
   ·subst e;exact absurd ⟨h1,h2⟩ h'
   ·exact h.2 j (by omega) h1 h2
theorem most_mem : ∀ (T : List Int),T ≠ [] → ∃ t ∈ T,∀ x ∈ T,x ≤ t
 | [],h => absurd rfl h
 | [a],_ => ⟨a,by simp,by simp⟩
 | a :: b :: r,_ => by
  obtain ⟨t,ht,h⟩ := most_mem (b :: r) (by simp)
  by_cases e : a ≤ t
  ·exact ⟨t,List.mem_cons_of_mem _ ht,fun x hx => by 
    rcases List.mem_cons.1 hx with rfl | hx
    ·exact e
    ·exact h x hx⟩
  ·exact ⟨a,List.mem_cons_self ..,fun x hx => by
    rcases List.mem_cons.1 hx with rfl | hx
    ·exact Int.le_refl _
    ·have := h x hx;omega⟩
theorem usedTo_alone {f : Task → Int} {l : List Task} {s : List Int} {t : Int} {i : Nat} (h : ∀ k,k < l.length → k ≠ i → onB l s t k = false) : ∀ k,k ≤ l.length → usedTo f l s t k = if i < k ∧ onB l s t i then fAt f l i else 0
 | 0,_ => by simp [usedTo]
 | k + 1,hk => by
  have ih := usedTo_alone (f := f) h k (by omega)
  by_cases e : k = i
  ·subst e
   rw [usedTo,ih,if_neg (show ¬ (k < k ∧ onB l s t k = true) by omega)]
   by_cases h2 : onB l s t k = true
   ·rw [if_pos h2,if_pos ⟨by omega,h2⟩];omega
   ·rw [if_neg h2,if_neg (fun h => h2 h.2)];omega
  ·rw [usedTo,ih,h k (by omega) e]
   simp only [Bool.false_eq_true,if_false,Int.add_zero]
   by_cases h2 : i < k ∧ onB l s t i = true
   ·rw [if_pos h2,if_pos (show i < k + 1 ∧ onB l s t i = true from ⟨by omega,h2.2⟩)]
   ·rw [if_neg h2,if_neg (show ¬ (i < k + 1 ∧ onB l s t i = true) from fun h => h2 ⟨by omega,h.2⟩)]
theorem foldl_max_ge (f : Int → Int) : ∀ (r : List Int) (a : Int),a ≤ r.foldl (fun a k => max a (f k)) a
 | [],a => Int.le_refl _
 | x :: r,a => by
  have := foldl_max_ge f r (max a (f x))
  rw [List.foldl_cons]
  omega
theorem put_exists {l : List Task} {c p : Int} {s : List Int} {i : Nat} (hR : RightT l) (hc : 0 ≤ c ∧ 0 ≤ p) (hfit : l.any (tooMuch c p) = false) (hl : s.length = l.length) (hi : i < l.length) : PutT l c p s i (putN l c p s i) := by
 suffices H : ∃ t ∈ timesN l s i,wholeB l c p (s.set i t) i = true by
  obtain ⟨t,ht,hw⟩ := H
  unfold PutT putN
  cases hfd : (timesN l s i).find? (fun x => wholeB l c p (s.set i x) i) with
  | none => have := List.find?_eq_none.1 hfd t ht;simp [hw] at this
  | some x => rfl
 have hTm : ∀ x,x ∈ timesN l s i ↔ x ∈ timesTo l s (firstN l s (rowAt l i)) l.length := fun x => (List.mergeSort_perm _ _).mem_iff
 have hmem := timesTo_mem (l := l) (s := s) (f := firstN l s (rowAt l i)) l.length
 have hne : timesN l s i ≠ [] := fun e => by
  have := (hTm _).2 hmem.1
  rw [e] at this
  cases this
 obtain ⟨t,ht,hmost⟩ := most_mem _ hne
 have hfirst := hmost _ ((hTm _).2 hmem.1)
 have hend : ∀ k,k < l.length → 0 ≤ atI s k → endN l s k ≤ t := fun k hk h0 => by
  by_cases h1 : firstN l s (rowAt l i) < endN l s k
  ·exact hmost _ ((hTm _).2 (hmem.2 k hk h0 h1))
  ·omega
 refine ⟨t,ht,?_⟩
 have hlen := fun k (hk : k < l.length) => fieldB_len (hR.field k hk)
 have hoff : ∀ k,k < l.length → k ≠ i → onB l (s.set i t) t k = false := fun k hk hki => by
  unfold onB
  rw [atI_set_ne (Ne.symm hki),endN_set_ne (Ne.symm hki)]
  by_cases h0 : 0 ≤ atI s k
  ·have := hend k hk h0
   rw [decide_eq_false (show ¬ t < endN l s k by omega),Bool.and_false]
  ·rw [decide_eq_false h0,Bool.false_and,Bool.false_and]
 have hno := List.any_eq_false.1 hfit _ (List.getElem_mem hi)
 unfold tooMuch at hno
 simp only [Bool.or_eq_true,decide_eq_true_eq,not_or] at hno
 have hfits : fitsB l c p (s.set i t) t = true := by
  unfold fitsB
  rw [usedTo_alone hoff _ (Nat.le_refl _),usedTo_alone hoff _ (Nat.le_refl _),fAt_get hi,fAt_get hi]
  simp only [Bool.and_eq_true,decide_eq_true_eq]
  constructor <;> split <;> omega
 unfold wholeB
 rw [atI_set_self (by omega),hfits,Bool.true_and,Bool.not_eq_true',List.any_eq_false]
 intro x hx
 unfold badB
 rw [atI_set_self (by omega),endN_set_self (by omega)]
 simp only [Bool.and_eq_true,decide_eq_true_eq,not_and,Bool.not_eq_true',Bool.not_eq_false]
 rintro ⟨h1,h2⟩
 exfalso
 obtain ⟨k,hk,rfl⟩ := List.mem_iff_getElem.1 hx
 rw [List.length_set] at hk
 have hti : 0 ≤ t := by
  have : 0 ≤ firstN l s (rowAt l i) := by
   have := foldl_max_ge (fun k : Int => endN l s k.toNat) (rowAt l i) 0
   unfold firstN
   simp only [max2_max]
   exact this
  omega
 by_cases e : k = i
 ·subst e
  rw [List.getElem_set_self] at h1
  omega
 ·rw [List.getElem_set_ne (Ne.symm e)] at h1
  have h3 := atI_get (s := s) hk
  have h4 := hend k (by omega) (by omega)
  have h5 := hlen k (by omega)
  unfold endN at h4
  rw [lenAt_eq (by omega)] at h4
  omega
end Go.Proofs.YtfkikpbnigenhaaGreat

namespace Go.Proofs.YtfkikpbnigenhaaGreat
open Go.RowKit Go.Shelf
theorem blk_ne {w : World} {a b : Nat} {t u : TypeId} {x y : Array Value} (h : Blk w a t x) (k : Blk w b u y) (hne : t ≠ u) : a ≠ b := by
 rintro rfl
 unfold Blk at h k
 rw [h] at k
 injection k with k
 injection k with _ k
 exact hne k
structure VisSt (w : World) (B W g : Nat) (l : List Task) (c p : Int) (tv : Value) (O S : Nat) (cs : List Value) (Pb Bb Lb Ob Vb : Nat) (s : List Int) (b : Int × List Int) (outv : Value) : Prop where
 plan : PlanO w B g l c p tv O S cs s
 inW : g < W ∧ O < W ∧ S < W ∧ B ≤ W
 rowsW : ∀ j (hj : j < cs.length) k,cs[j].ownBlock = some k → k < W
 P : Blk w Pb 84 #[.pointer (some ⟨g,0,none⟩)]
 Bx : Blk w Bb 3 #[.int .i64 b.1]
 L : Blk w Lb 37 #[tv]
 Ox : Blk w Ob 22 #[outv]
 V : Blk w Vb 86 #[.func (.func 45) #[] #[.pointer (some ⟨Pb,0,none⟩),.pointer (some ⟨Bb,0,none⟩),.pointer (some ⟨Lb,0,none⟩),.pointer (some ⟨Ob,0,none⟩),.pointer (some ⟨Vb,0,none⟩)]]
 out : w.ownsRow W 3 1 outv b.2.length (b.2.map (Value.int .i64))
 outB : outv.ownBlock ≠ some Bb
 boxW : W ≤ Pb ∧ W ≤ Bb ∧ W ≤ Ob ∧ W ≤ Vb
section
variable {w w' : World} {B W g O S Pb Bb Lb Ob Vb : Nat} {l : List Task} {c p : Int} {tv : Value} {cs : List Value} {s s' : List Int} {b : Int × List Int} {outv : Value}
theorem VisSt.below (h : VisSt w B W g l c p tv O S cs Pb Bb Lb Ob Vb s b outv) (hb : Below w.heap.size w w') : VisSt w' B W g l c p tv O S cs Pb Bb Lb Ob Vb s b outv :=
 ⟨h.plan.below hb,h.inW,h.rowsW,h.P.below hb h.P.lt,h.Bx.below hb h.Bx.lt,h.L.below hb h.L.lt,h.Ox.below hb h.Ox.lt,h.V.below hb h.V.lt,h.out.kept (grown_below (row := none) hb) (by cases hv : outv.ownBlock <;> simp),h.outB,h.boxW⟩
theorem VisSt.put (h : VisSt w B W g l c p tv O S cs Pb Bb Lb Ob Vb s b outv) (hp : PlanO w' B g l c p tv O S cs s') (hg : w.grownBy w' (some S)) : VisSt w' B W g l c p tv O S cs Pb Bb Lb Ob Vb s' b outv := by
 obtain ⟨h1,h2,h3,h4⟩ := h.boxW
 obtain ⟨k1,k2,k3,k4⟩ := h.inW
 have hL := blk_ne h.L h.plan.st (by decide)
 exact ⟨hp,h.inW,h.rowsW,h.P.kept hg (by simp;omega),h.Bx.kept hg (by simp;omega),h.L.kept hg (by simpa using hL),h.Ox.kept hg (by simp;omega),h.V.kept hg (by simp;omega),h.out.kept hg (.inr fun e => by have := (h.out.lt S e).1;omega),h.outB,h.boxW⟩
theorem PlanO.far (h : PlanO w B g l c p tv O S cs s) {r : Nat} (hg : w.grownBy w' (some r)) (h1 : g ≠ r) (h2 : O ≠ r) (h3 : S ≠ r) (h4 : ∀ j (hj : j < cs.length),cs[j].ownBlock ≠ some r) (h5 : B ≤ r) : PlanO w' B g l c p tv O S cs s :=
 ⟨h.blk.kept hg (by simpa using h1),⟨h.rows.own.kept hg (.inr (by simpa [Value.ownBlock] using h2)),fun j hj hc hji => (h.rows.rows j hj hc hji).kept hg (.inr (h4 j hc)),h.rows.rest⟩,h.st.kept hg (by simpa using h3),
  h.tasks.below ((Below.refl B w).grown hg h.low.2.2 (fun k hk => by cases hk;exact h5)) (Nat.le_refl _),h.len,h.bd,⟨h.low.1,h.low.2.1,Nat.le_trans h.low.2.2 hg.size⟩,h.apart⟩
theorem VisSt.leaf (h : VisSt w B W g l c p tv O S cs Pb Bb Lb Ob Vb s b outv) {w1 : World} {v' : Value} {n : Int} {zs : List Int} (hb : Below w.heap.size w w1) (ho : w1.ownsRow w.heap.size 3 1 v' zs.length (zs.map (Value.int .i64))) :
  VisSt ((w1.setCell ⟨Bb,0,none⟩ (.int .i64 n)).setCell ⟨Ob,0,none⟩ v') B W g l c p tv O S cs Pb Bb Lb Ob Vb s (n,zs) v' := by
 have H := h.below hb
 obtain ⟨h1,h2,h3,h4⟩ := h.boxW
 obtain ⟨k1,k2,k3,k4⟩ := h.inW
 have hW := h.P.lt
 have gr1 := H.Bx.setGrown 0 (.int .i64 n)
 have hOB := blk_ne H.Ox H.Bx (by decide)
 have hO2 := H.Ox.kept gr1 (by simpa using hOB)
 have gr2 := hO2.setGrown 0 v'
 have hbr := fun (r : Nat) (hr : W ≤ r) j (hj : j < cs.length) => (fun e => by have := h.rowsW j hj r e;omega : cs[j].ownBlock ≠ some r)
 have hB0 := h.Bx.lt
 have hO0 := h.Ox.lt
 have p1 := H.plan.far gr1 (by omega) (by omega) (by omega) (hbr Bb h2) (by omega)
 have p2 := p1.far gr2 (by omega) (by omega) (by omega) (hbr Ob h3) (by omega)
 have hoB : v'.ownBlock ≠ some Bb := fun e => by have := (ho.lt Bb e).1;omega
 have hoO : v'.ownBlock ≠ some Ob := fun e => by have := (ho.lt Ob e).1;omega
 have e1 := blk_ne H.P H.Bx (by decide)
 have e2 := blk_ne H.P H.Ox (by decide)
 have e3 := blk_ne H.L H.Bx (by decide)
 have e4 := blk_ne H.L H.Ox (by decide)
 have e5 := blk_ne H.V H.Bx (by decide)
 have e6 := blk_ne H.V H.Ox (by decide)
 refine ⟨p2,h.inW,h.rowsW,(H.P.kept gr1 (by simpa using e1)).kept gr2 (by simpa using e2),?_,(H.L.kept gr1 (by simpa using e3)).kept gr2 (by simpa using e4),?_,(H.V.kept gr1 (by simpa using e5)).kept gr2 (by simpa using e6),?_,hoB,h.boxW⟩
 ·exact (H.Bx.set_ 0 (.int .i64 n)).kept gr2 (by simpa using fun e => hOB (Eq.symm e))
 ·exact hO2.set_ 0 v'
 ·exact own_mono ((ho.kept gr1 (.inr hoB)).kept gr2 (.inr hoO)) (by omega)
end
theorem entersV : ∀ args w,(callFunc 48 args).run Tryz.prog w = .ok (.enter 48 args) w := enters_of Tryz.func48 (by kernel_rfl) rfl
set_option maxRecDepth 100000 in
set_option maxHeartbeats 1000000 in
theorem unClosure (g S Pb n : Nat) (_x k : Nat) (y : Int) (w : World) (hP : w.cell? ⟨Pb,0,none⟩ = some (.pointer (some ⟨g,0,none⟩))) (hg : w.cell? ⟨g,4,none⟩ = some (.slice (some ⟨S,0,none⟩) n n)) (hk : k < n) (_h8 : n ≤ 8)
  (hS : w.cell? ⟨S,k,none⟩ = some (.int .i64 y)) : Calls Tryz.prog 48 #[.int .i64 k,.pointer (some ⟨Pb,0,none⟩)] w fun e w' => e = .returned (.bool (decide (y < 0))) ∧ ∃ q,w.drewN q = w' := by
 have i1 : (0 : Int) ≤ (k : Int) := Int.natCast_nonneg _
 have i2 : (k : Int) < (n : Int) := by omega
 go_enter Tryz.func48,Tryz.ntmps48
 go_wp2_with fail
 go_ret
 exact ⟨rfl,0,rfl⟩
end Go.Proofs.YtfkikpbnigenhaaGreat

namespace Go.Proofs.YtfkikpbnigenhaaGreat
open Go.RowKit Go.Shelf
section
variable (B W g O S Pb Bb Lb Ob Vb : Nat) (l : List Task) (c p : Int) (tv : Value) (cs : List Value)
set_option maxRecDepth 100000 in
set_option maxHeartbeats 2000000 in
theorem visitPrune (count : Nat) (s : List Int) (b : Int × List Int) (outv : Value) (w : World) (hR : RightT l) (h : VisSt w B W g l c p tv O S cs Pb Bb Lb Ob Vb s b outv) (h1 : 0 ≤ b.1) (h2 : b.1 ≤ lenPl l s l.length) :
  Calls Tryz.prog 45 #[.int .i64 count,.pointer (some ⟨Pb,0,none⟩),.pointer (some ⟨Bb,0,none⟩),.pointer (some ⟨Lb,0,none⟩),.pointer (some ⟨Ob,0,none⟩),.pointer (some ⟨Vb,0,none⟩)] w fun e w' => e = .returned (.tuple #[]) ∧ ∃ q,w.drewN q = w' := by
 have hL := planLength w.heap.size g l c p _ _ _ s w hR (h.plan.toR hR.len)
 have x1 := h.P.cell 0
 have x2 := h.Bx.cell 0
 simp only [List.getElem?_toArray,List.getElem?_cons_zero] at x1 x2
 clear h
 obtain ⟨b1,b2⟩ := b
 generalize lenPl l s l.length = n at *
 go_enter Tryz.func45,Tryz.ntmps45
 go_wp2_with (go_at_call 46;refine hL.mono ?_;rintro e w' ⟨rfl,q,rfl⟩)
 refine bodyPost_ret (results_none rfl _ _ _) (by rfl) ?_
 exact ⟨rfl,_,rfl⟩
set_option maxRecDepth 100000 in
set_option maxHeartbeats 2000000 in
theorem visitLeaf (s : List Int) (b : Int × List Int) (outv : Value) (w : World) (hR : RightT l) (h : VisSt w B W g l c p tv O S cs Pb Bb Lb Ob Vb s b outv) (hnp : b.1 < 0 ∨ lenPl l s l.length < b.1) :
  Calls Tryz.prog 45 #[.int .i64 l.length,.pointer (some ⟨Pb,0,none⟩),.pointer (some ⟨Bb,0,none⟩),.pointer (some ⟨Lb,0,none⟩),.pointer (some ⟨Ob,0,none⟩),.pointer (some ⟨Vb,0,none⟩)] w fun e w' => e = .returned (.tuple #[]) ∧ Below B w w' ∧ ∃ v,VisSt w' B W g l c p tv O S cs Pb Bb Lb Ob Vb s (lenPl l s l.length,s) v := by
 have h8 := hR.len
 have hlen := h.plan.len
 have hPR := h.plan.toR h8
 have hL := planLength w.heap.size g l c p _ _ _ s w hR hPR
 have HC : Hid (∀ q,Calls Tryz.prog 15 #[.slice (some ⟨S,0,none⟩) l.length l.length] (w.drewN q) fun e w' => ∃ A cap,e = .returned (.slice A l.length cap) ∧ w'.ownsRow w.heap.size 3 1 (.slice A l.length cap) s.length (s.map (Value.int .i64)) ∧ Below w.heap.size w w') := fun q => by
  refine (cloneInt _ s (w.drewN q) (RowAt.below hPR.starts (below_drewN (Below.refl _ _) q) (Nat.le_refl _)) (by omega)).mono ?_
  rintro e w' ⟨v',rfl,hown,hb⟩
  obtain ⟨A,cap,rfl,-⟩ := (RowAt.of_own hown).open_
  exact ⟨A,cap,by rw [← hlen],by rw [← hlen];exact hown,(below_drewN (Below.refl _ _) q).trans hb⟩
 have x1 := h.P.cell 0
 have x2 := h.Bx.cell 0
 have x3 := h.L.cell 0
 have x4 := h.plan.blk.cell 4
 simp only [List.getElem?_toArray,List.getElem?_cons_succ,List.getElem?_cons_zero] at x1 x2 x3 x4
 obtain ⟨A,cc,rfl,hA1,hA2,-⟩ := h.plan.tasks.open_
 unfold maxLen at hA2
 have H := Lib.hid h
 have Hlow := Lib.hid h.plan.low
 have HinW := Lib.hid h.inW
 have HbW := Lib.hid h.boxW
 clear h hPR
 obtain ⟨b1,b2⟩ := b
 simp only at hnp x2
 generalize hn : lenPl l s l.length = n at *
 clear hn
 have hc0 := HC.out
 rcases hnp with hb | hb
 ·have hbb : decide (0 ≤ b1) = false := by simp;omega
  go_enter Tryz.func45,Tryz.ntmps45
  go_wp2_with (first
   | (go_at_call 46;refine hL.mono ?_;rintro e w' ⟨rfl,q,rfl⟩)
   | (go_at_call 15;refine (hc0 _).mono ?_;rintro e w1 ⟨A1,cap1,rfl,hown,hb1⟩;have HO := H.out.Bx.below hb1 H.out.Bx.lt;have HO2 := H.out.Ox.below hb1 H.out.Ox.lt;have f1 := HO.frozen 0;have c1 := HO.cell 0;have f2 := HO2.frozen 0;have c2 := HO2.cell 0;have hne := blk_ne HO2 HO (by decide);simp only [List.getElem?_toArray,List.getElem?_cons_zero] at c1 c2))
  refine bodyPost_ret (results_none rfl _ _ _) (by rfl) ?_
  exact ⟨rfl,((hb1.mono Hlow.out.2.2).setCell (p := ⟨Bb,0,none⟩) (Nat.le_trans HinW.out.2.2.2 HbW.out.2.1) _).setCell (p := ⟨Ob,0,none⟩) (Nat.le_trans HinW.out.2.2.2 HbW.out.2.2.1) _,_,H.out.leaf hb1 hown⟩
 ·have hb' : decide (0 ≤ b1) = true ∨ decide (0 ≤ b1) = false := by cases decide (0 ≤ b1) <;> simp
  have hb2 : decide (b1 ≤ n) = false := by simp;omega
  rcases hb' with hbb | hbb
  all_goals
   go_enter Tryz.func45,Tryz.ntmps45
   go_wp2_with (first
    | (go_at_call 46;refine hL.mono ?_;rintro e w' ⟨rfl,q,rfl⟩)
    | (go_at_call 15;refine (hc0 _).mono ?_;rintro e w1 ⟨A1,cap1,rfl,hown,hb1⟩;have HO := H.out.Bx.below hb1 H.out.Bx.lt;have HO2 := H.out.Ox.below hb1 H.out.Ox.lt;have f1 := HO.frozen 0;have c1 := HO.cell 0;have f2 := HO2.frozen 0;have c2 := HO2.cell 0;have hne := blk_ne HO2 HO (by decide);simp only [List.getElem?_toArray,List.getElem?_cons_zero] at c1 c2))
   refine bodyPost_ret (results_none rfl _ _ _) (by rfl) ?_
   exact ⟨rfl,((hb1.mono Hlow.out.2.2).setCell (p := ⟨Bb,0,none⟩) (Nat.le_trans HinW.out.2.2.2 HbW.out.2.1) _).setCell (p := ⟨Ob,0,none⟩) (Nat.le_trans HinW.out.2.2.2 HbW.out.2.2.1) _,_,H.out.leaf hb1 hown⟩
end
end Go.Proofs.YtfkikpbnigenhaaGreat

namespace Go.Proofs.YtfkikpbnigenhaaGreat
open Go.RowKit Go.Shelf
theorem entersVisit : ∀ args w,(callFunc 45 args).run Tryz.prog w = .ok (.enter 45 args) w := enters_of Tryz.func45 (by kernel_rfl) rfl
theorem putN_bd {l : List Task} {c p : Int} {s : List Int} {i count : Nat} (hR : RightT l) (hl : s.length = l.length) (hi : i < l.length) (hs : ∀ x ∈ s,x ≤ 10000 * (count : Int)) (hp : PutT l c p s i (putN l c p s i)) : 0 ≤ putN l c p s i ∧ putN l c p s i ≤ 10000 * ((count : Int) + 1) := by
 have hend : ∀ k,k < l.length → endN l s k ≤ 10000 * ((count : Int) + 1) := fun k hk => by
  have h1 := hs _ (List.getElem_mem (show k < s.length by omega))
  have h2 := fieldB_len (hR.field k hk)
  rw [← atI_get (by omega)] at h1
  unfold endN
  rw [lenAt_eq hk]
  omega
 have hrow : rowAt l i = pls l l[i].bef := getD_rows hi
 have hf := firstN_bd (l := l) (s := s) (M := 10000 * ((count : Int) + 1)) (by omega) (rowAt l i).length (r := rowAt l i) (fun x hx => by
  rw [hrow] at hx
  obtain ⟨j,hj,rfl⟩ := mem_row hR hi hx
  exact hend j hj) (Nat.le_refl _)
 rw [List.take_length] at hf
 have hm := List.mem_of_find?_eq_some hp
 exact timesTo_bd hf hend _ (Nat.le_refl _) _ ((List.mergeSort_perm _ _).mem_iff.1 hm)
section
variable (B W g O S Pb Bb Lb Ob Vb : Nat) (l : List Task) (c p : Int) (tv : Value) (cs : List Value)
def VisitPost (s : List Int) (b : Int × List Int) (w : World) (e : Ending) (w' : World) : Prop :=
 e = .returned (.tuple #[]) ∧ Below B w w' ∧ ∃ v,VisSt w' B W g l c p tv O S cs Pb Bb Lb Ob Vb s b v
set_option maxRecDepth 100000 in
set_option maxHeartbeats 4000000 in
theorem visitLoop (m count : Nat) (s : List Int) (b : Int × List Int) (outv : Value) (w : World) (hR : RightT l) (hcp : 0 ≤ c ∧ 0 ≤ p) (hfit : l.any (tooMuch c p) = false) (hcount : count + (m + 1) = l.length) (hs : ∀ x ∈ s,x ≤ 10000 * (count : Int))
  (h : VisSt w B W g l c p tv O S cs Pb Bb Lb Ob Vb s b outv) (hnp : b.1 < 0 ∨ lenPl l s l.length < b.1)
  (IH : ∀ (s : List Int) (b : Int × List Int) (outv : Value) (w : World),(∀ x ∈ s,x ≤ 10000 * ((count : Int) + 1)) → VisSt w B W g l c p tv O S cs Pb Bb Lb Ob Vb s b outv →
   Calls Tryz.prog 45 #[.int .i64 ((count : Int) + 1),.pointer (some ⟨Pb,0,none⟩),.pointer (some ⟨Bb,0,none⟩),.pointer (some ⟨Lb,0,none⟩),.pointer (some ⟨Ob,0,none⟩),.pointer (some ⟨Vb,0,none⟩)] w (VisitPost B W g O S Pb Bb Lb Ob Vb l c p tv cs s (srch l c p m s b) w)) :
  Calls Tryz.prog 45 #[.int .i64 count,.pointer (some ⟨Pb,0,none⟩),.pointer (some ⟨Bb,0,none⟩),.pointer (some ⟨Lb,0,none⟩),.pointer (some ⟨Ob,0,none⟩),.pointer (some ⟨Vb,0,none⟩)] w (VisitPost B W g O S Pb Bb Lb Ob Vb l c p tv cs s (srch l c p (m + 1) s b) w) := by
 have h8 := hR.len
 have hlen := h.plan.len
 have hL := planLength w.heap.size g l c p _ _ _ s w hR (h.plan.toR h8)
 have x1 := h.P.cell 0
 have x2 := h.Bx.cell 0
 have x3 := h.L.cell 0
 simp only [List.getElem?_toArray,List.getElem?_cons_zero] at x1 x2 x3
 obtain ⟨A,cc,rfl,hA1,hA2,-⟩ := h.plan.tasks.open_
 unfold maxLen at hA2
 have HR := Lib.hid hR
 have HS := Lib.hid hs
 have HIH := Lib.hid IH
 have HFit := Lib.hid hfit
 have HB := Lib.hid h.plan.low
 have H0 : Hid (∀ q,VisSt (w.drewN q) B W g l c p (.slice A l.length cc) O S cs Pb Bb Lb Ob Vb s (srchTo l c p m s b 0) outv) := fun q => h.below (below_drewN (Below.refl _ _) q)
 have HE : Hid (srch l c p (m + 1) s b = srchTo l c p m s b l.length) := rfl
 have hcl : ((count : Int) == (l.length : Int)) = false := by simp;omega
 have i1 : (0 : Int) ≤ (count : Int) := Int.natCast_nonneg _
 have i2 : (count : Int) < (l.length : Int) := by omega
 have eg := entersVisit
 clear h IH hs hfit hR
 have hb' : decide (0 ≤ b.1) = true ∨ decide (0 ≤ b.1) = false := by cases decide (0 ≤ b.1) <;> simp
 have hb2 : decide (0 ≤ b.1) = true → decide (b.1 ≤ lenPl l s l.length) = false := fun h => by
  simp at h ⊢
  omega
 obtain ⟨β,hβ⟩ : ∃ β,β = b.1 := ⟨_,rfl⟩
 rw [← hβ] at x2 hb' hb2
 clear hnp hβ
 generalize lenPl l s l.length = n at *
 rcases hb' with hbb | hbb
 all_goals
  try have hb3 := hb2 hbb
  clear hb2
  go_enter Tryz.func45,Tryz.ntmps45
  go_wp2_with (go_at_call 46;refine hL.mono ?_;rintro e w' ⟨rfl,q,rfl⟩)
  have HV0 := Lib.hid (H0.out q)
  have hB0 : Below B w (w.drewN q) := below_drewN (Below.refl _ _) q
  clear H0 hL x1 x2 x3
  generalize w.drewN q = w1 at *
  go_loopw [30] (fun ix wr => ∃ (k : Nat) (v : Value),k ≤ l.length ∧ ix = .int .i64 k ∧ Hid (VisSt wr B W g l c p (.slice A l.length cc) O S cs Pb Bb Lb Ob Vb s (srchTo l c p m s b k) v) ∧ Below B w wr) (fun ix _ => l.length - (intOf ix).toNat)
  case atStart => exact ⟨0,outv,Nat.zero_le _,rfl,HV0,hB0⟩
  case round =>
   clear HV0 hB0
   obtain ⟨k,v,hk,rfl,HV,hbel⟩ := hrel
   by_cases hkl : k < l.length
   ·have y1 := HV.out.P.cell 0
    have y2 := HV.out.plan.blk.cell 1
    have y3 := HV.out.plan.blk.cell 4
    have y4 := (HV.out.plan.cell hkl).1
    obtain ⟨vr,y5,hrow⟩ := HV.out.plan.row hkl
    simp only [List.getElem?_toArray,List.getElem?_cons_succ,List.getElem?_cons_zero] at y1 y2 y3
    have hrA : rowAt l k = pls l l[k].bef := getD_rows hkl
    have hmem : ∀ x ∈ pls l l[k].bef,∃ j : Nat,j < l.length ∧ x = (j : Int) := fun x hx => mem_row HR.out hkl hx
    have hC : Calls Tryz.prog 47 #[vr,.func (.func 48) #[] #[.pointer (some ⟨Pb,0,none⟩)]] wr fun e w'' => e = .returned (.bool ((pls l l[k].bef).any (unB s))) ∧ Below wr.heap.size wr w'' := by
     refine containsFuncInt vr (pls l l[k].bef) 48 #[.pointer (some ⟨Pb,0,none⟩)] (unB s) entersV wr hrow ?_
     intro x hx w' hb
     obtain ⟨j,hj,rfl⟩ := hmem x hx
     have HV' := HV.out.below hb
     have z1 := HV'.P.cell 0
     have z3 := HV'.plan.blk.cell 4
     simp only [List.getElem?_toArray,List.getElem?_cons_succ,List.getElem?_cons_zero] at z1 z3
     refine (unClosure g S Pb l.length 0 j (atI s j) w' z1 z3 hj h8 (HV'.plan.cell hj).1).mono ?_
     rintro e w'' ⟨rfl,q,rfl⟩
     exact ⟨rfl,below_drewN (Below.refl _ _) q⟩
    have hany : rowAt l k = pls l l[k].bef → skipB l s k = (decide (0 ≤ atI s k) || (pls l l[k].bef).any (unB s)) := fun e => by unfold skipB;rw [e]
    have HSk := Lib.hid (hany hrA)
    clear hany hrA hmem
    obtain ⟨A',c',rfl,hr1,hr2,-⟩ := hrow.open_
    unfold maxLen at hr2
    generalize (pls l l[k].bef).any (unB s) = an at *
    clear hrow
    generalize (pls l l[k].bef).length = rl at *
    have j1 : (0 : Int) ≤ (k : Int) := Int.natCast_nonneg _
    have j2 : (k : Int) < (l.length : Int) := by omega
    by_cases d1 : 0 ≤ atI s k
    ·have HN : Hid (srchTo l c p m s b (k + 1) = srchTo l c p m s b k) := by unfold Hid;rw [srchTo_succ,HSk.out,decide_eq_true d1];simp
     clear hC HSk
     go_wp2_with fail
     go_roundw
     case rel => exact ⟨k + 1,v,by omega,by go_num,by rw [HN.out];exact HV,hbel⟩
     case measure => simp [intOf];omega
    ·have d1b : decide (0 ≤ atI s k) = false := by simpa using d1
     cases an with
     | true =>
      have HN : Hid (srchTo l c p m s b (k + 1) = srchTo l c p m s b k) := by unfold Hid;rw [srchTo_succ,HSk.out];simp
      clear HSk
      go_wp2_with (go_at_call 47;refine hC.mono ?_;rintro e w2 ⟨rfl,hb2⟩)
      go_roundw
      case rel => exact ⟨k + 1,v,by omega,by go_num,by rw [HN.out];exact Lib.hid (HV.out.below hb2),hbel.trans (hb2.mono (Nat.le_trans HB.out.2.2 hbel.size))⟩
      case measure => simp [intOf];omega
     | false =>
      have HN : Hid (srchTo l c p m s b (k + 1) = srch l c p m (s.set k (putN l c p s k)) (srchTo l c p m s b k)) := by unfold Hid;rw [srchTo_succ,HSk.out,d1b];simp
      have hput := put_exists (s := s) HR.out hcp HFit.out hlen hkl
      have hpb := putN_bd HR.out hlen hkl HS.out hput
      have hset : Hid ((s.set k (putN l c p s k)).set k (-1) = s) := by
       unfold Hid
       have h1 := HV.out.plan.bd _ (List.getElem_mem (show k < s.length by omega))
       have h2 := atI_get (s := s) (show k < s.length by omega)
       rw [List.set_set,show (-1 : Int) = s[k] by omega]
       simp
      have hs2 : Hid (∀ x ∈ s.set k (putN l c p s k),x ≤ 10000 * ((count : Int) + 1)) := fun x hx => by
       rcases List.mem_or_eq_of_mem_set hx with hx | rfl
       ·have := HS.out x hx;omega
       ·exact hpb.2
      have hs8 : ∀ x ∈ s,x ≤ 80000 := fun x hx => by have := HS.out x hx;omega
      clear HSk
      generalize putN l c p s k = t at *
      have hw : IntKind.i64.wrap ((count : Int) + 1) = (count : Int) + 1 := IntWalk.i64_in _ (by omega)
      go_wp2_with (first
       | (go_at_call 47;refine hC.mono ?_;rintro e w2 ⟨rfl,hb2⟩;have HV2 := HV.out.below hb2;have z1 := HV2.P.cell 0;have zV := HV2.V.cell 0;simp only [List.getElem?_toArray,List.getElem?_cons_zero] at z1 zV)
       | (go_at_call 49;refine (planPut B g O S l c p _ cs s k t w2 HR.out HV2.plan hkl hs8 hput).mono ?_;rintro e w3 ⟨rfl,hP3,hg3⟩;have HV3 := HV2.put hP3 hg3;clear z1 zV;have zV := HV3.V.cell 0;simp only [List.getElem?_toArray,List.getElem?_cons_zero] at zV)
       | (go_at_fn 45;refine (HIH.out _ _ _ _ hs2.out HV3).mono ?_;rintro e w4 ⟨rfl,hb4,v4,HV4⟩;have u1 := HV4.P.cell 0;have u4 := HV4.plan.blk.cell 4;obtain ⟨u5,u6⟩ := HV4.plan.cell hkl;simp only [List.getElem?_toArray,List.getElem?_cons_succ,List.getElem?_cons_zero] at u1 u4))
      have HV5 := HV4.put (HV4.plan.set (i := k) (t := -1) (by omega)) (set_grown HV4.plan k (-1))
      rw [hset.out,← HN.out] at HV5
      have hB5 : Below B w (w4.setCell ⟨S,k,none⟩ (.int .i64 (-1))) := (((hbel.trans (hb2.mono (Nat.le_trans HB.out.2.2 hbel.size))).grown hg3 HV2.plan.low.2.2 (fun k hk => by cases hk;exact HB.out.2.1)).trans hb4).setCell (p := ⟨S,k,none⟩) HB.out.2.1 _
      have HV5' := Lib.hid HV5
      clear HV5 HV4 HV3 HV2 hb2 hb4 hg3 hP3
      go_roundw
      case rel => exact ⟨k + 1,v4,by omega,by go_num,HV5',hB5⟩
      case measure => simp [intOf];omega
   ·have hke : k = l.length := by omega
    subst hke
    rw [← HE.out] at HV
    go_wp2_with fail
    go_end0
    exact ⟨rfl,hbel,v,HV.out⟩
end
end Go.Proofs.YtfkikpbnigenhaaGreat

namespace Go.Proofs.YtfkikpbnigenhaaGreat
open Go.RowKit Go.Shelf
theorem visitAny (B W g O S Pb Bb Lb Ob Vb : Nat) (l : List Task) (c p : Int) (tv : Value) (cs : List Value) (hR : RightT l) (hcp : 0 ≤ c ∧ 0 ≤ p) (hfit : l.any (tooMuch c p) = false) : ∀ (m count : Nat) (s : List Int) (b : Int × List Int) (outv : Value) (w : World),count + m = l.length → (∀ x ∈ s,x ≤ 10000 * (count : Int)) →
  VisSt w B W g l c p tv O S cs Pb Bb Lb Ob Vb s b outv →
  Calls Tryz.prog 45 #[.int .i64 count,.pointer (some ⟨Pb,0,none⟩),.pointer (some ⟨Bb,0,none⟩),.pointer (some ⟨Lb,0,none⟩),.pointer (some ⟨Ob,0,none⟩),.pointer (some ⟨Vb,0,none⟩)] w (VisitPost B W g O S Pb Bb Lb Ob Vb l c p tv cs s (srch l c p m s b) w) := by
 intro m
 induction m with
 | zero =>
  intro count s b outv w hm hs h
  by_cases hpr : 0 ≤ b.1 ∧ b.1 ≤ lenPl l s l.length
  ·rw [srch_prune 0 s b h.plan.len hpr.1 hpr.2]
   refine (visitPrune B W g O S Pb Bb Lb Ob Vb l c p tv cs count s b outv w hR h hpr.1 hpr.2).mono ?_
   rintro e w' ⟨rfl,q,rfl⟩
   exact ⟨rfl,below_drewN (Below.refl _ _) q,outv,h.below (below_drewN (Below.refl _ _) q)⟩
  ·have hc : count = l.length := by omega
   subst hc
   have e : srch l c p 0 s b = (lenPl l s l.length,s) := if_pos (by omega)
   rw [e]
   exact visitLeaf B W g O S Pb Bb Lb Ob Vb l c p tv cs s b outv w hR h (by omega)
 | succ m ih =>
  intro count s b outv w hm hs h
  by_cases hpr : 0 ≤ b.1 ∧ b.1 ≤ lenPl l s l.length
  ·rw [srch_prune (m + 1) s b h.plan.len hpr.1 hpr.2]
   refine (visitPrune B W g O S Pb Bb Lb Ob Vb l c p tv cs count s b outv w hR h hpr.1 hpr.2).mono ?_
   rintro e w' ⟨rfl,q,rfl⟩
   exact ⟨rfl,below_drewN (Below.refl _ _) q,outv,h.below (below_drewN (Below.refl _ _) q)⟩
  ·exact visitLoop B W g O S Pb Bb Lb Ob Vb l c p tv cs m count s b outv w hR hcp hfit hm hs h (by omega) fun s b outv w hs h => by
    have := ih (count + 1) s b outv w (by omega) (by simpa using hs) h
    simpa using this
end Go.Proofs.YtfkikpbnigenhaaGreat

namespace Go.Proofs.YtfkikpbnigenhaaGreat
open Go.RowKit Go.Shelf
def leastN (l : List Task) (c p : Int) : Int × List Int := srch l c p l.length (List.replicate l.length (-1)) (-1,[])
def LeastPost (l : List Task) (c p : Int) (w : World) (e : Ending) (w' : World) : Prop :=
 Below w.heap.size w w' ∧
  ((validB l c p = false ∧ e = .returned (.tuple #[.int .i64 0,.slice none 0 0,.int .i64 1])) ∨
   (validB l c p = true ∧ l.any (tooMuch c p) = true ∧ e = .returned (.tuple #[.int .i64 0,.slice none 0 0,.int .i64 22])) ∨
   (validB l c p = true ∧ l.any (tooMuch c p) = false ∧ ∃ A cap,e = .returned (.tuple #[.int .i64 (leastN l c p).1,.slice A (leastN l c p).2.length cap,.int .i64 0]) ∧
    w'.ownsRow w.heap.size 3 1 (.slice A (leastN l c p).2.length cap) (leastN l c p).2.length ((leastN l c p).2.map (Value.int .i64))))
set_option maxRecDepth 100000 in
set_option maxHeartbeats 8000000 in
theorem schedLeast (v : Value) (l : List Task) (c p : Int) (w : World) (hl : TasksAt w w.heap.size v l) :
  Calls Tryz.prog 17 #[v,.int .i64 c,.int .i64 p] w (LeastPost l c p w) := by
 have HT : Hid (∀ w1,Below w.heap.size w w1 → TasksAt w1 w1.heap.size v l) := fun w1 hb => (hl.below hb (Nat.le_refl _)).mono hb.size
 have hV : ∀ o,Calls Tryz.prog 42 #[v,.int .i64 c,.int .i64 p] (w.alloc o) fun e w' => e = .returned (.bool (validB l c p)) ∧ Below (w.alloc o).heap.size (w.alloc o) w' := fun o => schedValid v l c p _ (HT.out _ ((Below.refl _ _).alloc (Nat.le_refl _) o))
 have HN : Hid (∀ w1,Below w.heap.size w w1 → Calls Tryz.prog 43 #[v,.int .i64 c,.int .i64 p] w1 fun e w' => e = .returned (.bool (l.any (tooMuch c p))) ∧ Below w1.heap.size w1 w') := fun w1 hb => schedNeeds v l c p w1 (HT.out w1 hb)
 have hb0 : ∀ o,Below w.heap.size w (w.alloc o) := fun o => (Below.refl _ _).alloc (Nat.le_refl _) o
 obtain ⟨A,cc,rfl,hA1,hA2,-⟩ := hl.open_
 unfold maxLen at hA2
 clear hl
 cases hv : validB l c p with
 | false =>
  have Hv := Lib.hid hv
  rw [hv] at hV
  clear hv HN
  go_enter Tryz.func17,Tryz.ntmps17
  go_wp2_with (go_at_call 42;refine (hV _).mono ?_;rintro e w1 ⟨rfl,hb1⟩)
  refine bodyPost_ret (results_tmp3 rfl _ _ _) (by rfl) ?_
  exact ⟨(hb0 _).trans (hb1.mono (by simp)),.inl ⟨Hv.out,rfl⟩⟩
 | true =>
  obtain ⟨hR,hc0,hc1,hp0,hp1⟩ := valid_right hv
  have Hv := Lib.hid hv
  have HR := Lib.hid hR
  have h8 := hR.len
  rw [hv] at hV
  clear hv hR
  cases hn : l.any (tooMuch c p) with
  | true =>
   have Hn := Lib.hid hn
   rw [hn] at HN
   clear hn
   go_enter Tryz.func17,Tryz.ntmps17
   go_wp2_with (first
    | (go_at_call 42;refine (hV _).mono ?_;rintro e w1 ⟨rfl,hb1⟩;have hbx := (hb0 (.cells #[.slice A l.length cc] 37)).trans (hb1.mono (by simp));have z1 := hb1.cell (p := ⟨w.heap.size,0,none⟩) (by simp);rw [World.cell?_alloc_new] at z1;simp only [List.getElem?_toArray,List.getElem?_cons_zero] at z1;have hN := HN.out w1 hbx)
    | (go_at_call 43;refine hN.mono ?_;rintro e w2 ⟨rfl,hb2⟩))
   refine bodyPost_ret (results_tmp3 rfl _ _ _) (by rfl) ?_
   exact ⟨hbx.trans (hb2.mono hbx.size),.inr (.inl ⟨Hv.out,Hn.out,rfl⟩)⟩
  | false =>
   have Hn := Lib.hid hn
   rw [hn] at HN
   clear hn
   go_enter Tryz.func17,Tryz.ntmps17
   go_wp2_with (first
    | (go_at_call 42;refine (hV _).mono ?_;rintro e w1 ⟨rfl,hb1⟩;have hbx := (hb0 (.cells #[.slice A l.length cc] 37)).trans (hb1.mono (by simp));have hl0 := Blk.new w 37 #[.slice A l.length cc];have hl1 := hl0.below hb1 hl0.lt;have z1 := hl1.cell 0;simp only [List.getElem?_toArray,List.getElem?_cons_zero] at z1;have hN := HN.out w1 hbx)
    | (go_at_call 43;refine hN.mono ?_;rintro e w2 ⟨rfl,hb2⟩;have hl2 := hl1.below hb2 hl1.lt;have hbx2 := hbx.trans (hb2.mono hbx.size);clear z1;have z1 := hl2.cell 0;simp only [List.getElem?_toArray,List.getElem?_cons_zero] at z1)
    | (go_at_call 44;refine (schedNewPlanA _ l c p w2 HR.out (HT.out _ hbx2)).mono ?_;rintro e w3 ⟨g,O,S,cs,rfl,hnp,hb3,hap⟩;have hl3 := hl2.below hb3 hl2.lt;have hbx3 := hbx2.trans (hb3.mono hbx2.size)))
   have HV : ∀ (f : Value),f = .func (.func 45) #[] #[.pointer (some ⟨w3.heap.size,0,none⟩),.pointer (some ⟨w3.heap.size + 1,0,none⟩),.pointer (some ⟨w.heap.size,0,none⟩),.pointer (some ⟨w3.heap.size + 1 + 1,0,none⟩),.pointer (some ⟨w3.heap.size + 1 + 1 + 1,0,none⟩)] →
     Below w3.heap.size w3 ((((w3.alloc (.cells #[.pointer (some ⟨g,0,none⟩)] 84)).alloc (.cells #[.int .i64 (-1)] 3)).alloc (.cells #[.slice none 0 0] 22)).alloc (.cells #[f] 86)) →
     VisSt ((((w3.alloc (.cells #[.pointer (some ⟨g,0,none⟩)] 84)).alloc (.cells #[.int .i64 (-1)] 3)).alloc (.cells #[.slice none 0 0] 22)).alloc (.cells #[f] 86)) w2.heap.size w3.heap.size g l c p (.slice A l.length cc) O S cs w3.heap.size (w3.heap.size + 1) w.heap.size (w3.heap.size + 1 + 1) (w3.heap.size + 1 + 1 + 1) (List.replicate l.length (-1)) (-1,[]) (.slice none 0 0) := fun f hf hX => by
    have hcs := own_len hnp.rows.own
    refine ⟨(PlanO.of_new hnp ((HT.out w2 hbx2).below hb3 (Nat.le_refl _)) hb3.size hap).below hX,⟨hnp.blk.lt,(hnp.rows.own.lt O rfl).2,(hnp.starts.lt S rfl).2,hb3.size⟩,fun j hj k e => ((hnp.rows.rows j (by omega) hj (by omega)).lt k e).2,?_,?_,hl3.below hX hl3.lt,?_,?_,World.ownsRow_nil _ _ _ _,by simp [Value.ownBlock],⟨by omega,by omega,by omega,by omega⟩⟩
    ·exact (((Blk.new w3 84 #[.pointer (some ⟨g,0,none⟩)]).alloc _).alloc _).alloc _
    ·have := ((Blk.new (w3.alloc (.cells #[.pointer (some ⟨g,0,none⟩)] 84)) 3 #[.int .i64 (-1)]).alloc (.cells #[.slice none 0 0] 22)).alloc (.cells #[f] 86)
     simpa using this
    ·have := (Blk.new ((w3.alloc (.cells #[.pointer (some ⟨g,0,none⟩)] 84)).alloc (.cells #[.int .i64 (-1)] 3)) 22 #[.slice none 0 0]).alloc (.cells #[f] 86)
     simpa using this
    ·rw [← hf]
     have := Blk.new (((w3.alloc (.cells #[.pointer (some ⟨g,0,none⟩)] 84)).alloc (.cells #[.int .i64 (-1)] 3)).alloc (.cells #[.slice none 0 0] 22)) 86 #[f]
     simpa using this
   have hX : ∀ o1 o2 o3 o4,Below w3.heap.size w3 ((((w3.alloc o1).alloc o2).alloc o3).alloc o4) := fun o1 o2 o3 o4 => ((((Below.refl _ _).alloc (Nat.le_refl _) o1).alloc (by simp) o2).alloc (by simp;omega) o3).alloc (by simp;omega) o4
   have HV1 := HV _ rfl (hX _ _ _ _)
   have hcall := visitAny _ _ _ _ _ _ _ _ _ _ l c p _ cs HR.out ⟨hc0,hp0⟩ Hn.out l.length 0 _ _ _ _ (by omega) (fun x hx => by rw [(List.mem_replicate.1 hx).2];omega) HV1
   refine Calls.mono hcall ?_
   rintro e w4 ⟨rfl,hb4,v4,HV4⟩
   have hout : w4.ownsRow w.heap.size 3 1 v4 (leastN l c p).2.length ((leastN l c p).2.map (Value.int .i64)) := own_mono HV4.out hbx3.size
   obtain ⟨A4,cap4,rfl,-⟩ := (RowAt.of_own hout).open_
   have u1 := HV4.Bx.cell 0
   have u2 := HV4.Ox.cell 0
   simp only [List.getElem?_toArray,List.getElem?_cons_zero] at u1 u2
   have hB4 : Below w.heap.size w w4 := (hbx3.trans ((hX _ _ _ _).mono hbx3.size)).trans (hb4.mono hbx2.size)
   have Hout := Lib.hid hout
   have HL : Hid ((srch l c p l.length (List.replicate l.length (-1)) (-1,[])).1 = (leastN l c p).1) := rfl
   rw [HL.out] at u1
   clear HV4 HV1 HV hcall hX hnp hap hl0 hl1 hl2 hl3 hout HL
   generalize hr : leastN l c p = r at *
   have Hr := Lib.hid hr
   clear hr
   go_wp2_with fail
   go_quiet (fail)
   go_wp2
   refine bodyPost_ret (results_tmp3 rfl _ _ _) (by rfl) ?_
   have hr := Hr.out
   subst hr
   exact ⟨below_drewN hB4 _,.inr (.inr ⟨Hv.out,Hn.out,A4,cap4,rfl,own_drewN Hout.out _⟩)⟩
end Go.Proofs.YtfkikpbnigenhaaGreat
