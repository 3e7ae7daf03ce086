/- Parts of the proof, laid into one text: StGet, StSmall, StBecome, StUndo, StClone. -/
import Derived.BigQuiet
import Derived.Deep.AppendLies
import Derived.Deep.Cut
import Derived.Deep.Draws
import Derived.Deep.LoopGhost
import Derived.Deep.MidRow
import Derived.Deep.QuietTactic
import Derived.Deep.RegionHeld3
import Derived.Deep.RegionLaw
import Derived.IntWalk
import Derived.Laws.Bits64b
import Derived.Laws.Concat
import Derived.Laws.EntriesVeiled
import Derived.Lib.AppendIntMem
import Derived.Lib.Hide
import Derived.Lib.ItoaLen
import Derived.Lib.ItoaMem
import Derived.Lib.Join
import Derived.Lib.SmallJoins
import Derived.LoopIn
import Derived.LoopNIn
import Derived.Maps.AppendAt
import Derived.Maps.Own
import Derived.Maps.OwnOps
import Derived.Maps.OwnSet
import Derived.Maps.Views
import Derived.Outline
import Derived.OwnWalkIn
import Derived.PlainAid
import Derived.RangeFuncBox
import Derived.RangeFuncLeaves
import Derived.Shelf.Abstract
import Derived.Shelf.Bits.Mul64
import Derived.Shelf.Strconv.Itoa3
import Derived.Shelf.Strings.Count
import Derived.Shelf.Strings.OnBuilder
import Derived.Shelf.Strings.Prefix
import Derived.StillTail
import Derived.StillTailTactics
import Derived.TacticsInMore
import Derived.Test.YtbhmkcjddpniiaaGreatDoorC1
import Derived.Test.YtbhmkcjddpniiaaGreatDoorC2
import Derived.Test.YtbhmkcjddpniiaaGreatDoorC3
import Derived.Test.YtbhmkcjddpniiaaGreatDoorC4
import Derived.Test.YtbhmkcjddpniiaaGreatDoorC5
import Derived.Test.YtbhmkcjddpniiaaGreatDoorC6
import Derived.Test.YtbhmkcjddpniiaaGreatDoorC7
import Derived.Test.YtbhmkcjddpniiaaGreatDoorD1
import Derived.Test.YtbhmkcjddpniiaaGreatDoorD2
import Derived.Test.YtbhmkcjddpniiaaGreatDoorD3
import Derived.Test.YtbhmkcjddpniiaaGreatDoorD4
import Derived.Test.YtbhmkcjddpniiaaGreatDoorD5
import Derived.Test.YtbhmkcjddpniiaaGreatDoorD9
import Derived.Test.YtbhmkcjddpniiaaGreatDoorG1
import Derived.Test.YtbhmkcjddpniiaaGreatDoorI1
import Derived.Test.YtbhmkcjddpniiaaGreatDoorI3
import Derived.Test.YtbhmkcjddpniiaaGreatDoorProg
import Derived.WalkKit
import Derived.WalkLawsBesides
import Derived.WalkSpells

namespace Go.Proofs.YtbhmkcjddpniiaaGreatDoor
open Go.RowKit Go.Shelf
def getS (st : St) (nm : ByteArray) : SetT × Int :=
 match idxS st.sets nm with
 | some k => (st.sets.getD k zeroSet,0)
 | none => (zeroSet,9)
def OwnC (w : World) (B : Nat) (c : SetC) : Prop :=
 w.ownsRow B 3 1 (.slice c.al c.s.lines.length c.cl) c.s.lines.length (c.s.lines.map (Value.int .i64)) ∧ w.ownsRow B 47 7 (.slice c.ai c.s.items.length c.ci) c.s.items.length (c.s.items.flatMap ItemT.cells) ∧
  w.ownsRow B 49 3 (.slice c.ab c.s.bricks.length c.cb) c.s.bricks.length (c.s.bricks.flatMap BrickT.cells)
theorem OwnC.set {w : World} {B : Nat} {c : SetC} (h : OwnC w B c) : SetAt w w.heap.size c.val c.s := ⟨_,_,_,_,_,_,rfl,Flat.of_own h.1,Flat.of_own h.2.1,Flat.of_own h.2.2⟩
def lensOk (s : SetT) : Prop := s.lines.length ≤ 1000 ∧ s.items.length ≤ 1000 ∧ s.bricks.length ≤ 1000
theorem lens_zero : lensOk zeroSet := by unfold lensOk;decide
theorem lens_valid {s : SetT} (h : setB s = true) : lensOk s := by
 have h1 := (lines_facts h).1
 have h2 := (setB_ok h).wts.1
 have h3 := (bricks_facts h).1
 exact ⟨by omega,by omega,by omega⟩
theorem zeroC_at (w : World) (B : Nat) : SetAt w B zeroC.val zeroSet := ⟨none,0,none,0,none,0,rfl,⟨none,0,rfl,Nat.le_refl _,Nat.zero_le _,fun h => absurd h (by decide)⟩,⟨none,0,rfl,Nat.le_refl _,Nat.zero_le _,fun h => absurd h (by decide)⟩,⟨none,0,rfl,Nat.le_refl _,Nat.zero_le _,fun h => absurd h (by decide)⟩⟩
theorem named_get {w : World} {B D : Nat} {M : Nat → Prop} {st : St} {r : StR} {nm : ByteArray} (h : StoreAt w B D M st r) (hok : StOk st) {e : Ending} {w' : World} (hp : NamedPost st r nm w e w') :
  Below w.heap.size w w' ∧ ∃ c : SetC,e = .returned (.tuple #[c.val,.int .i64 (getS st nm).2]) ∧ c.s = (getS st nm).1 ∧ SetAt w' w'.heap.size c.val c.s ∧ lensOk c.s := by
 obtain ⟨hb,⟨k,c,hi,hk,he⟩ | ⟨hi,he⟩⟩ := hp
 ·obtain ⟨hk1,hk2⟩ := List.getElem?_eq_some_iff.1 hk
  have e1 : st.sets[k]? = some c.s := by rw [← h.setsE,List.getElem?_map,hk];rfl
  have e2 : getS st nm = (c.s,0) := by unfold getS;rw [hi];simp [e1]
  rw [e2]
  have hc : c ∈ r.L := List.mem_of_getElem? hk
  have hv := hok.sets c.s (List.mem_of_getElem? e1)
  exact ⟨hb,c,he,rfl,(h.below hb).sets.2 c hc |>.set,lens_valid hv⟩
 ·have e2 : getS st nm = (zeroSet,9) := by unfold getS;rw [hi]
  rw [e2]
  exact ⟨hb,zeroC,he,rfl,zeroC_at _ _,lens_zero⟩
def GetPost (st : St) (nm : ByteArray) (w : World) (e : Ending) (w' : World) : Prop :=
 Below w.heap.size w w' ∧ ∃ c : SetC,e = .returned (.tuple #[c.val,.int .i64 (getS st nm).2]) ∧ c.s = (getS st nm).1 ∧ OwnC w' w.heap.size c
set_option maxRecDepth 100000 in
set_option maxHeartbeats 4000000 in
theorem stGet (B D : Nat) (M : Nat → Prop) (st : St) (r : StR) (nm : ByteArray) (w : World) (h : StoreAt w B D M st r) (hok : StOk st) :
  Calls Tryz.prog 28 #[.pointer (some ⟨D,0,none⟩),.string nm] w (GetPost st nm w) := by
 have HB1 := Lib.hid ((Below.refl _ w).alloc (Nat.le_refl _) (.cells #[.string ⟨#[]⟩,.int .i64 0,.int .i64 0,.int .i64 0,.int .i64 0,.slice none 0 0,.int .i64 0,.int .i64 0,.int .i64 0,.int .i64 0,.int .i64 0,.slice none 0 0,.slice none 0 0] 26))
 have h1 := h.below HB1.out
 have hN := (stNamed B D M st r nm _ h1).mono fun _ _ hp => named_get h1 hok hp
 have HT1 := Lib.hid (Blk.new w 26 #[.string ⟨#[]⟩,.int .i64 0,.int .i64 0,.int .i64 0,.int .i64 0,.slice none 0 0,.int .i64 0,.int .i64 0,.int .i64 0,.int .i64 0,.int .i64 0,.slice none 0 0,.slice none 0 0])
 clear h h1 hok
 go_enter Tryz.func28,Tryz.ntmps28
 go_wp2_with fail
 refine hN.mono ?_
 rintro e w2 ⟨hb2,⟨s,al,cl,ai,ci,ab,cb⟩,rfl,hs,hv,hl⟩
 simp only at hs hl
 change SetAt w2 w2.heap.size (setVal s al cl ai ci ab cb) s at hv
 have HT2 := Lib.hid (HT1.out.below hb2 HT1.out.lt)
 have HB2 := Lib.hid (HB1.out.trans (hb2.mono HB1.out.size))
 have HS := Lib.hid hs
 have ha := (Below.refl w2.heap.size w2).alloc (Nat.le_refl _) (.cells #[.string s.name,.int .i64 s.depth,.int .i64 s.low,.int .i64 s.high,.int .i64 s.len,.slice al s.lines.length cl,.int .i64 s.pipe,.int .i64 s.arbor,.int .i64 s.purch,.int .i64 s.most,.int .i64 s.brake,.slice ai s.items.length ci,.slice ab s.bricks.length cb] 26)
 have hO := versOwn _ s _ ((hv.below ha (Nat.le_refl _)).mono ha.size) hl.1 hl.2.1 hl.2.2
 have HA := Lib.hid ha
 generalize hEr : (getS st nm).2 = er at *
 have HEr := Lib.hid hEr
 clear hb2 HT1 HB1 hs hv hl hN ha hEr
 unfold SetC.val setVal at *
 go_wp2_with fail
 refine hO.mono ?_
 rintro e w4 ⟨hb4,A1,k1,A2,k2,A3,k3,rfl,o1,o2,o3⟩
 have HT4 := Lib.hid ((HT2.out.below HA.out HT2.out.lt).below hb4 (Nat.lt_of_lt_of_le HT2.out.lt HA.out.size))
 have HB4 := Lib.hid (HB2.out.trans ((HA.out.trans (hb4.mono HA.out.size)).mono HB2.out.size))
 have hsz := HB2.out.size
 clear HT2 HB2 hb4 HA hO
 unfold setVal
 dsimp only
 iterate 4 (first | go_values | go_skip | go_guarded | go_step | go_upon)
 have hth : World.there w4 (w.heap.size) 0 13 := blk_there HT4.out rfl
 have HTh := Lib.hid hth
 have HR := Lib.hid (World.rangeAt_setCells_same w4 (w.heap.size) 0 [.string s.name,.int .i64 s.depth,.int .i64 s.low,.int .i64 s.high,.int .i64 s.len,.slice A1 s.lines.length k1,.int .i64 s.pipe,.int .i64 s.arbor,.int .i64 s.purch,.int .i64 s.most,.int .i64 s.brake,.slice A2 s.items.length k2,.slice A3 s.bricks.length k3] hth)
 have hG9 := grown_setCells (w.heap.size) [.string s.name,.int .i64 s.depth,.int .i64 s.low,.int .i64 s.high,.int .i64 s.len,.slice A1 s.lines.length k1,.int .i64 s.pipe,.int .i64 s.arbor,.int .i64 s.purch,.int .i64 s.most,.int .i64 s.brake,.slice A2 s.items.length k2,.slice A3 s.bricks.length k3] 0 w4
 have hB9 := Lib.hid (HB4.out.grown hG9 HB4.out.size (fun k e => by have e1 : w.heap.size = k := (by simpa using e);omega))
 have r1 := o1.kept hG9 (own_not o1 HT4.out (by decide))
 have r2 := o2.kept hG9 (own_not o2 HT4.out (by decide))
 have r3 := o3.kept hG9 (own_not o3 HT4.out (by decide))
 have R1 := Lib.hid r1
 have R2 := Lib.hid r2
 have R3 := Lib.hid r3
 clear hth hG9 r1 r2 r3 o1 o2 o3
 refine wpList_store_mid rfl 26 (.tmp 4) (.tmp 15) rfl (w.heap.size) 0 #[.string s.name,.int .i64 s.depth,.int .i64 s.low,.int .i64 s.high,.int .i64 s.len,.slice A1 s.lines.length k1,.int .i64 s.pipe,.int .i64 s.arbor,.int .i64 s.purch,.int .i64 s.most,.int .i64 s.brake,.slice A2 s.items.length k2,.slice A3 s.bricks.length k3] rfl rfl HTh.out (by kernel_rfl) (by simp [Value.oneCell']) ?_
 simp only [Act.put]
 clear HTh
 have p0 := HR.out 0 _ rfl
 have p1 := HR.out 1 _ rfl
 have p2 := HR.out 2 _ rfl
 have p3 := HR.out 3 _ rfl
 have p4 := HR.out 4 _ rfl
 have p5 := HR.out 5 _ rfl
 have p6 := HR.out 6 _ rfl
 have p7 := HR.out 7 _ rfl
 have p8 := HR.out 8 _ rfl
 have p9 := HR.out 9 _ rfl
 have p10 := HR.out 10 _ rfl
 have p11 := HR.out 11 _ rfl
 have p12 := HR.out 12 _ rfl
 simp only [Nat.zero_add] at p0 p1 p2 p3 p4 p5 p6 p7 p8 p9 p10 p11 p12
 generalize World.setCells w4 (w.heap.size) 0 [.string s.name,.int .i64 s.depth,.int .i64 s.low,.int .i64 s.high,.int .i64 s.len,.slice A1 s.lines.length k1,.int .i64 s.pipe,.int .i64 s.arbor,.int .i64 s.purch,.int .i64 s.most,.int .i64 s.brake,.slice A2 s.items.length k2,.slice A3 s.bricks.length k3] = W9 at *
 clear HR
 go_wp2_with fail
 refine bodyPost_ret (v := .tuple #[.agg #[.string s.name,.int .i64 s.depth,.int .i64 s.low,.int .i64 s.high,.int .i64 s.len,.slice A1 s.lines.length k1,.int .i64 s.pipe,.int .i64 s.arbor,.int .i64 s.purch,.int .i64 s.most,.int .i64 s.brake,.slice A2 s.items.length k2,.slice A3 s.bricks.length k3],.int .i64 er]) (by simp [results,Tryz.results28,go_sem,p0,p1,p2,p3,p4,p5,p6,p7,p8,p9,p10,p11,p12]) rfl ?_
 exact ⟨hB9.out,⟨s,A1,k1,A2,k2,A3,k3⟩,by rw [HEr.out];rfl,HS.out,own_mono R1.out (by simp;omega),own_mono R2.out (by simp;omega),own_mono R3.out (by simp;omega)⟩
end Go.Proofs.YtbhmkcjddpniiaaGreatDoor

namespace Go.Proofs.YtbhmkcjddpniiaaGreatDoor
open Go.RowKit Go.Shelf
def st0 : St := ⟨[],[],[],0⟩
def r0 : StR := ⟨.slice none 0 0,[],.slice none 0 0,[],.map none⟩
theorem store_new (w : World) {B : Nat} (hB : B ≤ w.heap.size) : StoreAt (w.alloc (.cells #[.slice none 0 0,.slice none 0 0,.map none,.int .i64 0] 76)) B w.heap.size (fun _ => False) st0 r0 :=
 ⟨Blk.new _ _ _,hB,fun h => h,fun _ h => h.elim,SetsM.nil,rfl,World.ownsRow_nil _ _ _ _,fun _ _ h => h,fun _ h => absurd h List.not_mem_nil,rfl,.inl ⟨rfl,rfl⟩⟩
def NewPost (B : Nat) (w : World) (e : Ending) (w' : World) : Prop :=
 ∃ D,e = .returned (.pointer (some ⟨D,0,none⟩)) ∧ Below w.heap.size w w' ∧ StoreAt w' B D (fun _ => False) st0 r0
set_option maxHeartbeats 1000000 in
theorem stNew (B : Nat) (w : World) (hB : B ≤ w.heap.size) : Calls Tryz.prog 25 #[] w (NewPost B w) := by
 have HS := Lib.hid (store_new w hB)
 have HB := Lib.hid ((Below.refl _ w).alloc (Nat.le_refl _) (.cells #[.slice none 0 0,.slice none 0 0,.map none,.int .i64 0] 76))
 clear hB
 go_enter Tryz.func25,Tryz.ntmps25
 go_wp2_with fail
 go_ret
 exact ⟨w.heap.size,rfl,HB.out,HS.out⟩
set_option maxHeartbeats 1000000 in
theorem stWork (B D : Nat) (M : Nat → Prop) (st : St) (r : StR) (w : World) (h : StoreAt w B D M st r) :
  Calls Tryz.prog 42 #[.pointer (some ⟨D,0,none⟩)] w fun e w' => e = .returned (.int .i64 (st.work : Int)) ∧ w = w' := by
 have hd := h.blk.cell 3
 simp only [List.getElem?_toArray,List.getElem?_cons_succ,List.getElem?_cons_zero] at hd
 have hl := h.blk.lt
 clear h
 go_enter Tryz.func42,Tryz.ntmps42
 go_wp2_with fail
 go_ret
 exact ⟨rfl,rfl⟩
def NamesPost (st : St) (w : World) (e : Ending) (w' : World) : Prop :=
 Below w.heap.size w w' ∧ ∃ v,e = .returned v ∧ w'.ownsRow w.heap.size 9 1 v st.sets.length ((st.sets.map SetT.name).map Value.string)
set_option maxRecDepth 100000 in
set_option maxHeartbeats 4000000 in
theorem stNames (B D : Nat) (M : Nat → Prop) (st : St) (r : StR) (w : World) (h : StoreAt w B D M st r) (hok : StOk st) :
  Calls Tryz.prog 31 #[.pointer (some ⟨D,0,none⟩)] w (NamesPost st w) := by
 obtain ⟨A,cc,eA,hc1,hc2,hcell⟩ := h.at.open_
 unfold maxLen at hc2
 have hd := h.blk.cell 0
 simp only [List.getElem?_toArray,List.getElem?_cons_zero] at hd
 rw [eA] at hd
 have hl := h.blk.lt
 have HC := Lib.hid hcell
 have HE := Lib.hid h.setsE
 have hlen : st.sets.length = r.L.length := by rw [← h.setsE,List.length_map]
 have h60 := hok.len
 have HLen := Lib.hid hlen
 have HNL : Hid (st.sets.map SetT.name = r.L.map fun c => c.s.name) := by unfold Hid;rw [← h.setsE,List.map_map];rfl
 clear hcell h hok eA
 have hL60 : r.L.length ≤ 60 := by omega
 clear hlen h60
 generalize r.L = L at *
 go_enter Tryz.func31,Tryz.ntmps31
 go_wp2_with fail
 clear hd hl
 go_loopw [3,13] (fun o ix wr => ∃ k : Nat,k ≤ L.length ∧ ix = .int .i64 k ∧ Below w.heap.size w wr ∧ wr.ownsRow w.heap.size 9 1 o k (((L.take k).map fun c => c.s.name).map Value.string)) (fun _ ix _ => L.length - (intOf ix).toNat)
 case atStart => exact ⟨0,Nat.zero_le _,rfl,Below.refl _ _,World.ownsRow_nil _ _ _ _⟩
 case round =>
  obtain ⟨k,hk,rfl,hbel,hown⟩ := hrel
  have k0 : (0 : Int) ≤ (k : Int) := Int.natCast_nonneg _
  by_cases hkl : k < L.length
  ·have k1 : (k : Int) < (L.length : Int) := by omega
   obtain ⟨b1,o1,rfl,hb1,hx⟩ := HC.out k hkl
   have hy := hx k hkl
   have y0 := (hbel.cell (p := ⟨b1,o1 + k * 13,none⟩) hb1).trans (hy 0 _ rfl)
   have y1 := (hbel.cell (p := ⟨b1,o1 + k * 13 + 1,none⟩) hb1).trans (hy 1 _ rfl)
   have y2 := (hbel.cell (p := ⟨b1,o1 + k * 13 + 2,none⟩) hb1).trans (hy 2 _ rfl)
   have y3 := (hbel.cell (p := ⟨b1,o1 + k * 13 + 3,none⟩) hb1).trans (hy 3 _ rfl)
   have y4 := (hbel.cell (p := ⟨b1,o1 + k * 13 + 4,none⟩) hb1).trans (hy 4 _ rfl)
   have y5 := (hbel.cell (p := ⟨b1,o1 + k * 13 + 5,none⟩) hb1).trans (hy 5 _ rfl)
   have y6 := (hbel.cell (p := ⟨b1,o1 + k * 13 + 6,none⟩) hb1).trans (hy 6 _ rfl)
   have y7 := (hbel.cell (p := ⟨b1,o1 + k * 13 + 7,none⟩) hb1).trans (hy 7 _ rfl)
   have y8 := (hbel.cell (p := ⟨b1,o1 + k * 13 + 8,none⟩) hb1).trans (hy 8 _ rfl)
   have y9 := (hbel.cell (p := ⟨b1,o1 + k * 13 + 9,none⟩) hb1).trans (hy 9 _ rfl)
   have y10 := (hbel.cell (p := ⟨b1,o1 + k * 13 + 10,none⟩) hb1).trans (hy 10 _ rfl)
   have y11 := (hbel.cell (p := ⟨b1,o1 + k * 13 + 11,none⟩) hb1).trans (hy 11 _ rfl)
   have y12 := (hbel.cell (p := ⟨b1,o1 + k * 13 + 12,none⟩) hb1).trans (hy 12 _ rfl)
   have HN : Hid ((L.take (k + 1)).map (fun c => c.s.name) = (L.take k).map (fun c => c.s.name) ++ [L[k].s.name]) := by unfold Hid;rw [take_snoc _ k hkl,List.map_append];rfl
   have hsz := hbel.size
   clear hx hy
   generalize L[k] = c at *
   have hba := hbel.alloc hbel.size (.cells #[.string c.s.name,.int .i64 c.s.depth,.int .i64 c.s.low,.int .i64 c.s.high,.int .i64 c.s.len,.slice c.al c.s.lines.length c.cl,.int .i64 c.s.pipe,.int .i64 c.s.arbor,.int .i64 c.s.purch,.int .i64 c.s.most,.int .i64 c.s.brake,.slice c.ai c.s.items.length c.ci,.slice c.ab c.s.bricks.length c.cb] 26)
   have hown1 := own_belowL hown ((Below.refl _ wr).alloc (Nat.le_refl _) (.cells #[.string c.s.name,.int .i64 c.s.depth,.int .i64 c.s.low,.int .i64 c.s.high,.int .i64 c.s.len,.slice c.al c.s.lines.length c.cl,.int .i64 c.s.pipe,.int .i64 c.s.arbor,.int .i64 c.s.purch,.int .i64 c.s.most,.int .i64 c.s.brake,.slice c.ai c.s.items.length c.ci,.slice c.ab c.s.bricks.length c.cb] 26))
   clear hown
   go_wp2_with (at_builtin;refine wpList_push _ rfl (.tmp 17) (.tmp 20) 58 rfl w.heap.size 9 info_strL Tryz.underlying58 rfl _ k _ rfl hown1 (.string c.s.name) rfl (congrArg (fun n => Value.slice (some ⟨n,0,none⟩) 1 1) (World.size_alloc wr _).symm) (by unfold maxLen;omega) (by omega) (by rw [World.size_alloc];omega) ?_;intro g3 cap3 w3 hown3 hgrow3 hbg hgg)
   have hown4 : w3.ownsRow w.heap.size 9 1 (.slice (some ⟨g3,0,none⟩) (k + 1) cap3) (k + 1) (((L.take (k + 1)).map fun c => c.s.name).map Value.string) := by rw [HN.out,List.map_append];exact hown3
   have hb3 := hba.grown hgrow3 hba.size (fun k hk => (hown1.lt k hk).1)
   clear hown3 hgrow3 hgg hown1 HN y0 y1 y2 y3 y4 y5 y6 y7 y8 y9 y10 y11 y12 hbel hba
   go_roundw
   case rel => exact ⟨k + 1,by omega,by go_num,hb3,hown4⟩
   case measure => simp [intOf];omega
  ·obtain rfl : k = L.length := by omega
   rw [List.take_length] at hown
   go_wp2_with fail
   go_ret
   exact ⟨hbel,_,rfl,by rw [HNL.out,HLen.out];exact hown⟩
end Go.Proofs.YtbhmkcjddpniiaaGreatDoor

namespace Go.Proofs.YtbhmkcjddpniiaaGreatDoor
open Go.RowKit Go.Shelf
theorem info_sets : (Tryz.prog.info? 66).map (fun i => (i.zero,i.size,i.bytes)) = some (some (.slice none 0 0),1,24) := by kernel_rfl
section
variable {w w' : World} {B D : Nat} {M M' : Nat → Prop} {st : St} {r : StR}
theorem own_type {t : TypeId} {s n : Nat} {v : Value} {xs : List Value} {b : Nat} (h : w.ownsRow b t s v n xs) {g : Nat} (hg : v.ownBlock = some g) : ∃ cs,w.heap[g]? = some (.cells cs t (0,0)) := by
 rcases h.2 with ⟨rfl,_⟩ | ⟨g',cap,cur,rfl,_,hh,_⟩
 ·simp [Value.ownBlock] at hg
 ·obtain rfl : g' = g := by simpa [Value.ownBlock] using hg
  exact ⟨_,hh⟩
theorem StoreAt.ext (h : StoreAt w B D M st r) (hs : ∀ g,M g → M' g) (hlt : ∀ g,M' g → g < w.heap.size) (hD : ¬ M' D) (hp : ∀ g,r.pv.ownBlock = some g → ¬ M' g) (hm : ∀ g,r.mv = .map (some g) → ¬ M' g) : StoreAt w B D M' st r := by
 refine ⟨h.blk,h.base,hD,hlt,h.sets.sub hs,h.setsE,h.own,hp,fun q hq => (h.past q hq).sub hs,h.pastE,?_⟩
 rcases h.known with k | ⟨b,F,h1,h2,h3,h4,h5,h6⟩
 ·exact .inl k
 ·exact .inr ⟨b,F,h1,h2,hm b h1,h4,h5,fun x hx => let ⟨v,e1,e2⟩ := h6 x hx;⟨v,e1,e2.sub hs⟩⟩
theorem StoreAt.more (h : StoreAt w B D M st r) (hb : Below w.heap.size w w') (hs : ∀ g,M g → M' g) (hn : ∀ g,M' g → M g ∨ w.heap.size ≤ g) (hlt : ∀ g,M' g → g < w'.heap.size) : StoreAt w' B D M' st r := by
 have no : ∀ g,g < w.heap.size → ¬ M g → ¬ M' g := fun g hg hm hm' => by
  rcases hn g hm' with h1 | h1
  ·exact hm h1
  ·omega
 refine (h.below hb).ext hs hlt (no D h.blk.lt h.notM) (fun g hg => no g (h.own.lt g hg).2 (h.ownM g hg)) fun g hg => ?_
 rcases h.known with ⟨k,_⟩ | ⟨b,F,h1,h2,h3,h4,_⟩
 ·rw [k] at hg;cases hg
 ·rw [h1] at hg
  obtain rfl : b = g := by simpa using hg
  exact no b h4.lt h3
theorem store_become {w3 : World} {lv pv' : Value} {L2 : List SetC} (h : StoreAt w B D M st r) (hl : SetsM w M lv L2)
  (hown : w3.ownsRow B 66 1 pv' (r.P.length + 1) (r.P.map Prod.fst ++ [r.sv])) (hg : w.grownBy w3 r.pv.ownBlock) (hgg : ∀ g,pv'.ownBlock = some g → r.pv.ownBlock = some g ∨ w.heap.size ≤ g) :
  StoreAt ((w3.setCell ⟨D,1,none⟩ pv').setCell ⟨D,0,none⟩ lv) B D M { st with sets := L2.map SetC.s,past := st.past ++ [st.sets] } ⟨lv,L2,pv',r.P ++ [(r.sv,r.L)],r.mv⟩ ∧
   ChgS B w ((w3.setCell ⟨D,1,none⟩ pv').setCell ⟨D,0,none⟩ lv) := by
 have hpt := fun g (e : r.pv.ownBlock = some g) => own_type h.own e
 have hDne : some D ≠ r.pv.ownBlock := fun e => by
  obtain ⟨cs,hc⟩ := hpt D e.symm
  have := h.blk
  unfold Blk at this
  rw [this] at hc
  injection hc with hc
  injection hc with _ hc _
  exact absurd hc (by decide)
 have b3 : Blk w3 D 76 #[r.sv,r.pv,r.mv,.int .i64 (st.work : Int)] := h.blk.kept hg hDne
 have b4 := (b3.set_ 1 pv').set_ 0 lv
 have hgD : ∀ g,pv'.ownBlock = some g → g ≠ D := fun g e hgD => by
  obtain ⟨cs,hc⟩ := own_type hown e
  have := b3
  unfold Blk at this
  rw [hgD,this] at hc
  injection hc with hc
  injection hc with _ hc _
  exact absurd hc (by decide)
 have hG : w3.grownBy ((w3.setCell ⟨D,1,none⟩ pv').setCell ⟨D,0,none⟩ lv) (some D) := grown_trans (setG_grownB w3 D 1 pv') (setG_grownB _ D 0 lv)
 have same : ∀ g,g < w.heap.size → r.pv.ownBlock ≠ some g → g ≠ D → ((w3.setCell ⟨D,1,none⟩ pv').setCell ⟨D,0,none⟩ lv).heap[g]? = w.heap[g]? := fun g hlt h1 h2 =>
  (hG.block g (Nat.lt_of_lt_of_le hlt hg.size) (fun e => h2 (by simpa using e))).trans (hg.block g hlt (fun e => h1 e.symm))
 have hsz : w.heap.size ≤ ((w3.setCell ⟨D,1,none⟩ pv').setCell ⟨D,0,none⟩ lv).heap.size := Nat.le_trans hg.size hG.size
 have hk : KeepM M w ((w3.setCell ⟨D,1,none⟩ pv').setCell ⟨D,0,none⟩ lv) := ⟨hsz,fun g hm hlt => same g hlt (fun e => h.ownM g e hm) (fun e => h.notM (e ▸ hm))⟩
 constructor
 ·refine ⟨b4,h.base,h.notM,fun g hm => Nat.lt_of_lt_of_le (h.lt g hm) hsz,hl.kept hk,rfl,?_,?_,?_,?_,?_⟩
  ·show World.ownsRow _ B _ 1 pv' (r.P ++ [(r.sv,r.L)]).length ((r.P ++ [(r.sv,r.L)]).map Prod.fst)
   rw [List.length_append,List.map_append]
   exact own_same hown fun g e => hG.block g (by obtain ⟨cs,hc⟩ := own_type hown e;exact (Array.getElem?_eq_some_iff.1 hc).1) (fun e' => hgD g e (by simpa using e'))
  ·intro g e hm
   rcases hgg g e with h1 | h1
   ·exact h.ownM g h1 hm
   ·have := h.lt g hm
    omega
  ·intro q hq
   rcases List.mem_append.1 hq with hq | hq
   ·exact (h.past q hq).kept hk
   ·rw [List.mem_singleton] at hq
    subst hq
    exact h.sets.kept hk
  ·show (r.P ++ [(r.sv,r.L)]).map (fun q => q.2.map SetC.s) = st.past ++ [st.sets]
   rw [List.map_append,h.pastE,List.map_cons,List.map_nil,h.setsE]
  ·refine h.known.kept hk fun g hg' => ?_
   rcases h.known with ⟨k,_⟩ | ⟨b,F,h1,h2,h3,h4,_⟩
   ·rw [k] at hg';cases hg'
   ·rw [h1] at hg'
    obtain rfl : b = g := by simpa using hg'
    have hbl := h4.lt
    obtain ⟨D',⟨es,clock,hb0,_⟩,_⟩ := h4
    refine same b hbl (fun e => ?_) (fun e => ?_)
    ·obtain ⟨cs,hc⟩ := hpt b e
     rw [hb0] at hc
     cases hc
    ·have := h.blk
     unfold Blk at this
     rw [← e,hb0] at this
     cases this
 ·refine ⟨?_,fun g cs t f hc h1 h2 => same g (Array.getElem?_eq_some_iff.1 hc).1 (fun e => ?_) (fun e => ?_)⟩
  ·exact ((Below.refl B w).grown hg (Nat.le_trans h.base (Nat.le_of_lt h.blk.lt)) (fun k e => (h.own.lt k e).1)).grown hG (Nat.le_trans (Nat.le_trans h.base (Nat.le_of_lt h.blk.lt)) hg.size) (fun k e => by have e1 : D = k := (by simpa using e);have := h.base;omega)
  ·obtain ⟨cs',hc'⟩ := hpt g e
   rw [hc] at hc'
   injection hc' with hc'
   injection hc' with _ hc' _
   exact h2 hc'
  ·have := h.blk
   unfold Blk at this
   rw [← e,hc] at this
   injection this with this
   injection this with _ this _
   exact h1 this
end
theorem step_appV {ops : Array Oper} {o : Oper} {a : Act} {w : World} {K : Act → World → Prop} {Q : Exit → Act → World → Prop} {E : Prop} (hgd : o.guard = none) (s x : Operand)
  (ho : o.op = .call { callee := .builtin .append,args := #[s,x],argTypes := #[67,67] }) {B m : Nat} {v : Value} {xs : List Value} (T : w.ownsRow B 66 1 v m xs) (hB : B ≤ w.heap.size) {t : Value} {a1 : Nat} (N : Blk w a1 66 #[t]) (ht : t.oneCell' = true)
  (hs : a.eval s = v) (hx : a.eval x = .slice (some ⟨a1,0,none⟩) 1 1) (hlen : m ≤ 1000)
  (h : ∀ g cap w',w'.ownsRow B 66 1 (.slice (some ⟨g,0,none⟩) (m + 1) cap) (m + 1) (xs ++ [t]) → w.grownBy w' v.ownBlock → (v.ownBlock = some g ∨ g = w.heap.size) → K (a.put o.dst (.slice (some ⟨g,0,none⟩) (m + 1) cap)) w') :
  if Region.wanted o (yielded ops a.tmps) = true then Oper.wp Tryz.prog o a w K Q else E := by
 obtain ⟨i0,hi0,hz0,hz1,hz2⟩ := info_parts info_sets
 refine step_append_lies w hgd s x 67 ho B 66 i0 _ 1 24 Tryz.underlying67 hi0 hz0 hz1 hz2 rfl (by decide) v m xs hs T ⟨a1,0,none⟩ 1 1 [t] hx rfl
  (fun j u hu => by rw [Addr.add_lit,Nat.zero_add];exact (N.cell j).trans (by simpa using hu)) (fun u hu => by rw [List.mem_singleton.1 hu];exact ht) (by omega) (by unfold maxLen;omega) (by omega) hB _ rfl ?_
 intro g cap w' hown hgrow hg _
 exact h g cap w' hown hgrow hg
def BecomePost (B D : Nat) (M : Nat → Prop) (st : St) (l : List SetT) (w : World) (e : Ending) (w' : World) : Prop :=
 e = .returned (.tuple #[]) ∧ ChgS B w w' ∧ ∃ r',StoreAt w' B D M { st with sets := l,past := st.past ++ [st.sets] } r'
set_option maxRecDepth 100000 in
set_option maxHeartbeats 4000000 in
theorem stBecome (B D : Nat) (M : Nat → Prop) (st : St) (r : StR) (lv : Value) (L2 : List SetC) (w : World) (h : StoreAt w B D M st r) (hl : SetsM w M lv L2) (hp : st.past.length ≤ 1000) :
  Calls Tryz.prog 82 #[.pointer (some ⟨D,0,none⟩),lv] w (BecomePost B D M st (L2.map SetC.s) w) := by
 have hd0 := h.blk.cell 0
 have hd1 := h.blk.cell 1
 simp only [List.getElem?_toArray,List.getElem?_cons_succ,List.getElem?_cons_zero] at hd0 hd1
 have hDl := h.blk.lt
 have hPl : r.P.length ≤ 1000 := by
  have := congrArg List.length h.pastE
  rw [List.length_map] at this
  omega
 obtain ⟨A2,c2,el⟩ : ∃ A c,lv = .slice A L2.length c := let ⟨A,c,e,_⟩ := hl.1;⟨A,c,e⟩
 obtain ⟨A3,c3,es⟩ : ∃ A c,r.sv = .slice A r.L.length c := let ⟨A,c,e,_⟩ := h.sets.1;⟨A,c,e⟩
 obtain ⟨A4,c4,ep⟩ := own_formB h.own
 have HS := Lib.hid h
 have HLv := Lib.hid hl
 have Hel := Lib.hid el
 have Hes := Lib.hid es
 have Hep := Lib.hid ep
 rw [es] at hd0
 rw [ep] at hd1
 clear h hl hp es ep
 subst el
 go_enter Tryz.func82,Tryz.ntmps82
 have hba := ((Below.refl w.heap.size w).alloc (Nat.le_refl _) (.cells #[.slice A3 r.L.length c3] 66)).drew
 have HS1 := Lib.hid (HS.out.below hba)
 have HLv1 := Lib.hid (HLv.out.kept (KeepM.of_below hba))
 have HCh : Hid (∀ w',ChgS B (w.alloc (.cells #[.slice A3 r.L.length c3] 66)).drew w' → ChgS B w w') := fun w' hc => (ChgS.of_below hba (Nat.le_trans HS.out.base (Nat.le_of_lt HS.out.blk.lt))).trans hc
 have HOw : Hid ((w.alloc (.cells #[.slice A3 r.L.length c3] 66)).drew.ownsRow B 66 1 (.slice A4 r.P.length c4) r.P.length (r.P.map Prod.fst)) := by
  have := HS1.out.own
  rw [Hep.out] at this
  exact this
 have HNw : Hid (Blk (w.alloc (.cells #[.slice A3 r.L.length c3] 66)).drew w.heap.size 66 #[.slice A3 r.L.length c3]) := Blk.new w _ _
 have hBs := Nat.le_trans HS.out.base (Nat.le_of_lt (Nat.lt_of_lt_of_le HS.out.blk.lt hba.size))
 have q0 := fun o => (HS.out.blk.alloc o).cell 0
 have q1 := fun o => (HS.out.blk.alloc o).cell 1
 simp only [List.getElem?_toArray,List.getElem?_cons_succ,List.getElem?_cons_zero] at q0 q1
 rw [Hes.out] at q0
 rw [Hep.out] at q1
 have HStore : Hid (∀ wz,(w.alloc (.cells #[.slice A3 r.L.length c3] 66)).drew.grownBy wz (Value.slice A4 r.P.length c4).ownBlock → Blk wz D 76 #[r.sv,r.pv,r.mv,.int .i64 (st.work : Int)]) := fun wz hg => HS1.out.blk.kept hg (HS1.out.blk.ne_own HOw.out (by decide))
 have HFin : Hid (∀ wz g3 cap3,wz.ownsRow B 66 1 (.slice (some ⟨g3,0,none⟩) (r.P.length + 1) cap3) (r.P.length + 1) (r.P.map Prod.fst ++ [.slice A3 r.L.length c3]) → (w.alloc (.cells #[.slice A3 r.L.length c3] 66)).drew.grownBy wz (Value.slice A4 r.P.length c4).ownBlock →
   ((Value.slice A4 r.P.length c4).ownBlock = some g3 ∨ g3 = (w.alloc (.cells #[.slice A3 r.L.length c3] 66)).drew.heap.size) →
   BecomePost B D M st (L2.map SetC.s) w (.returned (.tuple #[])) ((wz.setCell ⟨D,1,none⟩ (.slice (some ⟨g3,0,none⟩) (r.P.length + 1) cap3)).setCell ⟨D,0,none⟩ (.slice A2 L2.length c2))) := fun wz g3 cap3 ho hg hgg => by
  rw [← Hes.out] at ho
  rw [← Hep.out] at hg hgg
  have hfin := store_become HS1.out HLv1.out ho hg (fun g e => by
   obtain rfl : g3 = g := by simpa [Value.ownBlock] using e
   rcases hgg with h1 | h1
   ·exact .inl h1
   ·exact .inr (Nat.le_of_eq h1.symm))
  exact ⟨rfl,HCh.out _ hfin.2,_,hfin.1⟩
 clear HS HS1 HLv HLv1 HCh Hel Hes Hep hba
 go_wp2_with fail
 go_region_law (refine step_appV rfl (.tmp 8) (.tmp 13) rfl HOw.out hBs HNw.out rfl (by go_simp) (by go_simp) hPl ?_;intro g3 cap3 wz hoz hgz hgg;have HPz := Lib.hid (HFin.out wz g3 cap3 hoz hgz hgg);have HBz := Lib.hid (HStore.out wz hgz);have cz := HBz.out.cell 1;have fz := HBz.out.frozen 1;simp only [List.getElem?_toArray,List.getElem?_cons_succ,List.getElem?_cons_zero] at cz;clear hoz hgz hgg)
 all_goals
  have b1 := HBz.out.set_ 1 (.slice (some ⟨g3,0,none⟩) (r.P.length + 1) cap3)
  have c0 := b1.cell 0
  have f0 := b1.frozen 0
  simp only [List.setIfInBounds_toArray,List.set_cons_zero,List.set_cons_succ] at c0
  simp only [List.getElem?_toArray,List.getElem?_cons_zero] at c0
  clear q0 q1 cz fz b1 HBz HStore HFin HOw HNw hd0 hd1
  go_simp
  go_wp2_with fail
  refine bodyPost_end (results_none rfl _ _ _) rfl ?_
  exact HPz.out
end Go.Proofs.YtbhmkcjddpniiaaGreatDoor

namespace Go.Proofs.YtbhmkcjddpniiaaGreatDoor
open Go.RowKit Go.Shelf
section
variable {w w' : World} {B D : Nat} {M : Nat → Prop} {st : St} {r : StR}
theorem own_one {w : World} {b t n : Nat} {v : Value} {xs : List Value} {u : Value} (h : w.ownsRow b t 1 v (n + 1) (xs ++ [u])) (hn : xs.length = n) : ∃ g c,v = .slice (some ⟨g,0,none⟩) (n + 1) c ∧ n + 1 ≤ c ∧ c ≤ maxLen ∧ w.cell? ⟨g,n,none⟩ = some u ∧ g < w.heap.size := by
 rcases h.2 with ⟨_,h0⟩ | ⟨g,cap,cur,rfl,hb,hh,h1,h2,h3,h4⟩
 ·exact absurd h0 (by omega)
 ·refine ⟨g,cap,rfl,h1,h2,?_,(Array.getElem?_eq_some_iff.1 hh).1⟩
  have := h.cells (g := g) (by simp [Value.ownBlock]) n u (by rw [List.getElem?_append_right (by omega)];simp [hn])
  rw [Addr.add_lit,Nat.zero_add] at this
  exact this
theorem store_undo {P' : List (Value × List SetC)} {q : Value × List SetC} {g c : Nat} (h : StoreAt w B D M st r) (hP : r.P = P' ++ [q]) (hv : r.pv = .slice (some ⟨g,0,none⟩) (P'.length + 1) c) :
  StoreAt ((w.setCell ⟨D,0,none⟩ q.1).setCell ⟨D,1,none⟩ (.slice (some ⟨g,0,none⟩) P'.length c)) B D M { st with sets := q.2.map SetC.s,past := P'.map fun q => q.2.map SetC.s } ⟨q.1,q.2,.slice (some ⟨g,0,none⟩) P'.length c,P',r.mv⟩ ∧
   ChgS B w ((w.setCell ⟨D,0,none⟩ q.1).setCell ⟨D,1,none⟩ (.slice (some ⟨g,0,none⟩) P'.length c)) := by
 have b4 := (h.blk.set_ 0 q.1).set_ 1 (.slice (some ⟨g,0,none⟩) P'.length c)
 have hG : w.grownBy ((w.setCell ⟨D,0,none⟩ q.1).setCell ⟨D,1,none⟩ (.slice (some ⟨g,0,none⟩) P'.length c)) (some D) := grown_trans (setG_grownB w D 0 _) (setG_grownB _ D 1 _)
 have same : ∀ g',g' < w.heap.size → g' ≠ D → ((w.setCell ⟨D,0,none⟩ q.1).setCell ⟨D,1,none⟩ (.slice (some ⟨g,0,none⟩) P'.length c)).heap[g']? = w.heap[g']? := fun g' hlt h2 => hG.block g' hlt (fun e => h2 (by simpa using e))
 have hk : KeepM M w ((w.setCell ⟨D,0,none⟩ q.1).setCell ⟨D,1,none⟩ (.slice (some ⟨g,0,none⟩) P'.length c)) := ⟨hG.size,fun g' hm hlt => same g' hlt (fun e => h.notM (e ▸ hm))⟩
 have hown := h.own
 rw [hP,hv,List.map_append,List.length_append] at hown
 have hgD : g ≠ D := fun e => by
  obtain ⟨cs,hc⟩ := own_type hown (g := g) (by simp [Value.ownBlock])
  have := h.blk
  unfold Blk at this
  rw [e,this] at hc
  injection hc with hc
  injection hc with _ hc _
  exact absurd hc (by decide)
 have hq : q ∈ r.P := by rw [hP];simp
 constructor
 ·refine ⟨b4,h.base,h.notM,fun g' hm => Nat.lt_of_lt_of_le (h.lt g' hm) hG.size,(h.past q hq).kept hk,rfl,?_,?_,?_,rfl,?_⟩
  ·exact own_same (own_pop (by rw [List.length_map]) hown) fun g' e => by
    obtain rfl : g = g' := by simpa [Value.ownBlock] using e
    exact same g (hown.lt g (by simp [Value.ownBlock])).2 hgD
  ·intro g' e
   exact h.ownM g' (by rw [hv];simpa [Value.ownBlock] using e)
  ·intro q' hq'
   exact (h.past q' (by rw [hP];simp [hq'])).kept hk
  ·refine h.known.kept hk fun g' hg' => ?_
   rcases h.known with ⟨k,_⟩ | ⟨b,F,h1,h2,h3,h4,_⟩
   ·rw [k] at hg';cases hg'
   ·rw [h1] at hg'
    obtain rfl : b = g' := by simpa using hg'
    have hbl := h4.lt
    obtain ⟨D',⟨es,clock,hb0,_⟩,_⟩ := h4
    refine same b hbl (fun e => ?_)
    have := h.blk
    unfold Blk at this
    rw [← e,hb0] at this
    cases this
 ·refine ⟨(Below.refl B w).grown hG (Nat.le_trans h.base (Nat.le_of_lt h.blk.lt)) (fun k e => by have e1 : D = k := (by simpa using e);have := h.base;omega),fun g' cs t f hc h1 h2 => same g' (Array.getElem?_eq_some_iff.1 hc).1 (fun e => ?_)⟩
  have := h.blk
  unfold Blk at this
  rw [← e,hc] at this
  injection this with this
  injection this with _ this _
  exact h1 this
end
def UndoPost (B D : Nat) (M : Nat → Prop) (st : St) (w : World) (e : Ending) (w' : World) : Prop :=
 e = .returned (.int .i64 (undoSt st).1) ∧ ChgS B w w' ∧ ∃ r',StoreAt w' B D M (undoSt st).2 r'
set_option maxRecDepth 100000 in
set_option maxHeartbeats 4000000 in
theorem stUndo (B D : Nat) (M : Nat → Prop) (st : St) (r : StR) (w : World) (h : StoreAt w B D M st r) (hp : st.past.length ≤ 1000) :
  Calls Tryz.prog 41 #[.pointer (some ⟨D,0,none⟩)] w (UndoPost B D M st w) := by
 have hd1 := h.blk.cell 1
 simp only [List.getElem?_toArray,List.getElem?_cons_succ,List.getElem?_cons_zero] at hd1
 have hDl := h.blk.lt
 have hPl : r.P.length = st.past.length := by rw [← h.pastE,List.length_map]
 rcases List.eq_nil_or_concat r.P with h0 | ⟨P',q,hP⟩
 ·have e0 : undoSt st = (14,st) := by
   unfold undoSt
   rw [if_pos]
   have : st.past.length = 0 := by rw [← hPl,h0];rfl
   exact List.length_eq_zero_iff.1 this
  obtain ⟨A4,c4,ep⟩ := own_formB h.own
  rw [ep,h0] at hd1
  have HFin : Hid (UndoPost B D M st w (.returned (.int .i64 14)) w) := ⟨by rw [e0],ChgS.refl B w,r,by rw [e0];exact h⟩
  clear h h0 hp hPl ep e0
  go_enter Tryz.func41,Tryz.ntmps41
  go_wp2_with fail
  go_ret
  exact HFin.out
 ·rw [List.concat_eq_append] at hP
  have hown := h.own
  rw [hP,List.map_append,List.length_append] at hown
  obtain ⟨g,c,ev,hc1,hc2,hcell,hgl⟩ := own_one hown (by rw [List.length_map])
  have hq : SetsM w M q.1 q.2 := h.past q (by rw [hP];simp)
  obtain ⟨A5,c5,e5⟩ : ∃ A c,q.1 = .slice A q.2.length c := let ⟨A,c,e,_⟩ := hq.1;⟨A,c,e⟩
  rw [ev] at hd1
  have e0 : undoSt st = (0,{ st with sets := q.2.map SetC.s,past := P'.map fun q => q.2.map SetC.s }) := by
   have ep := h.pastE
   rw [hP,List.map_append,List.map_cons,List.map_nil] at ep
   unfold undoSt
   rw [if_neg (by rw [← ep];simp),← ep]
   simp
  have hd := (Below.refl w.heap.size w).drew
  have hS := store_undo (h.below hd) hP ev
  have HFin : Hid (UndoPost B D M st w (.returned (.int .i64 0)) ((w.drew.setCell ⟨D,0,none⟩ q.1).setCell ⟨D,1,none⟩ (.slice (some ⟨g,0,none⟩) P'.length c))) := ⟨by rw [e0],(ChgS.of_below hd (Nat.le_trans h.base (Nat.le_of_lt h.blk.lt))).trans hS.2,_,by rw [e0];exact hS.1⟩
  clear hS hd
  rw [e5] at HFin hcell
  have hb0 := h.blk.cell 0
  have hf0 := h.blk.frozen 0
  have hf1 := h.blk.frozen 1
  simp only [List.getElem?_toArray,List.getElem?_cons_zero] at hb0
  have hn : P'.length ≤ 1000 := by
   rw [hP,List.length_append] at hPl
   simp at hPl
   omega
  unfold maxLen at hc2
  have hgD : g ≠ D := fun e => by
   obtain ⟨cs,hc⟩ := own_type hown (g := g) (by rw [ev];simp [Value.ownBlock])
   have := h.blk
   unfold Blk at this
   rw [e,this] at hc
   injection hc with hc
   injection hc with _ hc _
   exact absurd hc (by decide)
  have HBlk := Lib.hid h.blk
  clear h hP hp hPl hown hq e5 e0 ev
  generalize P'.length = n at *
  have v1 : ((n + 1 : Nat) : Int) - 1 = (n : Int) := by omega
  go_enter Tryz.func41,Tryz.ntmps41
  have n0 : (0 : Int) ≤ (n : Int) := Int.natCast_nonneg _
  have n1 : (n : Int) < (n : Int) + 1 := by omega
  have n2 : n ≤ c := by omega
  go_wp2_with fail
  have b1 := HBlk.out.set_ 0 (.slice A5 q.2.length c5)
  have c1 := b1.cell 1
  have f1 := b1.frozen 1
  simp only [List.setIfInBounds_toArray,List.set_cons_zero] at c1
  simp only [List.getElem?_toArray,List.getElem?_cons_succ,List.getElem?_cons_zero] at c1
  go_region_law (fail)
  all_goals
   clear b1 c1 f1 HBlk hd1 hb0 hf0 hf1 hcell
   go_simp
   go_wp2_with fail
   go_ret
   exact HFin.out
end Go.Proofs.YtbhmkcjddpniiaaGreatDoor

namespace Go.Proofs.YtbhmkcjddpniiaaGreatDoor
open Go.RowKit Go.Shelf
theorem info_setc : (Tryz.prog.info? 26).map (fun i => (i.zero,i.size,i.bytes)) = some (some (.agg #[.string ⟨#[]⟩,.int .i64 0,.int .i64 0,.int .i64 0,.int .i64 0,.slice none 0 0,.int .i64 0,.int .i64 0,.int .i64 0,.int .i64 0,.int .i64 0,.slice none 0 0,.slice none 0 0]),13,160) := by kernel_rfl
theorem info_fracc : (Tryz.prog.info? 57).map (fun i => (i.zero,i.size,i.bytes)) = some (some (.agg #[.int .i64 0,.int .i64 0]),2,16) := by kernel_rfl
theorem setc_one (x : SetC) : ∀ u ∈ x.cells,u.oneCell' = true := fun u hx => by
 simp only [SetC.cells,List.mem_cons,List.not_mem_nil,or_false] at hx
 rcases hx with rfl | rfl | rfl | rfl | rfl | rfl | rfl | rfl | rfl | rfl | rfl | rfl | rfl <;> rfl
theorem flatOneSet (l : List SetC) : ∀ u ∈ l.flatMap SetC.cells,u.oneCell' = true := fun u hu => by
 obtain ⟨x,_,hx⟩ := List.mem_flatMap.1 hu
 exact setc_one x u hx
theorem flatOneFrac (l : List FrT) : ∀ u ∈ l.flatMap FrT.cells,u.oneCell' = true := fun u hu => by
 obtain ⟨x,_,hx⟩ := List.mem_flatMap.1 hu
 simp only [FrT.cells,List.mem_cons,List.not_mem_nil,or_false] at hx
 rcases hx with rfl | rfl <;> rfl
set_option maxHeartbeats 1000000 in
theorem cloneSet (v : Value) (l : List SetC) (w : World) (hl : SetsAt w w.heap.size v l) (hlen : l.length ≤ 1000000) :
  Calls Tryz.prog 80 #[v] w fun e w' => ∃ v',e = .returned v' ∧ w'.ownsRow w.heap.size 26 13 v' l.length (l.flatMap SetC.cells) ∧ Below w.heap.size w w' := by
 have HL := Lib.hid hl
 obtain ⟨A,c,rfl,hc1,hc2,hcell⟩ := hl.open_
 clear hl
 cases A with
 | none =>
  have hl0 : l = [] := by
   cases l with
   | nil => rfl
   | cons x r => obtain ⟨b,off,e,_⟩ := hcell 0 (by simp);cases e
  subst hl0
  have heq := fun W => Lib.run_eql_slice_nil (P := Tryz.prog) W 66 26 none 0 c 0 0 Tryz.underlying66
  clear hcell
  go_enter Tryz.func80,Tryz.ntmps80
  go_wp2
  go_ret
  exact ⟨_,rfl,World.ownsRow_nil _ _ _ _,Below.refl _ _⟩
 | some ad =>
  have heq := fun W => Lib.run_eql_slice_nil (P := Tryz.prog) W 66 26 (some ad) l.length c 0 0 Tryz.underlying66
  clear hcell
  go_enter Tryz.func80,Tryz.ntmps80
  go_wp2_with (at_builtin;refine wpList_appendAll _ rfl (.tmp 5) (.tmp 6) 66 rfl w.heap.size 26 info_setc Tryz.underlying66 rfl (by decide) (.slice (some ⟨w.heap.size,0,none⟩) 0 0) 0 [] rfl (World.ownsRow_made w #[] 0 (Nat.le_refl _) (Nat.zero_le _) rfl) w.heap.size l.length (.slice (some ad) l.length c) (l.flatMap SetC.cells) rfl (SetsAt.below HL.out ((Below.refl _ _).alloc (Nat.le_refl _) _) (Nat.le_refl _)) (flatLen SetC.cells 13 (fun _ => rfl) l) (flatOneSet l) (by unfold maxLen;omega) (by omega) (by simp) ?_;intro v1 w1 hown1 hg1 hat1)
  go_ret
  refine ⟨_,rfl,by simpa using hown1,?_⟩
  exact ((Below.refl w.heap.size w).alloc (Nat.le_refl _) _).grown hg1 (by simp) (fun k hk => by simp [Value.ownBlock] at hk;omega)
set_option maxHeartbeats 1000000 in
theorem cloneFrac (v : Value) (l : List FrT) (w : World) (hl : FrsAt w w.heap.size v l) (hlen : l.length ≤ 1000000) :
  Calls Tryz.prog 84 #[v] w fun e w' => ∃ v',e = .returned v' ∧ w'.ownsRow w.heap.size 57 2 v' l.length (l.flatMap FrT.cells) ∧ Below w.heap.size w w' := by
 have HL := Lib.hid hl
 obtain ⟨A,c,rfl,hc1,hc2,hcell⟩ := hl.open_
 clear hl
 cases A with
 | none =>
  have hl0 : l = [] := by
   cases l with
   | nil => rfl
   | cons x r => obtain ⟨b,off,e,_⟩ := hcell 0 (by simp);cases e
  subst hl0
  have heq := fun W => Lib.run_eql_slice_nil (P := Tryz.prog) W 53 57 none 0 c 0 0 Tryz.underlying53
  clear hcell
  go_enter Tryz.func84,Tryz.ntmps84
  go_wp2
  go_ret
  exact ⟨_,rfl,World.ownsRow_nil _ _ _ _,Below.refl _ _⟩
 | some ad =>
  have heq := fun W => Lib.run_eql_slice_nil (P := Tryz.prog) W 53 57 (some ad) l.length c 0 0 Tryz.underlying53
  clear hcell
  go_enter Tryz.func84,Tryz.ntmps84
  go_wp2_with (at_builtin;refine wpList_appendAll _ rfl (.tmp 5) (.tmp 6) 53 rfl w.heap.size 57 info_fracc Tryz.underlying53 rfl (by decide) (.slice (some ⟨w.heap.size,0,none⟩) 0 0) 0 [] rfl (World.ownsRow_made w #[] 0 (Nat.le_refl _) (Nat.zero_le _) rfl) w.heap.size l.length (.slice (some ad) l.length c) (l.flatMap FrT.cells) rfl (FrsAt.below HL.out ((Below.refl _ _).alloc (Nat.le_refl _) _) (Nat.le_refl _)) (flatLen FrT.cells 2 (fun _ => rfl) l) (flatOneFrac l) (by unfold maxLen;omega) (by omega) (by simp) ?_;intro v1 w1 hown1 hg1 hat1)
  go_ret
  refine ⟨_,rfl,by simpa using hown1,?_⟩
  exact ((Below.refl w.heap.size w).alloc (Nat.le_refl _) _).grown hg1 (by simp) (fun k hk => by simp [Value.ownBlock] at hk;omega)
end Go.Proofs.YtbhmkcjddpniiaaGreatDoor
