/- Parts of the proof, laid into one text: LawFollow, OpenAct. -/
import Derived.Below
import Derived.BigQuiet
import Derived.ChangeSame
import Derived.Deep.AppendLies
import Derived.Deep.Cut
import Derived.Deep.Draws
import Derived.Deep.Fields
import Derived.Deep.LoopGhost
import Derived.Deep.MidRow
import Derived.Deep.QuietTactic
import Derived.Deep.RegionHeld3
import Derived.Deep.RegionLaw
import Derived.Deep.Slices
import Derived.IntWalk
import Derived.Laws.Bits64b
import Derived.Laws.Concat
import Derived.Laws.EntriesVeiled
import Derived.Lib.AppendIntMem
import Derived.Lib.Hide
import Derived.Lib.ItoaLen
import Derived.Lib.ItoaMem
import Derived.Lib.Join
import Derived.Lib.SliceRun
import Derived.Lib.SmallJoins
import Derived.LoopIn
import Derived.LoopNIn
import Derived.Maps.AppendAt
import Derived.Maps.Own
import Derived.Maps.OwnOps
import Derived.Maps.OwnSet
import Derived.Maps.Views
import Derived.Outline
import Derived.OwnWalkIn
import Derived.PlainAid
import Derived.RangeFuncBox
import Derived.RangeFuncLeaves
import Derived.Shelf.Abstract
import Derived.Shelf.Bits.Mul64
import Derived.Shelf.Strconv.Itoa3
import Derived.Shelf.Strings.Count
import Derived.Shelf.Strings.OnBuilder
import Derived.Shelf.Strings.Prefix
import Derived.SliceStrings
import Derived.StillTail
import Derived.StillTailTactics
import Derived.TacticsInMore
import Derived.Test.YtbhmkcjddpniiaaGreatDoorC1
import Derived.Test.YtbhmkcjddpniiaaGreatDoorC2
import Derived.Test.YtbhmkcjddpniiaaGreatDoorC3
import Derived.Test.YtbhmkcjddpniiaaGreatDoorC4
import Derived.Test.YtbhmkcjddpniiaaGreatDoorC5
import Derived.Test.YtbhmkcjddpniiaaGreatDoorC6
import Derived.Test.YtbhmkcjddpniiaaGreatDoorC7
import Derived.Test.YtbhmkcjddpniiaaGreatDoorD1
import Derived.Test.YtbhmkcjddpniiaaGreatDoorD2
import Derived.Test.YtbhmkcjddpniiaaGreatDoorD3
import Derived.Test.YtbhmkcjddpniiaaGreatDoorD4
import Derived.Test.YtbhmkcjddpniiaaGreatDoorD5
import Derived.Test.YtbhmkcjddpniiaaGreatDoorD6
import Derived.Test.YtbhmkcjddpniiaaGreatDoorD9
import Derived.Test.YtbhmkcjddpniiaaGreatDoorG1
import Derived.Test.YtbhmkcjddpniiaaGreatDoorI1
import Derived.Test.YtbhmkcjddpniiaaGreatDoorI2
import Derived.Test.YtbhmkcjddpniiaaGreatDoorI3
import Derived.Test.YtbhmkcjddpniiaaGreatDoorI5
import Derived.Test.YtbhmkcjddpniiaaGreatDoorI6
import Derived.Test.YtbhmkcjddpniiaaGreatDoorI7
import Derived.Test.YtbhmkcjddpniiaaGreatDoorI8
import Derived.Test.YtbhmkcjddpniiaaGreatDoorI9
import Derived.Test.YtbhmkcjddpniiaaGreatDoorProg
import Derived.WalkKit
import Derived.WalkLawsBesides
import Derived.WalkSpells

namespace Go.Proofs.YtbhmkcjddpniiaaGreatDoor
open Go.RowKit Go.Shelf
theorem get_at {st : St} {nm : ByteArray} {x : SetT} {w w' : World} {e : Ending} (hp : GetPost st nm w e w') (h1 : getS st nm = (x,0)) : Below w.heap.size w w' ∧ ∃ c : SetC,e = .returned (.tuple #[c.val,.int .i64 0]) ∧ c.s = x ∧ OwnC w' w.heap.size c := by
 obtain ⟨hb,c,he,hs,ho⟩ := hp
 rw [h1] at he hs
 exact ⟨hb,c,he,hs,ho⟩
theorem follow_round (st : St) (j : Nat) (hj : j < st.sets.length) : ∃ x,x ∈ st.sets ∧ st.sets[j].name = x.name ∧ getS st x.name = (x,0) ∧ lnS st x.name = (linesOf x,linesErr x) ∧ freshS (linesSt st x.name) x.name = (true,0) ∧ (linesSt st x.name).sets = st.sets := by
 cases hi : idxS st.sets st.sets[j].name with
 | none => exact absurd rfl (idxS_none hi _ (List.getElem_mem hj))
 | some k =>
  obtain ⟨hk,hn,_⟩ := idxS_some hi
  have hg : st.sets[k]? = some st.sets[k] := List.getElem?_eq_getElem hk
  rw [← hn] at hi
  have hS : (linesSt st st.sets[k].name).sets = st.sets := by
   unfold linesSt
   simp only [hi,hg]
   split <;> rfl
  refine ⟨st.sets[k],List.getElem_mem hk,hn.symm,getS_some hi hg,?_,?_,hS⟩
  ·unfold lnS
   simp only [hi,hg]
  ·unfold freshS
   rw [hS]
   simp only [hi,hg]
   have : st.sets[k] ∈ (linesSt st st.sets[k].name).known := by
    unfold linesSt
    simp only [hi,hg]
    split
    ·assumption
    ·exact List.mem_append_right _ (List.mem_singleton.2 rfl)
   rw [decide_eq_true this]
theorem names_cell {w : World} {B n c : Nat} {A : Option Addr} {S : List SetT} (h : w.ownsRow B 9 1 (.slice A n c) n ((S.map SetT.name).map Value.string)) (hn : n = S.length) {j : Nat} (hj : j < S.length) : ∃ b off,A = some ⟨b,off,none⟩ ∧ w.cell? ⟨b,off + j,none⟩ = some (.string S[j].name) := by
 obtain ⟨A',c',e,-,-,h4⟩ := Flat.of_own h
 injection e with e1 _ _
 subst e1
 obtain ⟨b,off,e,-,hc⟩ := h4 (by omega)
 exact ⟨b,off,e,hc j _ (by simp [hj])⟩
theorem OwnC.chg {w w' : World} {B B' : Nat} {c : SetC} (h : OwnC w B c) (hc : ChgS B' w w') : OwnC w' B c := ⟨own_chg h.1 hc (by decide) (by decide),own_chg h.2.1 hc (by decide) (by decide),own_chg h.2.2 hc (by decide) (by decide)⟩
theorem Blk.chg {w w' : World} {g B : Nat} {t : TypeId} {cs : Array Value} (h : Blk w g t cs) (hc : ChgS B w w') (h1 : t ≠ 76) (h2 : t ≠ 66) : Blk w' g t cs := (hc.same g cs t (0,0) h h1 h2).trans h
set_option maxRecDepth 100000 in
set_option maxHeartbeats 8000000 in
theorem lawFollow (v : Value) (L : List ActC) (w : World) (hl : ActsAt w w.heap.size v L) (ht : Tab w) :
  Calls Tryz.prog 7 #[v] w fun e w' => e = .returned (.bool true) ∧ Below w.heap.size w w' := by
 have HT := Lib.hid fun W (hb : Below w.heap.size w W) => ht.below hb
 have HLg := Lib.hid fun W (hb : Below w.heap.size w W) => large49 v L W ((hl.below hb (Nat.le_refl _)).mono hb.size)
 have HAc := Lib.hid fun t (hm : t ∈ L) W (hb : Below w.heap.size w W) => ((hl.2 t hm).1.below hb (Nat.le_refl _)).mono hb.size
 have HNm := Lib.hid fun t (hm : t ∈ L) => (hl.2 t hm).2
 have hAw := lawAwake49 w ht
 obtain ⟨A,c,rfl,hc1,hc2,hcell⟩ := hl.open_
 unfold maxLen at hc2
 have HC := Lib.hid hcell
 clear hcell hl ht
 go_enter Tryz.func7,Tryz.ntmps7
 go_wp2_with fail
 refine hAw.mono ?_
 rintro e w1 ⟨rfl,hb1⟩
 have hLg := HLg.out w1 hb1
 clear HLg hAw
 go_wp2_with fail
 refine hLg.mono ?_
 rintro e w2 ⟨q,rfl,hb2,h12⟩
 have HB2 := Lib.hid (hb1.trans (hb2.mono hb1.size))
 have H12 := Lib.hid h12
 clear hb1 hb2 h12 hLg
 cases q with
 | true =>
  go_wp2_with fail
  go_ret
  exact ⟨rfl,HB2.out⟩
 | false =>
  have HL12 := Lib.hid (H12.out rfl)
  clear H12
  go_wp2_with fail
  refine (stNew w.heap.size w2 HB2.out.size).mono ?_
  rintro e w3 ⟨D,rfl,hb3,hS3⟩
  have HB3 := Lib.hid (HB2.out.trans (hb3.mono HB2.out.size))
  have HS3 := Lib.hid hS3
  clear hb3 hS3 HB2
  go_wp2_with fail
  go_loopw [26] (fun x wr => ∃ (j : Nat) (M : Nat → Prop) (r : StR),j ≤ L.length ∧ x = .int .i64 j ∧ Below w.heap.size w wr ∧ StoreAt wr w.heap.size D M (actsTo L j) r) (fun x _ => L.length - (intOf x).toNat)
  case atStart => exact ⟨0,_,_,Nat.zero_le _,rfl,HB3.out,HS3.out⟩
  case round =>
   obtain ⟨j,M,r,hj,rfl,hbel,hS⟩ := hrel
   by_cases hlt : j < L.length
   ·obtain ⟨b,off,rfl,hb,hcell⟩ := HC.out j hlt
    have h0 := (hbel.cell (p := ⟨b,off + j * 14,none⟩) hb).trans (hcell j hlt 0 _ rfl)
    have h1 := (hbel.cell (p := ⟨b,off + j * 14 + 1,none⟩) hb).trans (hcell j hlt 1 _ rfl)
    have h2 := (hbel.cell (p := ⟨b,off + j * 14 + 2,none⟩) hb).trans (hcell j hlt 2 _ rfl)
    have h3 := (hbel.cell (p := ⟨b,off + j * 14 + 3,none⟩) hb).trans (hcell j hlt 3 _ rfl)
    have h4 := (hbel.cell (p := ⟨b,off + j * 14 + 4,none⟩) hb).trans (hcell j hlt 4 _ rfl)
    have h5 := (hbel.cell (p := ⟨b,off + j * 14 + 5,none⟩) hb).trans (hcell j hlt 5 _ rfl)
    have h6 := (hbel.cell (p := ⟨b,off + j * 14 + 6,none⟩) hb).trans (hcell j hlt 6 _ rfl)
    have h7 := (hbel.cell (p := ⟨b,off + j * 14 + 7,none⟩) hb).trans (hcell j hlt 7 _ rfl)
    have h8 := (hbel.cell (p := ⟨b,off + j * 14 + 8,none⟩) hb).trans (hcell j hlt 8 _ rfl)
    have h9 := (hbel.cell (p := ⟨b,off + j * 14 + 9,none⟩) hb).trans (hcell j hlt 9 _ rfl)
    have h10 := (hbel.cell (p := ⟨b,off + j * 14 + 10,none⟩) hb).trans (hcell j hlt 10 _ rfl)
    have h11 := (hbel.cell (p := ⟨b,off + j * 14 + 11,none⟩) hb).trans (hcell j hlt 11 _ rfl)
    have h12 := (hbel.cell (p := ⟨b,off + j * 14 + 12,none⟩) hb).trans (hcell j hlt 12 _ rfl)
    have h13 := (hbel.cell (p := ⟨b,off + j * 14 + 13,none⟩) hb).trans (hcell j hlt 13 _ rfl)
    clear hcell
    have ha := fun o => (Below.refl wr.heap.size wr).alloc (Nat.le_refl _) o
    have hm := List.getElem_mem hlt
    obtain ⟨g1,g2,-⟩ := actsTo_ok L j hj
    have hsm := g2.mono (Nat.le_trans hj (Nat.le_trans HL12.out (by decide : 12 ≤ 1000)))
    have HE := Lib.hid (actsTo_succ hlt)
    have HP := Lib.hid fun o => plain49 w.heap.size D M (actsTo L j) r L[j] (wr.alloc o) (hS.below (ha o)) g1 (HT.out _ (hbel.trans ((ha o).mono hbel.size))) (HAc.out _ hm _ (hbel.trans ((ha o).mono hbel.size))) (HNm.out _ hm) hsm
    have HBe := Lib.hid fun o => hbel.trans ((ha o).mono hbel.size)
    clear ha hm g1 g2 hsm hS
    generalize L[j] = t at *
    have hP := HP.out (.cells #[.int .i64 t.kind,.string t.c.s.name,.int .i64 t.c.s.depth,.int .i64 t.c.s.low,.int .i64 t.c.s.high,.int .i64 t.c.s.len,.slice t.c.al t.c.s.lines.length t.c.cl,.int .i64 t.c.s.pipe,.int .i64 t.c.s.arbor,.int .i64 t.c.s.purch,.int .i64 t.c.s.most,.int .i64 t.c.s.brake,.slice t.c.ai t.c.s.items.length t.c.ci,.slice t.c.ab t.c.s.bricks.length t.c.cb] 71)
    clear HP
    go_wp2_with fail
    refine hP.mono ?_
    rintro e w5 ⟨rfl,hc5,M5,r5,hS5,-⟩
    rw [← HE.out] at hS5
    have HS5 := Lib.hid hS5
    have HB5 := Lib.hid ((HBe.out _).trans hc5.bel)
    clear hS5 hc5 hP HBe HE h0 h1 h2 h3 h4 h5 h6 h7 h8 h9 h10 h11 h12 h13
    go_wp2_with fail
    go_roundw
    case rel => exact ⟨j + 1,M5,r5,by omega,by go_num,HB5.out,HS5.out⟩
    case measure => simp [intOf];omega
   ·have hje : j = L.length := by omega
    subst hje
    obtain ⟨g1,g2,g3⟩ := actsTo_ok L L.length (Nat.le_refl _)
    have hn := (stNames w.heap.size D M (actsTo L L.length) r wr hS g1)
    have HS := Lib.hid hS
    have HB := Lib.hid hbel
    have HG1 := Lib.hid g1
    have HG2 := Lib.hid (g2.mono HL12.out)
    have HN12 := Lib.hid (Nat.le_trans g3.sets HL12.out)
    have hgt : decide (L.length < (actsTo L L.length).sets.length) = false := decide_eq_false (by have := g3.sets;omega)
    clear g1 g2 g3 hS hbel HC HS3 HB3 HAc HNm
    generalize actsTo L L.length = st0' at *
    go_wp2_with fail
    refine hn.mono ?_
    rintro e w6 ⟨hb6,v6,rfl,ho6⟩
    obtain ⟨A6,c6,rfl⟩ := own_formB ho6
    obtain ⟨_,_,e6,hq1,hq2,-⟩ := Flat.of_own ho6
    injection e6 with e61 _ e62
    subst e61 e62
    unfold maxLen at hq2
    have HO6 := Lib.hid ho6
    have HS6 := Lib.hid (HS.out.below hb6)
    have HB6 := Lib.hid (HB.out.trans (hb6.mono HB.out.size))
    clear ho6 hb6 hn HS HB
    generalize hSe : st0'.sets = S at *
    have HSE := Lib.hid hSe
    have hSl : S.length ≤ 12 := HN12.out
    clear hSe
    go_wp2_with fail
    go_loopw [43] (fun x wq => ∃ (j : Nat) (st : St) (M : Nat → Prop) (r : StR),j ≤ S.length ∧ x = .int .i64 j ∧ Below w.heap.size w wq ∧ StoreAt wq w.heap.size D M st r ∧ StOk st ∧ StSmall st (12 + j) ∧ st.sets = S ∧ wq.ownsRow wr.heap.size 9 1 (.slice A6 S.length c6) S.length ((S.map SetT.name).map Value.string)) (fun x _ => S.length - (intOf x).toNat)
    case atStart => exact ⟨0,_,_,_,Nat.zero_le _,rfl,HB6.out,HS6.out,HG1.out,HG2.out,HSE.out,HO6.out⟩
    case round =>
     clear HO6 HS6 HB6 HG1 HG2 HSE
     obtain ⟨j,st,M1,r1,hj,rfl,hbel,hS,hok,hsm,hse,ho⟩ := hrel
     by_cases hlt : j < S.length
     ·subst hse
      obtain ⟨b,off,rfl,hcell⟩ := names_cell ho rfl hlt
      obtain ⟨x,hx,hxn,f1,f2,f3,f4⟩ := follow_round st j hlt
      rw [hxn] at hcell
      have hG := (stGet w.heap.size D M1 st r1 x.name _ hS hok).mono fun _ _ hp => get_at hp f1
      have HOK := Lib.hid hok
      have HOK' := Lib.hid (hok.lines x.name)
      have HSM' := Lib.hid (hsm.lines x.name)
      have HSM := Lib.hid (⟨Nat.le_trans hsm.work (by omega),Nat.le_trans hsm.known (by omega)⟩ : st.work ≤ 1000000 ∧ st.known.length ≤ 1000000)
      have HNx := Lib.hid (hok.names x hx)
      have HF2 := Lib.hid f2
      have HF3 := Lib.hid f3
      have HF4 := Lib.hid f4
      have HO := Lib.hid ho
      have HS := Lib.hid hS
      have HB := Lib.hid hbel
      clear hok hsm f1 f2 f3 f4 ho hS hbel hxn hx
      go_wp2_with fail
      refine hG.mono ?_
      rintro e w7 ⟨hb7,⟨s,al,cl,ai,ci,ab,cb⟩,rfl,hs,ho7⟩
      simp only at hs
      subst hs
      have ha := (Below.refl w7.heap.size w7).alloc (Nat.le_refl _) (.cells #[.string s.name,.int .i64 s.depth,.int .i64 s.low,.int .i64 s.high,.int .i64 s.len,.slice al s.lines.length cl,.int .i64 s.pipe,.int .i64 s.arbor,.int .i64 s.purch,.int .i64 s.most,.int .i64 s.brake,.slice ai s.items.length ci,.slice ab s.bricks.length cb] 26)
      have hb7a := hb7.trans (ha.mono hb7.size)
      have HB8 := Lib.hid (HB.out.trans (hb7a.mono HB.out.size))
      have HS8 := Lib.hid (HS.out.below hb7a)
      have HC8 := Lib.hid (ChgS.of_below hb7a HB.out.size)
      have HX8 := Lib.hid (Blk.new w7 26 #[.string s.name,.int .i64 s.depth,.int .i64 s.low,.int .i64 s.high,.int .i64 s.len,.slice al s.lines.length cl,.int .i64 s.pipe,.int .i64 s.arbor,.int .i64 s.purch,.int .i64 s.most,.int .i64 s.brake,.slice ai s.items.length ci,.slice ab s.bricks.length cb])
      have HO8 := Lib.hid (ho7.chg (ChgS.of_below ha (Nat.zero_le _)))
      have hL := (stLines w.heap.size D M1 st r1 s.name _ HS8.out HOK.out (HT.out _ HB8.out) HSM.out.1 HSM.out.2).mono fun _ _ hp => ln_at hp HF2.out rfl
      clear ha hb7 hb7a ho7 hG HS HSM HF2
      unfold SetC.val setVal at *
      go_wp2_with fail
      refine hL.mono ?_
      rintro e w9 ⟨hc9,M9,r9,Aa,ca,hS9,rfl,hoa⟩
      have HC9 := Lib.hid (HC8.out.trans hc9)
      have HB9 := Lib.hid (HB8.out.trans hc9.bel)
      have HX9 := Lib.hid (HX8.out.chg hc9 (by decide) (by decide))
      have HS9 := Lib.hid hS9
      have HOa := Lib.hid hoa
      have hZ := (batLinesO _ s w9 (HO8.out.chg hc9).set HNx.out).mono fun _ _ hp => linesO_any hp
      clear hc9 hS9 hoa hL HC8 HB8 HX8 HO8
      have p0 := HX9.out.cell 0;have p1 := HX9.out.cell 1;have p2 := HX9.out.cell 2;have p3 := HX9.out.cell 3;have p4 := HX9.out.cell 4;have p5 := HX9.out.cell 5;have p6 := HX9.out.cell 6;have p7 := HX9.out.cell 7;have p8 := HX9.out.cell 8;have p9 := HX9.out.cell 9;have p10 := HX9.out.cell 10;have p11 := HX9.out.cell 11;have p12 := HX9.out.cell 12
      simp only [List.getElem?_toArray,List.getElem?_cons_succ,List.getElem?_cons_zero] at p0 p1 p2 p3 p4 p5 p6 p7 p8 p9 p10 p11 p12
      generalize linesErr s = er at *
      go_wp2_with fail
      refine hZ.mono ?_
      rintro e w10 ⟨hb10,Ab,cb',rfl,hob⟩
      have HC10 := Lib.hid (HC9.out.trans (ChgS.of_below hb10 HB9.out.size))
      have HB10 := Lib.hid (HB9.out.trans (hb10.mono HB9.out.size))
      have HX10 := Lib.hid (HX9.out.below hb10 HX9.out.lt)
      have HS10 := Lib.hid (HS9.out.below hb10)
      have HOa10 := Lib.hid (own_belowL HOa.out hb10)
      have HOb10 := Lib.hid hob
      have hF := stFresh w.heap.size D M9 _ r9 s.name w10 HS10.out HOK'.out (HT.out _ HB10.out)
      rw [HF3.out] at hF
      clear hb10 hob hZ HC9 HB9 HX9 HS9 HOa p0 p1 p2 p3 p4 p5 p6 p7 p8 p9 p10 p11 p12
      go_wp2_with fail
      refine hF.mono ?_
      rintro e w11 ⟨rfl,hb11⟩
      have HC11 := Lib.hid (HC10.out.trans (ChgS.of_below hb11 HB10.out.size))
      have HB11 := Lib.hid (HB10.out.trans (hb11.mono HB10.out.size))
      have HX11 := HX10.out.below hb11 HX10.out.lt
      have HS11 := Lib.hid (HS10.out.below hb11)
      have x0 := HX11.cell 0
      simp only [List.getElem?_toArray,List.getElem?_cons_zero] at x0
      have hEq := equalFrac _ _ (linesOf s) (linesOf s) w11.heap.size w11 (Flat.of_own (own_belowL HOa10.out hb11)) (Flat.of_own (own_belowL HOb10.out hb11))
      rw [decide_eq_true rfl] at hEq
      have n1 : (s.name.toList != s.name.toList) = false := bne_self_eq_false _
      have n2 : (er != er) = false := bne_self_eq_false _
      clear hb11 hF HC10 HB10 HX10 HX11 HS10 HOa10 HOb10 HF3
      go_wp2_with fail
      refine hEq.mono ?_
      rintro e w12 ⟨rfl,nq,rfl⟩
      have hbn := below_drewN (Below.refl w11.heap.size w11) nq
      have HCz := Lib.hid (HC11.out.trans (ChgS.of_below hbn HB11.out.size))
      have HSz := Lib.hid (HS11.out.below hbn)
      clear hbn hEq HS11 HC11 x0
      go_wp2_with fail
      go_roundw
      case rel => exact ⟨j + 1,_,_,_,by omega,by go_num,HB.out.trans HCz.out.bel,HSz.out,HOK'.out,HSM'.out,HF4.out,own_chg HO.out HCz.out (by decide) (by decide)⟩
      case measure => simp [intOf];omega
     ·have hje : j = S.length := by omega
      subst hje
      go_wp2_with fail
      go_ret
      exact ⟨rfl,hbel⟩
end Go.Proofs.YtbhmkcjddpniiaaGreatDoor

namespace Go.Proofs.YtbhmkcjddpniiaaGreatDoor
open Go.RowKit Go.Shelf Go.ChangeShapes Go.WideShapes Go.Deep
theorem list2 {α : Type} : ∀ {cs : List α},cs.length = 2 → ∃ a b,cs = [a,b]
 | [a,b],_ => ⟨a,b,rfl⟩
theorem list14 {α : Type} : ∀ {cs : List α},cs.length = 14 → ∃ a t,cs = a :: t ∧ t.length = 13
 | a :: t,h => ⟨a,t,rfl,by simpa using h⟩
instance : Inhabited ActC := ⟨⟨0,⟨⟨⟨#[]⟩,0,0,0,0,[],0,0,0,0,0,[],[]⟩,none,0,none,0,none,0⟩⟩⟩
section
variable {H : Type} {enc : TypeId × Value → H} {w : World} {base : Nat} {spare : Nat → Bool} {held : Bool}
theorem acts_of_trod {fuel : Nat} {v : Value} {x : DataW H × List MemPlace} (h : DataW.trod enc Tryz.prog w base spare held fuel 63 [v] = some x) :
  ∃ L : List ActC,ActsAt w w.heap.size v L := by
 rcases open_slice Tryz.underlying63 h with ⟨hcs,-⟩ | ⟨a,len,cap,m,n,D,Pl,hcs,_,hl,hm,hmm,-,hi⟩
 ·obtain rfl : v = .slice none 0 0 := by simpa using hcs
  exact ⟨[],⟨none,0,rfl,Nat.le_refl _,Nat.zero_le _,fun h => absurd h (by simp)⟩,by simp⟩
 ·obtain rfl : v = .slice (some a) len cap := by simpa using hcs
  have hle : len ≤ m := by rw [hmm];split <;> omega
  have hC : Tryz.prog.cellsOf 71 = 14 := by kernel_rfl
  rw [hC] at hi
  have each : ∀ i,i < len → ∃ t : ActC,(∀ k u,t.cells[k]? = some u → w.cell? (a.add (i * 14 + k)) = some u) ∧ SetAt w w.heap.size t.c.val t.c.s ∧ SetNames t.c.s := fun i hil => by
   obtain ⟨cs,hc,ht⟩ := hi i (by omega)
   obtain ⟨ys,n',hn',hy,hlen,hyl,hf⟩ := DataW.trod_struct Tryz.underlying71 ht
   obtain ⟨_,hcl,hat⟩ := World.cells?_some hc
   obtain ⟨c0,cr,rfl,hcr⟩ := list14 hcl
   obtain ⟨y0,y1,rfl⟩ := list2 hyl
   have g0 : DataW.trod enc Tryz.prog w base spare held n' 3 (List.take (Tryz.prog.cellsOf 3) (List.drop 0 (c0 :: cr))) = some y0 := hf 0 _ rfl
   have g1 : DataW.trod enc Tryz.prog w base spare held n' 26 (List.take (Tryz.prog.cellsOf 26) (List.drop 1 (c0 :: cr))) = some y1 := hf 1 _ rfl
   rw [show Tryz.prog.cellsOf 3 = 1 from by kernel_rfl] at g0
   rw [show Tryz.prog.cellsOf 26 = 13 from by kernel_rfl] at g1
   obtain ⟨f0,rfl,-⟩ := int_of_trod (v := c0) g0
   have e1 : List.take 13 (List.drop 1 (Value.int .i64 f0 :: cr)) = cr := by
    rw [List.drop_one,List.tail_cons,← hcr,List.take_length]
   rw [e1] at g1
   obtain ⟨s,hs,hnm⟩ := set_of_trod hcr g1
   have hs' := hs
   obtain ⟨al,cl,ai,ci,ab,cb,e,_⟩ := hs
   have ecr : cr = (SetC.mk s al cl ai ci ab cb).cells := by
    have e2 : cr.toArray = (SetC.mk s al cl ai ci ab cb).cells.toArray := Value.agg.inj e
    simpa using congrArg Array.toList e2
   have hsv : SetAt w w.heap.size (setVal s al cl ai ci ab cb) s := e ▸ hs'
   refine ⟨⟨f0,s,al,cl,ai,ci,ab,cb⟩,fun k u hk => ?_,hsv,hnm⟩
   have hk5 : k < 14 := (List.getElem?_eq_some_iff.1 hk).1
   rw [← add_add,hat k hk5,ecr]
   exact hk
  obtain ⟨T,hT⟩ := choose_lt each
  have hL : ((List.range len).map T).length = len := by simp
  refine ⟨(List.range len).map T,⟨some a,cap,by rw [hL],by rw [hL];exact hl,hm,fun hn => ?_⟩,fun t ht => ?_⟩
  ·rw [hL] at hn
   obtain ⟨b,off,sp⟩ := a
   have h0 := (hT 0 hn).1 0 _ rfl
   obtain rfl := spot_none h0
   have hlt : b < w.heap.size := by simpa [add_none] using cell_lt h0
   refine ⟨b,off,rfl,hlt,fun j u hu => ?_⟩
   obtain ⟨hj,hu'⟩ := flatAtK ActC.cells 14 (by decide) (fun _ => rfl) _ _ _ hu
   rw [hL] at hj
   have := (hT _ hj).1 (j % 14) u (by simpa using hu')
   rw [add_none,Nat.div_add_mod' j 14] at this
   exact this
  ·simp only [List.mem_map,List.mem_range] at ht
   obtain ⟨i,hi,rfl⟩ := ht
   exact (hT i hi).2
end
end Go.Proofs.YtbhmkcjddpniiaaGreatDoor
