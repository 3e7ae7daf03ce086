/- Parts of the proof, laid into one text: LawUndone. -/
import Derived.BigQuiet
import Derived.Deep.AppendLies
import Derived.Deep.Cut
import Derived.Deep.Draws
import Derived.Deep.LoopGhost
import Derived.Deep.MidRow
import Derived.Deep.QuietTactic
import Derived.Deep.RegionHeld3
import Derived.Deep.RegionLaw
import Derived.IntWalk
import Derived.Laws.Bits64b
import Derived.Laws.Concat
import Derived.Laws.EntriesVeiled
import Derived.Lib.AppendIntMem
import Derived.Lib.Hide
import Derived.Lib.ItoaLen
import Derived.Lib.ItoaMem
import Derived.Lib.Join
import Derived.Lib.SliceRun
import Derived.Lib.SmallJoins
import Derived.LoopIn
import Derived.LoopNIn
import Derived.Maps.AppendAt
import Derived.Maps.Own
import Derived.Maps.OwnOps
import Derived.Maps.OwnSet
import Derived.Maps.Views
import Derived.Outline
import Derived.OwnWalkIn
import Derived.PlainAid
import Derived.RangeFuncBox
import Derived.RangeFuncLeaves
import Derived.Shelf.Abstract
import Derived.Shelf.Bits.Mul64
import Derived.Shelf.Strconv.Itoa3
import Derived.Shelf.Strings.Count
import Derived.Shelf.Strings.OnBuilder
import Derived.Shelf.Strings.Prefix
import Derived.StillTail
import Derived.StillTailTactics
import Derived.TacticsInMore
import Derived.Test.YtbhmkcjddpniiaaGreatDoorC1
import Derived.Test.YtbhmkcjddpniiaaGreatDoorC2
import Derived.Test.YtbhmkcjddpniiaaGreatDoorC3
import Derived.Test.YtbhmkcjddpniiaaGreatDoorC4
import Derived.Test.YtbhmkcjddpniiaaGreatDoorC5
import Derived.Test.YtbhmkcjddpniiaaGreatDoorC6
import Derived.Test.YtbhmkcjddpniiaaGreatDoorC7
import Derived.Test.YtbhmkcjddpniiaaGreatDoorD1
import Derived.Test.YtbhmkcjddpniiaaGreatDoorD2
import Derived.Test.YtbhmkcjddpniiaaGreatDoorD3
import Derived.Test.YtbhmkcjddpniiaaGreatDoorD4
import Derived.Test.YtbhmkcjddpniiaaGreatDoorD5
import Derived.Test.YtbhmkcjddpniiaaGreatDoorD6
import Derived.Test.YtbhmkcjddpniiaaGreatDoorD9
import Derived.Test.YtbhmkcjddpniiaaGreatDoorG1
import Derived.Test.YtbhmkcjddpniiaaGreatDoorI1
import Derived.Test.YtbhmkcjddpniiaaGreatDoorI10
import Derived.Test.YtbhmkcjddpniiaaGreatDoorI11
import Derived.Test.YtbhmkcjddpniiaaGreatDoorI2
import Derived.Test.YtbhmkcjddpniiaaGreatDoorI3
import Derived.Test.YtbhmkcjddpniiaaGreatDoorI6
import Derived.Test.YtbhmkcjddpniiaaGreatDoorI7
import Derived.Test.YtbhmkcjddpniiaaGreatDoorI8
import Derived.Test.YtbhmkcjddpniiaaGreatDoorI9
import Derived.Test.YtbhmkcjddpniiaaGreatDoorProg
import Derived.WalkKit
import Derived.WalkLawsBesides
import Derived.WalkSpells

namespace Go.Proofs.YtbhmkcjddpniiaaGreatDoor
open Go.RowKit Go.Shelf
theorem own_mono3 {w : World} {B B' : Nat} {c : SetC} (h : OwnC w B c) (hB : B' ≤ B) : OwnC w B' c := ⟨own_mono h.1 hB,own_mono h.2.1 hB,own_mono h.2.2 hB⟩
theorem Und49.mono {w wq : World} {D n n' : Nat} {nv sv : Value} {M : Nat → Prop} {st : St} {r : StR} {S : List SetT} {LS : List SetC} (h : Und49 w wq D nv sv M st r S LS n) (hn : n ≤ n') : Und49 w wq D nv sv M st r S LS n' := ⟨h.bel,h.store,h.ok,h.small.mono hn,h.names,h.saved⟩
theorem small_undo {st : St} {n : Nat} (h : StSmall st n) : StSmall (undoSt st).2 n := by
 unfold undoSt
 split
 ·exact h
 ·exact ⟨by rw [List.length_dropLast];exact Nat.le_trans (Nat.sub_le _ _) h.past,h.known,h.work⟩
set_option maxRecDepth 100000 in
set_option maxHeartbeats 16000000 in
theorem lawUndone (v0 v1 : Value) (F L : List ActC) (w : World) (h0 : ActsAt w w.heap.size v0 F) (h1 : ActsAt w w.heap.size v1 L) (ht : Tab w) :
  Calls Tryz.prog 8 #[v0,v1] w fun e w' => e = .returned (.bool true) ∧ Below w.heap.size w w' := by
 have HT := Lib.hid fun W (hb : Below w.heap.size w W) => ht.below hb
 have HLg0 := Lib.hid fun W (hb : Below w.heap.size w W) => large49 v0 F W ((h0.below hb (Nat.le_refl _)).mono hb.size)
 have HAc0 := Lib.hid fun t (hm : t ∈ F) W (hb : Below w.heap.size w W) => ((h0.2 t hm).1.below hb (Nat.le_refl _)).mono hb.size
 have HNm0 := Lib.hid fun t (hm : t ∈ F) => (h0.2 t hm).2
 have HLg1 := Lib.hid fun W (hb : Below w.heap.size w W) => large49 v1 L W ((h1.below hb (Nat.le_refl _)).mono hb.size)
 have HAc1 := Lib.hid fun t (hm : t ∈ L) W (hb : Below w.heap.size w W) => ((h1.2 t hm).1.below hb (Nat.le_refl _)).mono hb.size
 have HNm1 := Lib.hid fun t (hm : t ∈ L) => (h1.2 t hm).2
 have hAw := lawAwake49 w ht
 obtain ⟨A0,c0,rfl,hc01,hc02,hcell0⟩ := h0.open_
 obtain ⟨A1,c1,rfl,hc11,hc12,hcell1⟩ := h1.open_
 unfold maxLen at hc02 hc12
 have HC0 := Lib.hid hcell0
 have HC1 := Lib.hid hcell1
 clear hcell0 hcell1 h0 h1 ht
 go_enter Tryz.func8,Tryz.ntmps8
 go_wp2_with fail
 refine hAw.mono ?_
 rintro e w1 ⟨rfl,hb1⟩
 have hLg := HLg0.out w1 hb1
 clear HLg0 hAw
 go_wp2_with fail
 refine hLg.mono ?_
 rintro e w2 ⟨q,rfl,hb2,h12⟩
 have HB2 := Lib.hid (hb1.trans (hb2.mono hb1.size))
 have H12 := Lib.hid h12
 clear hb1 hb2 h12 hLg
 cases q with
 | true =>
  go_wp2_with fail
  go_ret
  exact ⟨rfl,HB2.out⟩
 | false =>
  have HF12 := Lib.hid (H12.out rfl)
  have hLg := HLg1.out w2 HB2.out
  clear H12 HLg1
  go_wp2_with fail
  refine hLg.mono ?_
  rintro e w2' ⟨q,rfl,hb2,h12⟩
  have HB2 := Lib.hid (HB2.out.trans (hb2.mono HB2.out.size))
  have H12 := Lib.hid h12
  clear hb2 h12 hLg
  cases q with
  | true =>
   go_wp2_with fail
   go_ret
   exact ⟨rfl,HB2.out⟩
  | false =>
   have HL12 := Lib.hid (H12.out rfl)
   clear H12
   go_wp2_with fail
   refine (stNew w.heap.size w2' HB2.out.size).mono ?_
   rintro e w3 ⟨D,rfl,hb3,hS3⟩
   have HB3 := Lib.hid (HB2.out.trans (hb3.mono HB2.out.size))
   have HS3 := Lib.hid hS3
   clear hb3 hS3 HB2
   go_wp2_with fail
   go_loopw [40] (fun x wr => ∃ (j : Nat) (M : Nat → Prop) (r : StR),j ≤ F.length ∧ x = .int .i64 j ∧ Below w.heap.size w wr ∧ StoreAt wr w.heap.size D M (actsTo F j) r) (fun x _ => F.length - (intOf x).toNat)
   case atStart => exact ⟨0,_,_,Nat.zero_le _,rfl,HB3.out,HS3.out⟩
   case round =>
    obtain ⟨j,M,r,hj,rfl,hbel,hS⟩ := hrel
    have HBl := Lib.hid hbel
    clear hbel
    by_cases hlt : j < F.length
    ·obtain ⟨b,off,rfl,hb,hcell⟩ := HC0.out j hlt
     have h0 := (HBl.out.cell (p := ⟨b,off + j * 14,none⟩) hb).trans (hcell j hlt 0 _ rfl)
     have h1 := (HBl.out.cell (p := ⟨b,off + j * 14 + 1,none⟩) hb).trans (hcell j hlt 1 _ rfl)
     have h2 := (HBl.out.cell (p := ⟨b,off + j * 14 + 2,none⟩) hb).trans (hcell j hlt 2 _ rfl)
     have h3 := (HBl.out.cell (p := ⟨b,off + j * 14 + 3,none⟩) hb).trans (hcell j hlt 3 _ rfl)
     have h4 := (HBl.out.cell (p := ⟨b,off + j * 14 + 4,none⟩) hb).trans (hcell j hlt 4 _ rfl)
     have h5 := (HBl.out.cell (p := ⟨b,off + j * 14 + 5,none⟩) hb).trans (hcell j hlt 5 _ rfl)
     have h6 := (HBl.out.cell (p := ⟨b,off + j * 14 + 6,none⟩) hb).trans (hcell j hlt 6 _ rfl)
     have h7 := (HBl.out.cell (p := ⟨b,off + j * 14 + 7,none⟩) hb).trans (hcell j hlt 7 _ rfl)
     have h8 := (HBl.out.cell (p := ⟨b,off + j * 14 + 8,none⟩) hb).trans (hcell j hlt 8 _ rfl)
     have h9 := (HBl.out.cell (p := ⟨b,off + j * 14 + 9,none⟩) hb).trans (hcell j hlt 9 _ rfl)
     have h10 := (HBl.out.cell (p := ⟨b,off + j * 14 + 10,none⟩) hb).trans (hcell j hlt 10 _ rfl)
     have h11 := (HBl.out.cell (p := ⟨b,off + j * 14 + 11,none⟩) hb).trans (hcell j hlt 11 _ rfl)
     have h12 := (HBl.out.cell (p := ⟨b,off + j * 14 + 12,none⟩) hb).trans (hcell j hlt 12 _ rfl)
     have h13 := (HBl.out.cell (p := ⟨b,off + j * 14 + 13,none⟩) hb).trans (hcell j hlt 13 _ rfl)
     clear hcell
     have hbel := HBl.out
     have ha := fun o => (Below.refl wr.heap.size wr).alloc (Nat.le_refl _) o
     have hm := List.getElem_mem hlt
     obtain ⟨g1,g2,-⟩ := actsTo_ok F j hj
     have hsm := g2.mono (Nat.le_trans hj (Nat.le_trans HF12.out (by decide : 12 ≤ 1000)))
     have HE := Lib.hid (actsTo_succ hlt)
     have HP := Lib.hid fun o => plain49 w.heap.size D M (actsTo F j) r F[j] (wr.alloc o) (hS.below (ha o)) g1 (HT.out _ (hbel.trans ((ha o).mono hbel.size))) (HAc0.out _ hm _ (hbel.trans ((ha o).mono hbel.size))) (HNm0.out _ hm) hsm
     have HBe := Lib.hid fun o => hbel.trans ((ha o).mono hbel.size)
     clear ha hm g1 g2 hsm hS hbel
     generalize F[j] = t at *
     have hP := HP.out (.cells #[.int .i64 t.kind,.string t.c.s.name,.int .i64 t.c.s.depth,.int .i64 t.c.s.low,.int .i64 t.c.s.high,.int .i64 t.c.s.len,.slice t.c.al t.c.s.lines.length t.c.cl,.int .i64 t.c.s.pipe,.int .i64 t.c.s.arbor,.int .i64 t.c.s.purch,.int .i64 t.c.s.most,.int .i64 t.c.s.brake,.slice t.c.ai t.c.s.items.length t.c.ci,.slice t.c.ab t.c.s.bricks.length t.c.cb] 71)
     clear HP
     go_wp2_with fail
     refine hP.mono ?_
     rintro e w5 ⟨rfl,hc5,M5,r5,hS5,-⟩
     rw [← HE.out] at hS5
     have HS5 := Lib.hid hS5
     have HB5 := Lib.hid ((HBe.out _).trans hc5.bel)
     clear hS5 hc5 hP HBe HE h0 h1 h2 h3 h4 h5 h6 h7 h8 h9 h10 h11 h12 h13
     go_wp2_with fail
     go_roundw
     case rel => exact ⟨j + 1,M5,r5,by omega,by go_num,HB5.out,HS5.out⟩
     case measure => simp [intOf];omega
    ·have hje : j = F.length := by omega
     subst hje
     obtain ⟨g1,g2,g3⟩ := actsTo_ok F F.length (Nat.le_refl _)
     have hbel := HBl.out
     have hn := (stNames w.heap.size D M (actsTo F F.length) r wr hS g1)
     have HS := Lib.hid hS
     have HB := Lib.hid hbel
     have HG1 := Lib.hid g1
     have HG2 := Lib.hid (g2.mono HF12.out)
     have HN12 := Lib.hid (Nat.le_trans g3.sets HF12.out)
     have hgt : decide (F.length < (actsTo F F.length).sets.length) = false := decide_eq_false (by have := g3.sets;omega)
     clear g1 g2 g3 hS hbel HC0 HS3 HB3 HAc0 HNm0 HBl
     generalize actsTo F F.length = st0' at *
     go_wp2_with fail
     refine hn.mono ?_
     rintro e w6 ⟨hb6,v6,rfl,ho6⟩
     obtain ⟨A6,c6,rfl⟩ := own_formB ho6
     obtain ⟨_,_,e6,hq1,hq2,-⟩ := Flat.of_own ho6
     injection e6 with e61 _ e62
     subst e61 e62
     unfold maxLen at hq2
     have HI6 : Hid (Und49 w w6 D (.slice A6 st0'.sets.length c6) (.slice none 0 0) M st0' r st0'.sets [] (12 + 0)) := ⟨HB.out.trans (hb6.mono HB.out.size),HS.out.below hb6,HG1.out,HG2.out,own_mono ho6 HB.out.size,SavedAt.nil⟩
     clear ho6 hb6 hn HS HB HG1 HG2
     obtain ⟨S,hSe⟩ : ∃ S,st0'.sets = S := ⟨_,rfl⟩
     obtain ⟨P,hPe⟩ : ∃ P,st0'.past = P := ⟨_,rfl⟩
     rw [hSe] at HI6 hgt
     rw [hSe]
     have HSE := Lib.hid hSe
     have HPE := Lib.hid hPe
     have hSl : S.length ≤ 12 := by rw [← hSe];exact HN12.out
     rw [hSe] at hq1
     clear hSe hPe HN12
     go_wp2_with fail
     go_loopw [57,9] (fun x sv wq => ∃ (j : Nat) (st : St) (M : Nat → Prop) (r : StR) (LS : List SetC),j ≤ S.length ∧ x = .int .i64 j ∧ Und49 w wq D (.slice A6 S.length c6) sv M st r S LS (12 + j) ∧ st.sets = S ∧ st.past = P ∧ (∀ y ∈ S.take j,y ∈ st.known) ∧ LS.map SetC.s = S.take j) (fun x _ _ => S.length - (intOf x).toNat)
     case atStart => exact ⟨0,_,_,_,_,Nat.zero_le _,rfl,HI6.out,HSE.out,HPE.out,(fun y hy => by simp at hy),rfl⟩
     case round =>
      clear HI6 HSE HPE
      obtain ⟨j,st,M1,r1,LS,hj,rfl,hI,hse,hpe,hkn,hls⟩ := hrel
      have hlsl : LS.length = j := by have := congrArg List.length hls;simpa [Nat.min_eq_left hj] using this
      obtain ⟨As,cs,rfl,-⟩ := hI.saved.open_
      by_cases hlt : j < S.length
      ·subst hse
       obtain ⟨b,off,rfl,hcell⟩ := names_cell hI.names rfl hlt
       obtain ⟨x,hx,hxe,f1,f2,f3,f4,f5,f6⟩ := und_round hI.ok hlt
       rw [hxe] at hcell
       have hG := (stGet w.heap.size D M1 st r1 x.name _ hI.store hI.ok).mono fun _ _ hp => get_at hp f1
       have HOK := Lib.hid hI.ok
       have HSM := Lib.hid hI.small
       have HI := Lib.hid hI
       have HKn : Hid (∀ y ∈ st.sets.take (j + 1),y ∈ (linesSt st x.name).known) := by
        intro y hy
        rw [f3] at hy
        rcases List.mem_append.1 hy with hy | hy
        ·exact f6 y (hkn y hy)
        ·rw [List.mem_singleton.1 hy];exact f2
       have HTk := Lib.hid f3
       have HF4 := Lib.hid f4
       have HF5 : Hid ((linesSt st x.name).past = P) := by rw [← hpe];exact f5
       have HLs := Lib.hid hls
       have HLl := Lib.hid hlsl
       clear hI f1 f2 f3 f4 f5 f6 hkn hls hpe hxe hx hlsl
       go_wp2_with fail
       refine hG.mono ?_
       rintro e w7 ⟨hb7,⟨s,al,cl,ai,ci,ab,cb⟩,rfl,hs,ho7⟩
       simp only at hs
       subst hs
       have ha := (Below.refl w7.heap.size w7).alloc (Nat.le_refl _) (.cells #[.string s.name,.int .i64 s.depth,.int .i64 s.low,.int .i64 s.high,.int .i64 s.len,.slice al s.lines.length cl,.int .i64 s.pipe,.int .i64 s.arbor,.int .i64 s.purch,.int .i64 s.most,.int .i64 s.brake,.slice ai s.items.length ci,.slice ab s.bricks.length cb] 26)
       have hb7a := hb7.trans (ha.mono hb7.size)
       have hI8 := HI.out.below hb7a
       have HI8 := Lib.hid hI8
       have HX8 := Lib.hid (Blk.new w7 26 #[.string s.name,.int .i64 s.depth,.int .i64 s.low,.int .i64 s.high,.int .i64 s.len,.slice al s.lines.length cl,.int .i64 s.pipe,.int .i64 s.arbor,.int .i64 s.purch,.int .i64 s.most,.int .i64 s.brake,.slice ai s.items.length ci,.slice ab s.bricks.length cb])
       have HO8 := Lib.hid ((own_mono3 ho7 HI.out.bel.size).chg (ChgS.of_below ha (Nat.zero_le _)))
       have hL := (stLines w.heap.size D M1 st r1 s.name _ hI8.store HOK.out (HT.out _ hI8.bel) (Nat.le_trans HSM.out.work (by omega)) (Nat.le_trans HSM.out.known (by omega))).mono fun _ _ hp => act_lines hp
       clear ha hb7 hb7a ho7 hG HI hI8
       unfold SetC.val setVal at *
       go_wp2_with fail
       refine hL.mono ?_
       rintro e w9 ⟨⟨vv,rfl⟩,hact⟩
       have HX9 := Lib.hid (HX8.out.chg hact.1 (by decide) (by decide))
       have HO9 := Lib.hid (HO8.out.chg hact.1)
       obtain ⟨M9,r9,hI9⟩ := HI8.out.act hact (n' := 12 + (j + 1)) (HOK.out.lines s.name) (HSM.out.lines s.name)
       have HI9 := Lib.hid hI9
       have HB9 := Lib.hid hI9.bel
       clear hact hL hI9 HI8 HX8 HO8
       have p0 := HX9.out.cell 0
       have p1 := HX9.out.cell 1
       have p2 := HX9.out.cell 2
       have p3 := HX9.out.cell 3
       have p4 := HX9.out.cell 4
       have p5 := HX9.out.cell 5
       have p6 := HX9.out.cell 6
       have p7 := HX9.out.cell 7
       have p8 := HX9.out.cell 8
       have p9 := HX9.out.cell 9
       have p10 := HX9.out.cell 10
       have p11 := HX9.out.cell 11
       have p12 := HX9.out.cell 12
       simp only [List.getElem?_toArray,List.getElem?_cons_succ,List.getElem?_cons_zero] at p0 p1 p2 p3 p4 p5 p6 p7 p8 p9 p10 p11 p12
       have ha := (Below.refl w9.heap.size w9).alloc (Nat.le_refl _) (.cells #[.string s.name,.int .i64 s.depth,.int .i64 s.low,.int .i64 s.high,.int .i64 s.len,.slice al s.lines.length cl,.int .i64 s.pipe,.int .i64 s.arbor,.int .i64 s.purch,.int .i64 s.most,.int .i64 s.brake,.slice ai s.items.length ci,.slice ab s.bricks.length cb] 26)
       have HIa := Lib.hid (HI9.out.below ha)
       have HOa := Lib.hid (HO9.out.chg (ChgS.of_below ha (Nat.zero_le _)))
       have Hnew := Lib.hid (World.news_of_block (Blk.new w9 26 #[.string s.name,.int .i64 s.depth,.int .i64 s.low,.int .i64 s.high,.int .i64 s.len,.slice al s.lines.length cl,.int .i64 s.pipe,.int .i64 s.arbor,.int .i64 s.purch,.int .i64 s.most,.int .i64 s.brake,.slice ai s.items.length ci,.slice ab s.bricks.length cb]))
       have hsz := HIa.out.bel.size
       have hown := HIa.out.saved.own
       have HOw := Lib.hid hown
       have hls12 : LS.length ≤ 12 := by have := HLl.out;omega
       obtain ⟨iF,hiF,hzF0,hzF1,hzF2⟩ := info_parts info_setc
       clear ha HI9 HX9 HO9 hown
       go_wp2_with (at_builtin;refine wpList_append_lies _ rfl _ _ 66 rfl w.heap.size 26 iF (.agg #[.string ⟨#[]⟩,.int .i64 0,.int .i64 0,.int .i64 0,.int .i64 0,.slice none 0 0,.int .i64 0,.int .i64 0,.int .i64 0,.int .i64 0,.int .i64 0,.slice none 0 0,.slice none 0 0]) 13 160 Tryz.underlying66 hiF hzF0 hzF1 hzF2 rfl (by decide) _ _ _ rfl HOw.out ⟨w9.heap.size,0,none⟩ 1 1 [.string s.name,.int .i64 s.depth,.int .i64 s.low,.int .i64 s.high,.int .i64 s.len,.slice al s.lines.length cl,.int .i64 s.pipe,.int .i64 s.arbor,.int .i64 s.purch,.int .i64 s.most,.int .i64 s.brake,.slice ai s.items.length ci,.slice ab s.bricks.length cb] rfl rfl Hnew.out (by simp [Value.oneCell']) (by decide) (by unfold maxLen;omega) (by omega) hsz _ rfl ?_;intro g' cap' w10 hown' hgrow hgg hgl;have HO10 := Lib.hid hown';have HG10 : Hid ((w9.alloc (.cells #[.string s.name,.int .i64 s.depth,.int .i64 s.low,.int .i64 s.high,.int .i64 s.len,.slice al s.lines.length cl,.int .i64 s.pipe,.int .i64 s.arbor,.int .i64 s.purch,.int .i64 s.most,.int .i64 s.brake,.slice ai s.items.length ci,.slice ab s.bricks.length cb] 26)).grownBy w10 (Value.slice As LS.length cs).ownBlock) := hgrow;have HGG := Lib.hid hgg;clear hown' hgrow hgg hgl)
       have HP10 : Hid (SavedAt w10 w.heap.size M9 (.slice (some ⟨g',0,none⟩) (LS.length + 1) cap') (LS ++ [(⟨s,al,cl,ai,ci,ab,cb⟩ : SetC)])) := HIa.out.saved.push HOa.out rfl HIa.out.store.lt (Nat.le_refl _) HO10.out HG10.out HGG.out
       have HI10 : Hid (Und49 w w10 D (.slice (some ⟨b,off,none⟩) st.sets.length c6) (.slice (some ⟨g',0,none⟩) (LS.length + 1) cap') M9 (linesSt st s.name) r9 st.sets (LS ++ [(⟨s,al,cl,ai,ci,ab,cb⟩ : SetC)]) (12 + (j + 1))) := ⟨HIa.out.bel.grown HG10.out HIa.out.bel.size (fun k e => (HOw.out.lt k e).1),store_row HIa.out.store HOw.out HIa.out.saved.out HG10.out,HIa.out.ok,HIa.out.small,set_row HOw.out HG10.out HIa.out.names (by decide),HP10.out⟩
       have HLs2 : Hid ((LS ++ [(⟨s,al,cl,ai,ci,ab,cb⟩ : SetC)]).map SetC.s = st.sets.take (j + 1)) := by rw [List.map_append,HLs.out,HTk.out];rfl
       clear HO10 HG10 HGG HP10 HIa HOa Hnew HOw hsz p0 p1 p2 p3 p4 p5 p6 p7 p8 p9 p10 p11 p12
       go_wp2_with fail
       go_roundw
       case rel => exact ⟨j + 1,_,M9,r9,_,by omega,by go_num,HI10.out,HF4.out,HF5.out,HKn.out,HLs2.out⟩
       case measure => simp [intOf];omega
      ·have hje : j = S.length := by omega
       subst hje
       have HKn : Hid (∀ y ∈ S,y ∈ st.known) := by rw [List.take_length] at hkn;exact hkn
       have HLs : Hid (LS.map SetC.s = S) := by rw [List.take_length] at hls;exact hls
       have HI := Lib.hid (hI.mono (n' := 24) (by omega))
       have HUn : Hid (Und S P st 0) := by rw [← hse,← hpe];exact und_start st
       have HL3 := Lib.hid hlsl
       clear hI hkn hls hse hpe hlsl
       go_wp2_with fail
       go_loopw [79,14] (fun x ev wq => ∃ (j k : Nat) (st : St) (M : Nat → Prop) (r : StR),j ≤ L.length ∧ k ≤ j ∧ x = .int .i64 j ∧ ev = .int .i64 k ∧ Und49 w wq D (.slice A6 S.length c6) (.slice As LS.length cs) M st r S LS (24 + j) ∧ Und S P st k ∧ ∀ y ∈ S,y ∈ st.known) (fun x _ _ => L.length - (intOf x).toNat)
       case atStart => exact ⟨0,0,_,_,_,Nat.zero_le _,Nat.le_refl _,rfl,rfl,HI.out,HUn.out,HKn.out⟩
       case round =>
        clear HI HUn HKn
        obtain ⟨j,k,st,M1,r1,hj,hk,rfl,rfl,hI,hun,hkn⟩ := hrel
        by_cases hlt : j < L.length
        ·obtain ⟨b,off,rfl,hb,hcell⟩ := HC1.out j hlt
         have HBl := Lib.hid hI.bel
         have h0 := (HBl.out.cell (p := ⟨b,off + j * 14,none⟩) hb).trans (hcell j hlt 0 _ rfl)
         have h1 := (HBl.out.cell (p := ⟨b,off + j * 14 + 1,none⟩) hb).trans (hcell j hlt 1 _ rfl)
         have h2 := (HBl.out.cell (p := ⟨b,off + j * 14 + 2,none⟩) hb).trans (hcell j hlt 2 _ rfl)
         have h3 := (HBl.out.cell (p := ⟨b,off + j * 14 + 3,none⟩) hb).trans (hcell j hlt 3 _ rfl)
         have h4 := (HBl.out.cell (p := ⟨b,off + j * 14 + 4,none⟩) hb).trans (hcell j hlt 4 _ rfl)
         have h5 := (HBl.out.cell (p := ⟨b,off + j * 14 + 5,none⟩) hb).trans (hcell j hlt 5 _ rfl)
         have h6 := (HBl.out.cell (p := ⟨b,off + j * 14 + 6,none⟩) hb).trans (hcell j hlt 6 _ rfl)
         have h7 := (HBl.out.cell (p := ⟨b,off + j * 14 + 7,none⟩) hb).trans (hcell j hlt 7 _ rfl)
         have h8 := (HBl.out.cell (p := ⟨b,off + j * 14 + 8,none⟩) hb).trans (hcell j hlt 8 _ rfl)
         have h9 := (HBl.out.cell (p := ⟨b,off + j * 14 + 9,none⟩) hb).trans (hcell j hlt 9 _ rfl)
         have h10 := (HBl.out.cell (p := ⟨b,off + j * 14 + 10,none⟩) hb).trans (hcell j hlt 10 _ rfl)
         have h11 := (HBl.out.cell (p := ⟨b,off + j * 14 + 11,none⟩) hb).trans (hcell j hlt 11 _ rfl)
         have h12 := (HBl.out.cell (p := ⟨b,off + j * 14 + 12,none⟩) hb).trans (hcell j hlt 12 _ rfl)
         have h13 := (HBl.out.cell (p := ⟨b,off + j * 14 + 13,none⟩) hb).trans (hcell j hlt 13 _ rfl)
         clear hcell
         have hm := List.getElem_mem hlt
         have HAc := Lib.hid (HAc1.out _ hm)
         have HNm := Lib.hid (HNm1.out _ hm)
         clear hm
         generalize L[j] = t at *
         have ha := (Below.refl wr.heap.size wr).alloc (Nat.le_refl _) (.cells #[.int .i64 t.kind,.string t.c.s.name,.int .i64 t.c.s.depth,.int .i64 t.c.s.low,.int .i64 t.c.s.high,.int .i64 t.c.s.len,.slice t.c.al t.c.s.lines.length t.c.cl,.int .i64 t.c.s.pipe,.int .i64 t.c.s.arbor,.int .i64 t.c.s.purch,.int .i64 t.c.s.most,.int .i64 t.c.s.brake,.slice t.c.ai t.c.s.items.length t.c.ci,.slice t.c.ab t.c.s.bricks.length t.c.cb] 71)
         have hIa := hI.below ha
         have HIa := Lib.hid hIa
         have HXa := Lib.hid (Blk.new wr 71 #[.int .i64 t.kind,.string t.c.s.name,.int .i64 t.c.s.depth,.int .i64 t.c.s.low,.int .i64 t.c.s.high,.int .i64 t.c.s.len,.slice t.c.al t.c.s.lines.length t.c.cl,.int .i64 t.c.s.pipe,.int .i64 t.c.s.arbor,.int .i64 t.c.s.purch,.int .i64 t.c.s.most,.int .i64 t.c.s.brake,.slice t.c.ai t.c.s.items.length t.c.ci,.slice t.c.ab t.c.s.bricks.length t.c.cb])
         have HUn := Lib.hid hun
         have HKn := Lib.hid hkn
         have hN := stNames w.heap.size D M1 st r1 _ hIa.store hIa.ok
         clear ha hIa hI hun hkn HBl
         go_wp2_with fail
         refine hN.mono ?_
         rintro e w4 ⟨hb4,v4,rfl,ho4⟩
         obtain ⟨A4,c4,rfl⟩ := own_formB ho4
         have HI4 := Lib.hid (HIa.out.below hb4)
         have HX4 := Lib.hid (HXa.out.below hb4 HXa.out.lt)
         have HO4 := Lib.hid (own_mono ho4 HIa.out.bel.size)
         have hG := stGet w.heap.size D M1 st r1 t.c.s.name _ HI4.out.store HI4.out.ok
         clear hb4 ho4 hN HIa HXa
         clear h0 h1 h2 h3 h4 h5 h6 h7 h8 h9 h10 h11 h12 h13
         have p0 := HX4.out.cell 0
         have p1 := HX4.out.cell 1
         have p2 := HX4.out.cell 2
         have p3 := HX4.out.cell 3
         have p4 := HX4.out.cell 4
         have p5 := HX4.out.cell 5
         have p6 := HX4.out.cell 6
         have p7 := HX4.out.cell 7
         have p8 := HX4.out.cell 8
         have p9 := HX4.out.cell 9
         have p10 := HX4.out.cell 10
         have p11 := HX4.out.cell 11
         have p12 := HX4.out.cell 12
         have p13 := HX4.out.cell 13
         simp only [List.getElem?_toArray,List.getElem?_cons_succ,List.getElem?_cons_zero] at p0 p1 p2 p3 p4 p5 p6 p7 p8 p9 p10 p11 p12 p13
         go_wp2_with fail
         refine hG.mono ?_
         rintro e w5 ⟨hb5,⟨s,al,cl,ai,ci,ab,cb⟩,rfl,hs,ho5⟩
         simp only at hs
         have HGs := Lib.hid hs
         have ha := (Below.refl w5.heap.size w5).alloc (Nat.le_refl _) (.cells #[.string s.name,.int .i64 s.depth,.int .i64 s.low,.int .i64 s.high,.int .i64 s.len,.slice al s.lines.length cl,.int .i64 s.pipe,.int .i64 s.arbor,.int .i64 s.purch,.int .i64 s.most,.int .i64 s.brake,.slice ai s.items.length ci,.slice ab s.bricks.length cb] 26)
         have hb5a := hb5.trans (ha.mono hb5.size)
         have HI6 := Lib.hid (HI4.out.below hb5a)
         have HX6 := Lib.hid (HX4.out.below hb5a HX4.out.lt)
         have HO6 := Lib.hid (own_belowL HO4.out hb5a)
         have HS6 := Lib.hid (Blk.new w5 26 #[.string s.name,.int .i64 s.depth,.int .i64 s.low,.int .i64 s.high,.int .i64 s.len,.slice al s.lines.length cl,.int .i64 s.pipe,.int .i64 s.arbor,.int .i64 s.purch,.int .i64 s.most,.int .i64 s.brake,.slice ai s.items.length ci,.slice ab s.bricks.length cb])
         have HC6 := Lib.hid ((own_mono3 ho5 HI4.out.bel.size).chg (ChgS.of_below ha (Nat.zero_le _)))
         obtain ⟨er,her⟩ : ∃ er,(getS st t.c.s.name).2 = er := ⟨_,rfl⟩
         rw [her]
         have HEr := Lib.hid her
         clear ha hb5 hb5a hG ho5 hs HI4 HX4 HO4 her
         unfold SetC.val setVal at *
         go_upto_region 32 with fail
         clear p0 p1 p2 p3 p4 p5 p6 p7 p8 p9 p10 p11 p12 p13
         generalize (w5.alloc (.cells #[.string s.name,.int .i64 s.depth,.int .i64 s.low,.int .i64 s.high,.int .i64 s.len,.slice al s.lines.length cl,.int .i64 s.pipe,.int .i64 s.arbor,.int .i64 s.purch,.int .i64 s.most,.int .i64 s.brake,.slice ai s.items.length ci,.slice ab s.bricks.length cb] 26)) = w6 at *
         generalize w5.heap.size = D5 at *
         have p0 := HX6.out.cell 0
         have p1 := HX6.out.cell 1
         have p2 := HX6.out.cell 2
         have p3 := HX6.out.cell 3
         have p4 := HX6.out.cell 4
         have p5 := HX6.out.cell 5
         have p6 := HX6.out.cell 6
         have p7 := HX6.out.cell 7
         have p8 := HX6.out.cell 8
         have p9 := HX6.out.cell 9
         have p10 := HX6.out.cell 10
         have p11 := HX6.out.cell 11
         have p12 := HX6.out.cell 12
         have p13 := HX6.out.cell 13
         simp only [List.getElem?_toArray,List.getElem?_cons_succ,List.getElem?_cons_zero] at p0 p1 p2 p3 p4 p5 p6 p7 p8 p9 p10 p11 p12 p13
         have hIsto := HI6.out.store
         have hIok := HI6.out.ok
         have hp1 : st.past.length ≤ 1000 := Nat.le_trans HI6.out.small.past (by have := HL12.out;omega)
         have hst := (HAc.out _ HI6.out.bel)
         have HCOM : Hid (∀ (w' : World) (st' : St) (k' : Nat),ActPost w.heap.size D M1 st' w6 w' → StOk st' → StSmall st' (24 + j + 1) → Und S P st' k' → (∀ y ∈ st.known,y ∈ st'.known) → ∃ (M : Nat → Prop) (r : StR),Und49 w w' D (.slice A6 S.length c6) (.slice As LS.length cs) M st' r S LS (24 + (j + 1)) ∧ Und S P st' k' ∧ ∀ y ∈ S,y ∈ st'.known) := by
          intro w' st' k' hact hok hsm hun hkn
          obtain ⟨M',r',hI'⟩ := HI6.out.act hact (n' := 24 + (j + 1)) hok hsm
          exact ⟨M',r',hI',hun,fun y hy => hkn y (HKn.out y hy)⟩
         have HAct := Lib.hid (show ∀ kd,StSmall (actS st kd t.c.s) (24 + j + 1) ∧ StOk (actS st kd t.c.s) ∧ ∀ y ∈ st.known,y ∈ (actS st kd t.c.s).known from fun kd => ⟨HI6.out.small.act kd _,hIok.act kd _,fun y hy => known_act st kd _ y hy⟩)
         have HPut := Lib.hid ((stPut w.heap.size D M1 st r1 t.c.val t.c.s _ hIsto hIok hst HNm.out hp1).mono fun _ _ hp => act_put hp)
         have HDr := Lib.hid ((stDrop w.heap.size D M1 st r1 t.c.s.name _ hIsto hIok hp1).mono fun _ _ hp => act_put hp)
         have HLn := Lib.hid ((stLines w.heap.size D M1 st r1 t.c.s.name _ hIsto hIok (HT.out _ HI6.out.bel) (Nat.le_trans HI6.out.small.work (by have := HL12.out;omega)) (Nat.le_trans HI6.out.small.known (by have := HL12.out;omega))).mono fun _ _ hp => act_lines hp)
         clear hIsto hIok hst HNm hp1
         rcases kinds t.kind with (hk0 | ⟨h0,hk1⟩) | ⟨h0,h1,hk2⟩ | ⟨h0,h1,h2,hk3⟩ | ⟨h0,h1,h2,h3⟩
         ·have b0 : (t.kind == 0) = true := by rw [hk0];rfl
          have hPu := HPut.out
          have HA0 := Lib.hid (by have := HAct.out 0;rwa [act0 rfl] at this : StSmall (putV st t.c.s).2 (24 + j + 1) ∧ StOk (putV st t.c.s).2 ∧ ∀ y ∈ st.known,y ∈ (putV st t.c.s).2.known)
          clear hk0 HPut HDr HLn HAct
          go_wp2_with fail
          refine hPu.mono ?_
          rintro e w7 ⟨rfl,hact⟩
          have HX7 := Lib.hid (HX6.out.chg hact.1 (by decide) (by decide))
          have HS7 := Lib.hid (HS6.out.chg hact.1 (by decide) (by decide))
          have HC7 := Lib.hid (HC6.out.chg hact.1)
          have hst7 := HAc.out w7 (HI6.out.bel.trans hact.1.bel)
          have HFin := Lib.hid fun k' (hun : Und S P (putV st t.c.s).2 k') => HCOM.out w7 _ k' hact HA0.out.2.1 HA0.out.1 hun HA0.out.2.2
          have HB7 := Lib.hid (HI6.out.bel.trans hact.1.bel)
          clear hact hPu HCOM HX6 HS6 HC6 HI6 p0 p1 p2 p3 p4 p5 p6 p7 p8 p9 p10 p11 p12 p13
          by_cases hz : (putV st t.c.s).1 = 0
          rotate_left
          ·have bz : ((putV st t.c.s).1 == 0) = false := by simpa using hz
           have HF := Lib.hid (HFin.out k (und_put_no HUn.out t.c.s hz))
           clear hz HFin hst7
           go_wp2_with fail
           go_roundw
           case rel =>
            obtain ⟨M',r',g1,g2,g3⟩ := HF.out
            exact ⟨j + 1,k,_,M',r',by omega,by omega,by go_num,rfl,g1,g2,g3⟩
           case measure => simp [intOf];omega
          ·have HUP := Lib.hid (und_put HUn.out t.c.s hz)
           rw [hz]
           clear hz
           by_cases hE : er = 0
           rotate_left
           ·have be : (er != 0) = true := bne_iff_ne.2 hE
            have HF := Lib.hid (HFin.out (k + 1) (HUP.out.elim (fun h => absurd (HEr.out.symm.trans (congrArg Prod.snd h.1)) hE) fun h => h.2))
            clear hE HFin HUP hst7
            go_wp2_with fail
            go_roundw
            case rel =>
             obtain ⟨M',r',g1,g2,g3⟩ := HF.out
             exact ⟨j + 1,k + 1,_,M',r',by omega,by omega,by go_num,by go_num,g1,g2,g3⟩
            case measure => simp [intOf];omega
           ·have be : (er != 0) = false := by rw [hE];rfl
            have hSa := refSame21 (setVal s al cl ai ci ab cb) t.c.val s t.c.s w7 (HC7.out.set) hst7
            have p0 := HX7.out.cell 0
            have p1 := HX7.out.cell 1
            have p2 := HX7.out.cell 2
            have p3 := HX7.out.cell 3
            have p4 := HX7.out.cell 4
            have p5 := HX7.out.cell 5
            have p6 := HX7.out.cell 6
            have p7 := HX7.out.cell 7
            have p8 := HX7.out.cell 8
            have p9 := HX7.out.cell 9
            have p10 := HX7.out.cell 10
            have p11 := HX7.out.cell 11
            have p12 := HX7.out.cell 12
            have p13 := HX7.out.cell 13
            simp only [List.getElem?_toArray,List.getElem?_cons_succ,List.getElem?_cons_zero] at p0 p1 p2 p3 p4 p5 p6 p7 p8 p9 p10 p11 p12 p13
            have q0 := HS7.out.cell 0
            have q1 := HS7.out.cell 1
            have q2 := HS7.out.cell 2
            have q3 := HS7.out.cell 3
            have q4 := HS7.out.cell 4
            have q5 := HS7.out.cell 5
            have q6 := HS7.out.cell 6
            have q7 := HS7.out.cell 7
            have q8 := HS7.out.cell 8
            have q9 := HS7.out.cell 9
            have q10 := HS7.out.cell 10
            have q11 := HS7.out.cell 11
            have q12 := HS7.out.cell 12
            simp only [List.getElem?_toArray,List.getElem?_cons_succ,List.getElem?_cons_zero] at q0 q1 q2 q3 q4 q5 q6 q7 q8 q9 q10 q11 q12
            by_cases hq : s = t.c.s
            ·have HF := Lib.hid (HFin.out k (HUP.out.elim (fun h => h.2) fun h => absurd (Prod.ext (HGs.out.symm.trans hq) (HEr.out.trans hE)) h.1))
             rw [decide_eq_true hq] at hSa
             clear hE hq HFin HUP hst7
             unfold setVal at hSa
             go_wp2_with fail
             refine hSa.mono ?_
             rintro e w8 ⟨rfl,hb8⟩
             have HBq := Lib.hid hb8
             clear hSa hb8 p0 p1 p2 p3 p4 p5 p6 p7 p8 p9 p10 p11 p12 p13 q0 q1 q2 q3 q4 q5 q6 q7 q8 q9 q10 q11 q12
             go_wp2_with fail
             go_roundw
             case rel =>
              obtain ⟨M',r',g1,g2,g3⟩ := HF.out
              exact ⟨j + 1,k,_,M',r',by omega,by omega,by go_num,rfl,g1.below HBq.out,g2,g3⟩
             case measure => simp [intOf];omega
            ·have HF := Lib.hid (HFin.out (k + 1) (HUP.out.elim (fun h => absurd (HGs.out.trans (congrArg Prod.fst h.1)) hq) fun h => h.2))
             rw [decide_eq_false hq] at hSa
             clear hE hq HFin HUP hst7
             unfold setVal at hSa
             go_wp2_with fail
             refine hSa.mono ?_
             rintro e w8 ⟨rfl,hb8⟩
             have HBq := Lib.hid hb8
             clear hSa hb8 p0 p1 p2 p3 p4 p5 p6 p7 p8 p9 p10 p11 p12 p13 q0 q1 q2 q3 q4 q5 q6 q7 q8 q9 q10 q11 q12
             go_wp2_with fail
             go_roundw
             case rel =>
              obtain ⟨M',r',g1,g2,g3⟩ := HF.out
              exact ⟨j + 1,k + 1,_,M',r',by omega,by omega,by go_num,by go_num,g1.below HBq.out,g2,g3⟩
             case measure => simp [intOf];omega
         ·have b0 : (t.kind == 0) = false := by simpa using h0
          have b1 : (t.kind == 1) = true := by rw [hk1];rfl
          have hDr := HDr.out
          have HA0 := Lib.hid (by have := HAct.out 1;rwa [act1 rfl] at this : StSmall (dropSt st t.c.s.name).2 (24 + j + 1) ∧ StOk (dropSt st t.c.s.name).2 ∧ ∀ y ∈ st.known,y ∈ (dropSt st t.c.s.name).2.known)
          clear hk1 h0 HPut HDr HLn HAct
          go_wp2_with fail
          refine hDr.mono ?_
          rintro e w7 ⟨rfl,hact⟩
          have HFin := Lib.hid fun k' (hun : Und S P (dropSt st t.c.s.name).2 k') => HCOM.out w7 _ k' hact HA0.out.2.1 HA0.out.1 hun HA0.out.2.2
          clear hact hDr HCOM HX6 HS6 HC6 HI6 p0 p1 p2 p3 p4 p5 p6 p7 p8 p9 p10 p11 p12 p13
          rcases und_drop HUn.out t.c.s.name with ⟨hz,hu⟩ | ⟨hz,hu⟩
          ·rw [hz]
           have HF := Lib.hid (HFin.out (k + 1) hu)
           clear hz hu HFin
           go_wp2_with fail
           go_roundw
           case rel =>
            obtain ⟨M',r',g1,g2,g3⟩ := HF.out
            exact ⟨j + 1,k + 1,_,M',r',by omega,by omega,by go_num,by go_num,g1,g2,g3⟩
           case measure => simp [intOf];omega
          ·rw [hz]
           have HF := Lib.hid (HFin.out k hu)
           clear hz hu HFin
           go_wp2_with fail
           go_roundw
           case rel =>
            obtain ⟨M',r',g1,g2,g3⟩ := HF.out
            exact ⟨j + 1,k,_,M',r',by omega,by omega,by go_num,rfl,g1,g2,g3⟩
           case measure => simp [intOf];omega
         ·have b0 : (t.kind == 0) = false := by simpa using h0
          have b1 : (t.kind == 1) = false := by simpa using h1
          have b3 : (t.kind == 3) = false := by rw [hk2];rfl
          have HF := Lib.hid (HCOM.out w6 st k (act_stay HI6.out.store) HI6.out.ok (HI6.out.small.mono (Nat.le_succ _)) HUn.out (fun _ h => h))
          clear hk2 h0 h1 HPut HDr HLn HAct HCOM HX6 HS6 HC6 HI6
          go_wp2_with fail
          go_roundw
          case rel =>
           obtain ⟨M',r',g1,g2,g3⟩ := HF.out
           exact ⟨j + 1,k,_,M',r',by omega,by omega,by go_num,rfl,g1,g2,g3⟩
          case measure => simp [intOf];omega
         ·have b0 : (t.kind == 0) = false := by simpa using h0
          have b1 : (t.kind == 1) = false := by simpa using h1
          have b3 : (t.kind == 3) = true := by rw [hk3];rfl
          have hLn := HLn.out
          have HA0 := Lib.hid (by have := HAct.out 3;rwa [act3 rfl] at this : StSmall (linesSt st t.c.s.name) (24 + j + 1) ∧ StOk (linesSt st t.c.s.name) ∧ ∀ y ∈ st.known,y ∈ (linesSt st t.c.s.name).known)
          clear hk3 h0 h1 h2 HPut HDr HLn HAct
          go_wp2_with fail
          refine hLn.mono ?_
          rintro e w7 ⟨⟨vv,rfl⟩,hact⟩
          have HO7 := Lib.hid (own_chg HO6.out hact.1 (by decide) (by decide))
          have HF := Lib.hid (HCOM.out w7 (linesSt st t.c.s.name) k hact HA0.out.2.1 HA0.out.1 (HUn.out.same (linesSt_same st _).1 (linesSt_same st _).2.1) HA0.out.2.2)
          clear hact hLn HCOM HX6 HS6 HC6 HI6 HO6 p0 p1 p2 p3 p4 p5 p6 p7 p8 p9 p10 p11 p12 p13
          obtain ⟨M',r',hI7,g2,g3⟩ := HF.out
          have HI7 := Lib.hid hI7
          have HG2 := Lib.hid g2
          have HG3 := Lib.hid g3
          have hN := stNames w.heap.size D M' _ r' w7 hI7.store hI7.ok
          clear hI7 g2 g3 HF
          go_wp2_with fail
          refine hN.mono ?_
          rintro e w8 ⟨hb8,v8,rfl,ho8⟩
          have HI8 := Lib.hid (HI7.out.below hb8)
          rw [(linesSt_same st _).1] at ho8
          have hEq := equalStr _ v8 (st.sets.map SetT.name) (st.sets.map SetT.name) w8.heap.size w8 (by simpa [RowAt] using Flat.of_own (own_belowL HO7.out hb8)) (by simpa [RowAt] using Flat.of_own ho8)
          rw [decide_eq_true rfl] at hEq
          obtain ⟨A8,c8,rfl⟩ := own_formB ho8
          clear hb8 ho8 hN HI7 HO7
          go_wp2_with fail
          refine hEq.mono ?_
          rintro e w9 ⟨rfl,nq,rfl⟩
          have HI9 := Lib.hid (HI8.out.below (below_drewN (Below.refl _ w8) nq))
          clear hEq HI8
          go_wp2_with fail
          go_roundw
          case rel => exact ⟨j + 1,k,_,M',r',by omega,by omega,by go_num,rfl,HI9.out,HG2.out,HG3.out⟩
          case measure => simp [intOf];omega
         ·have b0 : (t.kind == 0) = false := by simpa using h0
          have b1 : (t.kind == 1) = false := by simpa using h1
          have b3 : (t.kind == 3) = false := by simpa using h3
          have HF := Lib.hid (HCOM.out w6 st k (act_stay HI6.out.store) HI6.out.ok (HI6.out.small.mono (Nat.le_succ _)) HUn.out (fun _ h => h))
          clear h0 h1 h2 h3 HPut HDr HLn HAct HCOM HX6 HS6 HC6 HI6
          go_wp2_with fail
          go_roundw
          case rel =>
           obtain ⟨M',r',g1,g2,g3⟩ := HF.out
           exact ⟨j + 1,k,_,M',r',by omega,by omega,by go_num,rfl,g1,g2,g3⟩
          case measure => simp [intOf];omega
        ·have hje : j = L.length := by omega
         subst hje
         have HI := Lib.hid (hI.mono (n' := 36) (by have := HL12.out;omega))
         have HUn := Lib.hid hun
         have HKn := Lib.hid hkn
         clear hI hun hkn
         go_wp2_with fail
         go_loopw [139] (fun x wq => ∃ (i : Nat) (st : St) (M : Nat → Prop) (r : StR),i ≤ k ∧ x = .int .i64 i ∧ Und49 w wq D (.slice A6 S.length c6) (.slice As LS.length cs) M st r S LS 36 ∧ Und S P st (k - i) ∧ ∀ y ∈ S,y ∈ st.known) (fun x _ => k - (intOf x).toNat)
         case atStart => exact ⟨0,_,_,_,Nat.zero_le _,rfl,HI.out,HUn.out,HKn.out⟩
         case round =>
          clear HI HUn HKn
          obtain ⟨i,st,M1,r1,hi,rfl,hI,hun,hkn⟩ := hrel
          by_cases hlt : i < k
          ·have hun' : Und S P st (k - (i + 1) + 1) := by rw [show k - (i + 1) + 1 = k - i by omega];exact hun
           obtain ⟨u1,u2,u3⟩ := hun'.undo
           have hU := (stUndo w.heap.size D M1 st r1 _ hI.store (Nat.le_trans hI.small.past (by decide))).mono fun _ _ hp => act_undo hp
           rw [u1] at hU
           have HI := Lib.hid hI
           have HUn := Lib.hid u2
           have HKn : Hid (∀ y ∈ S,y ∈ (undoSt st).2.known) := by rw [u3];exact hkn
           clear hI hun hkn hun' u1 u2 u3
           go_wp2_with fail
           refine hU.mono ?_
           rintro e w7 ⟨rfl,hact⟩
           obtain ⟨M',r',hI7⟩ := HI.out.act hact (n' := 36) HI.out.ok.undo (small_undo HI.out.small)
           have HI7 := Lib.hid hI7
           clear hact hU hI7 HI
           go_wp2_with fail
           go_roundw
           case rel => exact ⟨i + 1,_,M',r',by omega,by go_num,HI7.out,HUn.out,HKn.out⟩
           case measure => simp [intOf];omega
          ·have hie : i = k := by omega
           subst hie
           rw [Nat.sub_self] at hun
           have hse := hun.end_
           have hW := stWork w.heap.size D M1 st r1 _ hI.store
           have HKn : Hid (∀ y ∈ st.sets,y ∈ st.known) := by rw [hse];exact hkn
           have HSE := Lib.hid hse
           have HI := Lib.hid hI
           have hN := stNames w.heap.size D M1 st r1 _ hI.store hI.ok
           clear hun hkn hI hse
           go_wp2_with fail
           refine hW.mono ?_
           rintro e w7 ⟨rfl,rfl⟩
           go_wp2_with fail
           refine hN.mono ?_
           rintro e w8 ⟨hb8,v8,rfl,ho8⟩
           rw [HSE.out] at ho8
           have HI8 := Lib.hid (HI.out.below hb8)
           have hEq := equalStr v8 (.slice A6 S.length c6) (S.map SetT.name) (S.map SetT.name) w8.heap.size w8 (by simpa [RowAt] using Flat.of_own ho8) (by simpa [RowAt] using Flat.of_own (HI8.out.names))
           rw [decide_eq_true rfl] at hEq
           obtain ⟨A8,c8,rfl⟩ := own_formB ho8
           clear hb8 ho8 hN hW HI
           go_wp2_with fail
           refine hEq.mono ?_
           rintro e w9 ⟨rfl,nq,rfl⟩
           have HI9 := Lib.hid (HI8.out.below (below_drewN (Below.refl _ w8) nq))
           clear hEq HI8
           generalize hwk : (st.work : Int) = wk at *
           have HWk := Lib.hid hwk
           clear hwk
           go_wp2_with fail
           go_loopw [154] (fun x wq => ∃ (i : Nat) (M : Nat → Prop) (r : StR),i ≤ S.length ∧ x = .int .i64 i ∧ Und49 w wq D (.slice A6 S.length c6) (.slice As LS.length cs) M st r S LS 36) (fun x _ => S.length - (intOf x).toNat)
           case atStart => exact ⟨0,_,_,Nat.zero_le _,rfl,HI9.out⟩
           case round =>
            clear HI9
            obtain ⟨i,M2,r2,hi,rfl,hI⟩ := hrel
            by_cases hlt : i < S.length
            ·have hlt' : i < st.sets.length := by rw [HSE.out];exact hlt
             obtain ⟨b,off,rfl,hcell⟩ := names_cell hI.names rfl hlt
             obtain ⟨x,hx,hxe,f1,f2,f3⟩ := und_last hI.ok hlt' HKn.out
             have hxe' : S[i] = x := by rw [← hxe];congr 1;exact HSE.out.symm
             rw [hxe'] at hcell
             have hG := (stGet w.heap.size D M2 st r2 x.name _ hI.store hI.ok).mono fun _ _ hp => get_at hp f1
             have HI := Lib.hid hI
             have HF2 := Lib.hid f2
             have HF3 := Lib.hid f3
             have HXe := Lib.hid hxe'
             clear hI f1 f2 f3 hxe hxe' hx
             go_wp2_with fail
             refine hG.mono ?_
             rintro e w7 ⟨hb7,⟨s,al,cl,ai,ci,ab,cb⟩,rfl,hs,ho7⟩
             simp only at hs
             subst hs
             have ha := (Below.refl w7.heap.size w7).alloc (Nat.le_refl _) (.cells #[.string s.name,.int .i64 s.depth,.int .i64 s.low,.int .i64 s.high,.int .i64 s.len,.slice al s.lines.length cl,.int .i64 s.pipe,.int .i64 s.arbor,.int .i64 s.purch,.int .i64 s.most,.int .i64 s.brake,.slice ai s.items.length ci,.slice ab s.bricks.length cb] 26)
             have hb7a := hb7.trans (ha.mono hb7.size)
             have hI8 := HI.out.below hb7a
             have HI8 := Lib.hid hI8
             have HX8 := Lib.hid (Blk.new w7 26 #[.string s.name,.int .i64 s.depth,.int .i64 s.low,.int .i64 s.high,.int .i64 s.len,.slice al s.lines.length cl,.int .i64 s.pipe,.int .i64 s.arbor,.int .i64 s.purch,.int .i64 s.most,.int .i64 s.brake,.slice ai s.items.length ci,.slice ab s.bricks.length cb])
             have HO8 := Lib.hid ((own_mono3 ho7 HI.out.bel.size).chg (ChgS.of_below ha (Nat.zero_le _)))
             have hF := stFresh w.heap.size D M2 st r2 s.name _ hI8.store hI8.ok (HT.out _ hI8.bel)
             rw [HF2.out] at hF
             clear ha hb7 hb7a ho7 hG HI hI8
             unfold SetC.val setVal at *
             go_wp2_with fail
             refine hF.mono ?_
             rintro e w9 ⟨rfl,hb9⟩
             have hI9 := HI8.out.below hb9
             have HI9 := Lib.hid hI9
             have HX9 := Lib.hid (HX8.out.below hb9 HX8.out.lt)
             have HO9 := Lib.hid (HO8.out.chg (ChgS.of_below hb9 (Nat.zero_le _)))
             have hL := (stLines w.heap.size D M2 st r2 s.name _ hI9.store hI9.ok (HT.out _ hI9.bel) (Nat.le_trans hI9.small.work (by decide)) (Nat.le_trans hI9.small.known (by decide))).mono fun _ _ hp => act_lines hp
             rw [HF3.out] at hL
             clear hb9 hI9 hF HI8 HX8 HO8
             go_wp2_with fail
             refine hL.mono ?_
             rintro e w10 ⟨⟨vv,rfl⟩,hact⟩
             have HX10 := Lib.hid (HX9.out.chg hact.1 (by decide) (by decide))
             have HO10 := Lib.hid (HO9.out.chg hact.1)
             obtain ⟨M3,r3,hI10⟩ := HI9.out.act hact (n' := 36) HI9.out.ok HI9.out.small
             have HI10 := Lib.hid hI10
             clear hact hL HI9 HX9 HO9
             have hil : i < LS.length := by have := HL3.out;omega
             obtain ⟨_,_,e,hsv⟩ := hI10.saved.open_
             injection e with e1 _ e2
             subst e1 e2
             obtain ⟨b2,off2,rfl,hb2,hsc⟩ := hsv i hil
             have hcm := hI10.saved.sets _ (List.getElem_mem hil)
             have hcs : LS[i].s = s := by
              have h1 : (LS.map SetC.s)[i]? = S[i]? := by rw [HLs.out]
              rw [List.getElem?_map,List.getElem?_eq_getElem hil,List.getElem?_eq_getElem hlt,HXe.out] at h1
              simpa using h1
             generalize LS[i] = y at *
             obtain ⟨s',al',cl',ai',ci',ab',cb'⟩ := y
             simp only at hcs
             subst hcs
             have HHE := Lib.hid fun W (hb : Below w10.heap.size w10 W) => refSame21 (setVal s' al cl ai ci ab cb) (setVal s' al' cl' ai' ci' ab' cb') s' s' W ((HO10.out.chg (ChgS.of_below hb (Nat.zero_le _))).set) ((hcm.chg (ChgS.of_below hb (Nat.zero_le _))).set)
             have HWw := Lib.hid fun W (hb : Below w10.heap.size w10 W) => stWork w.heap.size D M3 st r3 W (hI10.store.below hb)
             rw [HWk.out] at HWw
             rw [decide_eq_true rfl] at HHE
             unfold setVal at HHE
             have hSm := fun x => HeldB.call HHE.out x
             have hWw := fun x => HeldB.call (fun W hb => (HWw.out W hb).mono fun _ _ hp => ⟨hp.1,hp.2 ▸ Below.refl _ _⟩) x
             have x0 := hsc 0 _ rfl;rw [Nat.add_zero] at x0
             have x1 := hsc 1 _ rfl
             have x2 := hsc 2 _ rfl
             have x3 := hsc 3 _ rfl
             have x4 := hsc 4 _ rfl
             have x5 := hsc 5 _ rfl
             have x6 := hsc 6 _ rfl
             have x7 := hsc 7 _ rfl
             have x8 := hsc 8 _ rfl
             have x9 := hsc 9 _ rfl
             have x10 := hsc 10 _ rfl
             have x11 := hsc 11 _ rfl
             have x12 := hsc 12 _ rfl
             have z0 := HX10.out.cell 0
             have z1 := HX10.out.cell 1
             have z2 := HX10.out.cell 2
             have z3 := HX10.out.cell 3
             have z4 := HX10.out.cell 4
             have z5 := HX10.out.cell 5
             have z6 := HX10.out.cell 6
             have z7 := HX10.out.cell 7
             have z8 := HX10.out.cell 8
             have z9 := HX10.out.cell 9
             have z10 := HX10.out.cell 10
             have z11 := HX10.out.cell 11
             have z12 := HX10.out.cell 12
             simp only [List.getElem?_toArray,List.getElem?_cons_succ,List.getElem?_cons_zero] at z0 z1 z2 z3 z4 z5 z6 z7 z8 z9 z10 z11 z12
             have p0 := HeldB.cell x0
             have p1 := HeldB.cell x1
             have p2 := HeldB.cell x2
             have p3 := HeldB.cell x3
             have p4 := HeldB.cell x4
             have p5 := HeldB.cell x5
             have p6 := HeldB.cell x6
             have p7 := HeldB.cell x7
             have p8 := HeldB.cell x8
             have p9 := HeldB.cell x9
             have p10 := HeldB.cell x10
             have p11 := HeldB.cell x11
             have p12 := HeldB.cell x12
             have q0 := HeldB.cell z0
             have q1 := HeldB.cell z1
             have q2 := HeldB.cell z2
             have q3 := HeldB.cell z3
             have q4 := HeldB.cell z4
             have q5 := HeldB.cell z5
             have q6 := HeldB.cell z6
             have q7 := HeldB.cell z7
             have q8 := HeldB.cell z8
             have q9 := HeldB.cell z9
             have q10 := HeldB.cell z10
             have q11 := HeldB.cell z11
             have q12 := HeldB.cell z12
             have n1 : (wk != wk) = false := bne_self_eq_false _
             clear hsc hcm hI10 HHE HWw HXe x0 x1 x2 x3 x4 x5 x6 x7 x8 x9 x10 x11 x12 z0 z1 z2 z3 z4 z5 z6 z7 z8 z9 z10 z11 z12
             go_wp2_with fail
             refine wp_region_heldb (by kernel_rfl) (by kernel_rfl) ?_
             repeat (go_big_quiet_step ((first | (go_at_call 29;exact hSm _) | (go_at_call 42;exact hWw _))))
             refine wpQuiet_nil ?_
             rintro _ ⟨⟨w11,hb11⟩,rfl⟩
             have HI11 := Lib.hid (HI10.out.below hb11)
             clear hb11 p0 p1 p2 p3 p4 p5 p6 p7 p8 p9 p10 p11 p12 q0 q1 q2 q3 q4 q5 q6 q7 q8 q9 q10 q11 q12 hSm hWw HI10 HX10 HO10
             go_wp2_with fail
             go_roundw
             case rel => exact ⟨i + 1,M3,r3,by omega,by go_num,HI11.out⟩
             case measure => simp [intOf];omega
            ·have hie : i = S.length := by omega
             subst hie
             have HB := Lib.hid hI.bel
             clear hI
             go_wp2_with fail
             go_ret
             exact ⟨rfl,HB.out⟩
end Go.Proofs.YtbhmkcjddpniiaaGreatDoor
