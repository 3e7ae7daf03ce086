/- Parts of the proof, laid into one text: RgA, RgB, RgC, RgD, RgE, RgF, RgG. -/
import Derived.Test.YtfhmbechennkbaaGreatDoorR0
namespace Go.Proofs.YtfhmbechennkbaaGreatDoor
set_option maxRecDepth 100000
set_option maxHeartbeats 40000000
open Go.RowKit Go.Shelf
theorem info_dig:(Tryz.prog.info? 3).map (fun i => (i.zero,i.size,i.bytes))=some (some (.int .i64 0),1,8):=by kernel_rfl
theorem ownD_below {w w':World} {B e s n:Nat} {v:Value} {xs:List Value} (h:w.ownsRow B e s v n xs) (hb:Below w.heap.size w w'):w'.ownsRow B e s v n xs :=
 h.kept (grown_below (row:=none) hb) (by
  by_cases e:v.ownBlock=none
  ·exact .inl e
  ·exact .inr e)
theorem own_dig {w:World} {B:Nat} {v:Value} {x k:Nat} (h:w.ownsRow B 3 1 v k ((digsTo x k).map dgV)):DgTo w w.heap.size v x k:=⟨RowAt.of_own h,fun _ g hg => by
 rcases h.2 with ⟨rfl,_⟩ | ⟨g',cap,cur,rfl,_,hh,_⟩
 ·simp [Value.ownBlock] at hg
 ·obtain rfl:g'=g:=by simpa [Value.ownBlock] using hg
  exact ⟨cur,(0,0),hh⟩⟩
theorem own_more {w:World} {B:Nat} {v:Value} {x k:Nat} {u:Value} (hu:u = .int .i64 (gdig x k:Nat)) (h:w.ownsRow B 3 1 v (k+1) ((digsTo x k).map dgV ++ [u])):w.ownsRow B 3 1 v (k+1) ((digsTo x (k+1)).map dgV):=by
 rw [digsTo_succ,List.map_append]
 rw [hu] at h
 exact h
theorem rgDigit (v:Value) (n i:Nat) (w:World) (hv:DgAt w w.heap.size v n) (_hi:i≤maxLen) :
  Calls Tryz.prog 208 #[v,.int .i64 i] w fun e w' => e = .returned (.int .i64 (gdig n i:Nat))∧w=w':=by
 obtain ⟨A,c,rfl,hc1,hc2,hcell⟩:=hv.open_
 unfold maxLen at hc2
 have k0:(0:Int)≤(i:Int):=Int.natCast_nonneg _
 by_cases h:i<dlen n
 ·obtain ⟨b,off,rfl,hb,hx⟩:=hcell i h
  have h0:=hx i h
  have hd:decide ((i:Int)<(dlen n:Int))=true:=decide_eq_true (by omega)
  have k1:(i:Int)<(dlen n:Int):=by omega
  clear hx hcell hv
  go_enter Tryz.func208,Tryz.ntmps208
  go_wp2_with fail
  go_ret
  exact ⟨rfl,rfl⟩
 ·have hd:decide ((i:Int)<(dlen n:Int))=false:=decide_eq_false (by omega)
  have hz:=gdig_hi (show dlen n≤i by omega)
  clear hcell hv
  go_enter Tryz.func208,Tryz.ntmps208
  go_wp2_with fail
  go_ret
  exact ⟨by rw [hz];rfl,rfl⟩
def DgPost (w:World) (n:Nat) (e:Ending) (w':World):Prop:=∃ v,e = .returned v∧Below w.heap.size w w'∧DgAt w' w'.heap.size v n
theorem rgPlus (v u:Value) (m n:Nat) (w:World) (hv:DgAt w w.heap.size v m) (hu:DgAt w w.heap.size u n) (hm:dlen m≤1000000) (hn:dlen n≤1000000) :
  Calls Tryz.prog 205 #[v,u] w (DgPost w (m+n)):=by
 have HDm:Hid (∀ W,Below w.heap.size w W→∀ i,i≤maxLen→Calls Tryz.prog 208 #[v,.int .i64 (i:Nat)] W fun e w' => e = .returned (.int .i64 (gdig m i:Nat))∧W=w'):=fun W hb i hi => rgDigit v m i W (DgTo.grow hv hb) hi
 have HDn:Hid (∀ W,Below w.heap.size w W→∀ i,i≤maxLen→Calls Tryz.prog 208 #[u,.int .i64 (i:Nat)] W fun e w' => e = .returned (.int .i64 (gdig n i:Nat))∧W=w'):=fun W hb i hi => rgDigit u n i W (DgTo.grow hu hb) hi
 have hmn:dlen (m+n)≤1000001:=dlen_add hm hn
 obtain ⟨A1,c1,rfl,-,-,-⟩:=hv.open_
 obtain ⟨A2,c2,rfl,-,-,-⟩:=hu.open_
 clear hv hu
 go_enter Tryz.func205,Tryz.ntmps205
 go_wp2_with fail
 go_loopw [7,6,5] (fun ix cx ox wr => ∃ i:Nat,i≤dlen (m+n)∧ix = .int .i64 i∧cx = .int .i64 (carryN m n i:Nat)∧Hid (wr.ownsRow w.heap.size 3 1 ox i ((digsTo (m+n) i).map dgV))∧Hid (Below w.heap.size w wr)) (fun ix _ _ _ => dlen (m+n)-(intOf ix).toNat)
 case atStart => exact ⟨0,Nat.zero_le _,rfl,by rw [carry_zero];rfl,World.ownsRow_nil _ _ _ _,Below.refl _ _⟩
 case round =>
  obtain ⟨i,hi,rfl,rfl,HO,HB⟩:=hrel
  rename_i ox wr
  have k0:(0:Int)≤(i:Int):=Int.natCast_nonneg _
  have hgo:=plus_go m n i
  have hcy:=carry_le m n i
  by_cases hlt:i<dlen (m+n)
  ·have hc:(decide (i<dlen m)=true)∨(decide (i<dlen m)=false∧decide (i<dlen n)=true)∨(decide (i<dlen m)=false∧decide (i<dlen n)=false∧decide (0<carryN m n i)=true):=by
    by_cases d1:i<dlen m
    ·exact .inl (decide_eq_true d1)
    ·by_cases d2:i<dlen n
     ·exact .inr (.inl ⟨decide_eq_false d1,decide_eq_true d2⟩)
     ·exact .inr (.inr ⟨decide_eq_false d1,decide_eq_false d2,decide_eq_true (by have:=hgo.2 hlt;omega)⟩)
   have b1:=gdig_lt m i
   have b2:=gdig_lt n i
   have e1:=plus_dig m n i
   have e2:=plus_carry m n i
   have H1:=HDm.out wr HB.out i (by unfold maxLen;omega)
   have H2:=HDn.out wr HB.out i (by unfold maxLen;omega)
   generalize hx1:gdig m i=x1 at *
   generalize hx2:gdig n i=x2 at *
   generalize hx3:carryN m n i=x3 at *
   have v1:IntKind.i64.wrap ((x1:Int)+(x2:Int))=((x1+x2:Nat):Int):=(IntWalk.i64_in _ (by omega)).trans (by omega)
   have v2:IntKind.i64.wrap (((x1+x2:Nat):Int)+(x3:Int))=((x1+x2+x3:Nat):Int):=(IntWalk.i64_in _ (by omega)).trans (by omega)
   have HM:Hid (((x1:Int)+(x2:Int)+(x3:Int)) % 16777216=((gdig (m+n) i:Nat):Int)):=by unfold Hid;omega
   have HQ:Hid (((x1:Int)+(x2:Int)+(x3:Int)) / 16777216=((carryN m n (i+1):Nat):Int)):=by unfold Hid;omega
   have hb4:=gdig_lt (m+n) i
   have hc4:=carry_le m n (i+1)
   clear e1 e2 hgo hx1 hx2 hx3
   rcases hc with d1 | ⟨d1,d2⟩ | ⟨d1,d2,d3⟩
   all_goals
    go_wp2_with fail
    refine (H1).mono ?_
    rintro e w2 ⟨rfl,rfl⟩
    go_wp2_with fail
    refine (H2).mono ?_
    rintro e w3 ⟨rfl,rfl⟩
    have HB3:=HB
    have hO3:=HO.out
    clear H1 H2 HO
    go_wp2_with (at_builtin;refine wpList_push _ rfl (.tmp 34) (.tmp 37) 22 rfl w.heap.size 3 info_dig Tryz.underlying22 rfl _ i _ rfl hO3 (.int .i64 (((x1:Int)+(x2:Int)+(x3:Int)) % 16777216)) rfl rfl (by unfold maxLen;omega) (by omega) HB3.out.size ?_;intro g cap w4 hown4 hgrow4 hbg hgg;have HB4:=zh (HB3.out.grown hgrow4 HB3.out.size (fun k hk => (hO3.lt k hk).1));have HO4:=zh (own_more (by rw [HM.out]) hown4);clear hown4 hgrow4 hgg)
    clear hO3 HB3
    go_roundw
    case rel => exact ⟨i+1,by omega,by go_num,by rw [HQ.out],HO4,HB4⟩
    case measure => simp [intOf];omega
  ·have hc:decide (i<dlen m)=false∧decide (i<dlen n)=false∧decide (0<carryN m n i)=false:=by
    have h1:¬ (i<dlen m∨i<dlen n∨0<carryN m n i):=fun h => hlt (hgo.1 h)
    exact ⟨decide_eq_false (by omega),decide_eq_false (by omega),decide_eq_false (by omega)⟩
   obtain ⟨d1,d2,d3⟩:=hc
   have hie:i=dlen (m+n):=by omega
   have hF:=own_dig HO.out
   rw [hie] at hF
   have HF:=zh hF
   clear hgo hie hF
   generalize carryN m n i=x3 at *
   go_wp2_with fail
   go_ret
   exact ⟨_,rfl,HB.out,HF.out⟩
theorem dlen_z {x:Nat}:dlen x=0 ↔ x=0:=by
 constructor
 ·intro h
  have:=dlen_lt x
  rw [h,Nat.pow_zero] at this
  omega
 ·rintro rfl
  exact dlen_zero
theorem top_ne {x j:Nat} (h:dlen x=j+1):gdig x j≠0:=by
 have h1:=digs_trim x (fun e => by rw [digs_nil] at e;subst e;rw [dlen_zero] at h;omega)
 rw [digs_len,digs_at,h,Nat.add_sub_cancel] at h1
 exact h1
theorem rgEven (v:Value) (m:Nat) (w:World) (hv:DgAt w w.heap.size v m) :
  Calls Tryz.prog 209 #[v] w fun e w' => e = .returned (.bool (decide (m % 2=0)))∧Below w.heap.size w w':=by
 obtain ⟨A,c,rfl,hc1,hc2,hcell⟩:=hv.open_
 unfold maxLen at hc2
 have he:=even_dig m
 by_cases h0:dlen m=0
 ·have hm:=dlen_z.1 h0
  have HR:Hid (decide (m % 2=0)=true):=decide_eq_true (by rw [hm])
  have hd:(((dlen m:Nat):Int) == 0)=true:=beq_iff_eq.2 (by omega)
  clear hcell hv h0 hm he
  go_enter Tryz.func209,Tryz.ntmps209
  go_wp2_with fail
  go_ret
  exact ⟨Ze HR.out.symm,Below.refl _ _⟩
 ·obtain ⟨b,off,rfl,hb,hx⟩:=hcell 0 (by omega)
  have y0:=hx 0 (by omega)
  rw [Nat.add_zero] at y0
  have hd:(((dlen m:Nat):Int) == 0)=false:=beq_eq_false_iff_ne.2 (by omega)
  have hd2:((dlen m) == 0)=false:=beq_eq_false_iff_ne.2 h0
  have k1:(0:Int)<(dlen m:Int):=by omega
  have hg:=gdig_lt m 0
  have HR:Hid (decide (m % 2=0)=decide (gdig m 0 % 2=0)):=by unfold Hid;rw [he]
  clear hx hcell hv he
  generalize gdig m 0=g at *
  go_enter Tryz.func209,Tryz.ntmps209
  go_wp2_with fail
  go_ret
  exact ⟨Ze (by rw [HR.out,Bool.eq_iff_iff,beq_iff_eq,decide_eq_true_iff];omega),Below.refl _ _⟩
theorem rgLarger (v u:Value) (m n:Nat) (w:World) (hv:DgAt w w.heap.size v m) (hu:DgAt w w.heap.size u n) :
  Calls Tryz.prog 171 #[v,u] w fun e w' => e = .returned (.bool (decide (n<m)))∧Below w.heap.size w w':=by
 obtain ⟨A1,c1,rfl,hc1,hd1,hcell1⟩:=hv.open_
 obtain ⟨A2,c2,rfl,hc2,hd2,hcell2⟩:=hu.open_
 unfold maxLen at hd1 hd2
 clear hv hu
 by_cases hl:dlen m=dlen n
 ·have HC1:=zh hcell1
  have HC2:=zh hcell2
  have hb:(((dlen m:Nat):Int) != ((dlen n:Nat):Int))=false:=by simp [hl]
  have v0:IntKind.i64.wrap (((dlen m:Nat):Int)-1)=((dlen m:Nat):Int)-1:=IntWalk.i64_in _ (by omega)
  have HL:=zh hl
  clear hcell1 hcell2 hl
  go_enter Tryz.func171,Tryz.ntmps171
  go_wp2_with fail
  go_loopw [5] (fun ix wr => ∃ j:Nat,j≤dlen m∧ix = .int .i64 ((j:Int)-1)∧Hid (m / 16777216 ^ j=n / 16777216 ^ j)∧Hid (Below w.heap.size w wr)) (fun ix _ => (intOf ix+1).toNat)
  case atStart => exact ⟨dlen m,Nat.le_refl _,rfl,by unfold Hid;rw [Nat.div_eq_of_lt (dlen_lt m),Nat.div_eq_of_lt (by rw [HL.out];exact dlen_lt n)],Below.refl _ _⟩
  case round =>
   obtain ⟨j,hj,rfl,HE,HB⟩:=hrel
   cases j with
   | zero =>
    have heq:=HE.out
    rw [Nat.pow_zero,Nat.div_one,Nat.div_one] at heq
    have HR:Hid (decide (n<m)=false):=decide_eq_false (by omega)
    go_wp2_with fail
    go_ret
    exact ⟨Ze HR.out.symm,HB.out⟩
   | succ j =>
    obtain ⟨b1,o1,rfl,hb1,hx1⟩:=HC1.out j (by omega)
    obtain ⟨b2,o2,rfl,hb2,hx2⟩:=HC2.out j (by have:=HL.out;omega)
    have y1:=(HB.out.cell (p:=⟨b1,o1+j,none⟩) hb1).trans (hx1 j (by omega))
    have y2:=(HB.out.cell (p:=⟨b2,o2+j,none⟩) hb2).trans (hx2 j (by have:=HL.out;omega))
    have ej:(((j+1:Nat):Int)-1)=(j:Int):=by omega
    rw [ej]
    have i0:(0:Int)≤(j:Int):=Int.natCast_nonneg _
    have i1:(j:Int)<((dlen m:Nat):Int):=by omega
    have i2:(j:Int)<((dlen n:Nat):Int):=by have:=HL.out;omega
    have hlt1:gdig m j<gdig n j→m<n:=cmp_lt HE.out
    have hlt2:gdig n j<gdig m j→n<m:=cmp_lt HE.out.symm
    have hee:gdig m j=gdig n j→m / 16777216 ^ j=n / 16777216 ^ j:=cmp_eq HE.out
    have q1:=gdig_lt m j
    have q2:=gdig_lt n j
    have v1:IntKind.i64.wrap ((j:Int)-1)=(j:Int)-1:=IntWalk.i64_in _ (by omega)
    clear hx1 hx2 ej
    generalize gdig m j=g1 at *
    generalize gdig n j=g2 at *
    rcases Nat.lt_trichotomy g1 g2 with h | h | h
    ·have d1:((g1:Int) != (g2:Int))=true:=bne_iff_ne.2 (by omega)
     have HR:Hid (decide (n<m)=decide (g2<g1)):=by unfold Hid;rw [decide_eq_false (show ¬ g2<g1 by omega)];exact decide_eq_false (by have:=hlt1 h;omega)
     clear hlt1 hlt2 hee h
     go_wp2_with fail
     go_quiet (fail)
     go_wp2_with fail
     go_quiet (fail)
     go_wp2_with fail
     go_ret
     exact ⟨Ze HR.out.symm,Zf (Zf HB.out _) _⟩
    ·have d1:((g1:Int) != (g2:Int))=false:=bne_eq_false_iff_eq.2 (by omega)
     have HE2:=zh (hee h)
     clear hlt1 hlt2 hee h
     go_wp2_with fail
     go_quiet (fail)
     go_wp2_with fail
     go_roundw
     case rel => exact ⟨j,by omega,rfl,HE2,Zf HB.out _⟩
     case measure => simp [intOf]
    ·have d1:((g1:Int) != (g2:Int))=true:=bne_iff_ne.2 (by omega)
     have HR:Hid (decide (n<m)=decide (g2<g1)):=by unfold Hid;rw [decide_eq_true (show g2<g1 by omega)];exact decide_eq_true (hlt2 h)
     clear hlt1 hlt2 hee h
     go_wp2_with fail
     go_quiet (fail)
     go_wp2_with fail
     go_quiet (fail)
     go_wp2_with fail
     go_ret
     exact ⟨Ze HR.out.symm,Zf (Zf HB.out _) _⟩
 ·have hb:(((dlen m:Nat):Int) != ((dlen n:Nat):Int))=true:=bne_iff_ne.2 (by omega)
  have HR:Hid (decide (n<m)=decide (dlen n<dlen m)):=by
   unfold Hid
   rw [Bool.eq_iff_iff,decide_eq_true_iff,decide_eq_true_iff]
   constructor
   ·intro h
    have:=dlen_mono (Nat.le_of_lt h)
    omega
   ·intro h
    exact cmp_len (by omega)
  clear hcell1 hcell2 hl
  go_enter Tryz.func171,Tryz.ntmps171
  go_wp2_with fail
  go_ret
  exact ⟨Ze HR.out.symm,Below.refl _ _⟩
def DgToPost (w:World) (x k:Nat) (e:Ending) (w':World):Prop:=∃ v,e = .returned v∧Below w.heap.size w w'∧DgTo w' w'.heap.size v x k
theorem rgMinus (v u:Value) (m n:Nat) (w:World) (hv:DgAt w w.heap.size v m) (hu:DgAt w w.heap.size u n) (hm:dlen m≤1000000) (hmn:n≤m) :
  Calls Tryz.prog 207 #[v,u] w (DgToPost w (m-n) (dlen m)):=by
 have HDn:Hid (∀ W,Below w.heap.size w W→∀ i,i≤maxLen→Calls Tryz.prog 208 #[u,.int .i64 (i:Nat)] W fun e w' => e = .returned (.int .i64 (gdig n i:Nat))∧W=w'):=fun W hb i hi => rgDigit u n i W (DgTo.grow hu hb) hi
 obtain ⟨A1,c1,rfl,-,hd1,hcell1⟩:=hv.open_
 obtain ⟨A2,c2,rfl,-,-,-⟩:=hu.open_
 have HC1:=zh hcell1
 unfold maxLen at hd1
 clear hv hu hcell1
 go_enter Tryz.func207,Tryz.ntmps207
 go_wp2_with fail
 go_loopw [7,6,5] (fun ix cx ox wr => ∃ i:Nat,i≤dlen m∧ix = .int .i64 i∧cx = .int .i64 (borrowN m n i:Nat)∧Hid (wr.ownsRow w.heap.size 3 1 ox i ((digsTo (m-n) i).map dgV))∧Hid (Below w.heap.size w wr)) (fun ix _ _ _ => dlen m-(intOf ix).toNat)
 case atStart => exact ⟨0,Nat.zero_le _,rfl,by rw [borrow_zero];rfl,World.ownsRow_nil _ _ _ _,Below.refl _ _⟩
 case round =>
  obtain ⟨i,hi,rfl,rfl,HO,HB⟩:=hrel
  rename_i ox wr
  have k0:(0:Int)≤(i:Int):=Int.natCast_nonneg _
  by_cases hlt:i<dlen m
  ·have d1:decide (i<dlen m)=true:=decide_eq_true hlt
   have k1:(i:Int)<((dlen m:Nat):Int):=by omega
   obtain ⟨b1,o1,rfl,hb1,hx1⟩:=HC1.out i hlt
   have y1:=(HB.out.cell (p:=⟨b1,o1+i,none⟩) hb1).trans (hx1 i hlt)
   have b1':=gdig_lt m i
   have b2:=gdig_lt n i
   have hbr:=borrow_le m n i
   have e1:=minus_dig hmn i
   have e2:=minus_borrow (m:=m) (n:=n) i
   have H1:=fun q => quiet_left (HDn.out (wr.drewN q) (Zf HB.out q) i (by unfold maxLen;omega))
   clear hx1
   generalize hg1:gdig m i=x1 at *
   generalize hg2:gdig n i=x2 at *
   generalize hg3:borrowN m n i=x3 at *
   have v1:IntKind.i64.wrap ((x1:Int)-(x2:Int))=(x1:Int)-(x2:Int):=IntWalk.i64_in _ (by omega)
   have v2:IntKind.i64.wrap ((x1:Int)-(x2:Int)-(x3:Int))=(x1:Int)-(x2:Int)-(x3:Int):=IntWalk.i64_in _ (by omega)
   clear hg1 hg2 hg3
   by_cases hneg:(x1:Int)-(x2:Int)-(x3:Int)<0
   ·rw [if_pos hneg] at e1 e2
    have d2:decide ((x1:Int)-(x2:Int)-(x3:Int)<0)=true:=decide_eq_true hneg
    have v3:IntKind.i64.wrap ((x1:Int)-(x2:Int)-(x3:Int)+16777216)=((gdig (m-n) i:Nat):Int):=(IntWalk.i64_in _ (by omega)).trans (by omega)
    have HBo:=zh e2
    clear e1 e2 hneg
    obtain ⟨gd,hgd⟩:∃ gd:Int,gd=((gdig (m-n) i:Nat):Int):=⟨_,rfl⟩
    have HGd:=zh hgd
    rw [← hgd] at v3
    clear hgd
    go_wp2_with fail
    go_quiet ((go_at_call 208;exact H1 _))
    have hO3:=own_drewN HO.out nq
    have HB3:=zh (Zf HB.out nq)
    clear H1 HO HB
    go_wp2_with (at_builtin;refine wpList_push _ rfl (.tmp 29) (.tmp 31) 22 rfl w.heap.size 3 info_dig Tryz.underlying22 rfl _ i _ rfl hO3 (.int .i64 gd) rfl rfl (by unfold maxLen;omega) (by omega) HB3.out.size ?_;intro g cap w4 hown4 hgrow4 hbg hgg;have HB4:=zh (HB3.out.grown hgrow4 HB3.out.size (fun k hk => (hO3.lt k hk).1));have HO4:=zh (own_more (by rw [HGd.out]) hown4);clear hown4 hgrow4 hgg)
    clear hO3 HB3
    go_roundw
    case rel => exact ⟨i+1,by omega,by go_num,by rw [HBo.out];rfl,HO4,HB4⟩
    case measure => simp [intOf];omega
   ·rw [if_neg hneg] at e1 e2
    have d2:decide ((x1:Int)-(x2:Int)-(x3:Int)<0)=false:=decide_eq_false hneg
    have HBo:=zh e2
    have HGd:Hid ((x1:Int)-(x2:Int)-(x3:Int)=((gdig (m-n) i:Nat):Int)):=by unfold Hid;omega
    clear e1 e2 hneg
    go_wp2_with fail
    go_quiet ((go_at_call 208;exact H1 _))
    have hO3:=own_drewN HO.out nq
    have HB3:=zh (Zf HB.out nq)
    clear H1 HO HB
    go_wp2_with (at_builtin;refine wpList_push _ rfl (.tmp 29) (.tmp 31) 22 rfl w.heap.size 3 info_dig Tryz.underlying22 rfl _ i _ rfl hO3 (.int .i64 ((x1:Int)-(x2:Int)-(x3:Int))) rfl rfl (by unfold maxLen;omega) (by omega) HB3.out.size ?_;intro g cap w4 hown4 hgrow4 hbg hgg;have HB4:=zh (HB3.out.grown hgrow4 HB3.out.size (fun k hk => (hO3.lt k hk).1));have HO4:=zh (own_more (by rw [HGd.out]) hown4);clear hown4 hgrow4 hgg)
    clear hO3 HB3
    go_roundw
    case rel => exact ⟨i+1,by omega,by go_num,by rw [HBo.out];rfl,HO4,HB4⟩
    case measure => simp [intOf];omega
  ·have d1:decide (i<dlen m)=false:=decide_eq_false hlt
   have hie:i=dlen m:=by omega
   have hF:=own_dig HO.out
   rw [hie] at hF
   have HF:=zh hF
   clear hie hF
   generalize borrowN m n i=x3 at *
   go_wp2_with fail
   go_ret
   exact ⟨_,rfl,HB.out,HF.out⟩
theorem second_cells (w:World) (X:Obj) (t:TypeId) (a b:Value):((w.alloc X).alloc (.cells #[a,b] t)).cell? ⟨w.heap.size+1,0,none⟩=some a∧((w.alloc X).alloc (.cells #[a,b] t)).cell? ⟨w.heap.size+1,1,none⟩=some b:=by
 have h:=Blk.new (w.alloc X) t #[a,b]
 rw [World.size_alloc] at h
 have h0:=h.cell 0
 have h1:=h.cell 1
 simp only [zq1,zq2,zq3] at h0 h1
 exact ⟨h0,h1⟩
theorem rgTrim (s:Bool) (v:Value) (x k:Nat) (w:World) (hv:DgTo w w.heap.size v x k) (hk:dlen x≤k) :
  Calls Tryz.prog 206 #[.agg #[.bool s,v]] w fun e w' => ∃ v',e = .returned (.agg #[.bool (s && decide (x≠0)),v'])∧Below w.heap.size w w'∧DgAt w' w'.heap.size v' x:=by
 have HV:=zh hv
 obtain ⟨A,c,rfl,hc1,hc2,hcell⟩:=hv.open_
 have HC:=zh hcell
 unfold maxLen at hc2
 have HD:=zh ((Blk.new w 173 #[.bool s,.slice A k c]).alloc (.cells #[.bool false,.slice none 0 0] 173))
 have hD2:=Blk.new (w.alloc (.cells #[.bool s,.slice A k c] 173)) 173 #[.bool false,.slice none 0 0]
 rw [World.size_alloc] at hD2
 have HD2:=zh hD2
 have HB:=zh (((Below.refl _ w).alloc (Nat.le_refl _) (.cells #[.bool s,.slice A k c] 173)).alloc (by simp) (.cells #[.bool false,.slice none 0 0] 173))
 clear hv hcell hD2
 go_enter Tryz.func206,Tryz.ntmps206
 go_wp2_with fail
 go_loopw [3] (fun nx wr => ∃ j:Nat,dlen x≤j∧j≤k∧nx = .int .i64 j∧wr=(w.alloc (.cells #[.bool s,.slice A k c] 173)).alloc (.cells #[.bool false,.slice none 0 0] 173)) (fun nx _ => (intOf nx).toNat)
 case atStart => exact ⟨k,hk,Nat.le_refl _,rfl,rfl⟩
 case round =>
  obtain ⟨j,hxj,hjk,rfl,rfl⟩:=hrel
  have y0:=HD.out.cell 0
  have y1:=HD.out.cell 1
  have f0:=HD.out.frozen 0
  have f1:=HD.out.frozen 1
  have g0:=HD2.out.frozen 0
  have g1:=HD2.out.frozen 1
  simp only [zq1,zq2,zq3] at y0 y1
  by_cases hlt:dlen x<j
  ·obtain ⟨j,rfl⟩:∃ i,j=i+1:=⟨j-1,by omega⟩
   obtain ⟨b,off,rfl,hb,hx⟩:=HC.out j (by omega)
   have z:=(HB.out.cell (p:=⟨b,off+j,none⟩) hb).trans (hx j (by omega))
   rw [gdig_hi (show dlen x≤j by omega)] at z
   have hd:decide (0<j+1)=true:=decide_eq_true (by omega)
   have v1:IntKind.i64.wrap (((j+1:Nat):Int)-1)=(j:Int):=(IntWalk.i64_in _ (by omega)).trans (by omega)
   have i0:(0:Int)≤(j:Int):=Int.natCast_nonneg _
   have i1:(j:Int)<(k:Int):=by omega
   clear hx
   generalize hJ:((j+1:Nat):Int)=J at *
   have hd:decide (0<J)=true:=decide_eq_true (by omega)
   have HJ:=zh hJ
   clear hJ
   go_wp2_with fail
   go_roundw
   case rel => exact ⟨j,by omega,by omega,rfl,trivial⟩
   case measure => have:=HJ.out;simp [intOf];omega
  ·obtain rfl:j=dlen x:=by omega
   have HT:=zh (HV.out.take hjk)
   by_cases h0:dlen x=0
   ·have hx0:=dlen_z.1 h0
    have HS:Hid ((s && decide (x≠0))=false):=by unfold Hid;rw [hx0];simp
    have HZ:=zh h0
    have hd:decide (0<((dlen x:Nat):Int))=false:=decide_eq_false (by omega)
    have hq:(((dlen x:Nat):Int) == 0)=true:=beq_iff_eq.2 (by omega)
    have i1:(0:Int)≤((dlen x:Nat):Int):=Int.natCast_nonneg _
    have i2:((dlen x:Nat):Int)≤(c:Int):=by omega
    clear h0 hx0 hlt
    generalize hJ:((dlen x:Nat):Int)=J at *
    have HJ:Hid (J.toNat=dlen x):=by unfold Hid;omega
    clear hJ
    go_wp2_with fail
    rw [HJ.out]
    obtain ⟨p0,p1⟩:=second_cells w (.cells #[.bool false,.slice A (dlen x) c] 173) 173 (.bool false) (.slice A (dlen x) c)
    refine bodyPost_ret (v:=.agg #[.bool false,.slice A (dlen x) c]) (by simp [results,Tryz.results206,go_sem,p0,p1]) rfl ?_
    have hb2:=((Below.refl _ w).alloc (Nat.le_refl _) (.cells #[.bool false,.slice A (dlen x) c] 173)).alloc (by simp) (.cells #[.bool false,.slice A (dlen x) c] 173)
    exact ⟨_,by rw [HS.out],hb2,DgTo.grow HT.out hb2⟩
   ·obtain ⟨i,hi⟩:∃ i,dlen x=i+1:=⟨dlen x-1,by omega⟩
    have hne:=top_ne hi
    obtain ⟨b,off,rfl,hb,hx⟩:=HC.out i (by omega)
    have z:=(HB.out.cell (p:=⟨b,off+i,none⟩) hb).trans (hx i (by omega))
    have hg:((gdig x i:Nat):Int)≠0:=by omega
    have hge:(((gdig x i:Nat):Int) == 0)=false:=beq_eq_false_iff_ne.2 hg
    have HS:Hid ((s && decide (x≠0))=s):=by
     unfold Hid
     rw [decide_eq_true (show x≠0 from fun e => h0 (dlen_z.2 e)),Bool.and_true]
    have hd:decide (0<((dlen x:Nat):Int))=true:=decide_eq_true (by omega)
    have hq:(((dlen x:Nat):Int) == 0)=false:=beq_eq_false_iff_ne.2 (by omega)
    have v1:IntKind.i64.wrap (((dlen x:Nat):Int)-1)=(i:Int):=(IntWalk.i64_in _ (by omega)).trans (by omega)
    have i0:(0:Int)≤(i:Int):=Int.natCast_nonneg _
    have i3:(i:Int)<(k:Int):=by omega
    have i1:(0:Int)≤((dlen x:Nat):Int):=Int.natCast_nonneg _
    have i2:((dlen x:Nat):Int)≤(c:Int):=by omega
    clear hx hne hlt
    generalize ((gdig x i:Nat):Int)=g at *
    generalize hJ:((dlen x:Nat):Int)=J at *
    have HJ:Hid (J.toNat=dlen x):=by unfold Hid;omega
    clear hJ hi
    go_wp2_with fail
    rw [HJ.out]
    obtain ⟨p0,p1⟩:=second_cells w (.cells #[.bool s,.slice (some ⟨b,off,none⟩) (dlen x) c] 173) 173 (.bool s) (.slice (some ⟨b,off,none⟩) (dlen x) c)
    refine bodyPost_ret (v:=.agg #[.bool s,.slice (some ⟨b,off,none⟩) (dlen x) c]) (by simp [results,Tryz.results206,go_sem,p0,p1]) rfl ?_
    have hb2:=((Below.refl _ w).alloc (Nat.le_refl _) (.cells #[.bool s,.slice (some ⟨b,off,none⟩) (dlen x) c] 173)).alloc (by simp) (.cells #[.bool s,.slice (some ⟨b,off,none⟩) (dlen x) c] 173)
    exact ⟨_,by rw [HS.out],hb2,DgTo.grow HT.out hb2⟩
theorem rgNeg (s:Bool) (v:Value) (n:Int) (w:World) (hv:BigAt w w.heap.size s v n) :
  Calls Tryz.prog 176 #[.agg #[.bool s,v]] w fun e w' => e = .returned (.agg #[.bool (decide (-n<0)),v])∧Below w.heap.size w w':=by
 obtain ⟨hs,hv2⟩:=hv
 obtain ⟨A,c,rfl,hc1,hc2,-⟩:=hv2.open_
 unfold maxLen at hc2
 have hz:=dlen_z (x:=n.natAbs)
 have hpos:decide (0<dlen n.natAbs)=decide (n≠0):=by
  rw [Bool.eq_iff_iff,decide_eq_true_iff,decide_eq_true_iff]
  omega
 have HR:Hid ((!s && decide (0<dlen n.natAbs))=decide (-n<0)):=by
  unfold Hid
  rw [hpos,hs,Bool.eq_iff_iff,Bool.and_eq_true,Bool.not_eq_true',decide_eq_false_iff_not,decide_eq_true_iff,decide_eq_true_iff]
  omega
 clear hv2 hz hpos hs hc1
 have hcell:=fun b:Bool => second_cells w (.cells #[.bool b,.slice A (dlen n.natAbs) c] 173) 173 (.bool b) (.slice A (dlen n.natAbs) c)
 have HB:=zh fun b:Bool => ((Below.refl _ w).alloc (Nat.le_refl _) (.cells #[.bool b,.slice A (dlen n.natAbs) c] 173)).alloc (by simp) (.cells #[.bool b,.slice A (dlen n.natAbs) c] 173)
 have HCe:=zh hcell
 clear hcell
 obtain ⟨r,hr⟩:∃ r:Bool,r=decide (-n<0):=⟨_,rfl⟩
 rw [← hr] at HR ⊢
 clear hr
 cases s with
 | true =>
  have HR2:Hid (false=r):=HR.out
  clear HR
  go_enter Tryz.func176,Tryz.ntmps176
  go_wp2_with fail
  obtain ⟨p0,p1⟩:=HCe.out false
  refine bodyPost_ret (v:=.agg #[.bool false,.slice A (dlen n.natAbs) c]) (by simp [results,Tryz.results176,go_sem,p0,p1]) rfl ?_
  exact ⟨by rw [HR2.out],HB.out _⟩
 | false =>
  have HR2:Hid (decide (0<dlen n.natAbs)=r):=HR.out
  clear HR
  go_enter Tryz.func176,Tryz.ntmps176
  go_wp2_with fail
  obtain ⟨p0,p1⟩:=HCe.out (decide (0<dlen n.natAbs))
  refine bodyPost_ret (v:=.agg #[.bool (decide (0<dlen n.natAbs)),.slice A (dlen n.natAbs) c]) (by simp [results,Tryz.results176,go_sem,p0,p1]) rfl ?_
  exact ⟨by rw [HR2.out],HB.out _⟩
def sgnR (q:Rat):Int:=if q<0 then -1 else if q=0 then 0 else 1
theorem rgSign (x:Value) (q:Rat) (K:Nat) (w:World) (hv:ExqAt w w.heap.size x q K) :
  Calls Tryz.prog 203 #[x] w fun e w' => e = .returned (.int .i64 (sgnR q))∧Below w.heap.size w w':=by
 obtain ⟨s1,v1,s2,v2,N,D,rfl,⟨hs1,h1⟩,⟨hs2,h2⟩,hD,-,-,rfl⟩:=hv
 obtain ⟨A1,c1,rfl,hc1,hd1,-⟩:=h1.open_
 obtain ⟨A2,c2,rfl,hc2,hd2,-⟩:=h2.open_
 unfold maxLen at hd1 hd2
 obtain ⟨hn,hz⟩:=exq_sign (N:=N) hD
 have hl:=dlen_z (x:=N.natAbs)
 have HS:Hid (sgnR (Rat.divInt N D)=if N<0 then -1 else if dlen N.natAbs=0 then 0 else 1):=by
  unfold Hid sgnR
  by_cases c1:N<0
  ·rw [if_pos (hn.2 c1),if_pos c1]
  ·rw [if_neg (fun h => c1 (hn.1 h)),if_neg c1]
   by_cases c2:N=0
   ·rw [if_pos (hz.2 c2),if_pos (hl.2 (by omega))]
   ·rw [if_neg (fun h => c2 (hz.1 h)),if_neg (fun h => c2 (by have:=hl.1 h;omega))]
 have HB:=zh ((Below.refl _ w).alloc (Nat.le_refl _) (.cells #[.bool s1,.slice A1 (dlen N.natAbs) c1,.bool s2,.slice A2 (dlen D.natAbs) c2] 175))
 clear hl hn hz h1 h2 hs2
 by_cases c1':N<0
 ·have e:s1=true:=by rw [hs1];exact decide_eq_true c1'
  subst e
  have HV:Hid (sgnR (Rat.divInt N D) = -1):=by unfold Hid;rw [HS.out,if_pos c1']
  clear HS hs1 c1'
  go_enter Tryz.func203,Tryz.ntmps203
  go_wp2_with fail
  go_ret
  exact ⟨by rw [HV.out];rfl,HB.out⟩
 ·have e:s1=false:=by rw [hs1];exact decide_eq_false c1'
  subst e
  by_cases c2':dlen N.natAbs=0
  ·have HV:Hid (sgnR (Rat.divInt N D)=0):=by unfold Hid;rw [HS.out,if_neg c1',if_pos c2']
   have hd:(dlen N.natAbs == 0)=true:=beq_iff_eq.2 c2'
   clear HS hs1 c1' 
   go_enter Tryz.func203,Tryz.ntmps203
   go_wp2_with fail
   go_ret
   exact ⟨by rw [HV.out];rfl,by simpa [c2'] using HB.out⟩
  ·have HV:Hid (sgnR (Rat.divInt N D)=1):=by unfold Hid;rw [HS.out,if_neg c1',if_neg c2']
   have hd:(dlen N.natAbs == 0)=false:=beq_eq_false_iff_ne.2 c2'
   have hd2:(((dlen N.natAbs:Nat):Int) == 0)=false:=beq_eq_false_iff_ne.2 (by omega)
   clear HS hs1 c1'
   go_enter Tryz.func203,Tryz.ntmps203
   go_wp2_with fail
   go_ret
   exact ⟨by rw [HV.out];rfl,HB.out⟩
theorem rgSize (n:Int) (w:World) (h1 : -1152921504606846976≤n) (h2:n≤1152921504606846976) :
    Calls Tryz.prog 92 #[.int .i64 n] w fun e w' => e = .returned (.int .u64 (n.natAbs:Nat))∧w=w':=by
  by_cases h0:n<0
  · have e1:IntKind.u64.wrap n=n+18446744073709551616:=by
      show n % 18446744073709551616=_
      omega
    have e2:Hid (IntKind.u64.wrap (0-(n+18446744073709551616))=((n.natAbs:Nat):Int)):=by
      show (0-(n+18446744073709551616)) % 18446744073709551616=_
      omega
    clear h1 h2
    go_enter Tryz.func92, Tryz.ntmps92
    go_wp2
    go_ret
    refine ⟨?_, rfl⟩
    rw [← e2.out]
    simp
  · have e1:IntKind.u64.wrap n=n:=by
      show n % 18446744073709551616=_
      omega
    have e2:Hid (n=((n.natAbs:Nat):Int)):=by unfold Hid; omega
    clear h1 h2
    go_enter Tryz.func92, Tryz.ntmps92
    go_wp2
    go_ret
    exact ⟨by conv => rhs; rw [← e2.out]
              rfl, rfl⟩
theorem ownr_none {w:World} {B e s n:Nat} {v:Value} {L:List Value} (h:w.ownsRow B e s v n L) {row:Option Nat} (hr:∀ r,row=some r→∀ cs f,w.heap[r]? ≠ some (.cells cs e f)):v.ownBlock=none∨v.ownBlock≠row:=by
 rcases h.2 with ⟨rfl,_⟩ | ⟨g,cap,cur,rfl,_,hg,_⟩
 ·exact .inl rfl
 ·refine .inr fun e' => ?_
  exact hr g (by rw [← e'];rfl) _ _ hg
structure IntS (W0 W:World) (s:Bool) (ov:Value) (x i:Nat):Prop where
 bel:Below W0.heap.size W0 W
 res:Blk W W0.heap.size 173 #[.bool false,.slice none 0 0]
 box:Blk W (W0.heap.size+1) 173 #[.bool s,ov]
 own:W.ownsRow W0.heap.size 3 1 ov i ((digsTo x i).map dgV)
theorem IntS.push {W0 W:World} {s:Bool} {ov:Value} {x i:Nat} (h:IntS W0 W s ov x i) {v':Value} {w1:World} (hown:w1.ownsRow W0.heap.size 3 1 v' (i+1) ((digsTo x (i+1)).map dgV)) (hg:W.grownBy w1 ov.ownBlock) :
  Blk w1 (W0.heap.size+1) 173 #[.bool s,ov]∧IntS W0 (w1.setCell ⟨W0.heap.size+1,1,none⟩ v') s v' x (i+1):=by
 have k:∀ {g cs},Blk W g 173 cs→Blk w1 g 173 cs:=fun hb => hb.kept hg (hb.ne_own h.own (by decide))
 have e0:=k h.res
 have e1:=k h.box
 have hb1:Below W0.heap.size W0 w1:=h.bel.grown hg h.bel.size (fun k e => (h.own.lt k e).1)
 refine ⟨e1,hb1.setCell (p:=⟨W0.heap.size+1,1,none⟩) (Nat.le_succ _) _,e0.far (by simp) _,e1.set_ 1 v',?_⟩
 exact hown.kept (e1.setGrown 1 v') (ownr_none hown fun r e c f hh => by
  obtain rfl:W0.heap.size+1=r:=by simpa using e
  unfold Blk at e1
  rw [e1] at hh
  injection hh with hh
  injection hh with _ hh _
  exact absurd hh (by decide))
theorem IntS.start (w:World) (s:Bool) (x:Nat):IntS w ((w.alloc (.cells #[.bool false,.slice none 0 0] 173)).alloc (.cells #[.bool s,.slice none 0 0] 173)) s (.slice none 0 0) x 0:=by
 have h2:=Blk.new (w.alloc (.cells #[.bool false,.slice none 0 0] 173)) 173 #[.bool s,.slice none 0 0]
 rw [World.size_alloc] at h2
 exact ⟨((Below.refl _ w).alloc (Nat.le_refl _) _).alloc (by simp) _,(Blk.new w _ _).alloc _,h2,World.ownsRow_nil _ _ _ _⟩
def BigPost (w:World) (n:Int) (e:Ending) (w':World):Prop:=∃ s v,e = .returned (.agg #[.bool s,v])∧Below w.heap.size w w'∧BigAt w' w'.heap.size s v n
theorem rgInt (n:Int) (w:World) (h1 : -1152921504606846976≤n) (h2:n≤1152921504606846976):Calls Tryz.prog 170 #[.int .i64 n] w (BigPost w n):=by
 have hs:=fun W => rgSize n W h1 h2
 have hx:n.natAbs≤1152921504606846976:=by omega
 have HS0:Hid (IntS w ((w.alloc (.cells #[.bool false,.slice none 0 0] 173)).alloc (.cells #[.bool (decide (n<0)),.slice none 0 0] 173)) (decide (n<0)) (.slice none 0 0) n.natAbs 0):=IntS.start w _ _
 have HD:Hid (dlen n.natAbs≤3):=dlen_le (by show n.natAbs<16777216 ^ 3;omega)
 obtain ⟨b,hb⟩:∃ b:Bool,b=decide (n<0):=⟨_,rfl⟩
 have HBn:=zh hb
 obtain ⟨x,hxx⟩:∃ x:Nat,x=n.natAbs:=⟨_,rfl⟩
 have HX:=zh hxx
 rw [← hb,← hxx] at HS0
 rw [← hxx] at HD hs hx
 clear h1 h2 hxx
 go_enter Tryz.func170,Tryz.ntmps170
 go_wp2_with fail
 refine (hs _).mono ?_
 rintro e w2 ⟨rfl,rfl⟩
 rw [← hb]
 generalize (w.alloc (.cells #[.bool false,.slice none 0 0] 173)).alloc (.cells #[.bool b,.slice none 0 0] 173)=W1 at *
 clear hs hb
 go_wp2_with fail
 go_loopw [4] (fun mx wr => ∃ i:Nat,i≤dlen x∧mx = .int .u64 ((x / 16777216 ^ i:Nat):Int)∧∃ ov,Hid (IntS w wr b ov x i)) (fun mx _ => (intOf mx).toNat)
 case atStart => exact ⟨0,Nat.zero_le _,by rw [Nat.pow_zero,Nat.div_one],_,HS0.out⟩
 case round =>
  obtain ⟨i,hi,rfl,ov,HS⟩:=hrel
  obtain ⟨A,c,rfl,-⟩:=(own_dig HS.out.own).open_
  have y0:=HS.out.box.cell 0
  have y1:=HS.out.box.cell 1
  have r0:=HS.out.res.cell 0
  have r1:=HS.out.res.cell 1
  have f0:=HS.out.res.frozen 0
  have f1:=HS.out.res.frozen 1
  simp only [zq1,zq2,zq3] at y0 y1 r0 r1
  by_cases hlt:i<dlen x
  ·have hz0:0<x / 16777216 ^ i:=by
    rcases Nat.lt_or_ge x (16777216 ^ i) with h | h
    ·have:=dlen_iff.1 h;omega
    ·exact Nat.div_pos h (gpow_pos i)
   have hzl:x / 16777216 ^ i≤1152921504606846976:=Nat.le_trans (Nat.div_le_self _ _) hx
   have HG:Hid (x / 16777216 ^ i % 16777216=gdig x i):=rfl
   have HQ:Hid (x / 16777216 ^ i / 16777216=x / 16777216 ^ (i+1)):=by unfold Hid;rw [Nat.pow_succ,Nat.div_div_eq_div_mul]
   generalize hz:x / 16777216 ^ i=z at *
   have hd:decide (0<z)=true:=decide_eq_true hz0
   have v1:IntKind.i64.wrap ((z:Int) % 16777216)=(z:Int) % 16777216:=IntWalk.i64_in _ (by omega)
   have v2:IntKind.u64.wrap ((z:Int) % 16777216)=(z:Int) % 16777216:=by show (z:Int) % 16777216 % 18446744073709551616=_;omega
   have v3:IntKind.u64.wrap ((z:Int) / 16777216)=(z:Int) / 16777216:=by show (z:Int) / 16777216 % 18446744073709551616=_;omega
   have hi3:=HD.out
   have HP:Hid (∀ v' w1,w1.ownsRow w.heap.size 3 1 v' (i+1) ((digsTo x i).map dgV ++ [.int .i64 ((z:Int) % 16777216)])→wr.grownBy w1 (Value.slice A i c).ownBlock→Blk w1 (w.heap.size+1) 173 #[.bool b,.slice A i c]∧IntS w (w1.setCell ⟨w.heap.size+1,1,none⟩ v') b v' x (i+1)):=fun v' w1 ho hg => HS.out.push (own_more (by rw [← HG.out];rfl) ho) hg
   have hO:=HS.out.own
   have hsz:=HS.out.bel.size
   have HZ:=zh hz0
   clear hz0 hz
   go_wp2_with (at_builtin;refine wpList_push _ rfl (.tmp 13) (.tmp 17) 22 rfl w.heap.size 3 info_dig Tryz.underlying22 rfl _ i _ rfl hO (.int .i64 ((z:Int) % 16777216)) rfl rfl (by unfold maxLen;omega) (by omega) hsz ?_;intro g cap w4 hown4 hgrow4 hbg hgg;have HPu:=zh (HP.out _ w4 hown4 hgrow4);have fb:=HPu.out.1.frozen 1;have cb:=HPu.out.1.cell 1;simp only [zq1,zq2,zq3] at cb;clear hown4 hgrow4 hgg)
   clear hO HP
   go_roundw
   case rel => exact ⟨i+1,by omega,by rw [← HQ.out];rfl,_,HPu.out.2⟩
   case measure => have:=HZ.out;simp [intOf];omega
  ·obtain rfl:i=dlen x:=by omega
   have hz:x / 16777216 ^ dlen x=0:=Nat.div_eq_of_lt (dlen_lt x)
   rw [hz]
   have HE:Hid (∀ a c0,Blk (((wr.setCell ⟨w.heap.size,0,none⟩ (.bool b)).setCell ⟨w.heap.size,1,none⟩ (.slice a (dlen x) c0))) w.heap.size 173 #[.bool b,.slice a (dlen x) c0]∧Below w.heap.size w ((wr.setCell ⟨w.heap.size,0,none⟩ (.bool b)).setCell ⟨w.heap.size,1,none⟩ (.slice a (dlen x) c0))∧(wr.setCell ⟨w.heap.size,0,none⟩ (.bool b)).setCell ⟨w.heap.size,1,none⟩ (.slice a (dlen x) c0)=(wr.setCell ⟨w.heap.size,0,none⟩ (.bool b)).setCell ⟨w.heap.size,1,none⟩ (.slice a (dlen x) c0)):=fun a c0 =>
    ⟨(HS.out.res.set_ 0 (.bool b)).set_ 1 (.slice a (dlen x) c0),(HS.out.bel.setCell (p:=⟨w.heap.size,0,none⟩) (Nat.le_refl _) _).setCell (p:=⟨w.heap.size,1,none⟩) (Nat.le_refl _) _,rfl⟩
   have hob:(Value.slice A (dlen x) c).ownBlock≠some w.heap.size:=fun e => (HS.out.res.ne_own HS.out.own (by decide)) e.symm
   have HO2:Hid (((wr.setCell ⟨w.heap.size,0,none⟩ (.bool b)).setCell ⟨w.heap.size,1,none⟩ (.slice A (dlen x) c)).ownsRow w.heap.size 3 1 (.slice A (dlen x) c) (dlen x) ((digsTo x (dlen x)).map dgV)):=by
    have h1:=HS.out.own.kept (HS.out.res.setGrown 0 (.bool b)) (.inr hob)
    exact h1.kept ((HS.out.res.set_ 0 (.bool b)).setGrown 1 (.slice A (dlen x) c)) (.inr hob)
   clear hob
   go_wp2_with fail
   obtain ⟨hb1,hb2,-⟩:=HE.out A c
   have p0:=hb1.cell 0
   have p1:=hb1.cell 1
   simp only [zq1,zq2,zq3] at p0 p1
   refine bodyPost_ret (v:=.agg #[.bool b,.slice A (dlen x) c]) (by simp [results,Tryz.results170,go_sem,p0,p1]) rfl ?_
   refine ⟨b,_,rfl,hb2,HBn.out,?_⟩
   unfold DgAt
   rw [← HX.out]
   exact own_dig HO2.out
def gDk (x k:Nat):GPost:=⟨fun v => ∃ A c,v = .slice A k c,fun v w => DgTo w w.heap.size v x k,⟨.slice none k 0,none,0,rfl⟩,fun _ _ _ hb h => DgTo.grow h hb,false⟩
def gDg (x:Nat):GPost:=gDk x (dlen x)
def gBg (n:Int):GPost:=⟨fun v => ∃ s A c,v = .agg #[.bool s,.slice A (dlen n.natAbs) c],fun u w => ∃ s v,u = .agg #[.bool s,v]∧BigAt w w.heap.size s v n,⟨_,false,none,0,rfl⟩,fun _ _ _ hb h => by
 obtain ⟨s,v,e,h1⟩:=h
 exact ⟨s,v,e,h1.grow hb⟩,false⟩
def gEq (q:Rat) (K:Nat):GPost:=⟨fun v => ∃ s1 A1 l1 c1 s2 A2 l2 c2,v = .agg #[.bool s1,.slice A1 l1 c1,.bool s2,.slice A2 l2 c2],fun v w => ExqAt w w.heap.size v q K,⟨_,false,none,0,0,false,none,0,0,rfl⟩,fun _ _ _ hb h => h.grow hb,false⟩
theorem dg_calls {f:FuncId} {args:Array Value} {w:World} {x k:Nat} (h:Calls Tryz.prog f args w (DgToPost w x k)):Calls Tryz.prog f args w fun e w' => ∃ v,e = .returned v∧Below w.heap.size w w'∧(gDk x k).σ v∧(gDk x k).φ v w':=h.mono fun e w' h => by
 obtain ⟨v,rfl,hb,h1⟩:=h
 obtain ⟨A,c,rfl,-⟩:=h1.open_
 exact ⟨_,rfl,hb,⟨A,c,rfl⟩,h1⟩
theorem dg_calls' {f:FuncId} {args:Array Value} {w:World} {x:Nat} (h:Calls Tryz.prog f args w (DgPost w x)):Calls Tryz.prog f args w fun e w' => ∃ v,e = .returned v∧Below w.heap.size w w'∧(gDg x).σ v∧(gDg x).φ v w':=dg_calls h
theorem bg_calls {f:FuncId} {args:Array Value} {w:World} {n:Int} (h:Calls Tryz.prog f args w (BigPost w n)):Calls Tryz.prog f args w fun e w' => ∃ v,e = .returned v∧Below w.heap.size w w'∧(gBg n).σ v∧(gBg n).φ v w':=h.mono fun e w' h => by
 obtain ⟨s,v,rfl,hb,h1⟩:=h
 obtain ⟨A,c,rfl,-⟩:=DgTo.open_ h1.2
 exact ⟨_,rfl,hb,⟨s,A,c,rfl⟩,s,_,rfl,h1⟩
theorem DgTo.set {w:World} {B R i:Nat} {v u:Value} {x k:Nat} (h:DgTo w B v x k) (hx:w.cell? ⟨R,i,none⟩=some u) (hu:∀ z,u ≠ .int .i64 z) (y:Value):DgTo (w.setCell ⟨R,i,none⟩ y) B v x k:=by
 refine ⟨?_,fun hk g hg => by
  obtain ⟨cs,r,e⟩:=h.2 hk g hg
  by_cases hR:g=R
  ·subst hR
   exact ⟨cs.setIfInBounds i y,r,by simp [World.setCell,Array.getElem?_modify,e]⟩
  ·exact ⟨cs,r,(Below.heap_setCell w ⟨R,i,none⟩ y g hR).trans e⟩⟩
 obtain ⟨A,c,h1,h2,h3,h4⟩:=h.1
 refine ⟨A,c,h1,h2,h3,fun hn => ?_⟩
 obtain ⟨b,off,e,hlt,hc⟩:=h4 hn
 refine ⟨b,off,e,hlt,fun j u' hu' => ?_⟩
 have h5:=hc j u' hu'
 rw [World.cell?_setCell_other]
 ·exact h5
 ·intro e2
  rw [e2,h5] at hx
  injection hx with hx
  rw [List.getElem?_map] at hu'
  cases hg:(digsTo x k)[j]? with
  | none => rw [hg] at hu';cases hu'
  | some d =>
   rw [hg] at hu'
   injection hu' with hu'
   exact hu d (by rw [← hx,← hu'];rfl)
theorem big_out {w w8:World} {R:Nat} {b0:Bool} {A0:Option Addr} {l0 c0:Nat} (hR:w.heap.size≤R) (hb:Below w.heap.size w w8) (hD:Blk w8 R 173 #[.bool b0,.slice A0 l0 c0]) {s:Bool} {v:Value} {n:Int} (hv:BigAt w8 w8.heap.size s v n) :
  ((w8.setCell ⟨R,0,none⟩ (.bool s)).setCell ⟨R,1,none⟩ v).cell? ⟨R,0,none⟩=some (.bool s)∧((w8.setCell ⟨R,0,none⟩ (.bool s)).setCell ⟨R,1,none⟩ v).cell? ⟨R,1,none⟩=some v ∧
  Below w.heap.size w ((w8.setCell ⟨R,0,none⟩ (.bool s)).setCell ⟨R,1,none⟩ v)∧BigAt ((w8.setCell ⟨R,0,none⟩ (.bool s)).setCell ⟨R,1,none⟩ v) ((w8.setCell ⟨R,0,none⟩ (.bool s)).setCell ⟨R,1,none⟩ v).heap.size s v n:=by
 have h1:=hD.set_ 0 (.bool s)
 have h2:=h1.set_ 1 v
 have z0:=hD.cell 0
 have z1:=h1.cell 1
 have p0:=h2.cell 0
 have p1:=h2.cell 1
 simp only [zq1,zq3] at z0
 refine ⟨p0,p1,(hb.setCell (p:=⟨R,0,none⟩) hR _).setCell (p:=⟨R,1,none⟩) hR _,hv.1,?_⟩
 have h3:=DgTo.set hv.2 z0 (fun z => by simp) (.bool s)
 have h4:=DgTo.set h3 (u:=.slice A0 l0 c0) z1 (fun z => by simp) v
 exact DgTo.mono h4 (by simp [World.setCell])
end Go.Proofs.YtfhmbechennkbaaGreatDoor
