/- Parts of the proof, laid into one text: RgI, RgH, RgJ, RgK. -/
import Derived.Deep.Cut
import Derived.RangeFuncBox
import Derived.Test.YtfhmbechennkbaaGreatDoorC2
import Derived.Test.YtfhmbechennkbaaGreatDoorR1
namespace Go.Proofs.YtfhmbechennkbaaGreatDoor
set_option maxRecDepth 100000
set_option maxHeartbeats 40000000
open Go.RowKit Go.Shelf
theorem big_field (b:Bool) (A:Option Addr) (l c:Nat) (w:World):(Instr.field 173 (.agg #[.bool b,.slice A l c]) 1).run Tryz.prog w = .ok (.slice A l c) w:=by kernel_rfl
def hiN (m i:Nat):Nat:=m / 16777216 ^ i % 2
theorem hi_dig (m i:Nat):(gdig m i+hiN m (i+1)*16777216) / 2=gdig (m / 2) i:=half_dig m i
theorem hi_rest (m i:Nat):(gdig m i+hiN m (i+1)*16777216) % 2=hiN m i:=half_rest m i
theorem hi_le (m i:Nat):hiN m i≤1:=Nat.le_of_lt_succ (Nat.mod_lt _ (by decide))
theorem hi_top (m:Nat):hiN m (dlen m)=0:=by unfold hiN;rw [Nat.div_eq_of_lt (dlen_lt m)]
theorem own_formD {w:World} {B e s n:Nat} {v:Value} {L:List Value} (h:w.ownsRow B e s v n L):∃ A c,v = .slice A n c:=by
 rcases h.2 with ⟨rfl,rfl⟩ | ⟨g,cap,cur,rfl,_⟩
 ·exact ⟨none,0,rfl⟩
 ·exact ⟨_,cap,rfl⟩
theorem own_addrD {w:World} {B e s n c:Nat} {A:Option Addr} {L:List Value} (h:w.ownsRow B e s (.slice A n c) n L) (hn:0<n):∃ g,A=some ⟨g,0,none⟩:=by
 rcases h.2 with ⟨_,e0⟩ | ⟨g,cap,cur,e0,_⟩
 ·omega
 ·injection e0 with e1 _ _
  exact ⟨g,e1⟩
def downTo (x la j:Nat):List Nat:=(List.range j).map fun t => gdig x (la-1-t)
def swapTo (x la i:Nat):List Nat:=(List.range la).map fun t => if t<i∨la-1-t<i then gdig x t else gdig x (la-1-t)
theorem downTo_succ (x la j:Nat):downTo x la (j+1)=downTo x la j ++ [gdig x (la-1-j)]:=by unfold downTo;rw [List.range_succ,List.map_append];rfl
theorem swap_zero (x la:Nat):swapTo x la 0=downTo x la la:=by
 unfold swapTo downTo
 refine List.map_congr_left fun t _ => ?_
 rw [if_neg (by omega)]
theorem swap_end {x la i:Nat} (h:la≤2*i+1):swapTo x la i=digsTo x la:=by
 unfold swapTo digsTo
 refine List.map_congr_left fun t ht => ?_
 rw [List.mem_range] at ht
 split
 ·rfl
 ·rw [show la-1-t=t by omega]
theorem swap_at {x la i t:Nat} (h:t<la):(swapTo x la i)[t]? = some (if t<i∨la-1-t<i then gdig x t else gdig x (la-1-t)):=by
 unfold swapTo
 rw [List.getElem?_map,List.getElem?_range h]
 rfl
theorem swap_step {x la i:Nat} (h:2*i+1<la):((swapTo x la i).set i (gdig x i)).set (la-1-i) (gdig x (la-1-i))=swapTo x la (i+1):=by
 refine List.ext_getElem? fun t => ?_
 by_cases ht:t<la
 ·have hl:(swapTo x la i).length=la:=by unfold swapTo;rw [List.length_map,List.length_range]
  rw [List.getElem?_set,List.getElem?_set,swap_at ht,swap_at ht]
  by_cases h1:la-1-i=t
  ·rw [if_pos h1,if_pos (by rw [List.length_set,hl];omega),if_pos (by omega),h1]
  ·rw [if_neg h1]
   by_cases h2:i=t
   ·rw [if_pos h2,if_pos (by rw [hl];omega),if_pos (by omega),h2]
   ·rw [if_neg h2]
    by_cases h3:t<i∨la-1-t<i
    ·rw [if_pos h3,if_pos (by omega)]
    ·rw [if_neg h3,if_neg (by omega)]
 ·have hl:(swapTo x la i).length=la:=by unfold swapTo;rw [List.length_map,List.length_range]
  have hl2:(swapTo x la (i+1)).length=la:=by unfold swapTo;rw [List.length_map,List.length_range]
  rw [List.getElem?_eq_none (by rw [List.length_set,List.length_set,hl];omega),List.getElem?_eq_none (by rw [hl2];omega)]
theorem half_facts {g cy q r:Nat} (h1:(g+cy*16777216) / 2=q) (h2:(g+cy*16777216) % 2=r) (hg:g<16777216) (hc:cy≤1) :
  ∃ qd rd:Int,qd=(q:Int)∧rd=(r:Int)∧((g:Int)+(cy:Int)*16777216).tdiv 2=qd∧((g:Int)+(cy:Int)*16777216).tmod 2=rd∧((g:Int)+(cy:Int)*16777216) / 2=qd∧((g:Int)+(cy:Int)*16777216) % 2=rd∧IntKind.i64.wrap qd=qd:=by
 have h0:(0:Int)≤(g:Int)+(cy:Int)*16777216:=by omega
 have e1:((g:Int)+(cy:Int)*16777216) / 2=(q:Int):=by omega
 have e2:((g:Int)+(cy:Int)*16777216) % 2=(r:Int):=by omega
 exact ⟨q,r,rfl,rfl,by rw [Int.tdiv_eq_ediv_of_nonneg h0,e1],by rw [Int.tmod_eq_emod_of_nonneg h0,e2],e1,e2,IntWalk.i64_in _ (by omega)⟩
theorem rgHalf (v:Value) (m:Nat) (w:World) (hv:DgAt w w.heap.size v m) (hm:dlen m≤1000000) :
  Calls Tryz.prog 210 #[v] w (DgPost w (m / 2)):=by
 obtain ⟨A1,c1,rfl,hc1,hd1,hcell1⟩:=hv.open_
 have HC1:=zh hcell1
 obtain ⟨la,hla⟩:∃ la,la=dlen m:=⟨_,rfl⟩
 have HLA:=zh hla
 rw [← hla] at hc1 hm HC1 ⊢
 have v0:IntKind.i64.wrap ((la:Int)-1)=(la:Int)-1:=IntWalk.i64_in _ (by omega)
 clear hv hcell1 hla
 go_enter Tryz.func210,Tryz.ntmps210
 go_wp2_with fail
 go_loopw [5,4,3] (fun ix cx ox wr => ∃ j:Nat,j≤la∧ix = .int .i64 ((la:Int)-1-j)∧cx = .int .i64 ((hiN m (la-j):Nat):Int)∧Hid (wr.ownsRow w.heap.size 3 1 ox j ((downTo (m / 2) la j).map dgV))∧Hid (Below w.heap.size w wr)) (fun ix _ _ _ => (intOf ix+1).toNat)
 case atStart => exact ⟨0,Nat.zero_le _,by simp,by rw [Nat.sub_zero,HLA.out,hi_top];rfl,World.ownsRow_nil _ _ _ _,Below.refl _ _⟩
 case round =>
  obtain ⟨j,hj,rfl,rfl,HO,HB⟩:=hrel
  by_cases hlt:j<la
  ·obtain ⟨i,hi⟩:∃ i,la=i+1+j:=⟨la-1-j,by omega⟩
   obtain ⟨b1,o1,rfl,hb1,hx1⟩:=HC1.out i (by omega)
   have y1:=(HB.out.cell (p:=⟨b1,o1+i,none⟩) hb1).trans (hx1 i (by omega))
   have e0:(la:Int)-1-(j:Int)=(i:Int):=by omega
   rw [e0,show la-j=i+1 by omega]
   have HH:=zh (hi_dig m i)
   have HR:=zh (hi_rest m i)
   have hg:=gdig_lt m i
   have hc2:=hi_le m (i+1)
   clear hx1 e0
   generalize gdig m i=g at *
   generalize hiN m (i+1)=cy at *
   have i0:(0:Int)≤(i:Int):=Int.natCast_nonneg _
   have i1:(i:Int)<(la:Int):=by omega
   have v1:IntKind.i64.wrap ((cy:Int)*16777216)=(cy:Int)*16777216:=IntWalk.i64_in _ (by omega)
   have v2:IntKind.i64.wrap ((g:Int)+(cy:Int)*16777216)=(g:Int)+(cy:Int)*16777216:=IntWalk.i64_in _ (by omega)
   have v3:IntKind.i64.wrap ((i:Int)-1)=(i:Int)-1:=IntWalk.i64_in _ (by omega)
   have hO3:=HO.out
   have hsz:=HB.out.size
   have HP:Hid (∀ (v':Value) (w1:World),w1.ownsRow w.heap.size 3 1 v' (j+1) ((downTo (m / 2) la j).map dgV ++ [.int .i64 ((gdig (m / 2) i:Nat):Int)])→w1.ownsRow w.heap.size 3 1 v' (j+1) ((downTo (m / 2) la (j+1)).map dgV)):=fun v' w1 h => by
    rw [downTo_succ,List.map_append,show la-1-j=i by omega]
    exact h
   obtain ⟨qd,rd,hqd,hrd,hq,hr,hq2,hr2,v4⟩:=half_facts HH.out HR.out hg hc2
   have HRD:=zh hrd
   rw [← hqd] at HP
   have Hi:=zh hi
   have hii:i<la:=by omega
   have hjm:(la:Int)-1-((j+1:Nat):Int)=(i:Int)-1:=by omega
   have Hjm:=zh hjm
   clear HH HR hqd hrd hi hjm
   go_wp2_with (at_builtin;refine wpList_push _ rfl (.tmp 23) (.tmp 26) 22 rfl w.heap.size 3 info_dig Tryz.underlying22 rfl _ j _ rfl hO3 (.int .i64 qd) rfl rfl (by unfold maxLen;omega) (by omega) hsz ?_;intro g4 cap w4 hown4 hgrow4 hbg hgg;have HB4:=zh (HB.out.grown hgrow4 HB.out.size (fun k hk => (HO.out.lt k hk).1));have HO4:=zh (HP.out _ _ hown4);clear hown4 hgrow4 hgg)
   clear hO3
   go_roundw
   case rel => exact ⟨j+1,by omega,by rw [Hjm.out],by rw [show la-(j+1)=i by have:=Hi.out;omega,← HRD.out],HO4,HB4⟩
   case measure => simp [intOf] <;> omega
  ·obtain rfl:j=la:=by omega
   have hlast:(j:Int)-1-(j:Int) = -1:=by omega
   rw [hlast]
   clear hlast
   have HB':=zh HB.out
   obtain ⟨A3,c3,rfl⟩:=own_formD HO.out
   have hO0:=HO.out
   rw [← swap_zero] at hO0
   have HO':=zh hO0
   clear hO0
   generalize hiN m (j-j)=cy
   clear HO HB HC1
   go_wp2_with fail
   go_loopw [7,8] (fun ix kx wq => ∃ i:Nat,2*i≤j+1∧ix = .int .i64 i∧kx = .int .i64 ((j:Int)-1-i)∧Hid (wq.ownsRow w.heap.size 3 1 (.slice A3 j c3) j ((swapTo (m / 2) j i).map dgV))∧Hid (Below w.heap.size w wq)) (fun ix _ _ => j-(intOf ix).toNat)
   case atStart => exact ⟨0,by omega,rfl,by simp,HO',HB'⟩
   case round =>
    clear HO' HB'
    obtain ⟨i,hi,rfl,rfl,HO,HB⟩:=hrel
    by_cases hlt:2*i+1<j
    ·obtain ⟨k,hk⟩:∃ k:Nat,j=k+1+i:=⟨j-1-i,by omega⟩
     have e1:(j:Int)-1-(i:Int)=(k:Int):=by omega
     rw [e1]
     have d1:decide (i<k)=true:=decide_eq_true (by omega)
     obtain ⟨g3,rfl⟩:=own_addrD HO.out (by omega)
     have hil:i<j:=by omega
     have hkl:k<j:=by omega
     have y0:=HO.out.cellAt i (by omega)
     have y1:=HO.out.cellAt k (by omega)
     rw [List.getElem?_map,swap_at hil,if_neg (by omega),show j-1-i=k by omega] at y0
     rw [List.getElem?_map,swap_at hkl,if_neg (by omega),show j-1-k=i by omega] at y1
     have f0:=HO.out.frozenAt i
     have S1:=(HO.out.stored i (dgV (gdig (m / 2) i))).1
     have S2:=S1.stored k (dgV (gdig (m / 2) k))
     have y2:=S1.cellAt k (by omega)
     have f2:=S1.frozenAt k
     rw [List.getElem?_set_ne (by omega),List.getElem?_map,swap_at hkl,if_neg (by omega),show j-1-k=i by omega] at y2
     have HW:Hid ((((swapTo (m / 2) j i).map dgV).set i (dgV (gdig (m / 2) i))).set k (dgV (gdig (m / 2) k))=(swapTo (m / 2) j (i+1)).map dgV):=by
      unfold Hid
      rw [← swap_step hlt,show j-1-i=k by omega,List.map_set,List.map_set]
     have HS2:=zh (own_drewN S2.1 1)
     have HB2:=zh (((HB.out.setCell (p:=⟨g3,i,none⟩) (by show w.heap.size≤g3;exact (HO.out.lt g3 (by simp [Value.ownBlock])).1) (dgV (gdig (m / 2) i))).setCell (p:=⟨g3,k,none⟩) (by show w.heap.size≤g3;exact (HO.out.lt g3 (by simp [Value.ownBlock])).1) (dgV (gdig (m / 2) k))).drew)
     unfold dgV at *
     simp only [Option.map_some] at y0 y1 y2
     generalize ((gdig (m / 2) i:Nat):Int)=di at *
     generalize ((gdig (m / 2) k:Nat):Int)=dk at *
     have i0:(0:Int)≤(i:Int):=Int.natCast_nonneg _
     have i1:(i:Int)<(j:Int):=by omega
     have k0:(0:Int)≤(k:Int):=Int.natCast_nonneg _
     have k1:(k:Int)<(j:Int):=by omega
     have v3:IntKind.i64.wrap ((k:Int)-1)=(k:Int)-1:=IntWalk.i64_in _ (by omega)
     have Hk:=zh hk
     have Hkm:Hid ((j:Int)-1-((i+1:Nat):Int)=(k:Int)-1):=by unfold Hid;omega
     clear S1 S2 HO HB hk e1
     go_wp2_with fail
     obtain ⟨Wd,w0,w1,w2⟩:∃ Wd:Nat→World,Wd 0=wr.drew∧(Wd 0).setCell ⟨g3,i,none⟩ (.int .i64 di)=Wd 1∧(Wd 1).setCell ⟨g3,k,none⟩ (.int .i64 dk)=Wd 2 :=
      ⟨fun | 0 => wr.drew | 1 => wr.drew.setCell ⟨g3,i,none⟩ (.int .i64 di) | _ => (wr.drew.setCell ⟨g3,i,none⟩ (.int .i64 di)).setCell ⟨g3,k,none⟩ (.int .i64 dk),rfl,rfl,rfl⟩
     have y0':(Wd 0).cell? ⟨g3,i,none⟩=some (.int .i64 dk):=by rw [w0];exact y0
     have y1':(Wd 0).cell? ⟨g3,k,none⟩=some (.int .i64 di):=by rw [w0];exact y1
     have f0':(Wd 0).frozen? ⟨g3,i,none⟩=false:=by rw [w0];exact f0
     have y2':(Wd 1).cell? ⟨g3,k,none⟩=some (.int .i64 di):=by rw [← w1,w0];exact y2
     have f2':(Wd 1).frozen? ⟨g3,k,none⟩=false:=by rw [← w1,w0];exact f2
     have HS3:Hid ((Wd 2).ownsRow w.heap.size 3 1 (.slice (some ⟨g3,0,none⟩) j c3) j ((swapTo (m / 2) j (i+1)).map dgV)):=by
      have hh:=HW.out
      show (Wd 2).ownsRow w.heap.size 3 1 (.slice (some ⟨g3,0,none⟩) j c3) j ((swapTo (m / 2) j (i+1)).map (fun d:Nat => Value.int .i64 (d:Int)))
      rw [← hh,← w2,← w1,w0]
      exact HS2.out
     have HB3:Hid (Below w.heap.size w (Wd 2)):=by
      unfold Hid
      rw [← w2,← w1,w0]
      exact HB2.out
     have W0:=zh w0
     clear w0 y0 y1 f0 y2 f2 HS2 HB2 HW
     refine wp_region_freeL [.slice (some ⟨g3,0,none⟩) j c3,.int .i64 i,.slice (some ⟨g3,0,none⟩) j c3,.int .i64 k,.slice (some ⟨g3,0,none⟩) j c3,.int .i64 k,.pointer (some ⟨g3,k,none⟩),.int .i64 di,.slice (some ⟨g3,0,none⟩) j c3,.int .i64 i,.pointer (some ⟨g3,i,none⟩),.int .i64 dk,.pointer (some ⟨g3,i,none⟩),undef,.pointer (some ⟨g3,k,none⟩),undef] Wd [13,15] (by kernel_rfl) (by kernel_rfl) (by kernel_rfl) (by decide) (by rfl) W0.out ?_ ?_
     ·simp only [putAll,Act.put,zs1,zs2,zs3]
      simp only [freeAll]
      refine ⟨?_,?_,?_,?_,?_,?_,?_,?_,?_,?_,?_,?_,?_,?_,?_,?_,trivial⟩
      ·exact .inl ⟨by decide,fun m hm hok => by go_simp⟩
      ·exact .inl ⟨by decide,fun m hm hok => by go_simp⟩
      ·exact .inl ⟨by decide,fun m hm hok => by go_simp⟩
      ·exact .inl ⟨by decide,fun m hm hok => by go_simp⟩
      ·exact .inl ⟨by decide,fun m hm hok => by go_simp⟩
      ·exact .inl ⟨by decide,fun m hm hok => by go_simp⟩
      ·exact .inl ⟨by decide,fun m hm hok => by go_simp⟩
      ·exact .inl ⟨by decide,fun m hm hok => by
       have hm0:m=0:=by
        rcases m with _ | _ | _ | m
        ·rfl
        ·exact absurd (Eq.trans (a:=false) (by kernel_rfl) hok) Bool.false_ne_true
        ·exact absurd (Eq.trans (a:=false) (by kernel_rfl) hok) Bool.false_ne_true
        ·exact absurd hm (by show ¬ m+3≤2;omega)
       subst hm0
       go_simp⟩
      ·exact .inl ⟨by decide,fun m hm hok => by go_simp⟩
      ·exact .inl ⟨by decide,fun m hm hok => by go_simp⟩
      ·exact .inl ⟨by decide,fun m hm hok => by go_simp⟩
      ·exact .inl ⟨by decide,fun m hm hok => by
       have hm0:m=0:=by
        rcases m with _ | _ | _ | m
        ·rfl
        ·exact absurd (Eq.trans (a:=false) (by kernel_rfl) hok) Bool.false_ne_true
        ·exact absurd (Eq.trans (a:=false) (by kernel_rfl) hok) Bool.false_ne_true
        ·exact absurd hm (by show ¬ m+3≤2;omega)
       subst hm0
       go_simp⟩
      ·exact .inl ⟨by decide,fun m hm hok => by go_simp⟩
      ·exact .inr ⟨0,rfl,by go_simp⟩
      ·exact .inl ⟨by decide,fun m hm hok => by go_simp⟩
      ·exact .inr ⟨1,rfl,by go_simp⟩
     ·simp only [putAll,Act.put,zs1,zs2,zs3]
      clear y0' y1' f0' y2' f2' w1 w2
      go_wp2_with fail
      go_roundw
      case rel => exact ⟨i+1,by omega,by go_num,by rw [Hkm.out],HS3,HB3⟩
      case measure => simp [intOf] <;> omega
    ·have d1:decide ((i:Int)<(j:Int)-1-(i:Int))=false:=decide_eq_false (by omega)
     have hW:swapTo (m / 2) j i=digsTo (m / 2) j:=swap_end (by omega)
     have hO:=HO.out
     rw [hW] at hO
     have hT:=rgTrim false (.slice A3 j c3) (m / 2) j wr (own_dig hO) (by rw [HLA.out];exact dlen_mono (Nat.div_le_self _ _))
     have HB2:=zh HB.out
     clear hW hO HO HB
     go_wp2_with fail
     refine hT.mono ?_
     rintro e w9 ⟨v9,rfl,hb9,hd9⟩
     obtain ⟨A9,c9,rfl,-⟩:=DgTo.open_ hd9
     have hfl:=fun W => big_field (false && decide (m / 2≠0)) A9 (dlen (m / 2)) c9 W
     rw [Bool.false_and] at hfl
     have HD9:=zh hd9
     have HB9:=zh (HB2.out.trans (hb9.mono HB2.out.size))
     go_wp2_with fail
     go_ret
     exact ⟨_,rfl,HB9.out,HD9.out⟩
theorem sum_diff {s t:Bool} {m n:Int} (hs:s=decide (m<0)) (ht:t=decide (n<0)) (hst:s≠t) (h:n.natAbs≤m.natAbs):(s && decide (m.natAbs-n.natAbs≠0))=decide (m+n<0)∧(m+n).natAbs=m.natAbs-n.natAbs:=by
 by_cases h1:m<0
 ·rw [decide_eq_true h1] at hs
  subst hs
  have h2:¬ n<0:=fun h2 => hst (by rw [ht,decide_eq_true h2])
  refine ⟨?_,by omega⟩
  rw [Bool.true_and,Bool.eq_iff_iff,decide_eq_true_iff,decide_eq_true_iff]
  omega
 ·rw [decide_eq_false h1] at hs
  subst hs
  have h2:n<0:=by
   by_cases h2:n<0
   ·exact h2
   ·exact absurd (by rw [ht,decide_eq_false h2]) hst
  refine ⟨?_,by omega⟩
  rw [Bool.false_and,decide_eq_false (show ¬ m+n<0 by omega)]
theorem rgSum (s t:Bool) (v u:Value) (m n:Int) (w:World) (hv:BigAt w w.heap.size s v m) (hu:BigAt w w.heap.size t u n) (hm:dlen m.natAbs≤1000000) (hn:dlen n.natAbs≤1000000) :
  Calls Tryz.prog 174 #[.agg #[.bool s,v],.agg #[.bool t,u]] w (BigPost w (m+n)):=by
 have HPl:Hid (∀ W,Below w.heap.size w W→Calls Tryz.prog 205 #[v,u] W (DgPost W (m.natAbs+n.natAbs))):=fun W hb => rgPlus v u m.natAbs n.natAbs W (DgTo.grow hv.2 hb) (DgTo.grow hu.2 hb) hm hn
 have HLa:Hid (∀ W,Below w.heap.size w W→Calls Tryz.prog 171 #[u,v] W fun e w' => e = .returned (.bool (decide (m.natAbs<n.natAbs)))∧Below W.heap.size W w'):=fun W hb => rgLarger u v n.natAbs m.natAbs W (DgTo.grow hu.2 hb) (DgTo.grow hv.2 hb)
 have HM1:Hid (n.natAbs≤m.natAbs→∀ W,Below w.heap.size w W→Calls Tryz.prog 207 #[v,u] W (DgToPost W (m.natAbs-n.natAbs) (dlen m.natAbs))):=fun h W hb => rgMinus v u m.natAbs n.natAbs W (DgTo.grow hv.2 hb) (DgTo.grow hu.2 hb) hm h
 have HM2:Hid (m.natAbs≤n.natAbs→∀ W,Below w.heap.size w W→Calls Tryz.prog 207 #[u,v] W (DgToPost W (n.natAbs-m.natAbs) (dlen n.natAbs))):=fun h W hb => rgMinus u v n.natAbs m.natAbs W (DgTo.grow hu.2 hb) (DgTo.grow hv.2 hb) hn h
 have hs:=hv.1
 have ht:=hu.1
 obtain ⟨A1,c1,rfl,-,-,-⟩:=hv.2.open_
 obtain ⟨A2,c2,rfl,-,-,-⟩:=hu.2.open_
 clear hv hu
 have D0:=((Blk.new w 173 #[.bool s,.slice A1 (dlen m.natAbs) c1]).alloc (.cells #[.bool t,.slice A2 (dlen n.natAbs) c2] 173)).alloc (.cells #[.bool false,.slice none 0 0] 173)
 have D1:=(Blk.new (w.alloc (.cells #[.bool s,.slice A1 (dlen m.natAbs) c1] 173)) 173 #[.bool t,.slice A2 (dlen n.natAbs) c2]).alloc (.cells #[.bool false,.slice none 0 0] 173)
 have D2:=Blk.new ((w.alloc (.cells #[.bool s,.slice A1 (dlen m.natAbs) c1] 173)).alloc (.cells #[.bool t,.slice A2 (dlen n.natAbs) c2] 173)) 173 #[.bool false,.slice none 0 0]
 have HbW:=(((Below.refl _ w).alloc (Nat.le_refl _) (.cells #[.bool s,.slice A1 (dlen m.natAbs) c1] 173)).alloc (by simp) (.cells #[.bool t,.slice A2 (dlen n.natAbs) c2] 173)).alloc (by simp;omega) (.cells #[.bool false,.slice none 0 0] 173)
 rw [World.size_alloc] at D1 D2
 rw [World.size_alloc] at D2
 go_enter Tryz.func174,Tryz.ntmps174
 by_cases hst:s=t
 ·subst hst
  have hb0:(s == s)=true:=beq_self_eq_true s
  have habs:(m+n).natAbs=m.natAbs+n.natAbs:=by
   by_cases h:m<0
   ·rw [decide_eq_true h] at hs
    have:n<0:=of_decide_eq_true (ht.symm.trans hs)
    omega
   ·rw [decide_eq_false h] at hs
    have:¬ n<0:=of_decide_eq_false (ht.symm.trans hs)
    omega
  have hsg:s=decide (m+n<0):=by
   by_cases h:m<0
   ·rw [decide_eq_true h] at hs
    have:n<0:=of_decide_eq_true (ht.symm.trans hs)
    rw [hs,decide_eq_true (show m+n<0 by omega)]
   ·rw [decide_eq_false h] at hs
    have:¬ n<0:=of_decide_eq_false (ht.symm.trans hs)
    rw [hs,decide_eq_false (show ¬ m+n<0 by omega)]
  have HAb:=zh habs
  have HSg:=zh hsg
  clear habs hsg hs ht
  go_wp2_with (exact Go.WalkKit.wp_stop)
  generalize ((w.alloc (.cells #[.bool s,.slice A1 (dlen m.natAbs) c1] 173)).alloc (.cells #[.bool s,.slice A2 (dlen n.natAbs) c2] 173)).alloc (.cells #[.bool false,.slice none 0 0] 173)=W3 at *
  have HD2:=zh D2
  have HB:=zh HbW
  have x0:=D0.cell 0
  have x1:=D0.cell 1
  have x2:=D1.cell 1
  simp only [zq1,zq2,zq3] at x0 x1 x2
  have u0:=HeldB.cell x0
  have u1:=HeldB.cell x1
  have u2:=HeldB.cell x2
  clear x0 x1 x2 D0 D1 D2 HbW
  refine wp_region_grow 8 (fun jx => if jx=6 then some (gDg (m.natAbs+n.natAbs)) else none) (by kernel_rfl) (by kernel_rfl) ?_
  simp only [zt1,zt2,zt3,zt4]
  refine wpG_quiet 6 (by kernel_rfl) (by rfl) (by decide) ?_
  simp only [zt1,zt2,zt3,zt4]
  repeat (go_big_quiet_step (fail))
  refine wpQuiet_nil ?_
  refine wpG_call rfl rfl (fun w1 hb1 _ => ⟨205,#[.slice A1 (dlen m.natAbs) c1,.slice A2 (dlen n.natAbs) c2],by go_simp,dg_calls' (HPl.out w1 (HB.out.trans (hb1.mono HB.out.size)))⟩) ?_
  rintro _ ⟨A3,c3,rfl⟩
  simp only [Act.put,zs1,zs2,zs3]
  refine wpG_quiet 1 (by kernel_rfl) (by rfl) (by decide) ?_
  simp only [zt1,zt2,zt3,zt4]
  repeat (go_big_quiet_step (fail))
  refine wpQuiet_nil ?_
  refine Zc ?_
  intro w8 hb8 hF
  have h16:DgTo w8 w8.heap.size (.slice A3 (dlen (m.natAbs+n.natAbs)) c3) (m.natAbs+n.natAbs) (dlen (m.natAbs+n.natAbs)):=hF 16
  have HD8:=zh (HD2.out.below hb8 HD2.out.lt)
  have HB8:=zh (HB.out.trans (hb8.mono HB.out.size))
  have H16:=zh h16
  have z0:=HD8.out.cell 0
  have z1:=HD8.out.cell 1
  have f0:=HD8.out.frozen 0
  have f1:=HD8.out.frozen 1
  simp only [zq1,zq2,zq3] at z0 z1
  clear hF hb8 h16 u0 u1 u2
  have HOut:=zh (big_out (n:=m+n) (by omega) HB8.out HD8.out ⟨HSg.out,by unfold DgAt;rw [HAb.out];exact H16.out⟩)
  go_wp2_with fail
  obtain ⟨p0,p1,hbo,hbg⟩:=HOut.out
  refine bodyPost_ret (v:=.agg #[.bool s,.slice A3 (dlen (m.natAbs+n.natAbs)) c3]) (by simp [results,Tryz.results174,go_sem,p0,p1]) rfl ?_
  exact ⟨s,_,rfl,hbo,hbg⟩
 ·have hb0:(s == t)=false:=beq_eq_false_iff_ne.2 hst
  have HS:=zh hs
  have HT:=zh ht
  have HST:=zh hst
  clear hs ht hst
  go_wp2_with (exact Go.WalkKit.wp_stop)
  generalize ((w.alloc (.cells #[.bool s,.slice A1 (dlen m.natAbs) c1] 173)).alloc (.cells #[.bool t,.slice A2 (dlen n.natAbs) c2] 173)).alloc (.cells #[.bool false,.slice none 0 0] 173)=W3 at *
  refine (HLa.out _ HbW).mono ?_
  rintro e w4 ⟨rfl,hb4⟩
  have HB4:=zh (HbW.trans (hb4.mono HbW.size))
  have hD0:=D0.below hb4 D0.lt
  have hD1:=D1.below hb4 D1.lt
  have HD2:=zh (D2.below hb4 D2.lt)
  clear D0 D1 D2 HbW hb4
  by_cases hlt:m.natAbs<n.natAbs
  ·rw [decide_eq_true hlt]
   have x0:=hD0.cell 0
   have x1:=hD0.cell 1
   have x2:=hD1.cell 0
   have x3:=hD1.cell 1
   have g0:=hD0.frozen 0
   have g1:=hD0.frozen 1
   have g2:=hD1.frozen 0
   have g3:=hD1.frozen 1
   simp only [zq1,zq2,zq3] at x0 x1 x2 x3
   have HDx:=zh hD0
   have HDy:=zh hD1
   clear hD0 hD1
   go_wp2_with (exact Go.WalkKit.wp_stop)
   have HDf:Hid ((t && decide (n.natAbs-m.natAbs≠0))=decide (m+n<0)∧(m+n).natAbs=n.natAbs-m.natAbs):=by
    have h:=sum_diff HT.out HS.out (fun e => HST.out e.symm) (Nat.le_of_lt hlt)
    rw [Int.add_comm] at h
    exact h
   generalize hw5:(((w4.setCell ⟨w.heap.size,0,none⟩ (.bool t)).setCell ⟨w.heap.size,1,none⟩ (.slice A2 (dlen n.natAbs) c2)).setCell ⟨w.heap.size+1,0,none⟩ (.bool s)).setCell ⟨w.heap.size+1,1,none⟩ (.slice A1 (dlen m.natAbs) c1)=w5 at *
   have hE0:Blk w5 w.heap.size 173 #[.bool t,.slice A2 (dlen n.natAbs) c2]:=by
    rw [← hw5]
    exact (((HDx.out.set_ 0 _).set_ 1 _).far (by simp) _).far (by simp) _
   have hE1:Blk w5 (w.heap.size+1) 173 #[.bool s,.slice A1 (dlen m.natAbs) c1]:=by
    rw [← hw5]
    exact (((HDy.out.far (by simp) _).far (by simp) _).set_ 0 _).set_ 1 _
   have HD5:Hid (Blk w5 (w.heap.size+1+1) 173 #[.bool false,.slice none 0 0]):=by
    unfold Hid
    rw [← hw5]
    exact (((HD2.out.far (by simp;omega) _).far (by simp;omega) _).far (by simp) _).far (by simp) _
   have HB5:Hid (Below w.heap.size w w5):=by
    unfold Hid
    rw [← hw5]
    exact (((HB4.out.setCell (p:=⟨w.heap.size,0,none⟩) (Nat.le_refl _) _).setCell (p:=⟨w.heap.size,1,none⟩) (Nat.le_refl _) _).setCell (p:=⟨w.heap.size+1,0,none⟩) (Nat.le_succ _) _).setCell (p:=⟨w.heap.size+1,1,none⟩) (Nat.le_succ _) _
   clear x0 x1 x2 x3 g0 g1 g2 g3 hw5 HDx HDy HD2 HB4
   have x0:=hE0.cell 0
   have x1:=hE0.cell 1
   have x2:=hE1.cell 1
   simp only [zq1,zq2,zq3] at x0 x1 x2
   have u0:=HeldB.cell x0
   have u1:=HeldB.cell x1
   have u2:=HeldB.cell x2
   clear x0 x1 x2 hE0 hE1
   refine wp_region_grow 9 (fun jx => if jx=6 then some (gDk (n.natAbs-m.natAbs) (dlen n.natAbs)) else if jx=8 then some (gBg (m+n)) else none) (by kernel_rfl) (by kernel_rfl) ?_
   simp only [zt1,zt2,zt3,zt4]
   refine wpG_quiet 6 (by kernel_rfl) (by rfl) (by decide) ?_
   simp only [zt1,zt2,zt3,zt4]
   repeat (go_big_quiet_step (fail))
   refine wpQuiet_nil ?_
   refine wpG_call rfl rfl (fun w1 hb1 _ => ⟨207,#[.slice A2 (dlen n.natAbs) c2,.slice A1 (dlen m.natAbs) c1],by go_simp,dg_calls (HM2.out (Nat.le_of_lt hlt) w1 (HB5.out.trans (hb1.mono HB5.out.size)))⟩) ?_
   rintro _ ⟨A3,c3,rfl⟩
   simp only [Act.put,zs1,zs2,zs3]
   refine wpG_quiet 1 (by kernel_rfl) (by rfl) (by decide) ?_
   simp only [zt1,zt2,zt3,zt4]
   repeat (go_big_quiet_step (fail))
   refine wpQuiet_nil ?_
   refine wpG_call rfl rfl (fun w1 hb1 hk => ⟨206,#[.agg #[.bool t,.slice A3 (dlen n.natAbs) c3]],by go_simp,bg_calls ((rgTrim t _ (n.natAbs-m.natAbs) (dlen n.natAbs) w1 (hk 32 (of_decide_eq_true (by kernel_rfl)) 31 (of_decide_eq_true (by kernel_rfl))) (dlen_mono (Nat.sub_le _ _))).mono (fun e w' h => by
    obtain ⟨v',rfl,h1,h2⟩:=h
    exact ⟨_,v',rfl,h1,HDf.out.1,by unfold DgAt;rw [HDf.out.2];exact h2⟩))⟩) ?_
   rintro _ ⟨s3,A4,c4,rfl⟩
   simp only [Act.put,zs1,zs2,zs3]
   refine Zc ?_
   intro w8 hb8 hF
   obtain ⟨s4,v4,e4,h33⟩:∃ s v,Value.agg #[.bool s3,.slice A4 (dlen (m+n).natAbs) c4] = .agg #[.bool s,v]∧BigAt w8 w8.heap.size s v (m+n):=hF 33
   injection e4 with e4
   simp only [Array.mk.injEq,List.cons.injEq,Value.bool.injEq,and_true] at e4
   obtain ⟨rfl,rfl⟩:=e4
   have HD8:=zh (HD5.out.below hb8 HD5.out.lt)
   have HB8:=zh (HB5.out.trans (hb8.mono HB5.out.size))
   have z0:=HD8.out.cell 0
   have z1:=HD8.out.cell 1
   have f0:=HD8.out.frozen 0
   have f1:=HD8.out.frozen 1
   simp only [zq1,zq2,zq3] at z0 z1
   have HOut:=zh (big_out (n:=m+n) (by omega) HB8.out HD8.out h33)
   clear hF hb8 u0 u1 u2 h33
   go_wp2_with fail
   obtain ⟨p0,p1,hbo,hbg⟩:=HOut.out
   refine bodyPost_ret (v:=.agg #[.bool s3,.slice A4 (dlen (m+n).natAbs) c4]) (by simp [results,Tryz.results174,go_sem,p0,p1]) rfl ?_
   exact ⟨s3,_,rfl,hbo,hbg⟩
  ·rw [decide_eq_false hlt]
   have HDf:=zh (sum_diff HS.out HT.out HST.out (Nat.le_of_not_lt hlt))
   go_wp2_with (exact Go.WalkKit.wp_stop)
   have x0:=hD0.cell 0
   have x1:=hD0.cell 1
   have x2:=hD1.cell 1
   simp only [zq1,zq2,zq3] at x0 x1 x2
   have u0:=HeldB.cell x0
   have u1:=HeldB.cell x1
   have u2:=HeldB.cell x2
   clear x0 x1 x2 hD0 hD1
   refine wp_region_grow 9 (fun jx => if jx=6 then some (gDk (m.natAbs-n.natAbs) (dlen m.natAbs)) else if jx=8 then some (gBg (m+n)) else none) (by kernel_rfl) (by kernel_rfl) ?_
   simp only [zt1,zt2,zt3,zt4]
   refine wpG_quiet 6 (by kernel_rfl) (by rfl) (by decide) ?_
   simp only [zt1,zt2,zt3,zt4]
   repeat (go_big_quiet_step (fail))
   refine wpQuiet_nil ?_
   refine wpG_call rfl rfl (fun w1 hb1 _ => ⟨207,#[.slice A1 (dlen m.natAbs) c1,.slice A2 (dlen n.natAbs) c2],by go_simp,dg_calls (HM1.out (Nat.le_of_not_lt hlt) w1 (HB4.out.trans (hb1.mono HB4.out.size)))⟩) ?_
   rintro _ ⟨A3,c3,rfl⟩
   simp only [Act.put,zs1,zs2,zs3]
   refine wpG_quiet 1 (by kernel_rfl) (by rfl) (by decide) ?_
   simp only [zt1,zt2,zt3,zt4]
   repeat (go_big_quiet_step (fail))
   refine wpQuiet_nil ?_
   refine wpG_call rfl rfl (fun w1 hb1 hk => ⟨206,#[.agg #[.bool s,.slice A3 (dlen m.natAbs) c3]],by go_simp,bg_calls ((rgTrim s _ (m.natAbs-n.natAbs) (dlen m.natAbs) w1 (hk 32 (of_decide_eq_true (by kernel_rfl)) 31 (of_decide_eq_true (by kernel_rfl))) (dlen_mono (Nat.sub_le _ _))).mono (fun e w' h => by
    obtain ⟨v',rfl,h1,h2⟩:=h
    exact ⟨_,v',rfl,h1,HDf.out.1,by unfold DgAt;rw [HDf.out.2];exact h2⟩))⟩) ?_
   rintro _ ⟨s3,A4,c4,rfl⟩
   simp only [Act.put,zs1,zs2,zs3]
   refine Zc ?_
   intro w8 hb8 hF
   obtain ⟨s4,v4,e4,h33⟩:∃ s v,Value.agg #[.bool s3,.slice A4 (dlen (m+n).natAbs) c4] = .agg #[.bool s,v]∧BigAt w8 w8.heap.size s v (m+n):=hF 33
   injection e4 with e4
   simp only [Array.mk.injEq,List.cons.injEq,Value.bool.injEq,and_true] at e4
   obtain ⟨rfl,rfl⟩:=e4
   have HD8:=zh (HD2.out.below hb8 HD2.out.lt)
   have HB8:=zh (HB4.out.trans (hb8.mono HB4.out.size))
   have z0:=HD8.out.cell 0
   have z1:=HD8.out.cell 1
   have f0:=HD8.out.frozen 0
   have f1:=HD8.out.frozen 1
   simp only [zq1,zq2,zq3] at z0 z1
   have HOut:=zh (big_out (n:=m+n) (by omega) HB8.out HD8.out h33)
   clear hF hb8 u0 u1 u2 h33
   go_wp2_with fail
   obtain ⟨p0,p1,hbo,hbg⟩:=HOut.out
   refine bodyPost_ret (v:=.agg #[.bool s3,.slice A4 (dlen (m+n).natAbs) c4]) (by simp [results,Tryz.results174,go_sem,p0,p1]) rfl ?_
   exact ⟨s3,_,rfl,hbo,hbg⟩
theorem gsum_gdig_le (N k:Nat):gsum (gdig N) k≤N:=by rw [gdig_sum];exact Nat.mod_le _ _
theorem gsum_gdig_all {N k:Nat} (h:dlen N≤k):gsum (gdig N) k=N:=by rw [gdig_sum];exact Nat.mod_eq_of_lt (dlen_iff.2 h)
theorem prod_carry {M N i k cy G:Nat} (hG:G+16777216 ^ (i+k)*cy=gsum (gdig M) i*N+16777216 ^ i*(gdig M i*gsum (gdig N) k)) (hk:dlen N<k):cy=0:=by
 rcases Nat.eq_zero_or_pos cy with h | h
 ·exact h
 ·exfalso
  have h1:gsum (gdig M) i*N+16777216 ^ i*(gdig M i*gsum (gdig N) k)≤gsum (gdig M) (i+1)*N:=by
   rw [← gmul_next]
   exact Nat.add_le_add_left (Nat.mul_le_mul_left _ (Nat.mul_le_mul_left _ (gsum_gdig_le N k))) _
  have h2:gsum (gdig M) (i+1)*N<16777216 ^ (i+1)*16777216 ^ dlen N:=Nat.mul_lt_mul'' (gsum_lt (gdig_lt M) _) (dlen_lt N)
  rw [← Nat.pow_add] at h2
  have h3:16777216 ^ (i+1+dlen N)≤16777216 ^ (i+k):=Nat.pow_le_pow_right (by decide) (by omega)
  have h4:16777216 ^ (i+k)*1≤16777216 ^ (i+k)*cy:=Nat.mul_le_mul_left _ h
  omega
theorem made_dig (n:Nat):(madeCells (Value.cells (.int .i64 0)) (n*1)).toList=(List.replicate n 0).map dgV:=by
 apply List.ext_getElem
 ·simp [size_madeCells]
 ·intro i h1 h2
  simp [madeCells,Value.cells,Nat.mod_one,dgV]
theorem mul_sign {s t:Bool} {m n:Int} (hs:s=decide (m<0)) (ht:t=decide (n<0)):((!(s == t)) && decide (m.natAbs*n.natAbs≠0))=decide (m*n<0):=by
 subst hs ht
 rcases Int.lt_trichotomy m 0 with h | h | h
 ·rcases Int.lt_trichotomy n 0 with k | k | k
  ·rw [decide_eq_true h,decide_eq_true k,decide_eq_false (show ¬ m*n<0 from Int.not_lt.2 (Int.le_of_lt (Int.mul_pos_of_neg_of_neg h k)))]
   rfl
  ·subst k;simp
  ·rw [decide_eq_true h,decide_eq_false (show ¬ n<0 by omega),decide_eq_true (show m*n<0 from Int.mul_neg_of_neg_of_pos h k),decide_eq_true (Nat.mul_ne_zero (by omega) (by omega):m.natAbs*n.natAbs≠0)]
   rfl
 ·subst h;simp
 ·rcases Int.lt_trichotomy n 0 with k | k | k
  ·rw [decide_eq_false (show ¬ m<0 by omega),decide_eq_true k,decide_eq_true (show m*n<0 from Int.mul_neg_of_pos_of_neg h k),decide_eq_true (Nat.mul_ne_zero (by omega) (by omega):m.natAbs*n.natAbs≠0)]
   rfl
  ·subst k;simp
  ·rw [decide_eq_false (show ¬ m<0 by omega),decide_eq_false (show ¬ n<0 by omega),decide_eq_false (show ¬ m*n<0 from Int.not_lt.2 (Int.le_of_lt (Int.mul_pos h k)))]
   rfl
structure PrSt (w wr:World) (g n:Nat) (s t:Bool) (sx sy:Value) (O:List Nat):Prop where
 own:wr.ownsRow w.heap.size 3 1 (.slice (some ⟨g,0,none⟩) n n) n (O.map dgV)
 ok:Gok O
 bel:Below w.heap.size w wr
 gw:w.heap.size+3≤g
 d1:Blk wr w.heap.size 173 #[.bool s,sx]
 d2:Blk wr (w.heap.size+1) 173 #[.bool t,sy]
 d3:Blk wr (w.heap.size+1+1) 173 #[.bool false,.slice none 0 0]
section
variable {w wr:World} {g n:Nat} {s t:Bool} {sx sy:Value} {O:List Nat}
theorem PrSt.len (h:PrSt w wr g n s t sx sy O):O.length=n:=by have:=h.own.1;rw [List.length_map] at this;omega
theorem PrSt.cell (h:PrSt w wr g n s t sx sy O) {i:Nat} (hi:i<n):wr.cell? ⟨g,i,none⟩=some (.int .i64 (dgAt O i:Nat)):=by
 rw [h.own.cellAt i (by omega),List.getElem?_map,List.getElem?_eq_getElem (by rw [h.len];exact hi),dgAt_get (by rw [h.len];exact hi)]
 rfl
theorem PrSt.set (h:PrSt w wr g n s t sx sy O) (i x:Nat) (hx:x<16777216):PrSt w (wr.setCell ⟨g,i,none⟩ (.int .i64 (x:Nat))) g n s t sx sy (O.set i x):=by
 have hg:=h.gw
 have hgr:wr.grownBy (wr.setCell ⟨g,i,none⟩ (.int .i64 (x:Nat))) (some g):=⟨rfl,rfl,rfl,by simp [World.setCell],fun k _ hk => Below.heap_setCell wr _ _ k (fun e => hk (by rw [e]))⟩
 refine ⟨?_,h.ok.set i hx,h.bel.setCell (p:=⟨g,i,none⟩) (by show w.heap.size≤g;omega) _,hg,h.d1.kept hgr (by simp;omega),h.d2.kept hgr (by simp;omega),h.d3.kept hgr (by simp;omega)⟩
 rw [List.map_set]
 exact (h.own.stored i (dgV x)).1
theorem PrSt.drewN (h:PrSt w wr g n s t sx sy O) (q:Nat):PrSt w (wr.drewN q) g n s t sx sy O:=⟨own_drewN h.own q,h.ok,Zf h.bel q,h.gw,h.d1.drewN q,h.d2.drewN q,h.d3.drewN q⟩
end
theorem rgProduct (s t:Bool) (v u:Value) (m n:Int) (w:World) (hv:BigAt w w.heap.size s v m) (hu:BigAt w w.heap.size t u n) (hm:dlen m.natAbs≤400000) (hn:dlen n.natAbs≤400000) :
  Calls Tryz.prog 175 #[.agg #[.bool s,v],.agg #[.bool t,u]] w (BigPost w (m*n)):=by
 have HSg:=zh (mul_sign hv.1 hu.1)
 have HAb:=zh (Int.natAbs_mul m n)
 obtain ⟨-,hv⟩:=hv
 obtain ⟨-,hu⟩:=hu
 generalize m.natAbs=M at *
 generalize n.natAbs=N at *
 have HDn:Hid (∀ W,Below w.heap.size w W→∀ i,i≤maxLen→Calls Tryz.prog 208 #[u,.int .i64 (i:Nat)] W fun e w' => e = .returned (.int .i64 (gdig N i:Nat))∧W=w'):=fun W hb i hi => rgDigit u N i W (DgTo.grow hu hb) hi
 obtain ⟨A1,c1,rfl,hc1,hd1,hcell1⟩:=DgTo.open_ hv
 obtain ⟨A2,c2,rfl,hc2,hd2,-⟩:=DgTo.open_ hu
 unfold maxLen at hd1 hd2
 have HC1:=zh hcell1
 obtain ⟨la,hla⟩:∃ la,la=dlen M:=⟨_,rfl⟩
 obtain ⟨lb,hlb⟩:∃ lb,lb=dlen N:=⟨_,rfl⟩
 have HLA:=zh hla
 have HLB:=zh hlb
 rw [← hla] at hm hc1 HC1 ⊢
 rw [← hlb] at hn hc2 HDn ⊢
 obtain ⟨i0,hi0,hz0,hz1,hz2⟩:=info_parts info_dig
 have hbytes:i0.bytes*(la+lb+1)≤281474976710656:=by rw [hz2];omega
 obtain ⟨B1,B2,B3,HbW⟩:=three_boxes w 173 173 173 #[.bool s,.slice A1 la c1] #[.bool t,.slice A2 lb c2] #[.bool false,.slice none 0 0]
 have HB1:=zh B1
 have HB2:=zh B2
 have HB3:=zh B3
 have HBW:=zh HbW
 clear hv hu hcell1 hla hlb B1 B2 B3 HbW
 go_enter Tryz.func175,Tryz.ntmps175
 go_upto_region 1 with fail
 generalize hW3:((w.alloc (.cells #[.bool s,.slice A1 la c1] 173)).alloc (.cells #[.bool t,.slice A2 lb c2] 173)).alloc (.cells #[.bool false,.slice none 0 0] 173)=W3 at *
 have hs3:W3.heap.size=w.heap.size+1+1+1:=by rw [← hW3];simp
 have HS3:=zh hs3
 clear hs3 hW3
 have x1:=HB1.out.cell 1
 have x2:=HB2.out.cell 1
 simp only [zq1,zq2,zq3] at x1 x2
 go_upto_region 2 with (at_make;refine wpList_make_full _ rfl _ _ 22 rfl w.heap.size 3 i0 (.int .i64 0) 1 Tryz.underlying22 hi0 hz0 hz1 .i64 .i64 _ _ (la+lb+1) rfl rfl rfl rfl hbytes (by unfold maxLen;omega) HBW.out.size ?_;intro w4 hown4 hgrow4)
 rw [made_dig] at hown4
 have HT4:Hid (PrSt w w4 (w.heap.size+1+1+1) (la+lb+1) s t (.slice A1 la c1) (.slice A2 lb c2) (List.replicate (la+lb+1) 0)):=by
  rw [HS3.out] at hown4
  exact ⟨hown4,Gok.zeros _,HBW.out.grown hgrow4 HBW.out.size (fun k hk => by cases hk),by omega,HB1.out.kept hgrow4 (by simp),HB2.out.kept hgrow4 (by simp),HB3.out.kept hgrow4 (by simp)⟩
 have hs3:=HS3.out
 rw [hs3]
 obtain ⟨g,hg⟩:∃ g,w.heap.size+1+1+1=g:=⟨_,rfl⟩
 rw [hg] at HT4 ⊢
 have HS0:Hid (gsum (dgAt (List.replicate (la+lb+1) 0)) (la+lb+1)=gsum (gdig M) 0*N):=by
  unfold Hid
  rw [gsum_zeros]
  show 0=0*N
  rw [Nat.zero_mul]
 have q1:=HT4.out.d1.cell 1
 simp only [zq1,zq2,zq3] at q1
 clear hown4 hgrow4 hi0 hz0 hz1 hbytes hg hs3 HS3 HB1 HB2 HB3 HBW x1 x2
 go_wp2_with fail
 go_loopw [6] (fun ix wr => ∃ (i:Nat) (O:List Nat),i≤la∧ix = .int .i64 i∧Hid (PrSt w wr g (la+lb+1) s t (.slice A1 la c1) (.slice A2 lb c2) O)∧Hid (gsum (dgAt O) (la+lb+1)=gsum (gdig M) i*N)) (fun ix _ => la-(intOf ix).toNat)
 case atStart => exact ⟨0,_,Nat.zero_le _,rfl,HT4,HS0⟩
 case round =>
  clear HT4 HS0 q1
  obtain ⟨i,O,hi,rfl,HT,HS⟩:=hrel
  have j0:(0:Int)≤(i:Int):=Int.natCast_nonneg _
  have q1:=HT.out.d1.cell 1
  have q2:=HT.out.d2.cell 1
  simp only [zq1,zq2,zq3] at q1 q2
  by_cases hix:i<la
  ·have j1:(i:Int)<(la:Int):=by omega
   obtain ⟨b1,o1,rfl,hb1,hxc⟩:=HC1.out i hix
   have HX:Hid (∀ W,Below w.heap.size w W→W.cell? ⟨b1,o1+i,none⟩=some (.int .i64 (gdig M i:Nat))):=fun W hb => (hb.cell (p:=⟨b1,o1+i,none⟩) hb1).trans (hxc i hix)
   have x0:=gdig_lt M i
   have HS1:Hid (gsum (dgAt O) (la+lb+1)+16777216 ^ (i+0)*0=gsum (gdig M) i*N+16777216 ^ i*(gdig M i*gsum (gdig N) 0)):=by
    unfold Hid
    rw [HS.out,Nat.mul_zero]
    show _=_+16777216 ^ i*(gdig M i*0)
    rw [Nat.mul_zero,Nat.mul_zero]
   clear hxc
   go_wp2_with fail
   go_loopw [7,8] (fun cx kx wr => ∃ (k cy:Nat) (O:List Nat),k≤lb+1∧kx = .int .i64 k∧cx = .int .i64 (cy:Nat)∧cy<16777216∧Hid (PrSt w wr g (la+lb+1) s t (.slice (some ⟨b1,o1,none⟩) la c1) (.slice A2 lb c2) O)∧Hid (gsum (dgAt O) (la+lb+1)+16777216 ^ (i+k)*cy=gsum (gdig M) i*N+16777216 ^ i*(gdig M i*gsum (gdig N) k))) (fun _ kx _ => lb+1-(intOf kx).toNat)
   case atStart => exact ⟨0,0,O,Nat.zero_le _,rfl,rfl,by decide,HT,HS1⟩
   case round =>
    clear HT HS HS1 q1 q2
    obtain ⟨k,cy,O,hk,rfl,rfl,hcy,HT,HS⟩:=hrel
    have hend:lb<k→cy=0:=fun h => prod_carry HS.out (by rw [← HLB.out];exact h)
    have k0:(0:Int)≤(k:Int):=Int.natCast_nonneg _
    have c2':(0:Int)≤(cy:Int):=Int.natCast_nonneg _
    have c3':(cy:Int)<16777216:=by omega
    have q1:=HT.out.d1.cell 1
    have q2:=HT.out.d2.cell 1
    simp only [zq1,zq2,zq3] at q1 q2
    have hcs:(k<lb∨(¬ k<lb∧0<cy))∨(¬ k<lb∧cy=0):=by omega
    rcases hcs with hgo | ⟨hn1,hn2⟩
    ·have hkl:k≤lb:=by
      rcases hgo with h | ⟨h,h2⟩
      ·omega
      ·rcases Nat.lt_or_ge lb k with h3 | h3
       ·have:=hend h3
        omega
       ·exact h3
     have hx:=HX.out wr HT.out.bel
     have y0:=gdig_lt N k
     have z1:=HT.out.cell (show i+k<la+lb+1 by omega)
     have z2:=HT.out.own.frozenAt (i+k)
     have o0:dgAt O (i+k)<16777216:=dgAt_lt HT.out.ok _
     have HRow:Hid (gsum (dgAt (O.set (i+k) ((gdig M i*gdig N k+dgAt O (i+k)+cy) % 16777216))) (la+lb+1)+16777216 ^ (i+(k+1))*((gdig M i*gdig N k+dgAt O (i+k)+cy) / 16777216)=gsum (gdig M) i*N+16777216 ^ i*(gdig M i*gsum (gdig N) (k+1))):=by
      have h:=gmul_row (x:=gdig M i) (y:=gdig N k) (show i+k<O.length by rw [HT.out.len];omega) HT.out.len HS.out
      exact h.trans (gmul_acc rfl)
     have H1:=fun q => quiet_left (HDn.out (wr.drewN q) (Zf HT.out.bel q) k (by unfold maxLen;omega))
     have HSt:=zh fun q => (HT.out.drewN q).set (i+k) ((gdig M i*gdig N k+dgAt O (i+k)+cy) % 16777216) (Nat.mod_lt _ (by decide))
     have d:decide (k<lb)=true∨(decide (k<lb)=false∧decide (0<cy)=true):=hgo.elim (fun h => .inl (decide_eq_true h)) fun h => .inr ⟨decide_eq_false h.1,decide_eq_true h.2⟩
     clear hend hgo HX
     generalize gdig M i=x at *
     generalize gdig N k=y at *
     generalize dgAt O (i+k)=o at *
     have eN:x*y+o+cy=o+x*y+cy:=by omega
     rw [eN] at HRow HSt
     have x2:(0:Int)≤(x:Int):=Int.natCast_nonneg _
     have y2:(0:Int)≤(y:Int):=Int.natCast_nonneg _
     have o2:(0:Int)≤(o:Int):=Int.natCast_nonneg _
     have xy0:(0:Int)≤(x:Int)*(y:Int):=Int.mul_nonneg x2 y2
     have xy1:(x:Int)*(y:Int)≤281474943156225:=by
      have:(x:Int)*(y:Int)≤16777215*16777215:=Int.mul_le_mul (by omega) (by omega) y2 (by decide)
      omega
     have HMc:Hid ((o+x*y+cy) / 16777216<16777216):=by
      have h1:x*y≤16777215*16777215:=Nat.mul_le_mul (by omega) (by omega)
      unfold Hid
      rw [Nat.div_lt_iff_lt_mul (by decide)]
      omega
     have v0:IntKind.i64.wrap ((i:Int)+(k:Int))=(i:Int)+(k:Int):=IntWalk.i64_in _ (by omega)
     have v1:IntKind.i64.wrap ((x:Int)*(y:Int))=(x:Int)*(y:Int):=IntWalk.i64_in _ (by omega)
     have v2:IntKind.i64.wrap ((o:Int)+(x:Int)*(y:Int))=(o:Int)+(x:Int)*(y:Int):=IntWalk.i64_in _ (by omega)
     have v3:IntKind.i64.wrap ((o:Int)+(x:Int)*(y:Int)+(cy:Int))=(o:Int)+(x:Int)*(y:Int)+(cy:Int):=IntWalk.i64_in _ (by omega)
     have ik0:(0:Int)≤(i:Int)+(k:Int):=by omega
     have ik1:(i:Int)+(k:Int)<(la:Int)+(lb:Int)+1:=by omega
     have ik3:(i:Int)+(k:Int)<((la+lb+1:Nat):Int):=by omega
     have ik2:((i:Int)+(k:Int)).toNat=i+k:=by omega
     clear eN HT HS
     rcases d with d1 | ⟨d1,d2⟩
     all_goals
      go_wp2_with fail
      go_quiet ((go_at_call 208;exact H1 _))
      go_wp2_with fail
      go_roundw
      case rel => exact ⟨k+1,(o+x*y+cy) / 16777216,_,by omega,by go_num,by go_num,HMc.out,HSt.out _,HRow⟩
      case measure => simp [intOf] <;> omega
    ·subst hn2
     have d1:decide (k<lb)=false:=decide_eq_false hn1
     have HS2:Hid (gsum (dgAt O) (la+lb+1)=gsum (gdig M) (i+1)*N):=by
      have h:=HS.out
      rw [Nat.mul_zero,Nat.add_zero,gsum_gdig_all (N:=N) (k:=k) (by rw [← HLB.out];omega)] at h
      exact h.trans gmul_next
     have HT2:=zh HT.out
     clear HT HS hend HX
     go_wp2_with fail
     go_roundw
     case rel => exact ⟨i+1,_,by omega,by go_num,HT2,HS2⟩
     case measure => simp [intOf] <;> omega
  ·obtain rfl:i=la:=by omega
   have hG:gv O=M*N:=by
    have h:=HS.out
    rw [gsum_gdig_all (by rw [← HLA.out];omega)] at h
    unfold gv
    rw [HT.out.len]
    exact h
   have hdg:O=digsTo (M*N) (i+lb+1):=by
    have h:=list_digs HT.out.ok
    rw [hG,HT.out.len] at h
    exact h
   have hown:=HT.out.own
   rw [hdg] at hown
   have hT:=rgTrim (!(s == t)) (.slice (some ⟨g,0,none⟩) (i+lb+1) (i+lb+1)) (M*N) (i+lb+1) wr (own_dig hown) (Nat.le_trans (dlen_mul (Nat.le_of_eq HLA.out.symm) (Nat.le_of_eq HLB.out.symm)) (by omega))
   rw [HSg.out] at hT
   have q0:=HT.out.d1.cell 0
   have q3:=HT.out.d2.cell 0
   simp only [zq1,zq3] at q0 q3
   have HD3:=zh HT.out.d3
   have HBe:=zh HT.out.bel
   clear hG hdg hown HT HS
   go_wp2_with fail
   refine hT.mono ?_
   rintro e w5 ⟨v5,rfl,hb5,hd5⟩
   obtain ⟨A5,c5,rfl,-⟩:=DgTo.open_ hd5
   have HD5:=zh (HD3.out.below hb5 HD3.out.lt)
   have HB5:=zh (HBe.out.trans (hb5.mono HBe.out.size))
   have HV5:Hid (BigAt w5 w5.heap.size (decide (m*n<0)) (.slice A5 (dlen (M*N)) c5) (m*n)):=⟨rfl,by unfold DgAt;rw [HAb.out];exact hd5⟩
   have z0:=HD5.out.cell 0
   have z1:=HD5.out.cell 1
   have f0:=HD5.out.frozen 0
   have f1:=HD5.out.frozen 1
   simp only [zq1,zq2,zq3] at z0 z1
   have HOut:=zh (big_out (n:=m*n) (by omega) HB5.out HD5.out HV5.out)
   generalize hsg:decide (m*n<0)=sg at *
   clear hb5 hd5 HV5 hT HD3 HBe
   go_wp2_with fail
   obtain ⟨p0,p1,hbo,hbg⟩:=HOut.out
   refine bodyPost_ret (v:=.agg #[.bool sg,.slice A5 (dlen (M*N)) c5]) (by simp [results,Tryz.results175,go_sem,p0,p1]) rfl ?_
   exact ⟨sg,_,rfl,hbo,hbg⟩
theorem base_pow24 (j:Nat):16777216 ^ j=2 ^ (24*j):=by rw [Nat.pow_mul]
theorem twos_few24 {K a b t x y:Nat} (h:Twos (16777216 ^ K) a b t x y):t<24*K:=by
 have h1:2 ^ t*1≤2 ^ t*x:=Nat.mul_le_mul_left _ h.x0
 have h2:=h.xm
 rw [base_pow24] at h2
 rw [Nat.mul_one] at h1
 exact (Nat.pow_lt_pow_iff_right (a:=2) (by decide)).1 (Nat.lt_of_le_of_lt h1 h2)
theorem kdl {K x:Nat} (hK:K≤300000) (h:x<16777216 ^ K):dlen x≤1000000:=Nat.le_trans (dlen_le h) (by omega)
theorem rgGcd (v u:Value) (a b K:Nat) (w:World) (hv:DgAt w w.heap.size v a) (hu:DgAt w w.heap.size u b) (hK:K≤300000) (ha:dlen a≤K) (hb:dlen b≤K) (ha0:0<a) (hb0:0<b) :
  Calls Tryz.prog 177 #[v,u] w (DgPost w (Nat.gcd a b)):=by
 have HA:=zh hv
 have HB:=zh hu
 have HK:Hid (K≤300000):=hK
 have HS:Hid (Twos (16777216 ^ K) a b 0 a b):=⟨ha0,hb0,by rw [Nat.pow_zero,Nat.one_mul];exact dlen_iff.2 ha,dlen_iff.2 hb,by rw [Nat.pow_zero,Nat.one_mul]⟩
 clear hv hu hK ha hb ha0 hb0
 go_enter Tryz.func177,Tryz.ntmps177
 go_wp2_with fail
 go_loopg [0,1,5] a (fun gk va vb tw wr => ∃ y t:Nat,tw = .int .i64 t∧Hid (DgAt wr wr.heap.size va gk)∧Hid (DgAt wr wr.heap.size vb y)∧Hid (Twos (16777216 ^ K) a b t gk y)∧Below w.heap.size w wr)
 case atStart => exact ⟨b,0,rfl,HA,HB,HS,Below.refl _ _⟩
 case round =>
  clear HA HB HS
  obtain ⟨y,t,rfl,HA,HB,HS,hbel⟩:=hrel
  obtain ⟨x,rfl⟩:∃ x,x=gk:=⟨_,rfl⟩
  have ht:t<16000000:=by have:=twos_few24 HS.out;have:=HK.out;omega
  go_wp2_with fail
  refine (rgEven _ x _ HA.out).mono ?_
  rintro e w3 ⟨rfl,hb3⟩
  have HA3:=zh (DgTo.grow HA.out hb3)
  have HB3:=zh (DgTo.grow HB.out hb3)
  have HBe3:=zh (hbel.trans (hb3.mono hbel.size))
  clear HA HB hbel hb3
  by_cases hx:x % 2=0
  case' pos =>
   rw [decide_eq_true hx]
   go_wp2_with fail
   refine (rgEven _ y _ HB3.out).mono ?_
   rintro e w4 ⟨rfl,hb4⟩
   have HA4:=zh (DgTo.grow HA3.out hb4)
   have HB4:=zh (DgTo.grow HB3.out hb4)
   have HBe4:=zh (HBe3.out.trans (hb4.mono HBe3.out.size))
   clear HA3 HB3 HBe3 hb4
   by_cases hy:y % 2=0
   case' pos =>
    rw [decide_eq_true hy]
    have HS2:=zh (HS.out.half hx hy)
    clear hx hy
    go_wp2_with fail
    refine (rgHalf _ x _ HA4.out (kdl HK.out HS.out.xlt)).mono ?_
    rintro e w5 ⟨va,rfl,hb5,hA5⟩
    have HA5:=zh hA5
    have HB5:=zh (DgTo.grow HB4.out hb5)
    clear hA5
    go_wp2_with fail
    refine (rgHalf _ y _ HB5.out (kdl HK.out HS.out.ym)).mono ?_
    rintro e w6 ⟨vb,rfl,hb6,hB6⟩
    have HA6:=zh (DgTo.grow HA5.out hb6)
    have HB6:=zh hB6
    have HBe:=zh (HBe4.out.trans ((hb5.trans (hb6.mono hb5.size)).mono HBe4.out.size))
    have hlt:Hid (x / 2<x):=Nat.div_lt_self HS.out.x0 (by decide)
    clear hB6 hb5 hb6 HA5 HB5 HA4 HB4 HBe4 HS
    go_wp2_with fail
    go_roundg (x / 2)
    case rel => exact ⟨y / 2,t+1,by go_num,HA6,HB6,HS2,HBe.out⟩
    case measure => exact hlt.out
   case' neg =>
    rw [decide_eq_false hy]
    have HT:Hid (Stn (16777216 ^ K) (Nat.gcd x y) x y):=⟨HS.out.y0,HS.out.xlt,HS.out.ym,rfl,.inr (by omega)⟩
    clear hx hy
    go_wp2_with fail
  case' neg =>
   rw [decide_eq_false hx]
   have HT:Hid (Stn (16777216 ^ K) (Nat.gcd x y) x y):=⟨HS.out.y0,HS.out.xlt,HS.out.ym,rfl,.inl (by omega)⟩
   obtain ⟨w4,rfl⟩:∃ w4:World,w4=w3:=⟨_,rfl⟩
   have HA4:=zh HA3.out
   have HB4:=zh HB3.out
   have HBe4:=zh HBe3.out
   clear hx HA3 HB3 HBe3
   go_wp2_with fail
  all_goals
   have HF:Hid (2 ^ t*Nat.gcd x y<16777216 ^ K):=HS.out.glt
   have HG:Hid (Nat.gcd a b=2 ^ t*Nat.gcd x y):=HS.out.g
   obtain ⟨G,HGe⟩:∃ G,Hid (Nat.gcd x y=G):=⟨_,rfl⟩
   rw [HGe.out] at HF HG HT
   clear HS
   go_loopg [0,1] (x+y) (fun gk va vb wr => ∃ x2 y2:Nat,x2+y2=gk∧Hid (DgAt wr wr.heap.size va x2)∧Hid (DgAt wr wr.heap.size vb y2)∧Hid (Stn (16777216 ^ K) G x2 y2)∧Below w.heap.size w wr)
   case atStart => exact ⟨x,y,rfl,HA4,HB4,HT,HBe4.out⟩
   case round =>
    clear HA4 HB4 HT HBe4 HGe
    obtain ⟨x2,y2,rfl,HA,HB,HS,hbel⟩:=hrel
    obtain ⟨A,c,rfl,hc1,hc2,-⟩:=DgTo.open_ HA.out
    obtain ⟨A',c',rfl,-,-,-⟩:=DgTo.open_ HB.out
    unfold maxLen at hc2
    rcases Nat.eq_zero_or_pos x2 with h0 | h0
    ·subst h0
     have hz:dlen 0=0:=dlen_zero
     have HGy:Hid (y2=G):=by
      unfold Hid
      rw [← HS.out.g,Nat.gcd_zero_left]
     rw [hz]
     clear HS HA hz hc1
     rw [HGy.out] at HB ⊢
     clear HGy
     go_wp2_with fail
     go_loopw [1,6] (fun vb jx wr => ∃ j:Nat,j≤t∧jx = .int .i64 j∧Hid (DgAt wr wr.heap.size vb (2 ^ j*G))∧Below w.heap.size w wr) (fun _ jx _ => t-(intOf jx).toNat)
     case atStart => exact ⟨0,Nat.zero_le _,rfl,by rw [Nat.pow_zero,Nat.one_mul];exact HB,hbel⟩
     case round =>
      clear HB hbel
      obtain ⟨j,hj,rfl,HB,hbel⟩:=hrel
      by_cases hjt:j<t
      ·have HL:Hid (2 ^ j*G<16777216 ^ K):=Nat.lt_of_le_of_lt (Nat.mul_le_mul_right _ (Nat.pow_le_pow_right (by decide) hj)) HF.out
       have HE:Hid (2 ^ j*G+2 ^ j*G=2 ^ (j+1)*G):=by unfold Hid;rw [Nat.pow_succ,Nat.mul_assoc,Nat.mul_left_comm];omega
       go_wp2_with fail
       refine (rgPlus _ _ (2 ^ j*G) (2 ^ j*G) _ HB.out HB.out (kdl HK.out HL.out) (kdl HK.out HL.out)).mono ?_
       rintro e w5 ⟨vb5,rfl,hb5,hB5⟩
       rw [HE.out] at hB5
       have HB5:=zh hB5
       have HBe:=zh (hbel.trans (hb5.mono hbel.size))
       clear hb5 hB5 HE HL HB hbel
       go_wp2_with fail
       go_roundw
       case rel => exact ⟨j+1,by omega,by go_num,HB5,HBe.out⟩
       case measure => simp [intOf] <;> omega
      ·obtain rfl:j=t:=by omega
       go_wp2_with fail
       go_ret
       exact ⟨_,rfl,hbel,by rw [HG.out];exact HB.out⟩
    ·have hp:0<dlen x2:=Nat.pos_of_ne_zero fun e => by have:=dlen_z.1 e;omega
     have dp:decide (0<dlen x2)=true:=decide_eq_true hp
     have H0:=zh h0
     clear h0
     go_wp2_with fail
     clear hp dp hc1 hc2
     go_loopg [0] x2 (fun gk va wr => Hid (DgAt wr wr.heap.size va gk)∧Hid (DgAt wr wr.heap.size (.slice A' (dlen y2) c') y2)∧Hid (Stn (16777216 ^ K) G gk y2)∧Hid (0<gk∧gk≤x2)∧Below w.heap.size w wr)
     case atStart => exact ⟨HA,HB,HS,⟨H0.out,Nat.le_refl _⟩,hbel⟩
     case round =>
      clear HA HB HS H0 hbel
      obtain ⟨HA,HB,HS,HR,hbel⟩:=hrel
      obtain ⟨x4,rfl⟩:∃ x4,x4=gk:=⟨_,rfl⟩
      go_wp2_with fail
      refine (rgEven _ x4 _ HA.out).mono ?_
      rintro e w3 ⟨rfl,hb3⟩
      have HA3:=zh (DgTo.grow HA.out hb3)
      have HB3:=zh (DgTo.grow HB.out hb3)
      have HBe3:=zh (hbel.trans (hb3.mono hbel.size))
      clear HA HB hbel hb3
      by_cases hev:x4 % 2=0
      ·rw [decide_eq_true hev]
       have HS5:=zh (HS.out.left hev)
       have HR5:Hid (0<x4 / 2∧x4 / 2≤x2):=by have:=HR.out;unfold Hid;omega
       have HM5:Hid (x4 / 2<x4):=Nat.div_lt_self HR.out.1 (by decide)
       clear hev
       go_wp2_with fail
       refine (rgHalf _ x4 _ HA3.out (kdl HK.out HS.out.xm)).mono ?_
       rintro e w5 ⟨va5,rfl,hb5,hA5⟩
       have HA5:=zh hA5
       have HB5:=zh (DgTo.grow HB3.out hb5)
       have HBe:=zh (HBe3.out.trans (hb5.mono HBe3.out.size))
       clear hb5 hA5 HB3 HBe3 HA3 HS HR
       go_wp2_with fail
       go_roundg (x4 / 2)
       case rel => exact ⟨HA5,HB5,HS5,HR5,HBe.out⟩
       case measure => exact HM5.out
      ·rw [decide_eq_false hev]
       have HOd:Hid (x4 % 2=1):=by unfold Hid;omega
       clear hev
       obtain ⟨A4,c4,e4,-,-,-⟩:=DgTo.open_ HA3.out
       rw [e4] at HA3 ⊢
       clear e4
       go_wp2_with fail
       go_loopg [1] y2 (fun gk vb wr => Hid (DgAt wr wr.heap.size (.slice A4 (dlen x4) c4) x4)∧Hid (DgAt wr wr.heap.size vb gk)∧Hid (Stn (16777216 ^ K) G x4 gk)∧Hid (gk≤y2)∧Below w.heap.size w wr)
       case atStart => exact ⟨HA3,HB3,HS,Nat.le_refl _,HBe3.out⟩
       case round =>
        clear HA3 HB3 HS HBe3
        obtain ⟨HA,HB,HS,HY,hbel⟩:=hrel
        obtain ⟨y4,rfl⟩:∃ y4,y4=gk:=⟨_,rfl⟩
        go_wp2_with fail
        refine (rgEven _ y4 _ HB.out).mono ?_
        rintro e w3 ⟨rfl,hb3⟩
        have HA3:=zh (DgTo.grow HA.out hb3)
        have HB3:=zh (DgTo.grow HB.out hb3)
        have HBe3:=zh (hbel.trans (hb3.mono hbel.size))
        clear HA HB hbel hb3
        by_cases hev:y4 % 2=0
        ·rw [decide_eq_true hev]
         have HS5:=zh (HS.out.right HOd.out hev)
         have HY5:Hid (y4 / 2≤y2):=by have:=HY.out;unfold Hid;omega
         have HM5:Hid (y4 / 2<y4):=Nat.div_lt_self HS.out.y0 (by decide)
         clear hev
         go_wp2_with fail
         refine (rgHalf _ y4 _ HB3.out (kdl HK.out HS.out.ym)).mono ?_
         rintro e w5 ⟨vb5,rfl,hb5,hB5⟩
         have HB5:=zh hB5
         have HA5:=zh (DgTo.grow HA3.out hb5)
         have HBe:=zh (HBe3.out.trans (hb5.mono HBe3.out.size))
         clear hb5 hB5 HB3 HBe3 HA3 HS HY
         go_wp2_with fail
         go_roundg (y4 / 2)
         case rel => exact ⟨HA5,HB5,HS5,HY5,HBe.out⟩
         case measure => exact HM5.out
        ·rw [decide_eq_false hev]
         have HOy:Hid (y4 % 2=1):=by unfold Hid;omega
         clear hev
         go_wp2_with fail
         refine (rgLarger _ _ y4 x4 _ HB3.out HA3.out).mono ?_
         rintro e w7 ⟨rfl,hb7⟩
         have HA7:=zh (DgTo.grow HA3.out hb7)
         have HB7:=zh (DgTo.grow HB3.out hb7)
         have HBe:=zh (HBe3.out.trans (hb7.mono HBe3.out.size))
         clear HA3 HB3 HBe3 hb7
         by_cases hlt:x4<y4
         ·rw [decide_eq_true hlt]
          have HLe:=zh (Nat.le_of_lt hlt)
          have HS7:=zh ((HS.out.swap HOd.out).diff HOd.out (Nat.le_of_lt hlt))
          have HM:Hid (y4-x4+x4<x2+y2):=by have:=HR.out;have:=HY.out;unfold Hid;omega
          clear hlt
          go_wp2_with fail
          refine (rgMinus _ _ y4 x4 _ HB7.out HA7.out (kdl HK.out HS.out.ym) HLe.out).mono ?_
          rintro e w8 ⟨v8,rfl,hb8,hR8⟩
          obtain ⟨A8,c8,rfl,-,-,-⟩:=DgTo.open_ hR8
          have HR8:=zh hR8
          have HA8:=zh (DgTo.grow HA7.out hb8)
          have HB8:=zh (HBe.out.trans (hb8.mono HBe.out.size))
          clear hb8 hR8 HA7 HB7 HBe HS
          go_wp2_with fail
          refine (rgTrim false _ (y4-x4) (dlen y4) _ HR8.out (dlen_mono (Nat.sub_le _ _))).mono ?_
          rintro e w9 ⟨v9,rfl,hb9,hd9⟩
          obtain ⟨A9,c9,rfl,-,-,-⟩:=DgTo.open_ hd9
          have hfl:=fun W => big_field (false && decide (y4-x4≠0)) A9 (dlen (y4-x4)) c9 W
          rw [Bool.false_and] at hfl
          have HD9:=zh hd9
          have HA9:=zh (DgTo.grow HA8.out hb9)
          have HB9:=zh (HB8.out.trans (hb9.mono HB8.out.size))
          clear hd9 hb9 HR8 HA8 HB8
          go_wp2_with fail
          go_roundg (y4-x4+x4)
          case rel => exact ⟨y4-x4,x4,rfl,HD9,HA9,HS7,HB9.out⟩
          case measure => exact HM.out
         ·rw [decide_eq_false hlt]
          have HLe:=zh (Nat.not_lt.1 hlt)
          have HS7:=zh (HS.out.diff HOy.out (Nat.not_lt.1 hlt))
          have HM:Hid (x4-y4+y4<x2+y2):=by have:=HR.out;have:=HY.out;have:=HS.out.y0;unfold Hid;omega
          clear hlt
          go_wp2_with fail
          refine (rgMinus _ _ x4 y4 _ HA7.out HB7.out (kdl HK.out HS.out.xm) HLe.out).mono ?_
          rintro e w8 ⟨v8,rfl,hb8,hR8⟩
          obtain ⟨A8,c8,rfl,-,-,-⟩:=DgTo.open_ hR8
          have HR8:=zh hR8
          have HB8:=zh (DgTo.grow HB7.out hb8)
          have HBe8:=zh (HBe.out.trans (hb8.mono HBe.out.size))
          clear hb8 hR8 HA7 HB7 HBe HS
          go_wp2_with fail
          refine (rgTrim false _ (x4-y4) (dlen x4) _ HR8.out (dlen_mono (Nat.sub_le _ _))).mono ?_
          rintro e w9 ⟨v9,rfl,hb9,hd9⟩
          obtain ⟨A9,c9,rfl,-,-,-⟩:=DgTo.open_ hd9
          have hfl:=fun W => big_field (false && decide (x4-y4≠0)) A9 (dlen (x4-y4)) c9 W
          rw [Bool.false_and] at hfl
          have HD9:=zh hd9
          have HB9:=zh (DgTo.grow HB8.out hb9)
          have HBe9:=zh (HBe8.out.trans (hb9.mono HBe8.out.size))
          clear hd9 hb9 HR8 HB8 HBe8
          go_wp2_with fail
          go_roundg (x4-y4+y4)
          case rel => exact ⟨x4-y4,y4,rfl,HD9,HB9,HS7,HBe9.out⟩
          case measure => exact HM.out
end Go.Proofs.YtfhmbechennkbaaGreatDoor
