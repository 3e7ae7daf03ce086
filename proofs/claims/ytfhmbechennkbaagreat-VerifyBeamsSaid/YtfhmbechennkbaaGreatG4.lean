/- Parts of the proof, laid into one text: Plan, Fits, Repeat, NewPlan, Given43, Check, PlanO. -/
import Derived.Laws.CopyOwn
import Derived.Test.YtfhmbechennkbaaGreatC1
import Derived.Test.YtfhmbechennkbaaGreatG2
namespace Go.Proofs.YtfhmbechennkbaaGreat
open Go.RowKit Go.Shelf
def atI (s:List Int) (i:Nat):Int:=s.getD i 0
def endN (l:List Task) (s:List Int) (i:Nat):Int:=atI s i+lenAt l i
def onB (l:List Task) (s:List Int) (t:Int) (i:Nat):Bool:=decide (0≤atI s i) && decide (atI s i≤t) && decide (t<endN l s i)
def fAt (f:Task→Int) (l:List Task) (i:Nat):Int:=(l.map f).getD i 0
def usedTo (f : Task → Int) (l : List Task) (s : List Int) (t : Int) : Nat → Int
 | 0 => 0
 | k+1 => usedTo f l s t k+if onB l s t k then fAt f l k else 0
def fitsB (l:List Task) (c p:Int) (s:List Int) (t:Int):Bool:=decide (usedTo Task.crew l s t l.length≤c) && decide (usedTo Task.pow l s t l.length≤p)
def badB (l:List Task) (c p:Int) (s:List Int) (i:Nat) (x:Int):Bool:=decide (atI s i<x) && decide (x<endN l s i) && !fitsB l c p s x
def wholeB (l:List Task) (c p:Int) (s:List Int) (i:Nat):Bool:=fitsB l c p s (atI s i) && !s.any (badB l c p s i)
theorem atI_get {s:List Int} {i:Nat} (h:i<s.length):atI s i=s[i]:=by
 unfold atI
 rw [List.getD_eq_getElem?_getD,List.getElem?_eq_getElem h]
 rfl
theorem fAt_get {f:Task→Int} {l:List Task} {i:Nat} (h:i<l.length):fAt f l i=f l[i]:=by
 unfold fAt
 rw [List.getD_eq_getElem?_getD,List.getElem?_map,List.getElem?_eq_getElem h]
 rfl
theorem usedTo_bd {f : Task → Int} {l : List Task} {s : List Int} {t : Int} (hf : ∀ i,i < l.length → 0 ≤ fAt f l i ∧ fAt f l i ≤ 100) : ∀ k,k ≤ l.length → 0 ≤ usedTo f l s t k ∧ usedTo f l s t k ≤ 100 * k
 | 0,_ => by simp [usedTo]
 | k+1,hk => by
  have h1:=usedTo_bd (s:=s) (t:=t) hf k (by omega)
  have h2:=hf k (by omega)
  unfold usedTo
  split <;> omega
theorem crew_bd {l:List Task} (hR:RightT l) (i:Nat) (hi:i<l.length):0≤fAt Task.crew l i∧fAt Task.crew l i≤100:=by rw [fAt_get hi];exact fieldB_crew (hR.field i hi)
theorem pow_bd {l:List Task} (hR:RightT l) (i:Nat) (hi:i<l.length):0≤fAt Task.pow l i∧fAt Task.pow l i≤100:=by rw [fAt_get hi];exact fieldB_pow (hR.field i hi)
structure PlanR (w:World) (B g:Nat) (l:List Task) (c p:Int) (tv bv sv:Value) (s:List Int):Prop where
 blk:Blk w g 96 #[tv,bv,.int .i64 c,.int .i64 p,sv]
 hg:g<B
 tasks:TasksAt w B tv l
 starts:IntsAt w B sv s
 len:s.length=l.length
 bd:∀ x ∈ s,-1≤x∧x≤1000000
theorem PlanR.below {w w':World} {B g:Nat} {l:List Task} {c p:Int} {tv bv sv:Value} {s:List Int} (h:PlanR w B g l c p tv bv sv s) (hb:Below B w w'):PlanR w' B g l c p tv bv sv s :=
 ⟨h.blk.below hb h.hg,h.hg,h.tasks.below hb (Nat.le_refl _),h.starts.below hb (Nat.le_refl _),h.len,h.bd⟩
theorem PlanR.mono {w:World} {B B' g:Nat} {l:List Task} {c p:Int} {tv bv sv:Value} {s:List Int} (h:PlanR w B g l c p tv bv sv s) (hB:B≤B'):PlanR w B' g l c p tv bv sv s :=
 ⟨h.blk,Nat.lt_of_lt_of_le h.hg hB,h.tasks.mono hB,h.starts.mono hB,h.len,h.bd⟩
theorem PlanR.drewN {w:World} {B g:Nat} {l:List Task} {c p:Int} {tv bv sv:Value} {s:List Int} (h:PlanR w B g l c p tv bv sv s) (q:Nat):PlanR (w.drewN q) B g l c p tv bv sv s:=h.below (below_drewN (Below.refl _ _) q)
theorem PlanR.endBd {w:World} {B g:Nat} {l:List Task} {c p:Int} {tv bv sv:Value} {s:List Int} (h:PlanR w B g l c p tv bv sv s) (hR:RightT l) {i:Nat} (hi:i<l.length) : -1≤atI s i∧atI s i≤1000000∧1≤lenAt l i∧lenAt l i≤10000:=by
 have hl:=h.len
 have h1:=h.bd _ (List.getElem_mem (show i<s.length by omega))
 have h2:=fieldB_len (hR.field i hi)
 rw [atI_get (by omega),lenAt_eq hi]
 exact ⟨h1.1,h1.2,h2.1,h2.2⟩
theorem PlanR.cellS {w:World} {B g:Nat} {l:List Task} {c p:Int} {tv bv sv:Value} {s:List Int} (h:PlanR w B g l c p tv bv sv s) {i:Nat} (hi:i<l.length) :
  ∃ b off cap,sv = .slice (some ⟨b,off,none⟩) l.length cap∧b<B∧l.length≤cap∧cap≤9223372036854775807∧∀ j,j<l.length→w.cell? ⟨b,off+j,none⟩=some (.int .i64 (atI s j)):=by
 have hl:=h.len
 obtain ⟨A,cap,rfl,h1,h2,h3⟩:=h.starts.open_
 unfold maxLen at h2
 obtain ⟨b,off,rfl,hb,hc⟩:=h3 i (by omega)
 exact ⟨b,off,cap,by rw [hl],hb,by omega,h2,fun j hj => by rw [atI_get (by omega)];exact hc j (by omega)⟩
set_option maxRecDepth 100000 in
set_option maxHeartbeats 1000000 in
theorem planEnd (B g:Nat) (l:List Task) (c p:Int) (tv bv sv:Value) (s:List Int) (i:Nat) (w:World) (hR:RightT l) (h:PlanR w B g l c p tv bv sv s) (hi:i<l.length) :
  Calls Tryz.prog 61 #[.pointer (some ⟨g,0,none⟩),.int .i64 i] w fun e w' => e = .returned (.int .i64 (endN l s i))∧∃ q,w.drewN q=w':=by
 have hbd:=h.endBd hR hi
 obtain ⟨A,cc,rfl,hA1,hA2,-⟩:=h.tasks.open_
 obtain ⟨b0,off0,rfl,hb0,hcell⟩:=h.tasks.cells hi
 obtain ⟨-,t1,-,-,-⟩:=hcell i hi
 obtain ⟨b1,off1,cap1,rfl,hb1,hl1,hl2,hs⟩:=h.cellS hi
 have h1:=hs i hi
 have p0:=h.blk.cell 0
 have p4:=h.blk.cell 4
 simp only [List.getElem?_toArray,List.getElem?_cons_succ,List.getElem?_cons_zero] at p0 p4
 rw [← lenAt_eq hi] at t1
 have i1:(0:Int)≤(i:Int):=Int.natCast_nonneg _
 have i2:(i:Int)<(l.length:Int):=by omega
 have hw:IntKind.i64.wrap (atI s i+lenAt l i)=atI s i+lenAt l i:=IntWalk.i64_in _ (by omega)
 have HE:Hid (endN l s i=atI s i+lenAt l i):=rfl
 unfold maxLen at hA2
 clear hcell hs h hbd
 generalize atI s i=x at *
 generalize lenAt l i=y at *
 go_enter Tryz.func61,Tryz.ntmps61
 go_wp2_with fail
 go_quiet (fail)
 go_wp2
 go_ret
 exact ⟨ret_int HE.out.symm,_,rfl⟩
theorem usedTo_on {f:Task→Int} {l:List Task} {s:List Int} {t:Int} {k:Nat} (hk:k<l.length) (h:onB l s t k=true):usedTo f l s t (k+1)=usedTo f l s t k+f l[k]:=by
 rw [usedTo,if_pos h,fAt_get hk]
theorem usedTo_off {f:Task→Int} {l:List Task} {s:List Int} {t:Int} {k:Nat} (h:onB l s t k=false):usedTo f l s t (k+1)=usedTo f l s t k:=by
 rw [usedTo,h]
 simp
set_option maxRecDepth 100000 in
set_option maxHeartbeats 4000000 in
theorem planFits (g:Nat) (l:List Task) (c p:Int) (tv bv sv:Value) (s:List Int) (t:Int) (w:World) (hR:RightT l) (h:PlanR w w.heap.size g l c p tv bv sv s) (_ht : -1≤t∧t≤1000000) :
  Calls Tryz.prog 101 #[.pointer (some ⟨g,0,none⟩),.int .i64 t] w fun e w' => e = .returned (.bool (fitsB l c p s t))∧Below w.heap.size w w':=by
 have HP:=Lib.hid h
 have HRT:=Lib.hid hR
 have h8:=hR.len
 have HE:Hid (∀ (k:Nat) (w':World),k<l.length→Below w.heap.size w w'→Calls Tryz.prog 61 #[.pointer (some ⟨g,0,none⟩),.int .i64 k] w' fun e w'' => e = .returned (.int .i64 (endN l s k))∧∃ q,w'.drewN q=w''):=fun k w' hk hb =>
  planEnd w.heap.size g l c p tv bv sv s k w' hR (h.below hb) hk
 obtain ⟨A,cc,rfl,hA1,hA2,-⟩:=h.tasks.open_
 have p0:=h.blk.cell 0
 simp only [List.getElem?_toArray,List.getElem?_cons_zero] at p0
 unfold maxLen at hA2
 clear h hR
 go_enter Tryz.func101,Tryz.ntmps101
 go_wp2
 go_loopw [14,5,6] (fun i a b wr => ∃ k:Nat,k≤l.length∧i = .int .i64 k∧a = .int .i64 (usedTo Task.crew l s t k)∧b = .int .i64 (usedTo Task.pow l s t k)∧Below w.heap.size w wr) (fun i _ _ _ => l.length-(intOf i).toNat)
 case atStart => exact ⟨0,Nat.zero_le _,rfl,rfl,rfl,Below.refl _ _⟩
 case round =>
  clear p0
  obtain ⟨k,hk,rfl,rfl,rfl,hbel⟩:=hrel
  have HPr:=HP.out.below hbel
  have p0:=HPr.blk.cell 0
  have p2:=HPr.blk.cell 2
  have p3:=HPr.blk.cell 3
  have p4:=HPr.blk.cell 4
  simp only [List.getElem?_toArray,List.getElem?_cons_succ,List.getElem?_cons_zero] at p0 p2 p3 p4
  have hbA:=usedTo_bd (s:=s) (t:=t) (crew_bd HRT.out) k hk
  have hbB:=usedTo_bd (s:=s) (t:=t) (pow_bd HRT.out) k hk
  by_cases hkl:k<l.length
  ·obtain ⟨b0,off0,rfl,hb0,hcell⟩:=HPr.tasks.cells hkl
   obtain ⟨t0,t1,t2,t3,t4⟩:=hcell k hkl
   obtain ⟨b1,off1,cap1,rfl,hb1,hl1,hl2,hs⟩:=HPr.cellS hkl
   have h1:=hs k hkl
   have hbd:=HPr.endBd HRT.out hkl
   have hsz:=hbel.size
   have hbx:=hbel.alloc hbel.size (.cells #[.string l[k].name,.int .i64 l[k].len,.int .i64 l[k].crew,.int .i64 l[k].pow,.slice l[k].ba l[k].bef.length l[k].bc] 41)
   have hcall:=HE.out k _ hkl hbx
   have hcr:=fieldB_crew (HRT.out.field k hkl)
   have hpw:=fieldB_pow (HRT.out.field k hkl)
   have i1:(0:Int)≤(k:Int):=Int.natCast_nonneg _
   have i2:(k:Int)<(l.length:Int):=by omega
   have hgl:g<wr.heap.size:=Nat.lt_of_lt_of_le HPr.hg hsz
   have hbl:b1<wr.heap.size:=Nat.lt_of_lt_of_le hb1 hsz
   clear hcell hs HPr
   by_cases d1:0≤atI s k
   ·by_cases d2:atI s k≤t
    ·by_cases d3:t<endN l s k
     ·have HA:Hid (usedTo Task.crew l s t (k+1)=usedTo Task.crew l s t k+l[k].crew):=usedTo_on hkl (by unfold onB;simp [d1,d2,d3])
      have HB:Hid (usedTo Task.pow l s t (k+1)=usedTo Task.pow l s t k+l[k].pow):=usedTo_on hkl (by unfold onB;simp [d1,d2,d3])
      have w1:IntKind.i64.wrap (usedTo Task.crew l s t k+l[k].crew)=usedTo Task.crew l s t k+l[k].crew:=IntWalk.i64_in _ (by omega)
      have w2:IntKind.i64.wrap (usedTo Task.pow l s t k+l[k].pow)=usedTo Task.pow l s t k+l[k].pow:=IntWalk.i64_in _ (by omega)
      have hy:=World.cell?_alloc_new wr #[.string l[k].name,.int .i64 l[k].len,.int .i64 l[k].crew,.int .i64 l[k].pow,.slice l[k].ba l[k].bef.length l[k].bc] 41
      have y2:=hy 2
      have y3:=hy 3
      simp only [List.getElem?_toArray,List.getElem?_cons_succ,List.getElem?_cons_zero] at y2 y3
      clear hy hbd
      go_wp2_with fail
      refine hcall.mono ?_
      rintro e w' ⟨rfl,q,rfl⟩
      generalize wr.alloc (.cells #[.string l[k].name,.int .i64 l[k].len,.int .i64 l[k].crew,.int .i64 l[k].pow,.slice l[k].ba l[k].bef.length l[k].bc] 41)=wt at *
      clear hcall
      go_wp2_with fail
      go_quiet (fail)
      go_wp2_with fail
      go_roundw
      case rel => exact ⟨k+1,by omega,by go_num,by rw [HA.out],by rw [HB.out],below_drewN hbx _⟩
      case measure => simp [intOf];omega
     ·have HA:Hid (usedTo Task.crew l s t (k+1)=usedTo Task.crew l s t k):=usedTo_off (by unfold onB;simp [d3])
      have HB:Hid (usedTo Task.pow l s t (k+1)=usedTo Task.pow l s t k):=usedTo_off (by unfold onB;simp [d3])
      have d3b:decide (t<endN l s k)=false:=by simpa using d3
      clear hbd
      go_wp2_with fail
      refine hcall.mono ?_
      rintro e w' ⟨rfl,q,rfl⟩
      go_wp2_with fail
      go_roundw
      case rel => exact ⟨k+1,by omega,by go_num,by rw [HA.out],by rw [HB.out],below_drewN hbx _⟩
      case measure => simp [intOf];omega
    ·have HA:Hid (usedTo Task.crew l s t (k+1)=usedTo Task.crew l s t k):=usedTo_off (by unfold onB;simp [d2])
     have HB:Hid (usedTo Task.pow l s t (k+1)=usedTo Task.pow l s t k):=usedTo_off (by unfold onB;simp [d2])
     have d2b:decide (atI s k≤t)=false:=by simpa using d2
     clear hcall hbd
     go_wp2_with fail
     go_roundw
     case rel => exact ⟨k+1,by omega,by go_num,by rw [HA.out],by rw [HB.out],hbx⟩
     case measure => simp [intOf];omega
   ·have HA:Hid (usedTo Task.crew l s t (k+1)=usedTo Task.crew l s t k):=usedTo_off (by unfold onB;simp [d1])
    have HB:Hid (usedTo Task.pow l s t (k+1)=usedTo Task.pow l s t k):=usedTo_off (by unfold onB;simp [d1])
    have d1b:decide (0≤atI s k)=false:=by simpa using d1
    clear hcall hbd
    go_wp2_with fail
    go_roundw
    case rel => exact ⟨k+1,by omega,by go_num,by rw [HA.out],by rw [HB.out],hbx⟩
    case measure => simp [intOf];omega
  ·have hke:k=l.length:=by omega
   subst hke
   have HV:Hid (fitsB l c p s t=(decide (usedTo Task.crew l s t l.length≤c) && decide (usedTo Task.pow l s t l.length≤p))):=rfl
   clear HPr
   generalize usedTo Task.crew l s t l.length=x at *
   generalize usedTo Task.pow l s t l.length=y at *
   by_cases e1:x≤c
   ·have e1b:decide (x≤c)=true:=by simpa using e1
    rw [e1b,Bool.true_and] at HV
    go_wp2_with fail
    go_ret
    exact ⟨ret_bool HV.out.symm,hbel⟩
   ·have e1b:decide (x≤c)=false:=by simpa using e1
    rw [e1b,Bool.false_and] at HV
    go_wp2_with fail
    go_ret
    exact ⟨ret_bool HV.out.symm,hbel⟩
theorem any_take {α:Type} {f:α→Bool} {l:List α} {k:Nat} (hk:k<l.length) (h:(l.take k).any f=false) (hf:f l[k]=false):(l.take (k+1)).any f=false:=by
 rw [take_snoc l k hk,List.any_append,h]
 simpa using hf
theorem any_hit {α:Type} {f:α→Bool} {l:List α} {k:Nat} (hk:k<l.length) (hf:f l[k]=true):l.any f=true:=List.any_eq_true.2 ⟨_,List.getElem_mem hk,hf⟩
set_option maxRecDepth 100000 in
set_option maxHeartbeats 4000000 in
theorem planWhole (g:Nat) (l:List Task) (c p:Int) (tv bv sv:Value) (s:List Int) (i:Nat) (w:World) (hR:RightT l) (h:PlanR w w.heap.size g l c p tv bv sv s) (hi:i<l.length) :
  Calls Tryz.prog 58 #[.pointer (some ⟨g,0,none⟩),.int .i64 i] w fun e w' => e = .returned (.bool (wholeB l c p s i))∧Below w.heap.size w w':=by
 have HP:=Lib.hid h
 have h8:=hR.len
 have HE:Hid (∀ (w':World),Below w.heap.size w w'→Calls Tryz.prog 61 #[.pointer (some ⟨g,0,none⟩),.int .i64 i] w' fun e w'' => e = .returned (.int .i64 (endN l s i))∧∃ q,w'.drewN q=w''):=fun w' hb =>
  planEnd w.heap.size g l c p tv bv sv s i w' hR (h.below hb) hi
 have HF:Hid (∀ (t:Int) (w':World),-1≤t∧t≤1000000→Below w.heap.size w w'→Calls Tryz.prog 101 #[.pointer (some ⟨g,0,none⟩),.int .i64 t] w' fun e w'' => e = .returned (.bool (fitsB l c p s t))∧Below w'.heap.size w' w''):=fun t w' ht hb =>
  planFits g l c p tv bv sv s t w' hR ((h.below hb).mono hb.size) ht
 have hlen:=h.len
 have p4:=h.blk.cell 4
 simp only [List.getElem?_toArray,List.getElem?_cons_succ,List.getElem?_cons_zero] at p4
 obtain ⟨b1,off1,cap1,rfl,hb1,hl1,hl2,hs⟩:=h.cellS hi
 have h1:=hs i hi
 have hbd:=h.bd
 have hbi:=h.endBd hR hi
 have hf0:=HF.out (atI s i) w ⟨hbi.1,hbi.2.1⟩ (Below.refl _ _)
 have Hbd:=Lib.hid hbd
 have Hs:=Lib.hid hs
 have i1:(0:Int)≤(i:Int):=Int.natCast_nonneg _
 have i2:(i:Int)<(l.length:Int):=by omega
 clear h hR hs hbd
 cases hq:fitsB l c p s (atI s i) with
 | false =>
  have HV:Hid (wholeB l c p s i=false):=by unfold Hid wholeB;rw [hq];rfl
  rw [hq] at hf0
  clear hq
  go_enter Tryz.func58,Tryz.ntmps58
  go_wp2_with fail
  refine hf0.mono ?_
  rintro e w1 ⟨rfl,hb1⟩
  go_wp2_with fail
  go_ret
  exact ⟨ret_bool HV.out.symm,hb1⟩
 | true =>
  have HV:Hid (wholeB l c p s i = !s.any (badB l c p s i)):=by unfold Hid wholeB;rw [hq];rfl
  rw [hq] at hf0
  clear hq
  go_enter Tryz.func58,Tryz.ntmps58
  go_wp2_with fail
  refine hf0.mono ?_
  rintro e w1 ⟨rfl,hb1'⟩
  have p4':=(hb1'.cell (p:=⟨g,4,none⟩) HP.out.hg).trans p4
  clear hf0 p4 h1
  go_wp2_with fail
  go_loopw [22] (fun x wr => ∃ k:Nat,k≤s.length∧x = .int .i64 k∧Hid ((s.take k).any (badB l c p s i)=false)∧Below w.heap.size w wr) (fun x _ => s.length-(intOf x).toNat)
  case atStart => exact ⟨0,Nat.zero_le _,rfl,by unfold Hid;simp,hb1'⟩
  case round =>
   clear p4' hb1'
   obtain ⟨k,hk,rfl,HN,hbel⟩:=hrel
   by_cases hkl:k<s.length
   ·have hkl2:k<l.length:=by omega
    have hki:(k:Int)<(l.length:Int):=by omega
    have p4:=(hbel.cell (p:=⟨g,4,none⟩) HP.out.hg).trans (HP.out.blk.cell 4)
    simp only [List.getElem?_toArray,List.getElem?_cons_succ,List.getElem?_cons_zero] at p4
    have hsk:=(hbel.cell (p:=⟨b1,off1+k,none⟩) hb1).trans (Hs.out k hkl2)
    have hsi:=(hbel.cell (p:=⟨b1,off1+i,none⟩) hb1).trans (Hs.out i hi)
    have hbk:=Hbd.out _ (List.getElem_mem hkl)
    rw [atI_get hkl] at hsk
    have hcE:=HE.out wr hbel
    have hcF:=fun q => HF.out s[k] (wr.drewN q) hbk (below_drewN hbel q)
    have hsz:=hbel.size
    have HK:Hid (badB l c p s i s[k]=false→(s.take (k+1)).any (badB l c p s i)=false):=fun h => any_take hkl HN.out h
    have HY:Hid (badB l c p s i s[k]=true→s.any (badB l c p s i)=true):=fun h => any_hit hkl h
    have HB:Hid (badB l c p s i s[k]=(decide (atI s i<s[k]) && decide (s[k]<endN l s i) && !fitsB l c p s s[k])):=rfl
    clear HN hbk
    generalize badB l c p s i s[k]=bb at *
    generalize s[k]=x at *
    by_cases d1:atI s i<x
    ·by_cases d2:x<endN l s i
     ·cases hq:fitsB l c p s x with
      | true =>
       have HK':=Lib.hid (HK.out (by rw [HB.out,hq];simp))
       rw [hq] at hcF
       clear hq HK HY HB
       go_wp2_with (first | (go_at_call 61;refine hcE.mono ?_;rintro e w2 ⟨rfl,q,rfl⟩) | (go_at_call 101;refine (hcF _).mono ?_;rintro e w3 ⟨rfl,hb3⟩))
       go_roundw
       case rel => exact ⟨k+1,by omega,by go_num,HK',(below_drewN hbel _).trans (hb3.mono (by simpa using hsz))⟩
       case measure => simp [intOf];omega
      | false =>
       have HV':Hid (wholeB l c p s i=false):=by unfold Hid;rw [HV.out,HY.out (by rw [HB.out,hq];simp [d1,d2])];rfl
       rw [hq] at hcF
       clear hq HK HY HB
       go_wp2_with (first | (go_at_call 61;refine hcE.mono ?_;rintro e w2 ⟨rfl,q,rfl⟩) | (go_at_call 101;refine (hcF _).mono ?_;rintro e w3 ⟨rfl,hb3⟩))
       go_ret
       exact ⟨ret_bool HV'.out.symm,(below_drewN hbel _).trans (hb3.mono (by simpa using hsz))⟩
     ·have HK':=Lib.hid (HK.out (by rw [HB.out];simp [d2]))
      have d2b:decide (x<endN l s i)=false:=by simpa using d2
      clear HK HY HB hcF
      go_wp2_with (go_at_call 61;refine hcE.mono ?_;rintro e w2 ⟨rfl,q,rfl⟩)
      go_roundw
      case rel => exact ⟨k+1,by omega,by go_num,HK',below_drewN hbel _⟩
      case measure => simp [intOf];omega
    ·have HK':=Lib.hid (HK.out (by rw [HB.out];simp [d1]))
     have d1b:decide (atI s i<x)=false:=by simpa using d1
     clear HK HY HB hcF hcE
     go_wp2_with fail
     go_roundw
     case rel => exact ⟨k+1,by omega,by go_num,HK',hbel⟩
     case measure => simp [intOf];omega
   ·have hke:k=s.length:=by omega
    subst hke
    have HV':Hid (wholeB l c p s i=true):=by
     have:=HN.out
     rw [List.take_length] at this
     unfold Hid
     rw [HV.out,this]
     rfl
    go_wp2_with fail
    go_ret
    exact ⟨ret_bool HV'.out.symm,hbel⟩
set_option maxHeartbeats 4000000 in
theorem mul64One (n:Nat) (w:World) (h:n≤8):Calls Tryz.prog 143 #[.int .u64 1,.int .u64 n] w fun e w' => e = .returned (.tuple #[.int .u64 0,.int .u64 n])∧w=w':=by
 rcases (show n=0∨n=1∨n=2∨n=3∨n=4∨n=5∨n=6∨n=7∨n=8 by omega) with rfl | rfl | rfl | rfl | rfl | rfl | rfl | rfl | rfl
 all_goals
  go_enter Tryz.func143,Tryz.ntmps143
  go_wp2
  refine bodyPost_ret (results_tmp2 rfl _ _ _) (by rfl) ?_
  exact ⟨rfl,rfl⟩
theorem mulOne (n:Nat) (w:World) (h:n≤8):Calls Tryz.prog 130 #[.int .u64 1,.int .u64 n] w fun e w' => e = .returned (.tuple #[.int .u64 0,.int .u64 n])∧w=w':=by
 have hM:=mul64One n w h
 go_enter Tryz.func130,Tryz.ntmps130
 go_wp2_with (go_at_call 143;refine hM.mono ?_;rintro e w1 ⟨rfl,rfl⟩)
 refine bodyPost_ret (results_tmp2 rfl _ _ _) (by rfl) ?_
 exact ⟨rfl,rfl⟩
def part (x:Int) (k n:Nat):List Int:=List.replicate k x ++ List.replicate (n-k) 0
theorem part_len {x:Int} {k n:Nat} (h:k≤n):(part x k n).length=n:=by simp [part];omega
theorem part_get {x:Int} {k n j:Nat} (hj:j<k):(part x k n)[j]? = some x:=by
 unfold part
 rw [List.getElem?_append_left (by simpa using hj),List.getElem?_replicate,if_pos hj]
theorem part_splice {x:Int} {k m n:Nat} (h:k+m≤n):((part x k n).map (Value.int .i64)).take k ++ (List.replicate m (Value.int .i64 x) ++ ((part x k n).map (Value.int .i64)).drop (k+m))=(part x (k+m) n).map (Value.int .i64):=by
 apply List.ext_getElem?
 intro j
 unfold part
 simp only [List.getElem?_append,List.getElem?_take,List.getElem?_drop,List.getElem?_map,List.getElem?_replicate,List.length_take,List.length_map,List.length_append,List.length_replicate]
 repeat' split
 all_goals first | rfl | omega
theorem own_whole {w:World} {base e g n:Nat} {xs:List Value} (h:w.ownsRow base e 1 (.slice (some ⟨g,0,none⟩) n n) n xs):w.heap[g]? = some (.cells xs.toArray e (0,0))∧base≤g:=by
 rcases h.2 with ⟨h1,_⟩ | ⟨g',cap,cur,h1,hb,hg,h2,h3,h4,h5⟩
 ·cases h1
 ·injection h1 with e1 _ e2
  injection e1 with e1
  injection e1 with e1
  subst e1 e2
  rw [List.take_of_length_le (by rw [Array.length_toList];omega)] at h5
  subst h5
  exact ⟨hg,hb⟩
theorem own_of_whole {w:World} {base e g n:Nat} {xs:List Value} (hg:w.heap[g]? = some (.cells xs.toArray e (0,0))) (hb:base≤g) (hl:xs.length=n) (hn:n≤maxLen):w.ownsRow base e 1 (.slice (some ⟨g,0,none⟩) n n) n xs :=
 ⟨by omega,.inr ⟨g,n,xs.toArray,rfl,hb,hg,Nat.le_refl _,hn,by simp [hl],by simp [← hl]⟩⟩
theorem part_one {x:Int} {n:Nat} (h:1≤n):splice ((part x 0 n).map (Value.int .i64)) 0 [Value.int .i64 x]=(part x 1 n).map (Value.int .i64):=part_splice (k:=0) (m:=1) (by omega)
theorem part_zero (x:Int) (n:Nat):part x 0 n=List.replicate n 0:=by simp [part]
theorem part_full (x:Int) (n:Nat):part x n n=List.replicate n x:=by simp [part]
theorem one_src {w:World} {b:Nat} {v0:Value} (h:w.cell? ⟨b,0,none⟩=some v0):∀ (j:Nat) (v:Value),[v0][j]? = some v→w.cell? ((Addr.mk b 0 none).add j)=some v:=fun j v hv => by
 cases j with
 | zero =>
  obtain rfl:v0=v:=by simpa using hv
  exact h
 | succ j => simp at hv
theorem made_part {w w2:World} {x:Int} {n:Nat} (hown:w2.ownsRow w.heap.size 3 1 (.slice (some ⟨w.heap.size,0,none⟩) n n) n (madeCells (Value.cells (.int .i64 0)) (n*1)).toList) :
  w2.heap[w.heap.size]? = some (.cells ((part x 0 n).map (Value.int .i64)).toArray 3 (0,0)):=by
 rw [made_zero,← part_zero x n] at hown
 exact (own_whole hown).1
set_option maxRecDepth 100000 in
set_option maxHeartbeats 800000 in
theorem repeatOne (b:Nat) (x:Int) (n:Nat) (w:World) (h8:n≤8) (hc:w.cell? ⟨b,0,none⟩=some (.int .i64 x)) (hb:b<w.heap.size) :
  Calls Tryz.prog 100 #[.slice (some ⟨b,0,none⟩) 1 1,.int .i64 n] w fun e w' => ∃ g,e = .returned (.slice (some ⟨g,0,none⟩) n n)∧w'.ownsRow w.heap.size 3 1 (.slice (some ⟨g,0,none⟩) n n) n ((List.replicate n x).map (Value.int .i64))∧Below w.heap.size w w':=by
 obtain ⟨i0,hi0,hz0,hz1,hz2⟩:=info_parts info_int
 have hbytes:i0.bytes*n≤281474976710656:=by rw [hz2];omega
 have HM:=mulOne n w h8
 have Hc:=Lib.hid hc
 have HI:=Lib.hid hi0
 have hnn:(0:Int)≤(n:Int):=Int.natCast_nonneg _
 clear hc
 by_cases hn:1≤n
 ·have hd0:decide ((n:Int)<0)=false:=by simp
  have hd1:decide ((9223372036854775807:Int)<n)=false:=by simp;omega
  go_enter Tryz.func100,Tryz.ntmps100
  go_wp2_with fail
  refine HM.mono ?_
  rintro e w1 ⟨rfl,rfl⟩
  have hsz1:(Tryz.prog.info? 3).map (·.size)=some 1:=by kernel_rfl
  have hmn:([Value.int .i64 x]).length=Nat.min 1 n:=(Nat.min_eq_left hn).symm
  have hfit:0+([Value.int .i64 x]).length≤((part x 0 n).map (Value.int .i64)).length:=by simp [part_len];omega
  have hone:∀ y ∈ [Value.int .i64 x],y.oneCell'=true:=fun y hy => by simp only [List.mem_singleton] at hy;subst hy;rfl
  go_wp2_with (first
   | (at_make;refine wpList_make_full _ rfl _ _ 22 rfl w.heap.size 3 i0 (.int .i64 0) 1 Tryz.underlying22 HI.out hz0 hz1 .i64 .i64 _ _ n rfl rfl rfl rfl hbytes (by unfold maxLen;omega) (Nat.le_refl _) ?_;intro w2 hown2 hgrow2;have hk2:=Lib.hid (made_part (x:=x) hown2);have hb2:=below_grown hgrow2;have hc2:=Lib.hid ((hb2.cell (p:=⟨b,0,none⟩) hb).trans Hc.out);clear hown2 hgrow2)
   | (refine wpList_copy_splice rfl (.tmp 31) (.tmp 32) 22 22 rfl 3 Tryz.underlying22 hsz1 (some ⟨w.heap.size,0,none⟩) (some ⟨b,0,none⟩) n n 1 1 rfl rfl w.heap.size 0 ((part x 0 n).map (Value.int .i64)) 3 hk2.out [Value.int .i64 x] hmn (fun _ => ⟨rfl,_,rfl,one_src hc2.out⟩) hfit hone w.heap.size w hb2 (Nat.le_refl _) ?_;intro w3 hg3 hb3))
  have hg3':=hg3.out
  rw [part_one hn] at hg3'
  clear hmn hfit hone hk2 hc2 hb2
  have HG3:Hid (w3.heap[w.heap.size]? = some (.cells ((part x 1 n).map (Value.int .i64)).toArray 3 (0,0))):=hg3'
  clear hg3 hg3'
  go_loopw [8] (fun s wr => ∃ k:Nat,1≤k∧k≤n∧s = .int .i64 k∧Hid (wr.heap[w.heap.size]? = some (.cells ((part x k n).map (Value.int .i64)).toArray 3 (0,0)))∧Below w.heap.size w wr) (fun s _ => n-(intOf s).toNat)
  case atStart => exact ⟨1,Nat.le_refl _,hn,rfl,HG3,hb3⟩
  case round =>
   clear HG3 hb3
   obtain ⟨k,hk1,hk,rfl,HG,hbel⟩:=hrel
   by_cases hkl:k<n
   ·have i1:(0:Int)≤(k:Int):=Int.natCast_nonneg _
    have i2:(k:Int)≤(n:Int):=by omega
    obtain ⟨m,hm⟩:∃ m,m=Nat.min k (n-k):=⟨_,rfl⟩
    have hm':m=min k (n-k):=hm
    have hmn:(List.replicate m (Value.int .i64 x)).length=Nat.min k (n-k):=by rw [List.length_replicate,hm]
    have hfit:k+(List.replicate m (Value.int .i64 x)).length≤((part x k n).map (Value.int .i64)).length:=by rw [List.length_replicate,List.length_map,part_len hk];omega
    have hone:∀ y ∈ List.replicate m (Value.int .i64 x),y.oneCell'=true:=fun y hy => by rw [(List.mem_replicate.1 hy).2];rfl
    have hsp:Hid (splice ((part x k n).map (Value.int .i64)) k (List.replicate m (Value.int .i64 x))=(part x (k+m) n).map (Value.int .i64)):=by
     unfold Hid splice
     rw [List.length_replicate]
     exact part_splice (by omega)
    have hbq:=hbel.drew
    have HGd:Hid (wr.drew.heap[w.heap.size]? = some (.cells ((part x k n).map (Value.int .i64)).toArray 3 (0,0))):=HG
    have hsrc:Hid (∀ j v,(List.replicate m (Value.int .i64 x))[j]? = some v→wr.drew.cell? ((Addr.mk w.heap.size 0 none).add j)=some v):=fun j v hv => by
     have hj:=(List.getElem?_eq_some_iff.1 hv).1
     rw [List.length_replicate] at hj
     rw [List.getElem?_replicate,if_pos hj] at hv
     have e:(Addr.mk w.heap.size 0 none).add j=⟨w.heap.size,j,none⟩:=by
      unfold Addr.add
      split
      ·rename_i h;subst h;rfl
      ·simp
     rw [e,cell_of_row _ _ _ _ _ _ HGd.out,List.getElem?_toArray,List.getElem?_map,part_get (by omega)]
     exact hv
    have hne:¬ n=k:=by omega
    clear hm hm'
    go_wp2_with fail
    go_region_law (refine step_copy_splice rfl (.tmp 41) (.tmp 44) 22 22 rfl 3 Tryz.underlying22 hsz1 (some ⟨w.heap.size,k,none⟩) (some ⟨w.heap.size,0,none⟩) (n-k) (n-k) k n ?g4 ?g5 w.heap.size k ((part x k n).map (Value.int .i64)) 3 HGd.out (List.replicate m (Value.int .i64 x)) hmn (fun _ => ⟨rfl,_,rfl,hsrc.out⟩) hfit hone w.heap.size w hbq (Nat.le_refl _) ?g13;(case g4 => go_simp);(case g5 => go_simp);intro w5 hg5 hb5)
    rw [hsp.out] at hg5
    have hmk:1≤m:=by
     have:=hmn
     rw [List.length_replicate] at this
     have h2:m=min k (n-k):=this
     omega
    have hmk2:k+m≤n:=by
     have:=hfit
     rw [List.length_replicate,List.length_map,part_len hk] at this
     exact this
    have HW:Hid (IntKind.i64.wrap ((k:Int)+(Nat.min k (n-k):Nat))=((k+m:Nat):Int)):=by
     have e:Nat.min k (n-k)=m:=by rw [← hmn,List.length_replicate]
     unfold Hid
     rw [e,IntWalk.i64_in _ (by omega)]
     omega
    clear hsp hsrc HGd hmn hfit hone
    go_simp
    go_wp2
    go_roundw
    case rel => exact ⟨k+m,by omega,hmk2,by rw [HW.out],hg5,hb5⟩
    case measure => rw [HW.out];simp [intOf];omega
   ·have hke:k=n:=by omega
    subst hke
    have HO:=HG.out
    rw [part_full] at HO
    have hown:=own_of_whole (base:=w.heap.size) (n:=k) HO (Nat.le_refl _) (by simp) (by unfold maxLen;omega)
    clear HO HG
    have Hown:=Lib.hid hown
    clear hown
    go_wp2_with fail
    go_ret
    exact ⟨_,rfl,Hown.out,hbel⟩
 ·obtain rfl:n=0:=by omega
  go_enter Tryz.func100,Tryz.ntmps100
  go_wp2_with fail
  refine HM.mono ?_
  rintro e w1 ⟨rfl,rfl⟩
  have hsz1:(Tryz.prog.info? 3).map (·.size)=some 1:=by kernel_rfl
  go_wp2_with (first
   | (at_make;refine wpList_make_full _ rfl _ _ 22 rfl w.heap.size 3 i0 (.int .i64 0) 1 Tryz.underlying22 HI.out hz0 hz1 .i64 .i64 _ _ 0 rfl rfl rfl rfl hbytes (by unfold maxLen;omega) (Nat.le_refl _) ?_;intro w2 hown2 hgrow2;have hb2:=below_grown hgrow2)
   | (refine wpList_copy_nothing rfl (.tmp 31) (.tmp 32) 22 22 rfl 3 Tryz.underlying22 hsz1 (some ⟨w.heap.size,0,none⟩) (some ⟨b,0,none⟩) 0 0 1 1 rfl rfl rfl ?_))
  have Hown:=Lib.hid hown2
  clear hown2
  go_loopw [8] (fun s wr => s = .int .i64 0∧wr=w2) (fun _ _ => 0)
  case atStart => exact ⟨rfl,rfl⟩
  case round =>
   obtain ⟨rfl,rfl⟩:=hrel
   go_wp2_with fail
   go_ret
   have HO:=Hown.out
   rw [made_zero] at HO
   exact ⟨_,rfl,HO,hb2⟩
structure NewPlan (w:World) (B g:Nat) (l:List Task) (c p:Int) (tv:Value) (O S:Nat) (cs:List Value):Prop where
 blk:Blk w g 96 #[tv,.slice (some ⟨O,0,none⟩) l.length l.length,.int .i64 c,.int .i64 p,.slice (some ⟨S,0,none⟩) l.length l.length]
 hg:B≤g
 rows:BefRows w B O l l.length cs
 starts:w.ownsRow B 3 1 (.slice (some ⟨S,0,none⟩) l.length l.length) l.length ((List.replicate l.length (-1)).map (Value.int .i64))
theorem BefRows.below {w w':World} {base O:Nat} {l:List Task} {i:Nat} {cs:List Value} (h:BefRows w base O l i cs) (hb:Below w.heap.size w w'):BefRows w' base O l i cs :=
 h.past (grown_below hb)
theorem right_bef {l:List Task} (hR:RightT l):(distinct l && befOK l)=true:=by
 have h1:=hR.dist
 have h2:=hR.bef
 rw [h1,h2]
 rfl
set_option maxRecDepth 100000 in
set_option maxHeartbeats 2000000 in
theorem schedNewPlanA (v:Value) (l:List Task) (c p:Int) (w:World) (hR:RightT l) (hl:TasksAt w w.heap.size v l) :
  Calls Tryz.prog 57 #[v,.int .i64 c,.int .i64 p] w fun e w' => ∃ g O S cs,e = .returned (.pointer (some ⟨g,0,none⟩))∧NewPlan w' w.heap.size g l c p v O S cs∧Below w.heap.size w w'∧∀ j (hj:j<cs.length),cs[j].ownBlock≠some S:=by
 have h8:=hR.len
 have hB:=schedBefore v l w hl h8
 have hrb:=right_bef hR
 have hB':Calls Tryz.prog 99 #[v] w fun e w' => ∃ O cs,e = .returned (.tuple #[.slice (some ⟨O,0,none⟩) l.length l.length,.bool true])∧BefRows w' w.heap.size O l l.length cs∧Below w.heap.size w w':=hB.mono fun e w' h => by
  obtain ⟨hb,⟨hno,_⟩ | ⟨_,O,cs,he,hr⟩⟩:=h
  ·rw [hrb] at hno;cases hno
  ·exact ⟨O,cs,he,hr,hb⟩
 obtain ⟨A,cc,rfl,hA1,hA2,-⟩:=hl.open_
 unfold maxLen at hA2
 clear hB hrb hl hR
 go_enter Tryz.func57,Tryz.ntmps57
 go_wp2_with fail
 refine hB'.mono ?_
 rintro e w1 ⟨O,cs,rfl,hrows,hb1⟩
 have hbo:=(Below.refl w1.heap.size w1).alloc (Nat.le_refl _) (.cells #[.int .i64 (-1)] 3)
 have hR1:=repeatOne w1.heap.size (-1) l.length (w1.alloc (.cells #[.int .i64 (-1)] 3)) h8 (by rw [World.cell?_alloc_new];rfl) (by simp)
 have hsz:=hb1.size
 clear hB'
 go_wp2_with fail
 refine hR1.mono ?_
 rintro e w2 ⟨S,rfl,hown,hb2⟩
 have hap:∀ j (hj:j<cs.length),cs[j].ownBlock≠some S:=fun j hj e => by
  have hl:=own_len hrows.own
  have h1:=((hrows.rows j (by omega) hj (by omega)).lt S e).2
  have h2:=(own_whole hown).2
  simp only [World.size_alloc] at h2
  omega
 have Hap:=Lib.hid hap
 clear hap
 have hb12:Below w1.heap.size w1 w2:=hbo.trans (hb2.mono (by simp))
 have hrows2:=hrows.below hb12
 have hown2:w2.ownsRow w.heap.size 3 1 (.slice (some ⟨S,0,none⟩) l.length l.length) l.length ((List.replicate l.length (-1)).map (Value.int .i64)):=own_mono hown (by simp;omega)
 have hb:=hb1.trans (hb12.mono hb1.size)
 have hsz2:=hb.size
 clear hR1 hbo hown hrows hb12 hb2
 go_wp2_with fail
 go_ret
 exact ⟨_,O,S,cs,rfl,⟨Blk.new _ _ _,hsz2,hrows2.alloc _,hown2.alloc _⟩,hb.alloc hsz2 _,Hap.out⟩
theorem schedNewPlan (v:Value) (l:List Task) (c p:Int) (w:World) (hR:RightT l) (hl:TasksAt w w.heap.size v l) :
  Calls Tryz.prog 57 #[v,.int .i64 c,.int .i64 p] w fun e w' => ∃ g O S cs,e = .returned (.pointer (some ⟨g,0,none⟩))∧NewPlan w' w.heap.size g l c p v O S cs∧Below w.heap.size w w' :=
 (schedNewPlanA v l c p w hR hl).mono fun _ _ ⟨g,O,S,cs,h1,h2,h3,_⟩ => ⟨g,O,S,cs,h1,h2,h3⟩
theorem entersG43:∀ args w,(callFunc 98 args).run Tryz.prog w = .ok (.enter 98 args) w:=enters_of Tryz.func98 (by kernel_rfl) rfl
def outB (x:Int):Bool:=decide (x<0) || decide (1000000<x)
def startsN (l:List Task) (s:List Int):Int:=if s.length=l.length then (if s.any outB then 2 else 0) else 3
theorem startsN_zero {l:List Task} {s:List Int} (h:startsN l s=0):s.length=l.length∧∀ x ∈ s,0≤x∧x≤1000000:=by
 unfold startsN at h
 split at h
 ·rename_i hl
  split at h
  ·cases h
  ·rename_i ha
   refine ⟨hl,fun x hx => ?_⟩
   have:=List.any_eq_false.1 (by simpa using ha) x hx
   unfold outB at this
   simp only [Bool.or_eq_true,decide_eq_true_eq,not_or] at this
   omega
 ·cases h
set_option maxHeartbeats 1000000 in
theorem givenClosure43 (x:Int) (w:World) (_h1 : -9223372036854775808≤x) (_h2:x≤9223372036854775807):Calls Tryz.prog 98 #[.int .i64 x] w fun e w' => e = .returned (.bool (outB x))∧w=w':=by
 by_cases h:x<0
 ·have HV:Hid (outB x=true):=by unfold Hid outB;simp [h]
  go_enter Tryz.func98,Tryz.ntmps98
  go_wp2
  go_ret
  exact ⟨ret_bool HV.out.symm,rfl⟩
 ·have HV:Hid (outB x=decide (1000000<x)):=by unfold Hid outB;simp [h]
  have hb:decide (x<0)=false:=by simpa using h
  go_enter Tryz.func98,Tryz.ntmps98
  go_wp2
  go_ret
  exact ⟨ret_bool HV.out.symm,rfl⟩
def Wide (s:List Int):Prop:=∀ x ∈ s,-9223372036854775808≤x∧x≤9223372036854775807
set_option maxHeartbeats 1000000 in
theorem schedGiven43 (v u:Value) (l:List Task) (s:List Int) (B:Nat) (w:World) (hl:TasksAt w B v l) (hs:IntsAt w B u s) (hw:Wide s) :
  Calls Tryz.prog 56 #[v,u] w fun e w' => e = .returned (.int .i64 (startsN l s))∧w=w':=by
 have hC:=containsFuncSInt u s 98 #[] outB entersG43 B w hs (fun x hx => by
  have:=hw x hx
  exact givenClosure43 x w this.1 this.2)
 obtain ⟨A,cc,rfl,hA1,hA2,-⟩:=hl.open_
 obtain ⟨A',cc',rfl,hA1',hA2',-⟩:=hs.open_
 unfold maxLen at hA2 hA2'
 clear hl hs hw
 by_cases h:s.length=l.length
 ·have HV:Hid (startsN l s=if s.any outB then 2 else 0):=by unfold Hid startsN;rw [if_pos h]
  have hb:((s.length:Int) != l.length)=false:=by simp [h]
  have h':s.length≤l.length:=by omega
  have h'':l.length≤s.length:=by omega
  clear h
  cases ha:s.any outB with
  | true =>
   rw [ha] at HV hC
   clear ha
   go_enter Tryz.func56,Tryz.ntmps56
   go_wp2_with (go_at_call 59;refine hC.mono ?_;rintro e w1 ⟨rfl,rfl⟩)
   go_ret
   exact ⟨ret_int HV.out.symm,rfl⟩
  | false =>
   rw [ha] at HV hC
   clear ha
   go_enter Tryz.func56,Tryz.ntmps56
   go_wp2_with (go_at_call 59;refine hC.mono ?_;rintro e w1 ⟨rfl,rfl⟩)
   go_ret
   exact ⟨ret_int HV.out.symm,rfl⟩
 ·have HV:Hid (startsN l s=3):=by unfold Hid startsN;rw [if_neg h]
  have hb:((s.length:Int) != l.length)=true:=by simp;omega
  clear h hC
  go_enter Tryz.func56,Tryz.ntmps56
  go_wp2
  go_ret
  exact ⟨ret_int HV.out.symm,rfl⟩
def lenTo (l : List Task) (s : List Int) : Nat → Int
 | 0 => 0
 | k+1 => if lenTo l s k<endN l s k then endN l s k else lenTo l s k
theorem lenTo_bd {l : List Task} (hR : RightT l) {s : List Int} (hl : s.length = l.length) (hs : ∀ x ∈ s,0 ≤ x ∧ x ≤ 1000000) : ∀ k,k ≤ l.length → 0 ≤ lenTo l s k ∧ lenTo l s k ≤ 1010000
 | 0,_ => by simp [lenTo]
 | k+1,hk => by
  have h:=lenTo_bd hR hl hs k (by omega)
  have h1:=hs _ (List.getElem_mem (show k<s.length by omega))
  have h2:=fieldB_len (hR.field k (by omega))
  have e:endN l s k=s[k]+l[k].len:=by unfold endN;rw [atI_get (by omega),lenAt_eq (by omega)]
  unfold lenTo
  split <;> omega
def LengthPost (l:List Task) (s:List Int) (w:World) (e:Ending) (w':World):Prop :=
 Below w.heap.size w w'∧(rightR l=false∧e = .returned (.tuple #[.int .i64 0,.int .i64 1]) ∨
  rightR l=true∧e = .returned (.tuple #[.int .i64 (if startsN l s=0 then lenTo l s l.length else 0),.int .i64 (startsN l s)]))
set_option maxRecDepth 100000 in
set_option maxHeartbeats 4000000 in
theorem schedLength (v u:Value) (l:List Task) (s:List Int) (w:World) (hl:TasksAt w w.heap.size v l) (hs:IntsAt w w.heap.size u s) (hw:Wide s) :
  Calls Tryz.prog 25 #[v,u] w (LengthPost l s w):=by
 have hR:=schedRight v l w hl
 rw [rightW_eq] at hR
 have HG:Hid (∀ w1,Below w.heap.size w w1→Calls Tryz.prog 56 #[v,u] w1 fun e w' => e = .returned (.int .i64 (startsN l s))∧w1=w'):=fun w1 hb =>
  schedGiven43 v u l s w.heap.size w1 (hl.below hb (Nat.le_refl _)) (hs.below hb (Nat.le_refl _)) hw
 have HL:=Lib.hid hl
 have HS:=Lib.hid hs
 obtain ⟨A,cc,rfl,hA1,hA2,-⟩:=hl.open_
 obtain ⟨A',cc',rfl,hA1',hA2',-⟩:=hs.open_
 unfold maxLen at hA2 hA2'
 clear hl hs
 cases hr:rightR l with
 | false =>
  rw [hr] at hR
  have Hr:=Lib.hid hr
  clear hr
  go_enter Tryz.func25,Tryz.ntmps25
  go_wp2_with (go_at_call 62;refine hR.mono ?_;rintro e w1 ⟨rfl,hb1⟩)
  refine bodyPost_ret (results_tmp2 rfl _ _ _) (by rfl) ?_
  exact ⟨hb1,.inl ⟨Hr.out,rfl⟩⟩
 | true =>
  rw [hr] at hR
  have Hr:=Lib.hid hr
  have hRT:=(right_iff l).1 hr
  have h8:=hRT.len
  have HRT:=Lib.hid hRT
  clear hr hRT
  by_cases hst:startsN l s=0
  ·obtain ⟨hlen,hbd⟩:=startsN_zero hst
   have HG':∀ w1,Below w.heap.size w w1→Calls Tryz.prog 56 #[.slice A l.length cc,.slice A' s.length cc'] w1 fun e w' => e = .returned (.int .i64 0)∧w1=w':=fun w1 hb => by
    have:=HG.out w1 hb
    rw [hst] at this
    exact this
   have Hst:=Lib.hid hst
   have HB:=Lib.hid hbd
   have hle1:s.length≤l.length:=by omega
   have hle2:l.length≤s.length:=by omega
   have HLn:=Lib.hid hlen
   clear hst HG hbd hlen
   go_enter Tryz.func25,Tryz.ntmps25
   go_wp2_with (first | (go_at_call 62;refine hR.mono ?_;rintro e w1 ⟨rfl,hb1⟩) | (go_at_call 56;refine (HG' _ hb1).mono ?_;rintro e w2 ⟨rfl,rfl⟩))
   clear HG' hR
   go_loopw [21,7] (fun i m wr => ∃ k:Nat,k≤l.length∧i = .int .i64 k∧m = .int .i64 (lenTo l s k)∧Below w.heap.size w wr) (fun i _ _ => l.length-(intOf i).toNat)
   case atStart => exact ⟨0,Nat.zero_le _,rfl,rfl,hb1⟩
   case round =>
    clear hb1
    obtain ⟨k,hk,rfl,rfl,hbel⟩:=hrel
    have hmb:=lenTo_bd HRT.out HLn.out HB.out k hk
    by_cases hkl:k<l.length
    ·have hks:k<s.length:=by omega
     obtain ⟨b0,off0,rfl,hb0,hcell⟩:=(HL.out.below hbel (Nat.le_refl _)).cells hkl
     obtain ⟨t0,t1,t2,t3,t4⟩:=hcell k hkl
     obtain ⟨A2,c2,e2,-,-,hc2⟩:=(HS.out.below hbel (Nat.le_refl _)).open_
     injection e2 with e2 _ e3
     subst e2 e3
     obtain ⟨b1,off1,rfl,hb1,hc2⟩:=hc2 k hks
     have h1:=hc2 k hks
     have hbk:=HB.out _ (List.getElem_mem hks)
     obtain ⟨hl1,hl2⟩:=fieldB_len (HRT.out.field k hkl)
     have HE:Hid (lenTo l s (k+1)=if lenTo l s k<s[k]+l[k].len then s[k]+l[k].len else lenTo l s k):=by
      have e:endN l s k=s[k]+l[k].len:=by unfold endN;rw [atI_get (by omega),lenAt_eq (by omega)]
      unfold Hid
      rw [lenTo,e]
     have hsz:=hbel.size
     have hbx:=hbel.alloc hbel.size (.cells #[.string l[k].name,.int .i64 l[k].len,.int .i64 l[k].crew,.int .i64 l[k].pow,.slice l[k].ba l[k].bef.length l[k].bc] 41)
     have i1:(0:Int)≤(k:Int):=Int.natCast_nonneg _
     have i2:(k:Int)<(s.length:Int):=by omega
     have w1:IntKind.i64.wrap (s[k]+l[k].len)=s[k]+l[k].len:=IntWalk.i64_in _ (by omega)
     have h1':=(World.cell?_alloc_lt wr (.cells #[.string l[k].name,.int .i64 l[k].len,.int .i64 l[k].crew,.int .i64 l[k].pow,.slice l[k].ba l[k].bef.length l[k].bc] 41) ⟨b1,off1+k,none⟩ (by simp only;omega)).trans h1
     clear hcell hc2
     go_wp2_with fail
     have hy:=World.cell?_alloc_new wr #[.string l[k].name,.int .i64 l[k].len,.int .i64 l[k].crew,.int .i64 l[k].pow,.slice l[k].ba l[k].bef.length l[k].bc] 41
     have y1:=hy 1
     simp only [List.getElem?_toArray,List.getElem?_cons_succ,List.getElem?_cons_zero] at y1
     generalize wr.alloc (.cells #[.string l[k].name,.int .i64 l[k].len,.int .i64 l[k].crew,.int .i64 l[k].pow,.slice l[k].ba l[k].bef.length l[k].bc] 41)=wt at *
     clear hy t0 t1 t2 t3 t4 h1
     by_cases hlt:lenTo l s k<s[k]+l[k].len
     ·have HE':Hid (lenTo l s (k+1)=s[k]+l[k].len):=by unfold Hid;rw [HE.out,if_pos hlt]
      clear HE
      go_quiet (fail)
      go_wp2_with fail
      go_roundw
      case rel => exact ⟨k+1,by omega,by go_num,by rw [HE'.out],below_drewN hbx _⟩
      case measure => simp [intOf];omega
     ·have HE':Hid (lenTo l s (k+1)=lenTo l s k):=by unfold Hid;rw [HE.out,if_neg hlt]
      clear HE
      go_quiet (fail)
      go_wp2_with fail
      go_roundw
      case rel => exact ⟨k+1,by omega,by go_num,by rw [HE'.out],below_drewN hbx _⟩
      case measure => simp [intOf];omega
    ·have hke:k=l.length:=by omega
     subst hke
     go_wp2_with fail
     refine bodyPost_ret (results_tmp2 rfl _ _ _) (by rfl) ?_
     exact ⟨hbel,.inr ⟨Hr.out,by rw [Hst.out];rfl⟩⟩
  ·have Hst:=Lib.hid hst
   have HG':=HG.out
   generalize hx:startsN l s=x at *
   have hb:(x != 0)=true:=by simpa using Hst.out
   have Hx:=Lib.hid hx
   clear hst HG hx
   go_enter Tryz.func25,Tryz.ntmps25
   go_wp2_with (first | (go_at_call 62;refine hR.mono ?_;rintro e w1 ⟨rfl,hb1⟩) | (go_at_call 56;refine (HG' _ hb1).mono ?_;rintro e w2 ⟨rfl,rfl⟩))
   refine bodyPost_ret (results_tmp2 rfl _ _ _) (by rfl) ?_
   exact ⟨hb1,.inr ⟨Hr.out,by rw [Hx.out,if_neg Hst.out];rfl⟩⟩
theorem entersC43:∀ args w,(callFunc 60 args).run Tryz.prog w = .ok (.enter 60 args) w:=enters_of Tryz.func60 (by kernel_rfl) rfl
def lateB (l:List Task) (s:List Int) (i:Nat) (k:Int):Bool:=decide (atI s i<endN l s k.toNat)
def stepOkB (l:List Task) (c p:Int) (s:List Int) (i:Nat):Bool:=wholeB l c p s i && !((rowsOf l).getD i []).any (lateB l s i)
def checkB (l:List Task) (c p:Int) (s:List Int):Bool:=(List.range l.length).all (stepOkB l c p s)
set_option maxRecDepth 100000 in
set_option maxHeartbeats 2000000 in
theorem checkClosure (g B D T I : Nat) (l : List Task) (c p : Int) (tv bv sv : Value) (s : List Int) (i k : Nat) (w : World) (hR : RightT l) (h : PlanR w B g l c p tv bv sv s) (hi : i < l.length) (hk : k < l.length)
  (hD:w.cell? ⟨D,0,none⟩=some (.pointer (some ⟨g,0,none⟩))) (hT:w.cell? ⟨T,0,none⟩=some sv) (hI:w.cell? ⟨I,0,none⟩=some (.int .i64 i)) :
  Calls Tryz.prog 60 #[.int .i64 k,.pointer (some ⟨D,0,none⟩),.pointer (some ⟨T,0,none⟩),.pointer (some ⟨I,0,none⟩)] w fun e w' => e = .returned (.bool (lateB l s i k))∧∃ q,w.drewN q=w':=by
 have hE:=fun q => quiet_left' (planEnd B g l c p tv bv sv s k (w.drewN q) hR (h.drewN q) hk)
 obtain ⟨b1,off1,cap1,rfl,hb1,hl1,hl2,hs⟩:=h.cellS hi
 have h1:=hs i hi
 have i1:(0:Int)≤(i:Int):=Int.natCast_nonneg _
 have i2:(i:Int)<(l.length:Int):=by omega
 have HV:Hid (lateB l s i k=decide (atI s i<endN l s k)):=rfl
 clear hs h hR
 generalize endN l s k=y at *
 generalize atI s i=x at *
 go_enter Tryz.func60,Tryz.ntmps60
 go_wp2_with fail
 go_quiet ((go_at_call 61;exact hE _))
 go_wp2
 go_ret
 exact ⟨ret_bool HV.out.symm,_,rfl⟩
noncomputable def checkE (l:List Task) (c p:Int) (s:List Int):Int:=@ite _ (validB l c p=true) (Classical.propDecidable _) (startsN l s) 1
def CheckPost (l:List Task) (c p:Int) (s:List Int) (w:World) (e:Ending) (w':World):Prop :=
 Below w.heap.size w w'∧e = .returned (.tuple #[.bool (decide (checkE l c p s=0) && checkB l c p s),.int .i64 (checkE l c p s)])
theorem checkE_no {l:List Task} {c p:Int} {s:List Int} (h:validB l c p=false):checkE l c p s=1:=by unfold checkE;rw [h];exact if_neg (by simp)
theorem checkE_yes {l:List Task} {c p:Int} {s:List Int} (h:validB l c p=true):checkE l c p s=startsN l s:=by unfold checkE;rw [h];exact if_pos rfl
theorem valid_right {l:List Task} {c p:Int} (h:validB l c p=true):RightT l∧0≤c∧c≤1000∧0≤p∧p≤1000:=by
 unfold validB betweenB at h
 simp only [Bool.and_eq_true,decide_eq_true_eq] at h
 exact ⟨(right_iff l).1 h.1.1,h.1.2.1,h.1.2.2,h.2.1,h.2.2⟩
theorem mem_row {l:List Task} (hR:RightT l) {k:Nat} (hk:k<l.length) {x:Int} (hx:x ∈ pls l l[k].bef):∃ j:Nat,j<l.length∧x=(j:Int):=by
 unfold pls at hx
 rw [List.mem_map] at hx
 obtain ⟨s,hs,rfl⟩:=hx
 obtain ⟨j,hj,e,-⟩:=pl_mem (((befOK_iff l).1 hR.bef l[k] (List.getElem_mem hk)).2 s hs).1
 exact ⟨j,hj,e⟩
theorem own_setBlk {w:World} {B e s n g i:Nat} {v u:Value} {xs:List Value} {t:TypeId} {cs:Array Value} (h:w.ownsRow B e s v n xs) (hg:Blk w g t cs) (hne:e≠t):(w.setCell ⟨g,i,none⟩ u).ownsRow B e s v n xs :=
 h.kept (hg.setGrown i u) (.inr fun x => (hg.ne_own h hne) x.symm)
theorem BefRows.setBlk {w:World} {base O g i:Nat} {l:List Task} {k:Nat} {cs:List Value} {u:Value} {t:TypeId} {gs:Array Value} (h:BefRows w base O l k cs) (hg:Blk w g t gs) (h1:3≠t) (h2:22≠t):BefRows (w.setCell ⟨g,i,none⟩ u) base O l k cs :=
 ⟨own_setBlk h.own hg h2,fun j hj hc hjk => own_setBlk (h.rows j hj hc hjk) hg h1,h.rest⟩
theorem BefRows.cs_len {w:World} {base O:Nat} {l:List Task} {k:Nat} {cs:List Value} (h:BefRows w base O l k cs):cs.length=l.length:=own_len h.own
structure CheckSt (w:World) (W g D T:Nat) (l:List Task) (c p:Int) (tv bv sv:Value) (s:List Int) (O:Nat) (cs:List Value):Prop where
 plan:PlanR w W g l c p tv bv sv s
 hD:w.cell? ⟨D,0,none⟩=some (.pointer (some ⟨g,0,none⟩))
 hT:w.cell? ⟨T,0,none⟩=some sv
 rows:BefRows w 0 O l l.length cs
 lt:D<W∧T<W∧O<W∧W=w.heap.size
theorem all_range_succ {f:Nat→Bool} {k:Nat}:(List.range (k+1)).all f=((List.range k).all f && f k):=by rw [List.range_succ,List.all_append];simp
theorem all_range_no {f:Nat→Bool} {k n:Nat} (hk:k<n) (h:f k=false):(List.range n).all f=false:=by
 rw [List.all_eq_false]
 exact ⟨k,List.mem_range.2 hk,by simp [h]⟩
set_option maxRecDepth 100000 in
set_option maxHeartbeats 8000000 in
theorem schedCheck (v u:Value) (l:List Task) (c p:Int) (s:List Int) (w:World) (hl:TasksAt w w.heap.size v l) (hs:IntsAt w w.heap.size u s) (hw:Wide s) :
  Calls Tryz.prog 24 #[v,.int .i64 c,.int .i64 p,u] w (CheckPost l c p s w):=by
 have HT:Hid (∀ w1,Below w.heap.size w w1→TasksAt w1 w1.heap.size v l):=fun w1 hb => (hl.below hb (Nat.le_refl _)).mono hb.size
 have HS:Hid (∀ w1,Below w.heap.size w w1→IntsAt w1 w1.heap.size u s):=fun w1 hb => (hs.below hb (Nat.le_refl _)).mono hb.size
 have hV:∀ o,Calls Tryz.prog 55 #[v,.int .i64 c,.int .i64 p] (w.alloc o) fun e w' => e = .returned (.bool (validB l c p))∧Below (w.alloc o).heap.size (w.alloc o) w':=fun o => schedValid v l c p _ (HT.out _ ((Below.refl _ _).alloc (Nat.le_refl _) o))
 have HG:Hid (∀ w1,Below w.heap.size w w1→Calls Tryz.prog 56 #[v,u] w1 fun e w' => e = .returned (.int .i64 (startsN l s))∧w1=w'):=fun w1 hb =>
  schedGiven43 v u l s w1.heap.size w1 (HT.out w1 hb) (HS.out w1 hb) hw
 have hb0:∀ o,Below w.heap.size w (w.alloc o):=fun o => (Below.refl _ _).alloc (Nat.le_refl _) o
 obtain ⟨A,cc,rfl,hA1,hA2,-⟩:=hl.open_
 obtain ⟨A',cc',rfl,hA1',hA2',-⟩:=hs.open_
 unfold maxLen at hA2 hA2'
 clear hl hs
 cases hv:validB l c p with
 | false =>
  have HE:Hid (checkE l c p s=1):=checkE_no hv
  rw [hv] at hV
  clear hv HG
  go_enter Tryz.func24,Tryz.ntmps24
  go_wp2_with fail
  refine (hV _).mono ?_
  rintro e w1 ⟨rfl,hb1⟩
  go_wp2_with fail
  refine bodyPost_ret (results_tmp2 rfl _ _ _) (by rfl) ?_
  exact ⟨(hb0 _).trans (hb1.mono (by simp)),by rw [HE.out];rfl⟩
 | true =>
  have HE:Hid (checkE l c p s=startsN l s):=checkE_yes hv
  obtain ⟨hR,hc0,hc1,hp0,hp1⟩:=valid_right hv
  have HRT:=Lib.hid hR
  have h8:=hR.len
  rw [hv] at hV
  clear hv hR
  by_cases hst:startsN l s=0
  rotate_left
  ·have Hst:=Lib.hid hst
   have HG':=HG.out
   generalize hx:startsN l s=x at *
   have hb:(x != 0)=true:=by simpa using Hst.out
   have Hx:=Lib.hid hx
   clear hst HG hx
   go_enter Tryz.func24,Tryz.ntmps24
   go_wp2_with fail
   refine (hV _).mono ?_
   rintro e w1 ⟨rfl,hb1⟩
   have hbx:=(hb0 (.cells #[.slice A' s.length cc'] 22)).trans (hb1.mono (by simp))
   have z1:=hb1.cell (p:=⟨w.heap.size,0,none⟩) (by simp)
   rw [World.cell?_alloc_new] at z1
   simp only [List.getElem?_toArray,List.getElem?_cons_zero] at z1
   have hg:=HG' w1 hbx
   clear HG' hV hb1
   go_wp2_with fail
   refine hg.mono ?_
   rintro e w2 ⟨rfl,rfl⟩
   go_wp2_with fail
   refine bodyPost_ret (results_tmp2 rfl _ _ _) (by rfl) ?_
   refine ⟨hbx,?_⟩
   rw [HE.out,decide_eq_false Hst.out]
   rfl
  ·obtain ⟨hlen,hbd⟩:=startsN_zero hst
   have HG':∀ w1,Below w.heap.size w w1→Calls Tryz.prog 56 #[.slice A l.length cc,.slice A' s.length cc'] w1 fun e w' => e = .returned (.int .i64 0)∧w1=w':=fun w1 hb => by
    have:=HG.out w1 hb
    rw [hst] at this
    exact this
   have HE0:Hid (checkE l c p s=0):=by unfold Hid;rw [HE.out,hst]
   have HLn:=Lib.hid hlen
   have HBd:=Lib.hid hbd
   clear hst HG HE hlen hbd
   go_enter Tryz.func24,Tryz.ntmps24
   go_wp2_with fail
   refine (hV _).mono ?_
   rintro e w1 ⟨rfl,hb1⟩
   have hbx:=(hb0 (.cells #[.slice A' s.length cc'] 22)).trans (hb1.mono (by simp))
   have z1:=hb1.cell (p:=⟨w.heap.size,0,none⟩) (by simp)
   rw [World.cell?_alloc_new] at z1
   simp only [List.getElem?_toArray,List.getElem?_cons_zero] at z1
   have hzs:=hb1.size
   simp only [World.size_alloc] at hzs
   have hg:=HG' w1 hbx
   clear HG' hV hb1
   go_wp2_with fail
   refine hg.mono ?_
   rintro e w2 ⟨rfl,rfl⟩
   clear hg
   go_wp2_with fail
   refine (schedNewPlan _ l c p w1 HRT.out (HT.out _ hbx)).mono ?_
   rintro e w3 ⟨g,O,S,cs,rfl,hnp,hb3⟩
   have hb4:=hb3.alloc hb3.size (.cells #[.pointer (some ⟨g,0,none⟩)] 92)
   have hblk:=hnp.blk
   have hgl:=hblk.lt
   have z3:=(hb4.cell (p:=⟨w.heap.size,0,none⟩) (by simp only;omega)).trans z1
   have hfz:=(hblk.alloc (.cells #[.pointer (some ⟨g,0,none⟩)] 92)).frozen 4
   have hcz:=(hblk.alloc (.cells #[.pointer (some ⟨g,0,none⟩)] 92)).cell 4
   simp only [List.getElem?_toArray,List.getElem?_cons_succ,List.getElem?_cons_zero] at hcz
   have hzD:=World.cell?_alloc_new w3 #[.pointer (some ⟨g,0,none⟩)] 92 0
   simp only [List.getElem?_toArray,List.getElem?_cons_zero] at hzD
   have hST:CheckSt ((w3.alloc (.cells #[.pointer (some ⟨g,0,none⟩)] 92)).setCell ⟨g,4,none⟩ (.slice A' s.length cc')) (w3.heap.size+1) g w3.heap.size w.heap.size l c p (.slice A l.length cc) (.slice (some ⟨O,0,none⟩) l.length l.length) (.slice A' s.length cc') s O cs:=by
    have hbA:=hblk.alloc (.cells #[.pointer (some ⟨g,0,none⟩)] 92)
    have hset:Below w1.heap.size w1 ((w3.alloc (.cells #[.pointer (some ⟨g,0,none⟩)] 92)).setCell ⟨g,4,none⟩ (.slice A' s.length cc')):=hb4.setCell (p:=⟨g,4,none⟩) hnp.hg _
    have hall:=hbx.trans (hset.mono hbx.size)
    have hsz:((w3.alloc (.cells #[.pointer (some ⟨g,0,none⟩)] 92)).setCell ⟨g,4,none⟩ (.slice A' s.length cc')).heap.size=w3.heap.size+1:=by simp [World.setCell]
    have hrw:=(hnp.rows.alloc (.cells #[.pointer (some ⟨g,0,none⟩)] 92)).setBlk (i:=4) (u:=.slice A' s.length cc') hbA (by decide) (by decide)
    refine ⟨⟨hbA.set_ 4 _,by omega,?_,?_,HLn.out,fun x hx => by have:=HBd.out x hx;omega⟩,?_,?_,own_mono_rows hrw (Nat.zero_le _),⟨by omega,by have:=hb3.size;omega,?_,hsz.symm⟩⟩
    ·rw [← hsz];exact HT.out _ hall
    ·rw [← hsz];exact HS.out _ hall
    ·exact (World.cell?_setCell_other _ ⟨g,4,none⟩ ⟨w3.heap.size,0,none⟩ _ (by intro e;injection e with e1;omega)).trans hzD
    ·rw [hset.cell (p:=⟨w.heap.size,0,none⟩) (by simp only;omega)]
     exact z1
    ·rcases hnp.rows.own.2 with ⟨h,_⟩ | ⟨g',cap,cur,h,_,hh,_⟩
     ·cases h
     ·injection h with h
      injection h with h
      injection h with h
      subst h
      have:=(Array.getElem?_eq_some_iff.1 hh).1
      omega
   have hall:Below w.heap.size w ((w3.alloc (.cells #[.pointer (some ⟨g,0,none⟩)] 92)).setCell ⟨g,4,none⟩ (.slice A' s.length cc')):=hbx.trans ((hb4.setCell (p:=⟨g,4,none⟩) hnp.hg _).mono hbx.size)
   rw [World.setCell_alloc_past _ _ _ _ hgl] at hST hall
   have HST:=Lib.hid hST
   clear hST hnp hb3 hb4 hblk HBd
   go_wp2_with fail
   generalize ((w3.setCell ⟨g,4,none⟩ (.slice A' s.length cc')).alloc (.cells #[.pointer (some ⟨g,0,none⟩)] 92))=w4 at *
   generalize w3.heap.size=D at *
   clear hcz hfz hzD z3 z1
   go_loopw [34] (fun i wr => ∃ k:Nat,k≤l.length∧i = .int .i64 k∧Hid ((List.range k).all (stepOkB l c p s)=true)∧Below w4.heap.size w4 wr) (fun i _ => l.length-(intOf i).toNat)
   case atStart => exact ⟨0,Nat.zero_le _,rfl,rfl,Below.refl _ _⟩
   case round =>
    obtain ⟨k,hk,rfl,HN,hbel⟩:=hrel
    by_cases hkl:k<l.length
    ·have hbx:=hbel.alloc hbel.size (.cells #[.int .i64 k] 3)
     have hsz:=hbel.size
     have hST:=HST.out
     obtain ⟨hPlan,hD,hT,hRows,hD1,hT1,hO1,hW4⟩:=hST
     rw [hW4] at hPlan hD1 hT1 hO1
     have hcsl:=hRows.cs_len
     have hrow:=hRows.rows k hkl (by omega) hkl
     have hcO:=hRows.own.cellAt k (by omega)
     have xD:=(hbx.cell (p:=⟨D,0,none⟩) hD1).trans hD
     have xT:=(hbx.cell (p:=⟨w.heap.size,0,none⟩) hT1).trans hT
     have xg:=(hbx.cell (p:=⟨g,1,none⟩) hPlan.hg).trans (hPlan.blk.cell 1)
     have xO:=(hbx.cell (p:=⟨O,k,none⟩) hO1).trans hcO
     have xI:=World.cell?_alloc_new wr #[.int .i64 k] 3 0
     simp only [List.getElem?_toArray,List.getElem?_cons_succ,List.getElem?_cons_zero] at xg xI
     rw [List.getElem?_eq_getElem (by omega)] at xO
     have hrowAt:RowAt (Value.int .i64) w4 w4.heap.size (cs[k]'(by omega)) (pls l l[k].bef):=RowAt.of_own (n:=l[k].bef.length) hrow
     have HW:Hid (∀ w',Below w4.heap.size w4 w'→Calls Tryz.prog 58 #[.pointer (some ⟨g,0,none⟩),.int .i64 k] w' fun e w'' => e = .returned (.bool (wholeB l c p s k))∧Below w'.heap.size w' w''):=fun w' hb =>
      planWhole g l c p _ _ _ s k w' HRT.out ((hPlan.below hb).mono hb.size) hkl
     have HC : Hid (∀ w',Below w4.heap.size w4 w' → w'.cell? ⟨wr.heap.size,0,none⟩ = some (.int .i64 k) → wr.heap.size < w'.heap.size → Calls Tryz.prog 59 #[cs[k]'(by omega),.func (.func 60) #[] #[.pointer (some ⟨D,0,none⟩),.pointer (some ⟨w.heap.size,0,none⟩),.pointer (some ⟨wr.heap.size,0,none⟩)]] w'
       fun e w'' => e = .returned (.bool ((pls l l[k].bef).any (lateB l s k)))∧Below w'.heap.size w' w''):=fun w' hb hI hIl => by
      refine containsFuncInt _ (pls l l[k].bef) 60 #[.pointer (some ⟨D,0,none⟩),.pointer (some ⟨w.heap.size,0,none⟩),.pointer (some ⟨wr.heap.size,0,none⟩)] (lateB l s k) entersC43 w' ((hrowAt.below hb (Nat.le_refl _)).mono hb.size) ?_
      intro x hx w'' hb''
      obtain ⟨j,hj,rfl⟩:=mem_row HRT.out hkl hx
      have hbb:=hb.trans (hb''.mono hb.size)
      refine (checkClosure g w4.heap.size D w.heap.size wr.heap.size l c p _ _ _ s k j w'' HRT.out (hPlan.below hbb) hkl hj ((hbb.cell (p:=⟨D,0,none⟩) hD1).trans hD) ((hbb.cell (p:=⟨w.heap.size,0,none⟩) hT1).trans hT) ((hb''.cell (p:=⟨wr.heap.size,0,none⟩) hIl).trans hI)).mono ?_
      rintro e w5 ⟨he,q,rfl⟩
      exact ⟨he,below_drewN (Below.refl _ _) q⟩
     have HStep:Hid (stepOkB l c p s k=(wholeB l c p s k && !(pls l l[k].bef).any (lateB l s k))):=by unfold Hid stepOkB;rw [getD_rows hkl]
     have HNext:Hid (stepOkB l c p s k=true→(List.range (k+1)).all (stepOkB l c p s)=true):=fun h => by rw [all_range_succ,HN.out,h];rfl
     have HNo:Hid (stepOkB l c p s k=false→checkB l c p s=false):=fun h => all_range_no hkl h
     have i1:(0:Int)≤(k:Int):=Int.natCast_nonneg _
     have i2:(k:Int)<(l.length:Int):=by omega
     clear hPlan hD hT hRows hcO hrow hrowAt HN
     generalize (pls l l[k].bef).any (lateB l s k)=lt at *
     generalize wholeB l c p s k=wh at *
     generalize stepOkB l c p s k=ok at *
     generalize cs[k]'(by omega)=rowv at *
     go_wp2_with fail
     have hwx:wr.heap.size<(wr.alloc (.cells #[.int .i64 k] 3)).heap.size:=by simp
     generalize wr.alloc (.cells #[.int .i64 k] 3)=wx at *
     generalize wr.heap.size=I at *
     have hW:=HeldB.call (fun w' (hb:Below wx.heap.size wx w') => HW.out w' (hbx.trans (hb.mono hbx.size)))
     have hC:=HeldB.call (fun w' (hb:Below wx.heap.size wx w') => HC.out w' (hbx.trans (hb.mono hbx.size)) ((hb.cell (p:=⟨I,0,none⟩) hwx).trans xI) (Nat.lt_of_lt_of_le hwx hb.size))
     have yD:=HeldB.cell xD
     have yI:=HeldB.cell xI
     have yg:=HeldB.cell xg
     have yO:=HeldB.cell xO
     clear HW HC
     cases wh with
     | false =>
      have HB:Hid (checkB l c p s=false):=HNo.out (by rw [HStep.out];rfl)
      clear HNo HNext HStep
      refine wp_region_heldb (by kernel_rfl) (by kernel_rfl) ?_
      repeat (go_big_quiet_step ((go_at_call 58;exact hW _)))
      refine wpQuiet_nil ?_
      rintro _ ⟨⟨w5,hb5⟩,rfl⟩
      clear yD yI yg yO hW hC
      go_wp2_with fail
      refine bodyPost_ret (results_tmp2 rfl _ _ _) (by rfl) ?_
      refine ⟨hall.trans ((hbx.trans (hb5.mono hbx.size)).mono hall.size),?_⟩
      rw [HE0.out,HB.out]
      rfl
     | true =>
      cases lt with
      | false =>
       have hN:=Lib.hid (HNext.out (by rw [HStep.out];rfl))
       clear HNo HNext HStep
       refine wp_region_heldb (by kernel_rfl) (by kernel_rfl) ?_
       repeat (go_big_quiet_step ((first | (go_at_call 58;exact hW _) | (go_at_call 59;exact hC _))))
       refine wpQuiet_nil ?_
       rintro _ ⟨⟨w5,hb5⟩,rfl⟩
       clear yD yI yg yO hW hC
       go_wp2_with fail
       go_roundw
       case rel => exact ⟨k+1,by omega,by go_num,hN,hbx.trans (hb5.mono hbx.size)⟩
       case measure => simp [intOf];omega
      | true =>
       have HB:Hid (checkB l c p s=false):=HNo.out (by rw [HStep.out];rfl)
       clear HNo HNext HStep
       refine wp_region_heldb (by kernel_rfl) (by kernel_rfl) ?_
       repeat (go_big_quiet_step ((first | (go_at_call 58;exact hW _) | (go_at_call 59;exact hC _))))
       refine wpQuiet_nil ?_
       rintro _ ⟨⟨w5,hb5⟩,rfl⟩
       clear yD yI yg yO hW hC
       go_wp2_with fail
       refine bodyPost_ret (results_tmp2 rfl _ _ _) (by rfl) ?_
       refine ⟨hall.trans ((hbx.trans (hb5.mono hbx.size)).mono hall.size),?_⟩
       rw [HE0.out,HB.out]
       rfl
    ·have hke:k=l.length:=by omega
     subst hke
     have HV:Hid (checkB l c p s=true):=HN.out
     go_wp2_with fail
     refine bodyPost_ret (results_tmp2 rfl _ _ _) (by rfl) ?_
     refine ⟨hall.trans (hbel.mono hall.size),?_⟩
     rw [HE0.out,HV.out]
     rfl
structure PlanO (w:World) (B g:Nat) (l:List Task) (c p:Int) (tv:Value) (O S:Nat) (cs:List Value) (s:List Int):Prop where
 blk:Blk w g 96 #[tv,.slice (some ⟨O,0,none⟩) l.length l.length,.int .i64 c,.int .i64 p,.slice (some ⟨S,0,none⟩) l.length l.length]
 rows:BefRows w B O l l.length cs
 st:Blk w S 3 (s.map (Value.int .i64)).toArray
 tasks:TasksAt w B tv l
 len:s.length=l.length
 bd:∀ x ∈ s,-1≤x∧x≤1000000
 low:B≤g∧B≤S∧B≤w.heap.size
 apart:∀ j (hj:j<cs.length),cs[j].ownBlock≠some S
section
variable {w w':World} {B g O S:Nat} {l:List Task} {c p:Int} {tv:Value} {cs:List Value} {s:List Int}
theorem PlanO.below (h:PlanO w B g l c p tv O S cs s) (hb:Below w.heap.size w w'):PlanO w' B g l c p tv O S cs s :=
 ⟨h.blk.below hb h.blk.lt,h.rows.below hb,h.st.below hb h.st.lt,h.tasks.below hb h.low.2.2,h.len,h.bd,⟨h.low.1,h.low.2.1,Nat.le_trans h.low.2.2 hb.size⟩,h.apart⟩
theorem PlanO.set (h:PlanO w B g l c p tv O S cs s) {i:Nat} {t:Int} (ht : -1≤t∧t≤1000000):PlanO (w.setCell ⟨S,i,none⟩ (.int .i64 t)) B g l c p tv O S cs (s.set i t):=by
 have hgS:some g≠some S:=by
  intro e
  injection e with e
  have h1:=h.blk
  have h2:=h.st
  rw [e] at h1
  unfold Blk at h1 h2
  rw [h1] at h2
  injection h2 with h2
  injection h2 with _ h3
  exact absurd h3 (by decide)
 have hgr:=h.st.setGrown i (.int .i64 t)
 have hOS:(Value.slice (some ⟨O,0,none⟩) l.length l.length).ownBlock≠some S:=fun e => (h.st.ne_own h.rows.own (by decide)) e.symm
 refine ⟨h.blk.kept hgr hgS,⟨h.rows.own.kept hgr (.inr hOS),fun j hj hc hji => (h.rows.rows j hj hc hji).kept hgr (.inr (h.apart j hc)),h.rows.rest⟩,?_,?_,by simpa using h.len,?_,?_,h.apart⟩
 ·have:=h.st.set_ i (.int .i64 t)
  rwa [show ((s.map (Value.int .i64)).toArray.setIfInBounds i (.int .i64 t))=((s.set i t).map (Value.int .i64)).toArray by simp [List.map_set]] at this
 ·exact h.tasks.below ((Below.refl B w).setCell (p:=⟨S,i,none⟩) h.low.2.1 _) (Nat.le_refl _)
 ·intro x hx
  rcases List.mem_or_eq_of_mem_set hx with hx | rfl
  ·exact h.bd x hx
  ·exact ht
 ·refine ⟨h.low.1,h.low.2.1,?_⟩
  have:=h.low.2.2
  simp [World.setCell]
  omega
theorem PlanO.cell (h:PlanO w B g l c p tv O S cs s) {i:Nat} (hi:i<l.length):w.cell? ⟨S,i,none⟩=some (.int .i64 (atI s i))∧w.frozen? ⟨S,i,none⟩=false:=by
 have hl:=h.len
 refine ⟨?_,h.st.frozen i⟩
 rw [h.st.cell i,atI_get (by omega)]
 simp
theorem PlanO.row (h:PlanO w B g l c p tv O S cs s) {i:Nat} (hi:i<l.length):∃ v,w.cell? ⟨O,i,none⟩=some v∧RowAt (Value.int .i64) w w.heap.size v (pls l l[i].bef):=by
 have hc:=h.rows.cs_len
 refine ⟨cs[i],?_,RowAt.of_own (n:=l[i].bef.length) (h.rows.rows i hi (by omega) hi)⟩
 rw [h.rows.own.cellAt i (by omega),List.getElem?_eq_getElem]
end
end Go.Proofs.YtfhmbechennkbaaGreat
