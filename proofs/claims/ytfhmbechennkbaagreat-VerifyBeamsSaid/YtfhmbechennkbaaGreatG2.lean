/- Parts of the proof, laid into one text: Grow, Path, Ref44, Greedy, Given, Work, WorkW. -/
import Derived.Deep.RegionHeld3
import Derived.Laws.EntriesVeiled
import Derived.Test.YtfhmbechennkbaaGreatG1
namespace Go.Proofs.YtfhmbechennkbaaGreat
open Go.RowKit Go.Shelf
def ints (x:List Nat):List Int:=x.map Int.ofNat
def nats (x:List Nat):List Value:=(ints x).map (Value.int .i64)
theorem nats_snoc (x:List Nat) (i:Nat):nats (x ++ [i])=nats x ++ [.int .i64 (i:Int)]:=by simp [nats,ints]
theorem length_ints (x:List Nat):(ints x).length=x.length:=by simp [ints]
theorem nats_get (x:List Nat) (i:Nat) (h:i<x.length):(nats x)[i]? = some (.int .i64 (x[i]:Nat)):=by simp [nats,ints,h]
theorem blk4 {w:World} {g:Nat} {t:TypeId} {a b c d:Value} (h:Blk w g t #[a,b,c,d]) :
  w.cell? ⟨g,0,none⟩=some a∧w.cell? ⟨g,1,none⟩=some b∧w.cell? ⟨g,2,none⟩=some c∧w.cell? ⟨g,3,none⟩=some d ∧
   w.frozen? ⟨g,0,none⟩=false∧w.frozen? ⟨g,1,none⟩=false∧w.frozen? ⟨g,2,none⟩=false∧w.frozen? ⟨g,3,none⟩=false :=
 ⟨h.cell 0,h.cell 1,h.cell 2,h.cell 3,h.frozen 0,h.frozen 1,h.frozen 2,h.frozen 3⟩
theorem cloneIntPos (v:Value) (l:List Int) (w:World) (hl:IntsAt w w.heap.size v l) (hlen:l.length≤1000000) (hpos:0<l.length) :
  Calls Tryz.prog 126 #[v] w fun e w' => ∃ g c,e = .returned (.slice (some ⟨g,0,none⟩) l.length c)∧w.heap.size≤g∧w'.ownsRow w.heap.size 3 1 (.slice (some ⟨g,0,none⟩) l.length c) l.length (l.map (Value.int .i64))∧Below w.heap.size w w' :=
 (cloneInt v l w hl hlen).mono fun e w' ⟨v',he,hown,hb⟩ => by
  obtain ⟨g,c,rfl,hg,-⟩:=hown.form hpos
  exact ⟨g,c,he,hg,hown,hb⟩
structure GrowSt (w:World) (B g:Nat) (lv:Value) (l:List Task) (x:List Nat) (L:Int) (y:List Nat) (nowv bestv:Value):Prop where
 hg:B≤g
 blk:Blk w g 133 #[lv,nowv,bestv,.int .i64 L]
 now:w.ownsRow B 3 1 nowv x.length (nats x)
 best:w.ownsRow B 3 1 bestv y.length (nats y)
 apart:bestv.ownBlock=none∨bestv.ownBlock≠nowv.ownBlock
 tasks:TasksAt w B lv l
 size:B≤w.heap.size
theorem GrowSt.visited {w w1 : World} {B g g1 c1 : Nat} {lv nowv bestv : Value} {l : List Task} {x y : List Nat} {L L' : Int} (h : GrowSt w B g lv l x L y nowv bestv) (hb : Below w.heap.size w w1) (hg : w.heap.size ≤ g1)
  (hown:w1.ownsRow w.heap.size 3 1 (.slice (some ⟨g1,0,none⟩) x.length c1) x.length (nats x)) (hpos:0<x.length) :
  GrowSt ((w1.setCell ⟨g,3,none⟩ (.int .i64 L')).setCell ⟨g,2,none⟩ (.slice (some ⟨g1,0,none⟩) x.length c1)) B g lv l x L' x nowv (.slice (some ⟨g1,0,none⟩) x.length c1):=by
 have hb1:=h.blk.below hb h.blk.lt
 have hb2:=hb1.set_ 3 (.int .i64 L')
 have hb3:=hb2.set_ 2 (.slice (some ⟨g1,0,none⟩) x.length c1)
 have gr1:=hb1.setGrown 3 (.int .i64 L')
 have gr2:=hb2.setGrown 2 (.slice (some ⟨g1,0,none⟩) x.length c1)
 have g12:=grown_trans gr1 gr2
 have hnow1:=h.now.kept (grown_below (row:=none) hb) (by cases hv:nowv.ownBlock <;> simp)
 have hne:∀ {v:Value} {n:Nat} {xs:List Value},w1.ownsRow B 3 1 v n xs→v.ownBlock=none∨v.ownBlock≠some g:=fun {v n xs} ho => by
  have:=hb1.ne_own ho (by decide)
  exact .inr (fun e => this e.symm)
 have hown':=own_mono hown h.size
 refine ⟨h.hg,hb3,hnow1.kept g12 (hne hnow1),hown'.kept g12 (hne hown'),?_,?_,?_⟩
 ·right
  obtain ⟨gn,cn,rfl,_,hlt⟩:=h.now.form hpos
  simp [Value.ownBlock]
  omega
 ·have hbel:Below B w ((w1.setCell ⟨g,3,none⟩ (.int .i64 L')).setCell ⟨g,2,none⟩ (.slice (some ⟨g1,0,none⟩) x.length c1)) :=
   ((hb.mono h.size).setCell (p:=⟨g,3,none⟩) h.hg _).setCell (p:=⟨g,2,none⟩) h.hg _
  exact h.tasks.below hbel (Nat.le_refl _)
 ·have:=hb.size
  have:=h.size
  simp [World.setCell]
  omega
theorem GrowSt.pushed {w w3 : World} {B g i g3 c3 : Nat} {lv nowv bestv : Value} {l : List Task} {x y : List Nat} {L : Int} (h : GrowSt w B g lv l x L y nowv bestv) (hown : w3.ownsRow B 3 1 (.slice (some ⟨g3,0,none⟩) (x.length + 1) c3) (x.length + 1) (nats x ++ [.int .i64 i]))
  (hg:w.grownBy w3 nowv.ownBlock) (hgg:nowv.ownBlock=some g3∨w.heap.size≤g3) :
  GrowSt (w3.setCell ⟨g,1,none⟩ (.slice (some ⟨g3,0,none⟩) (x.length+1) c3)) B g lv l (x ++ [i]) L y (.slice (some ⟨g3,0,none⟩) (x.length+1) c3) bestv:=by
 have hb3:=h.blk.kept hg (h.blk.ne_own h.now (by decide))
 have hb4:=hb3.set_ 1 (.slice (some ⟨g3,0,none⟩) (x.length+1) c3)
 have gr4:=hb3.setGrown 1 (.slice (some ⟨g3,0,none⟩) (x.length+1) c3)
 have hbest3:=h.best.kept hg h.apart
 have hne:∀ {v:Value} {n:Nat} {xs:List Value},w3.ownsRow B 3 1 v n xs→v.ownBlock=none∨v.ownBlock≠some g:=fun {v n xs} ho => by
  have:=hb3.ne_own ho (by decide)
  exact .inr (fun e => this e.symm)
 have hbel3:Below B w w3:=(Below.refl B w).grown hg h.size (fun k hk => (h.now.lt k hk).1)
 refine ⟨h.hg,hb4,?_,hbest3.kept gr4 (hne hbest3),?_,?_,?_⟩
 ·rw [List.length_append,List.length_singleton,nats_snoc]
  exact hown.kept gr4 (hne hown)
 ·rcases h.apart with e | e
  ·exact .inl e
  ·right
   intro e'
   rcases hgg with hgg | hgg
   ·exact e (e'.trans hgg.symm)
   ·have:=(h.best.lt g3 e').2
    omega
 ·exact h.tasks.below (hbel3.setCell (p:=⟨g,1,none⟩) h.hg _) (Nat.le_refl _)
 ·have:=hbel3.size
  have:=h.size
  simp [World.setCell]
  omega
theorem GrowSt.popped {w:World} {B g i g3 c3:Nat} {lv bestv:Value} {l:List Task} {x y:List Nat} {L:Int} (h:GrowSt w B g lv l (x ++ [i]) L y (.slice (some ⟨g3,0,none⟩) (x.length+1) c3) bestv) :
  GrowSt (w.setCell ⟨g,1,none⟩ (.slice (some ⟨g3,0,none⟩) x.length c3)) B g lv l x L y (.slice (some ⟨g3,0,none⟩) x.length c3) bestv:=by
 have hb4:=h.blk.set_ 1 (.slice (some ⟨g3,0,none⟩) x.length c3)
 have gr4:=h.blk.setGrown 1 (.slice (some ⟨g3,0,none⟩) x.length c3)
 have hne:∀ {v:Value} {n:Nat} {xs:List Value},w.ownsRow B 3 1 v n xs→v.ownBlock=none∨v.ownBlock≠some g:=fun {v n xs} ho => by
  have:=h.blk.ne_own ho (by decide)
  exact .inr (fun e => this e.symm)
 have hnow:=h.now
 rw [List.length_append,List.length_singleton,nats_snoc] at hnow
 have hpop:=own_pop (by simp [nats,ints]) hnow
 refine ⟨h.hg,hb4,hpop.kept gr4 (hne hpop),h.best.kept gr4 (hne h.best),h.apart,?_,?_⟩
 ·exact h.tasks.below ((Below.refl B w).setCell (p:=⟨g,1,none⟩) h.hg _) (Nat.le_refl _)
 ·have:=h.size
  simp [World.setCell]
  omega
theorem GrowSt.alloc {w:World} {B g:Nat} {lv nowv bestv:Value} {l:List Task} {x y:List Nat} {L:Int} (h:GrowSt w B g lv l x L y nowv bestv) (o:Obj):GrowSt (w.alloc o) B g lv l x L y nowv bestv :=
 ⟨h.hg,h.blk.alloc o,h.now.alloc o,h.best.alloc o,h.apart,h.tasks.below ((Below.refl B w).alloc h.size o) (Nat.le_refl _),by have:=h.size;simp;omega⟩
theorem GrowSt.drewN {w:World} {B g:Nat} {lv nowv bestv:Value} {l:List Task} {x y:List Nat} {L:Int} (h:GrowSt w B g lv l x L y nowv bestv) (n:Nat):GrowSt (w.drewN n) B g lv l x L y nowv bestv :=
 ⟨h.hg,h.blk,h.now,h.best,h.apart,h.tasks.drewN n,h.size⟩
theorem GrowSt.last {w:World} {B g gn c cap:Nat} {A:Option Addr} {bestv:Value} {l:List Task} {x y:List Nat} {L:Int} (h:GrowSt w B g (.slice A l.length c) l x L y (.slice (some ⟨gn,0,none⟩) x.length cap) bestv) (hx:x≠[]) (hc:Chain l x) :
  ∃ m,∃ hm:m<l.length,x.getLast hx=m∧w.cell? ⟨gn,x.length-1,none⟩=some (.int .i64 (m:Nat))∧∃ b off,A=some ⟨b,off,none⟩∧b<B∧w.cell? ⟨b,off+m*5,none⟩=some (.string l[m].name):=by
 have hpos:0<x.length:=List.length_pos_iff.2 hx
 have hm:=hc.1 _ (List.getElem_mem (show x.length-1<x.length by omega))
 obtain ⟨b,off,hA,hb,hcell⟩:=h.tasks.cells hm
 refine ⟨x[x.length-1],hm,List.getLast_eq_getElem ..,?_,b,off,hA,hb,(hcell _ hm).1⟩
 rw [h.now.cellAt (x.length-1) (by omega),nats_get x _ (by omega)]
theorem GrowSt.box {w w3 : World} {B g gn n cap : Nat} {lv bestv : Value} {l : List Task} {x y : List Nat} {L : Int} {cs : Array Value} {t : TypeId} (h : GrowSt w B g lv l x L y (.slice (some ⟨gn,0,none⟩) n cap) bestv)
  (hg:(w.alloc (.cells cs t)).grownBy w3 (Value.ownBlock (.slice (some ⟨gn,0,none⟩) n cap))) (i:Nat):w3.cell? ⟨w.heap.size,i,none⟩=cs[i]?:=by
 have hlt:=(h.now.lt gn rfl).2
 exact ((Blk.new w t cs).kept hg (by simp [Value.ownBlock];omega)).cell i
def GrowPost (w:World) (B g:Nat) (lv:Value) (l:List Task) (x:List Nat) (e:Ending) (w':World):Prop :=
 e = .returned (.tuple #[])∧Below B w w'∧∃ L y nowv bestv,GrowSt w' B g lv l x L y nowv bestv∧Covers l (x ++ [l.length]) L y
set_option maxRecDepth 100000 in
set_option maxHeartbeats 4000000 in
theorem grow_any (B g:Nat) (lv:Value) (l:List Task) (hR:RightT l):∀ (k:Nat) (x:List Nat) (L:Int) (y:List Nat) (nowv bestv:Value) (w:World),l.length<x.length+k→x≠[]→Chain l x →
  GrowSt w B g lv l x L y nowv bestv→Covers l x L y →
  Calls Tryz.prog 95 #[.pointer (some ⟨g,0,none⟩),.int .i64 (sumAt l x)] w (GrowPost w B g lv l x):=by
 intro k
 induction k with
 | zero =>
  intro x L y nowv bestv w hk hx hc
  have:=hc.short hR
  omega
 | succ k ih =>
  intro x L y nowv bestv w hk hx hc hS hC
  have IH:=Lib.hid ih
  clear ih
  have h8:=hR.len
  have hshort:=hc.short hR
  have hpos:0<x.length:=List.length_pos_iff.2 hx
  obtain ⟨gn,capn,rfl,hgnB,hgnlt⟩:=hS.now.form hpos
  obtain ⟨A,c,rfl,hc1,hc2,-⟩:=hS.tasks.open_
  unfold maxLen at hc2
  have hsum:=sumAt_bd hR x
  have hL:=hC.sum
  have hLb:=sumAt_bd hR y
  rw [hL] at hLb
  have hyl:=hC.chain.short hR
  obtain ⟨hs1,hs2⟩:=hsum
  obtain ⟨hl1,hl2⟩:=hLb
  by_cases hlt:L<sumAt l x
  ·have hC2:=hC.visit hc
   rw [if_pos hlt,if_pos hlt] at hC2
   have HC2:=Lib.hid hC2
   have hcl:=cloneIntPos _ (ints x) w (RowAt.of_own (show w.ownsRow B 3 1 _ x.length ((ints x).map (Value.int .i64)) from hS.now)) (by rw [length_ints];omega) (by rw [length_ints];exact hpos)
   rw [length_ints] at hcl
   obtain ⟨h0,h1,h2,h3,f0,f1,f2,f3⟩:=blk4 hS.blk
   have HS:=Lib.hid hS
   clear hS hC hL hC2
   go_enter Tryz.func95,Tryz.ntmps95
   go_wp2_with (go_at_call 126;refine hcl.mono ?_;rintro e w1 ⟨g1,c1,rfl,hg1,hown1,hb1⟩;obtain ⟨h0',h1',h2',h3',f0',f1',f2',f3'⟩:=blk4 (HS.out.blk.below hb1 HS.out.blk.lt))
   have HS2:=HS.out.visited (L':=sumAt l x) hb1 hg1 hown1 hpos
   have hB2:Below B w ((w1.setCell ⟨g,3,none⟩ (.int .i64 (sumAt l x))).setCell ⟨g,2,none⟩ (.slice (some ⟨g1,0,none⟩) x.length c1)) :=
    ((hb1.mono HS.out.size).setCell (p:=⟨g,3,none⟩) HS.out.hg _).setCell (p:=⟨g,2,none⟩) HS.out.hg _
   clear HS hown1 hb1 h0' h1' h2' h3' f0' f1' f2' f3' h0 h1 h2 h3 f0 f1 f2 f3
   generalize (w1.setCell ⟨g,3,none⟩ (.int .i64 (sumAt l x))).setCell ⟨g,2,none⟩ (.slice (some ⟨g1,0,none⟩) x.length c1)=w2 at *
   obtain ⟨m,hm,Hlm,hlast,b,off,rfl,hb,t0⟩:=HS2.last hx hc
   have Hlm:=Lib.hid Hlm
   obtain ⟨h0,h1,h2,h3,f0,f1,f2,f3⟩:=blk4 HS2.blk
   have HS3:=Lib.hid HS2
   clear HS2
   go_quiet (fail)
   go_wp2
   clear h0 h1 h2 h3 f0 f1 f2 f3 hlast t0 hl1 hl2 hyl
   go_loopw [49] (fun s wr => ∃ (i:Nat) (L:Int) (y:List Nat) (gn cap:Nat) (bv:Value),i≤l.length∧s = .int .i64 i∧Hid (GrowSt wr B g (.slice (some ⟨b,off,none⟩) l.length c) l x L y (.slice (some ⟨gn,0,none⟩) x.length cap) bv) ∧
     Hid (Covers l (x ++ [i]) L y)∧Below B w wr) (fun s _ => l.length-(intOf s).toNat)
   case atStart => exact ⟨0,_,_,_,_,_,Nat.zero_le _,rfl,HS3.out.drewN _,HC2.out,below_drewN hB2 _⟩
   case round =>
    clear HS3 HC2 hB2
    obtain ⟨i,L,y,gn,cap,bv,hi,rfl,HS,HC,hbel⟩:=hrel
    by_cases hil:i<l.length
    ·obtain ⟨b',off',e',hb',hcell⟩:=HS.out.tasks.cells hil
     obtain ⟨rfl,rfl⟩:b=b'∧off=off':=by injection e' with e';injection e' with e1 e2;exact ⟨e1,e2⟩
     clear e'
     obtain ⟨t0,t1,t2,t3,t4⟩:=hcell i hil
     clear hcell
     have HSb:=fun o => HS.out.alloc o
     have HSb:=Lib.hid HSb
     have hcon:=fun o => containsStr l[i].bv l[i].bef l[m].name B (wr.alloc o) ((HSb.out o).tasks.bef hil)
     have hgl:=HS.out.blk.lt
     have hbb:∀ o,Below B w (wr.alloc o):=fun o => hbel.alloc HS.out.size o
     by_cases hE:l[m].name ∈ l[i].bef
     ·have Hch:Hid (Chain l (x ++ [i])):=hc.snoc hil (fun _ => ⟨by rw [Hlm.out];exact hm,hil,by simp only [Hlm.out];exact hE⟩)
      have hshort2:=Hch.out.short hR
      rw [List.length_append,List.length_singleton] at hshort2
      rw [decide_eq_true hE] at hcon
      have Hsum:Hid (sumAt l (x ++ [i])=sumAt l x+l[i].len):=by unfold Hid;rw [sumAt_snoc,lenAt_eq hil]
      have hl0:=fieldB_len (hR.field i hil)
      obtain ⟨hl01,hl02⟩:=hl0
      obtain ⟨hA0,hA1,hA2,hA3,fA0,fA1,fA2,fA3⟩:=blk4 HS.out.blk
      have hE':=Lib.hid hE
      have hneo:=HS.out.blk.ne_own HS.out.now (by decide)
      clear hE
      go_wp2_with (first
       | (go_at_call 127;refine (hcon _).mono ?_;rintro e w' ⟨rfl,rfl⟩)
       | (at_builtin;refine wpList_pushN _ rfl (.tmp 62) (.tmp 64) 22 rfl B 3 info_int Tryz.underlying22 rfl _ x.length (nats x) rfl (HSb.out _).now (.int .i64 i) rfl (wr.heap.size+1) (by simp) rfl (by unfold maxLen;omega) (by omega) (HSb.out _).size ?_;intro g3 cap3 w3 hown3 hgrow3 hbg hgg;obtain ⟨k0,k1,k2,k3,e0,e1,e2,e3⟩:=blk4 ((HSb.out _).blk.kept hgrow3 hneo);have hbx3:w3.cell? ⟨wr.heap.size,1,none⟩=some (.int .i64 l[i].len):=HS.out.box hgrow3 1)
       | (go_at_call 95;have hcall:=IH.out (x ++ [i]) L y _ bv _ (by rw [List.length_append,List.length_singleton];omega) (by simp) Hch.out ((HSb.out _).pushed hown3 hgrow3 hgg) HC.out;rw [Hsum.out] at hcall;refine hcall.mono ?_;rintro e w5 ⟨rfl,hb5,L5,y5,nv5,bv5,HS5,HC5⟩))
      have Bel5:Below B w w5:=(((hbb _).grown hgrow3 (HSb.out _).size (fun k hk => by cases hk;exact (HS.out.now.lt _ rfl).1)).setCell (p:=⟨g,1,none⟩) HS.out.hg _).trans hb5
      obtain ⟨g5,c5,rfl,_,_⟩:=HS5.now.form (by simp)
      rw [List.length_append,List.length_singleton] at HS5
      obtain ⟨p0,p1,p2,p3,d0,d1,d2,d3⟩:=blk4 HS5.blk
      have HPop:=Lib.hid HS5.popped
      have hcap:=own_cap (show w5.ownsRow B 3 1 (.slice (some ⟨g5,0,none⟩) (x.length+1) c5) (x.length+1) (nats (x ++ [i])) by have:=HS5.now;rw [List.length_append,List.length_singleton] at this;exact this)
      obtain ⟨hcap1,hcap2⟩:=hcap
      have HC6:=Lib.hid HC5.next_yes
      have hg0:=HS.out.hg
      clear HS5 HC5 hb5 hown3 hgrow3 hgg hbx3 k0 k1 k2 k3 e0 e1 e2 e3 hcon HC HS HSb hA0 hA1 hA2 hA3 fA0 fA1 fA2 fA3 hbb hbel t0 t1 t2 t3 t4 Hsum Hch
      refine wp_region_tail 14 (by kernel_rfl) (by kernel_rfl) ?_
      simp only [List.take_succ_cons,List.take_zero,List.drop_succ_cons,List.drop_zero]
      repeat (go_big_quiet_step (fail))
      refine wpQuiet_nil ?_
      go_wp2
      go_roundw
      case rel => exact ⟨i+1,_,_,_,_,_,by omega,by go_num,HPop.out.drewN 1,HC6.out,(Bel5.setCell (p:=⟨g,1,none⟩) hg0 _).drew⟩
      case measure => simp [intOf];omega
     ·have HNx:Hid (Covers l (x ++ [i+1]) L y):=HC.out.next_no (fun h => hE (by
       have:=h.last_edge hx
       rw [Hlm.out] at this
       exact this.2.2))
      rw [decide_eq_false hE] at hcon
      clear hE HC
      go_wp2_with (go_at_call 127;refine (hcon _).mono ?_;rintro e w' ⟨rfl,rfl⟩)
      go_roundw
      case rel => exact ⟨i+1,_,_,_,_,_,by omega,by go_num,HSb.out _,HNx.out,hbb _⟩
      case measure => simp [intOf];omega
    ·have hie:i=l.length:=by omega
     subst hie
     go_wp2
     go_end0
     exact ⟨rfl,hbel,L,y,_,bv,HS.out,HC.out⟩
  ·have hC2:=hC.visit hc
   rw [if_neg hlt,if_neg hlt] at hC2
   have HC2:=Lib.hid hC2
   have HS2:=hS
   have hB2:Below B w w:=Below.refl _ _
   obtain ⟨h0,h1,h2,h3,f0,f1,f2,f3⟩:=blk4 hS.blk
   have HS:=Lib.hid hS
   clear hS hC hL hC2
   go_enter Tryz.func95,Tryz.ntmps95
   go_wp2
   clear h0 h1 h2 h3 f0 f1 f2 f3
   obtain ⟨m,hm,Hlm,hlast,b,off,rfl,hb,t0⟩:=HS2.last hx hc
   have Hlm:=Lib.hid Hlm
   obtain ⟨h0,h1,h2,h3,f0,f1,f2,f3⟩:=blk4 HS2.blk
   have HS3:=Lib.hid HS2
   clear HS2
   go_quiet (fail)
   go_wp2
   clear h0 h1 h2 h3 f0 f1 f2 f3 hlast t0 hl1 hl2 hyl
   go_loopw [49] (fun s wr => ∃ (i:Nat) (L:Int) (y:List Nat) (gn cap:Nat) (bv:Value),i≤l.length∧s = .int .i64 i∧Hid (GrowSt wr B g (.slice (some ⟨b,off,none⟩) l.length c) l x L y (.slice (some ⟨gn,0,none⟩) x.length cap) bv) ∧
     Hid (Covers l (x ++ [i]) L y)∧Below B w wr) (fun s _ => l.length-(intOf s).toNat)
   case atStart => exact ⟨0,_,_,_,_,_,Nat.zero_le _,rfl,HS3.out.drewN _,HC2.out,below_drewN hB2 _⟩
   case round =>
    clear HS3 HC2 hB2
    obtain ⟨i,L,y,gn,cap,bv,hi,rfl,HS,HC,hbel⟩:=hrel
    by_cases hil:i<l.length
    ·obtain ⟨b',off',e',hb',hcell⟩:=HS.out.tasks.cells hil
     obtain ⟨rfl,rfl⟩:b=b'∧off=off':=by injection e' with e';injection e' with e1 e2;exact ⟨e1,e2⟩
     clear e'
     obtain ⟨t0,t1,t2,t3,t4⟩:=hcell i hil
     clear hcell
     have HSb:=fun o => HS.out.alloc o
     have HSb:=Lib.hid HSb
     have hcon:=fun o => containsStr l[i].bv l[i].bef l[m].name B (wr.alloc o) ((HSb.out o).tasks.bef hil)
     have hgl:=HS.out.blk.lt
     have hbb:∀ o,Below B w (wr.alloc o):=fun o => hbel.alloc HS.out.size o
     by_cases hE:l[m].name ∈ l[i].bef
     ·have Hch:Hid (Chain l (x ++ [i])):=hc.snoc hil (fun _ => ⟨by rw [Hlm.out];exact hm,hil,by simp only [Hlm.out];exact hE⟩)
      have hshort2:=Hch.out.short hR
      rw [List.length_append,List.length_singleton] at hshort2
      rw [decide_eq_true hE] at hcon
      have Hsum:Hid (sumAt l (x ++ [i])=sumAt l x+l[i].len):=by unfold Hid;rw [sumAt_snoc,lenAt_eq hil]
      have hl0:=fieldB_len (hR.field i hil)
      obtain ⟨hl01,hl02⟩:=hl0
      obtain ⟨hA0,hA1,hA2,hA3,fA0,fA1,fA2,fA3⟩:=blk4 HS.out.blk
      have hE':=Lib.hid hE
      have hneo:=HS.out.blk.ne_own HS.out.now (by decide)
      clear hE
      go_wp2_with (first
       | (go_at_call 127;refine (hcon _).mono ?_;rintro e w' ⟨rfl,rfl⟩)
       | (at_builtin;refine wpList_pushN _ rfl (.tmp 62) (.tmp 64) 22 rfl B 3 info_int Tryz.underlying22 rfl _ x.length (nats x) rfl (HSb.out _).now (.int .i64 i) rfl (wr.heap.size+1) (by simp) rfl (by unfold maxLen;omega) (by omega) (HSb.out _).size ?_;intro g3 cap3 w3 hown3 hgrow3 hbg hgg;obtain ⟨k0,k1,k2,k3,e0,e1,e2,e3⟩:=blk4 ((HSb.out _).blk.kept hgrow3 hneo);have hbx3:w3.cell? ⟨wr.heap.size,1,none⟩=some (.int .i64 l[i].len):=HS.out.box hgrow3 1)
       | (go_at_call 95;have hcall:=IH.out (x ++ [i]) L y _ bv _ (by rw [List.length_append,List.length_singleton];omega) (by simp) Hch.out ((HSb.out _).pushed hown3 hgrow3 hgg) HC.out;rw [Hsum.out] at hcall;refine hcall.mono ?_;rintro e w5 ⟨rfl,hb5,L5,y5,nv5,bv5,HS5,HC5⟩))
      have Bel5:Below B w w5:=(((hbb _).grown hgrow3 (HSb.out _).size (fun k hk => by cases hk;exact (HS.out.now.lt _ rfl).1)).setCell (p:=⟨g,1,none⟩) HS.out.hg _).trans hb5
      obtain ⟨g5,c5,rfl,_,_⟩:=HS5.now.form (by simp)
      rw [List.length_append,List.length_singleton] at HS5
      obtain ⟨p0,p1,p2,p3,d0,d1,d2,d3⟩:=blk4 HS5.blk
      have HPop:=Lib.hid HS5.popped
      have hcap:=own_cap (show w5.ownsRow B 3 1 (.slice (some ⟨g5,0,none⟩) (x.length+1) c5) (x.length+1) (nats (x ++ [i])) by have:=HS5.now;rw [List.length_append,List.length_singleton] at this;exact this)
      obtain ⟨hcap1,hcap2⟩:=hcap
      have HC6:=Lib.hid HC5.next_yes
      have hg0:=HS.out.hg
      clear HS5 HC5 hb5 hown3 hgrow3 hgg hbx3 k0 k1 k2 k3 e0 e1 e2 e3 hcon HC HS HSb hA0 hA1 hA2 hA3 fA0 fA1 fA2 fA3 hbb hbel t0 t1 t2 t3 t4 Hsum Hch
      refine wp_region_tail 14 (by kernel_rfl) (by kernel_rfl) ?_
      simp only [List.take_succ_cons,List.take_zero,List.drop_succ_cons,List.drop_zero]
      repeat (go_big_quiet_step (fail))
      refine wpQuiet_nil ?_
      go_wp2
      go_roundw
      case rel => exact ⟨i+1,_,_,_,_,_,by omega,by go_num,HPop.out.drewN 1,HC6.out,(Bel5.setCell (p:=⟨g,1,none⟩) hg0 _).drew⟩
      case measure => simp [intOf];omega
     ·have HNx:Hid (Covers l (x ++ [i+1]) L y):=HC.out.next_no (fun h => hE (by
       have:=h.last_edge hx
       rw [Hlm.out] at this
       exact this.2.2))
      rw [decide_eq_false hE] at hcon
      clear hE HC
      go_wp2_with (go_at_call 127;refine (hcon _).mono ?_;rintro e w' ⟨rfl,rfl⟩)
      go_roundw
      case rel => exact ⟨i+1,_,_,_,_,_,by omega,by go_num,HSb.out _,HNx.out,hbb _⟩
      case measure => simp [intOf];omega
    ·have hie:i=l.length:=by omega
     subst hie
     go_wp2
     go_end0
     exact ⟨rfl,hbel,L,y,_,bv,HS.out,HC.out⟩
theorem info_str:(Tryz.prog.info? 9).map (fun i => (i.zero,i.size,i.bytes))=some (some (.string ⟨#[]⟩),1,16):=by kernel_rfl
theorem own_one (w:World) (base e:Nat) (u:Value) (hb:base≤w.heap.size):(w.alloc (.cells #[u] e)).ownsRow base e 1 (.slice (some ⟨w.heap.size,0,none⟩) 1 1) 1 [u] :=
 ⟨rfl,.inr ⟨w.heap.size,1,#[u],rfl,hb,heap_alloc_new w _,Nat.le_refl _,by unfold maxLen;omega,rfl,rfl⟩⟩
def nmsAt (l:List Task) (y:List Nat):List ByteArray:=y.map fun i => (names l).getD i ⟨#[]⟩
theorem nmsAt_snoc (l:List Task) (y:List Nat) {i:Nat} (hi:i<l.length):nmsAt l (y ++ [i])=nmsAt l y ++ [l[i].name]:=by
 unfold nmsAt names
 rw [List.map_append,List.map_singleton,List.getD_eq_getElem?_getD,List.getElem?_map,List.getElem?_eq_getElem hi]
 rfl
def PathPost (l:List Task) (w:World) (e:Ending) (w':World):Prop :=
 Below w.heap.size w w'∧(rightR l=false∧e = .returned (.tuple #[.int .i64 0,.slice none 0 0,.int .i64 1]) ∨
  rightR l=true∧∃ L y v,Covers l [l.length] L y∧e = .returned (.tuple #[.int .i64 L,v,.int .i64 0])∧w'.ownsRow w.heap.size 9 1 v y.length ((nmsAt l y).map Value.string))
theorem GrowSt.fresh {w:World} {B g:Nat} {lv nowv bestv:Value} {l:List Task} {x y:List Nat} {L:Int} (h:GrowSt w B g lv l x L y nowv bestv) (i:Nat) :
  GrowSt ((w.alloc (.cells #[.int .i64 (i:Int)] 3)).setCell ⟨g,1,none⟩ (.slice (some ⟨w.heap.size,0,none⟩) 1 1)) B g lv l [i] L y (.slice (some ⟨w.heap.size,0,none⟩) 1 1) bestv:=by
 have h':=h.alloc (.cells #[.int .i64 (i:Int)] 3)
 have hb4:=h'.blk.set_ 1 (.slice (some ⟨w.heap.size,0,none⟩) 1 1)
 have gr4:=h'.blk.setGrown 1 (.slice (some ⟨w.heap.size,0,none⟩) 1 1)
 have hne:∀ {v:Value} {n:Nat} {xs:List Value},(w.alloc (.cells #[.int .i64 (i:Int)] 3)).ownsRow B 3 1 v n xs→v.ownBlock=none∨v.ownBlock≠some g:=fun {v n xs} ho => by
  have:=h'.blk.ne_own ho (by decide)
  exact .inr (fun e => this e.symm)
 have hown:=own_one w B 3 (.int .i64 (i:Int)) h.size
 refine ⟨h.hg,hb4,hown.kept gr4 (hne hown),h'.best.kept gr4 (hne h'.best),?_,?_,?_⟩
 ·right
  intro e
  have:=(h.best.lt w.heap.size e).2
  omega
 ·exact h'.tasks.below ((Below.refl B _).setCell (p:=⟨g,1,none⟩) h.hg _) (Nat.le_refl _)
 ·have:=h'.size
  simp [World.setCell] at this ⊢
  omega
set_option maxRecDepth 100000 in
set_option maxHeartbeats 4000000 in
theorem boundsPath (v:Value) (l:List Task) (w:World) (hl:TasksAt w w.heap.size v l) :
  Calls Tryz.prog 53 #[v] w (PathPost l w):=by
 have hV:=schedValid v l 0 0 w hl
 rw [valid_00] at hV
 have HL:=Lib.hid hl
 obtain ⟨A,c,rfl,hc1,hc2,hcell⟩:=hl.open_
 unfold maxLen at hc2
 clear hl hcell
 cases hr:rightR l with
 | false =>
  rw [hr] at hV
  have HR:=Lib.hid hr
  clear hr
  go_enter Tryz.func53,Tryz.ntmps53
  go_wp2_with (go_at_call 55;refine hV.mono ?_;rintro e w1 ⟨rfl,hb1⟩)
  refine bodyPost_ret (results_tmp3 rfl _ _ _) (by rfl) ?_
  exact ⟨hb1,.inl ⟨HR.out,rfl⟩⟩
 | true =>
  rw [hr] at hV
  have HR:=Lib.hid hr
  have hRT:=(right_iff l).1 hr
  have h8:=hRT.len
  have HRT:=Lib.hid hRT
  clear hr hRT
  go_enter Tryz.func53,Tryz.ntmps53
  go_wp2_with (go_at_call 55;refine hV.mono ?_;rintro e w1 ⟨rfl,hb1⟩)
  have hT1:TasksAt w1 w1.heap.size (.slice A l.length c) l:=(HL.out.below hb1 (Nat.le_refl _)).mono hb1.size
  have HS0:GrowSt (w1.alloc (.cells #[.slice A l.length c,.slice none 0 0,.slice none 0 0,.int .i64 0] 133)) w1.heap.size w1.heap.size (.slice A l.length c) l [] 0 [] (.slice none 0 0) (.slice none 0 0) :=
   ⟨Nat.le_refl _,Blk.new _ _ _,World.ownsRow_nil _ _ _ _,World.ownsRow_nil _ _ _ _,.inl rfl,hT1.below ((Below.refl _ _).alloc (Nat.le_refl _) _) (Nat.le_refl _),by simp⟩
  have hB0:=hb1.alloc hb1.size (.cells #[.slice A l.length c,.slice none 0 0,.slice none 0 0,.int .i64 0] 133)
  have hsz:=hb1.size
  clear hb1 hT1 hV
  generalize w1.alloc (.cells #[.slice A l.length c,.slice none 0 0,.slice none 0 0,.int .i64 0] 133)=w2 at *
  generalize w1.heap.size=g at *
  go_loopw [19] (fun s wr => ∃ (i:Nat) (x:List Nat) (L:Int) (y:List Nat) (nv bv:Value),i≤l.length∧s = .int .i64 i∧Hid (GrowSt wr g g (.slice A l.length c) l x L y nv bv)∧Hid (Covers l [i] L y)∧Below w.heap.size w wr) (fun s _ => l.length-(intOf s).toNat)
  case atStart => exact ⟨0,_,_,_,_,_,Nat.zero_le _,rfl,HS0,Covers.start l,hB0⟩
  case round =>
   clear HS0 hB0
   obtain ⟨i,x,L,y,nv,bv,hi,rfl,HS,HC,hbel⟩:=hrel
   by_cases hil:i<l.length
   ·obtain ⟨b,off,rfl,hb,hcell⟩:=HS.out.tasks.cells hil
    obtain ⟨t0,t1,t2,t3,t4⟩:=hcell i hil
    clear hcell
    have HSb:=fun o => HS.out.alloc o
    have HSb:=Lib.hid HSb
    have hgl:=HS.out.blk.lt
    have hbb:∀ o,Below w.heap.size w (wr.alloc o):=fun o => hbel.alloc hbel.size o
    obtain ⟨h0,h1,h2,h3,f0,f1,f2,f3⟩:=blk4 HS.out.blk
    have Hsum:Hid (sumAt l [i]=l[i].len):=by unfold Hid;rw [show sumAt l [i]=lenAt l i by simp [sumAt],lenAt_eq hil]
    go_wp2_with fail
    have hf:=(HSb.out (.cells #[.string l[i].name,.int .i64 l[i].len,.int .i64 l[i].crew,.int .i64 l[i].pow,.slice l[i].ba l[i].bef.length l[i].bc] 41)).fresh i
    simp only [World.size_alloc] at hf
    rw [World.setCell_alloc_past _ _ _ _ (by simp;omega),World.setCell_alloc_past _ _ _ _ hgl] at hf
    have hcall:=grow_any g g _ l HRT.out l.length [i] L y _ bv _ (by simp) (by simp) (Chain.one hil) hf HC.out
    rw [Hsum.out] at hcall
    refine hcall.mono ?_
    rintro e w5 ⟨rfl,hb5,L5,y5,nv5,bv5,HS5,HC5⟩
    have Bel5:Below w.heap.size w w5:=(((hbel.setCell (p:=⟨g,1,none⟩) hsz _).alloc (by simp [World.setCell];exact hbel.size) _).alloc (by simp [World.setCell];have:=hbel.size;omega) _).trans (hb5.mono hsz)
    have HC6:Hid (Covers l [i+1] L5 y5):=Covers.next_yes (x:=[]) HC5
    clear hf hcall h0 h1 h2 h3 f0 f1 f2 f3 hbb HSb HS HC hb5 t0 t1 t2 t3 t4 Hsum
    go_wp2
    go_roundw
    case rel => exact ⟨i+1,_,_,_,_,_,by omega,by go_num,HS5,HC6,Bel5⟩
    case measure => simp [intOf];omega
   ·have hie:i=l.length:=by omega
    subst hie
    obtain ⟨wo,rfl⟩:∃ wo:World,wo=wr:=⟨_,rfl⟩
    obtain ⟨h0,h1,h2,h3,f0,f1,f2,f3⟩:=blk4 HS.out.blk
    have hbr:IntsAt wo wo.heap.size bv (ints y):=RowAt.of_own (show wo.ownsRow g 3 1 bv y.length ((ints y).map (Value.int .i64)) from HS.out.best)
    obtain ⟨A2,c2,rfl,hy1,hy2,hcy⟩:=hbr.open_
    rw [length_ints] at *
    unfold maxLen at hy2
    have hyl:=HC.out.chain.short HRT.out
    have hgl:=HS.out.blk.lt
    clear hbr
    go_wp2
    go_loopw [39,8] (fun s o wi => ∃ (j:Nat),j≤y.length∧s = .int .i64 j∧wi.ownsRow wo.heap.size 9 1 o j ((nmsAt l (y.take j)).map Value.string)∧Below wo.heap.size wo wi) (fun s _ _ => y.length-(intOf s).toNat)
    case atStart => exact ⟨0,Nat.zero_le _,rfl,World.ownsRow_nil _ _ _ _,Below.refl _ _⟩
    case round =>
     obtain ⟨j,hj,rfl,hown,hbi⟩:=hrel
     have hTb:=HS.out.tasks.below hbi HS.out.size
     by_cases hjl:j<y.length
     ·obtain ⟨b2,off2,rfl,hb2,hcy⟩:=hcy j (by rw [length_ints];exact hjl)
      have hyj:=(hbi.cell (p:=⟨b2,off2+j,none⟩) hb2).trans (hcy j (by rw [length_ints];exact hjl))
      clear hcy
      have hyn:=HC.out.chain.1 _ (List.getElem_mem hjl)
      obtain ⟨b,off,rfl,hb,hcell⟩:=hTb.cells hyn
      obtain ⟨t0,-,-,-,-⟩:=hcell _ hyn
      clear hcell
      rw [show (ints y)[j]'(by rw [length_ints];exact hjl)=((y[j]:Nat):Int) by simp [ints]] at hyj
      have HN:Hid (nmsAt l (y.take (j+1))=nmsAt l (y.take j) ++ [l[y[j]].name]):=by unfold Hid;rw [take_snoc y j hjl,nmsAt_snoc l _ hyn]
      have hsz2:=hbi.size
      have hsz3:=hbel.size
      go_wp2_with (at_builtin;refine wpList_push _ rfl (.tmp 43) (.tmp 49) 39 rfl wo.heap.size 9 info_str Tryz.underlying39 rfl _ j _ rfl hown (.string l[y[j]].name) rfl rfl (by unfold maxLen;omega) (by omega) (by omega) ?_;intro g3 cap3 w3 hown3 hgrow3 hbg hgg)
      have hown4:w3.ownsRow wo.heap.size 9 1 (.slice (some ⟨g3,0,none⟩) (j+1) cap3) (j+1) ((nmsAt l (y.take (j+1))).map Value.string):=by rw [HN.out,List.map_append];exact hown3
      have hb3:=hbi.grown hgrow3 hbi.size (fun k hk => (hown.lt k hk).1)
      clear hown3 hgrow3 hgg hown HN t0 hyj hbi
      go_roundw
      case rel => exact ⟨j+1,by omega,by go_num,hown4,hb3⟩
      case measure => simp [intOf];omega
     ·have hje:j=y.length:=by omega
      subst hje
      rw [List.take_length] at hown
      clear hcy
      obtain ⟨p0,p1,p2,p3,d0,d1,d2,d3⟩:=blk4 (HS.out.blk.below hbi hgl)
      go_wp2
      refine bodyPost_ret (results_tmp3 rfl _ _ _) (by rfl) ?_
      exact ⟨hbel.trans (hbi.mono hbel.size),.inr ⟨HR.out,L,y,_,HC.out,rfl,own_mono hown hbel.size⟩⟩
theorem Chain.cons_iff {l:List Task} {i j:Nat} {z:List Nat}:Chain l (i :: j :: z) ↔ edge l i j∧Chain l (j :: z):=by
 constructor
 ·intro h
  refine ⟨h.2 0 (by simp),fun k hk => h.1 k (List.mem_cons_of_mem _ hk),fun k hk => ?_⟩
  have:=h.2 (k+1) (by simp only [List.length_cons] at hk ⊢;omega)
  simpa using this
 ·rintro ⟨he,h⟩
  refine ⟨fun k hk => ?_,fun k hk => ?_⟩
  ·rw [List.mem_cons] at hk
   rcases hk with rfl | hk
   ·exact he.1
   ·exact h.1 k hk
  ·cases k with
   | zero => exact he
   | succ k =>
    have:=h.2 k (by simp only [List.length_cons] at hk ⊢;omega)
    simpa using this
theorem sumAt_cons (l:List Task) (i:Nat) (z:List Nat):sumAt l (i :: z)=lenAt l i+sumAt l z:=by simp [sumAt]
structure IsFrom (l:List Task) (i:Nat) (n:Int):Prop where
 has:∃ z,Chain l (i :: z)∧sumAt l (i :: z)=n
 most:∀ z,Chain l (i :: z)→sumAt l (i :: z)≤n
theorem IsFrom.uniq {l:List Task} {i:Nat} {n m:Int} (h:IsFrom l i n) (k:IsFrom l i m):n=m:=by
 obtain ⟨z,hz,e⟩:=h.has
 obtain ⟨z',hz',e'⟩:=k.has
 have h1:=h.most z' hz'
 have h2:=k.most z hz
 omega
theorem IsFrom.bd {l:List Task} (hR:RightT l) {i:Nat} {n:Int} (h:IsFrom l i n):0≤n∧n≤80000:=by
 obtain ⟨z,hz,e⟩:=h.has
 have h1:=sumAt_bd hR (i :: z)
 have h2:=hz.short hR
 have h3:=hR.len
 omega
structure MostTo (l:List Task) (i k:Nat) (n:Int):Prop where
 zero:0≤n
 most:∀ j,j<k→edge l i j→∀ m,IsFrom l j m→m≤n
 has:n=0∨∃ j,j<k∧edge l i j∧IsFrom l j n
theorem MostTo.start (l:List Task) (i:Nat):MostTo l i 0 0:=⟨Int.le_refl _,fun j h => absurd h (Nat.not_lt_zero j),.inl rfl⟩
theorem MostTo.no {l:List Task} {i k:Nat} {n:Int} (h:MostTo l i k n) (hno:¬ edge l i k):MostTo l i (k+1) n:=by
 refine ⟨h.zero,fun j hj he m hm => ?_,?_⟩
 ·by_cases e:j=k
  ·subst e;exact absurd he hno
  ·exact h.most j (by omega) he m hm
 ·rcases h.has with h | ⟨j,h1,h2⟩
  ·exact .inl h
  ·exact .inr ⟨j,by omega,h2⟩
theorem MostTo.yes {l:List Task} {i k:Nat} {n m:Int} (h:MostTo l i k n) (he:edge l i k) (hm:IsFrom l k m):MostTo l i (k+1) (if n<m then m else n):=by
 by_cases hlt:n<m
 ·rw [if_pos hlt]
  refine ⟨by have:=h.zero;omega,fun j hj he' m' hm' => ?_,.inr ⟨k,by omega,he,hm⟩⟩
  by_cases e:j=k
  ·subst e;have:=hm.uniq hm';omega
  ·have:=h.most j (by omega) he' m' hm';omega
 ·rw [if_neg hlt]
  refine ⟨h.zero,fun j hj he' m' hm' => ?_,?_⟩
  ·by_cases e:j=k
   ·subst e;have:=hm.uniq hm';omega
   ·exact h.most j (by omega) he' m' hm'
  ·rcases h.has with h | ⟨j,h1,h2⟩
   ·exact .inl h
   ·exact .inr ⟨j,by omega,h2⟩
theorem isFrom_of_most {l:List Task} {i:Nat} (hi:i<l.length) {n:Int} (h:MostTo l i l.length n) (hex:∀ j,edge l i j→∃ m,IsFrom l j m):IsFrom l i (l[i].len+n):=by
 refine ⟨?_,fun z hz => ?_⟩
 ·rcases h.has with rfl | ⟨j,_,he,hj⟩
  ·exact ⟨[],Chain.one hi,by rw [sumAt_cons,lenAt_eq hi,sumAt_nil]⟩
  ·obtain ⟨z,hz,e⟩:=hj.has
   exact ⟨j :: z,Chain.cons_iff.2 ⟨he,hz⟩,by rw [sumAt_cons,lenAt_eq hi,e]⟩
 ·rw [sumAt_cons,lenAt_eq hi]
  cases z with
  | nil => rw [sumAt_nil];have:=h.zero;omega
  | cons j z =>
   obtain ⟨he,hz'⟩:=Chain.cons_iff.1 hz
   obtain ⟨m,hm⟩:=hex j he
   have h1:=hm.most z hz'
   have h2:=h.most j he.2.1 he m hm
   omega
theorem exists_most {l : List Task} {i : Nat} (hex : ∀ j,edge l i j → ∃ m,IsFrom l j m) : ∀ k,∃ n,MostTo l i k n
 | 0 => ⟨0,MostTo.start l i⟩
 | k+1 => by
  obtain ⟨n,hn⟩:=exists_most hex k
  by_cases he:edge l i k
  ·obtain ⟨m,hm⟩:=hex k he
   exact ⟨_,hn.yes he hm⟩
  ·exact ⟨n,hn.no he⟩
theorem exists_from {l : List Task} (hR : RightT l) : ∀ (f i : Nat),i < l.length → (∀ z,Chain l (i :: z) → (i :: z).length ≤ f) → ∃ n,IsFrom l i n
 | 0,i,hi,h => by have:=h [] (Chain.one hi);simp at this
 | f+1,i,hi,h => by
  have hex:∀ j,edge l i j→∃ m,IsFrom l j m:=fun j he => exists_from hR f j he.2.1 fun z hz => by
   have:=h (j :: z) (Chain.cons_iff.2 ⟨he,hz⟩)
   simpa using this
  obtain ⟨n,hn⟩:=exists_most hex l.length
  exact ⟨_,isFrom_of_most hi hn hex⟩
end Go.Proofs.YtfhmbechennkbaaGreat
namespace Go.Proofs.YtfhmbechennkbaaGreat
theorem sumAt_append (l:List Task) (x y:List Nat):sumAt l (x ++ y)=sumAt l x+sumAt l y:=by simp [sumAt]
structure MostUp (l:List Task) (k:Nat) (n:Int):Prop where
 zero:0≤n
 most:∀ j,j<k→∀ m,IsFrom l j m→m≤n
 has:n=0∨∃ j,j<k∧IsFrom l j n
theorem MostUp.start (l:List Task):MostUp l 0 0:=⟨Int.le_refl _,fun j h => absurd h (Nat.not_lt_zero j),.inl rfl⟩
theorem from_ex {l:List Task} (hR:RightT l) {i:Nat} (hi:i<l.length):∃ n,IsFrom l i n:=exists_from hR l.length i hi fun _ hz => hz.short hR
theorem MostUp.all {l:List Task} (hR:RightT l) {n:Int} (h:MostUp l l.length n) (z:List Nat) (hz:Chain l z):sumAt l z≤n:=by
 cases z with
 | nil => rw [sumAt_nil];exact h.zero
 | cons i z =>
  have hi:=hz.1 i (by simp)
  obtain ⟨m,hm⟩:=from_ex hR hi
  have h1:=hm.most z hz
  have h2:=h.most i hi m hm
  omega
theorem lex_ext : ∀ (p z q : List Nat),lex p z → ¬ p <+: z → lex (p ++ q) z
 | [],z,q,_,h => absurd (List.nil_prefix) h
 | a :: p,[],q,h,_ => absurd h (lex_nil_iff _)
 | a :: p,b :: z,q,h,hp => by
  rcases h with h | ⟨rfl,h⟩
  ·exact .inl h
  ·exact .inr ⟨rfl,lex_ext p z q h fun hh => hp (by rw [List.cons_prefix_cons];exact ⟨rfl,hh⟩)⟩
theorem lex_pref : ∀ (p q z : List Nat),lex q z → lex (p ++ q) (p ++ z)
 | [],_,_,h => h
 | _ :: p,q,z,h => .inr ⟨rfl,lex_pref p q z h⟩
def nextOK (l:List Task) (p:List Nat) (k:Nat):Prop:=∀ hp:p≠[],edge l (p.getLast hp) k
theorem chain_app {l : List Task} {k : Nat} : ∀ {p z : List Nat},Chain l p → Chain l (k :: z) → nextOK l p k → Chain l (p ++ k :: z)
 | [],z,_,h,_ => h
 | [_],_,_,h,hn => Chain.cons_iff.2 ⟨hn (by simp),h⟩
 | a :: b :: p,z,hp,h,hn => by
  obtain ⟨h1,h2⟩:=Chain.cons_iff.1 hp
  exact Chain.cons_iff.2 ⟨h1,chain_app (p:=b :: p) h2 h fun hq => by have:=hn (by simp);rwa [List.getLast_cons hq] at this⟩
theorem chain_back {l : List Task} : ∀ {p z : List Nat},Chain l (p ++ z) → Chain l z
 | [],_,h => h
 | [_],[],_ => Chain.nil l
 | [_],_ :: _,h => (Chain.cons_iff.1 h).2
 | _ :: b :: p,_,h => chain_back (p:=b :: p) (Chain.cons_iff.1 h).2
theorem chain_next {l:List Task} {p z:List Nat} {k:Nat} (h:Chain l (p ++ k :: z)):nextOK l p k:=fun hp => by
 have h':Chain l ((p ++ [k]) ++ z):=by simpa using h
 exact h'.front.last_edge hp
structure Greedy (l:List Task) (M:Int) (p:List Nat) (r:Int):Prop where
 chain:Chain l p
 sum:sumAt l p+r=M
 left:0≤r
 most:∀ z,Chain l z→sumAt l z≤M
 more:0<r→∃ k z,Chain l (p ++ k :: z)∧sumAt l (k :: z)=r
 least:∀ z,Chain l z→sumAt l z=M→p <+: z∨lex p z
theorem Greedy.start {l:List Task} (hR:RightT l) {M:Int} (h:MostUp l l.length M):Greedy l M [] M:=by
 refine ⟨Chain.nil l,by simp [sumAt_nil],h.zero,h.all hR,fun h0 => ?_,fun z _ _ => .inl List.nil_prefix⟩
 rcases h.has with h | ⟨j,_,hj⟩
 ·omega
 ·obtain ⟨z,hz,e⟩:=hj.has
  exact ⟨j,z,hz,e⟩
theorem Greedy.isFrom {l:List Task} {M r:Int} {p z:List Nat} {k:Nat} (h:Greedy l M p r) (hz:Chain l (p ++ k :: z)) (hs:sumAt l (k :: z)=r):IsFrom l k r:=by
 refine ⟨⟨z,chain_back hz,hs⟩,fun z' hz' => ?_⟩
 have:=h.most _ (chain_app h.chain hz' (chain_next hz))
 rw [sumAt_append] at this
 have:=h.sum
 omega
theorem Greedy.take {l : List Task} (hR : RightT l) {M r : Int} {p : List Nat} {k : Nat} (h : Greedy l M p r) (h0 : 0 < r) (hk : k < l.length) (hn : nextOK l p k) (hf : IsFrom l k r)
  (hno:∀ j,j<k→nextOK l p j→¬ IsFrom l j r):Greedy l M (p ++ [k]) (r-lenAt l k):=by
 obtain ⟨z,hz,hs⟩:=hf.has
 have hpz:=chain_app h.chain hz hn
 have hs':=hs
 rw [sumAt_cons] at hs'
 have hz0:=(sumAt_bd hR z).1
 refine ⟨(show Chain l ((p ++ [k]) ++ z) by simpa using hpz).front,by rw [sumAt_snoc];have:=h.sum;omega,by omega,h.most,fun hpos => ?_,fun z' hz' hs2 => ?_⟩
 ·cases z with
  | nil => rw [sumAt_nil] at hs';omega
  | cons k2 z2 => exact ⟨k2,z2,by simpa using hpz,by omega⟩
 ·by_cases hp:p <+: z'
  ·obtain ⟨t,rfl⟩:=hp
   rw [sumAt_append] at hs2
   cases t with
   | nil => rw [sumAt_nil] at hs2;have:=h.sum;omega
   | cons j t =>
    have hj:=h.isFrom hz' (by have:=h.sum;omega)
    have hjk:¬ j<k:=fun hlt => hno j hlt (chain_next hz') hj
    by_cases e:j=k
    ·subst e;exact .inl ⟨t,by simp⟩
    ·refine .inr (lex_pref p [k] (j :: t) (.inl (by omega)))
  ·rcases h.least z' hz' hs2 with h' | h'
   ·exact absurd h' hp
   ·exact .inr (lex_ext p z' [k] h' hp)
theorem Greedy.done {l:List Task} {M r:Int} {p:List Nat} (h:Greedy l M p r) (h0:¬ 0<r):Covers l [l.length] M p:=by
 have hr:r=0:=by have:=h.left;omega
 subst hr
 have hlow:lex p [l.length]:=by
  cases p with
  | nil => trivial
  | cons a p => exact .inl (h.chain.1 a (by simp))
 refine ⟨h.chain,hlow,by have:=h.sum;omega,fun z hz _ => h.most z hz,fun z hz _ hs => ?_⟩
 rcases h.least z hz hs with ⟨t,rfl⟩ | h'
 ·cases t with
  | nil => left;simp
  | cons a t =>
   right
   have:=lex_pref p [] (a :: t) trivial
   rwa [List.append_nil] at this
 ·exact .inr h'
end Go.Proofs.YtfhmbechennkbaaGreat
namespace Go.Proofs.YtfhmbechennkbaaGreat
open Go.RowKit Go.Shelf
theorem enters114:∀ args w,(callFunc 125 args).run Tryz.prog w = .ok (.enter 125 args) w:=enters_of Tryz.func125 (by kernel_rfl) rfl
def tooMuch (c p:Int) (t:Task):Bool:=decide (c<t.crew) || decide (p<t.pow)
noncomputable def givenN (l:List Task) (c p:Int):Int:=if validB l c p then (if l.any (tooMuch c p) then 22 else 0) else 1
set_option maxHeartbeats 1000000 in
theorem givenClosure (t:Task) (c p:Int) (D:Nat) (w:World) (hD:D+1<w.heap.size) (hc:w.cell? ⟨D,0,none⟩=some (.int .i64 c)) (hp:w.cell? ⟨D+1,0,none⟩=some (.int .i64 p)) :
  Calls Tryz.prog 125 #[t.val,.pointer (some ⟨D,0,none⟩),.pointer (some ⟨D+1,0,none⟩)] w fun e w' => e = .returned (.bool (tooMuch c p t))∧Below w.heap.size w w':=by
 have hD0:D<w.heap.size:=by omega
 obtain ⟨name,len,crew,pow,ba,bc,bef⟩:=t
 unfold Task.val
 simp only
 by_cases h:c<crew
 ·have HV:Hid (tooMuch c p ⟨name,len,crew,pow,ba,bc,bef⟩=true):=by unfold Hid tooMuch;simp [h]
  go_enter Tryz.func125,Tryz.ntmps125
  go_wp2
  go_ret
  exact ⟨ret_bool HV.out.symm,(Below.refl _ _).alloc (Nat.le_refl _) _⟩
 ·have HV:Hid (tooMuch c p ⟨name,len,crew,pow,ba,bc,bef⟩=decide (p<pow)):=by unfold Hid tooMuch;simp [h]
  have hb:decide (c<crew)=false:=by simpa using h
  go_enter Tryz.func125,Tryz.ntmps125
  go_wp2
  go_ret
  exact ⟨ret_bool HV.out.symm,(Below.refl _ _).alloc (Nat.le_refl _) _⟩
set_option maxHeartbeats 1000000 in
theorem boundsGiven (v:Value) (l:List Task) (c p:Int) (w:World) (hl:TasksAt w w.heap.size v l) :
  Calls Tryz.prog 92 #[v,.int .i64 c,.int .i64 p] w fun e w' => e = .returned (.int .i64 (givenN l c p))∧Below w.heap.size w w':=by
 have hb0:∀ o o',Below w.heap.size w ((w.alloc o).alloc o'):=fun o o' => ((Below.refl _ _).alloc (Nat.le_refl _) _).alloc (by simp) _
 have hV:=fun o o' => schedValid v l c p ((w.alloc o).alloc o') ((hl.below (hb0 o o') (Nat.le_refl _)).mono (by simp;omega))
 have HL:=Lib.hid hl
 clear hl
 cases hv:validB l c p with
 | false =>
  have HG:Hid (givenN l c p=1):=by unfold Hid givenN;rw [hv];rfl
  rw [hv] at hV
  clear hv
  go_enter Tryz.func92,Tryz.ntmps92
  go_wp2_with (go_at_call 55;refine (hV _ _).mono ?_;rintro e w1 ⟨rfl,hb1⟩)
  go_ret
  exact ⟨by rw [HG.out];rfl,(hb0 _ _).trans (hb1.mono (by simp;omega))⟩
 | true =>
  have HG:Hid (givenN l c p=if l.any (tooMuch c p) then 22 else 0):=by unfold Hid givenN;rw [hv];rfl
  rw [hv] at hV
  clear hv
  have HC:Hid (∀ w1,Below ((w.alloc (.cells #[.int .i64 c] 3)).alloc (.cells #[.int .i64 p] 3)).heap.size ((w.alloc (.cells #[.int .i64 c] 3)).alloc (.cells #[.int .i64 p] 3)) w1 →
    Calls Tryz.prog 124 #[v,.func (.func 125) #[] #[.pointer (some ⟨w.heap.size,0,none⟩),.pointer (some ⟨w.heap.size+1,0,none⟩)]] w1 fun e w' => e = .returned (.bool (l.any (tooMuch c p)))∧Below w1.heap.size w1 w'):=fun w1 hb1 => by
   have hsz:=hb1.size
   simp only [World.size_alloc] at hsz
   have ht1:=(HL.out.below ((hb0 (.cells #[.int .i64 c] 3) (.cells #[.int .i64 p] 3)).trans (hb1.mono (by simp;omega))) (Nat.le_refl _)).mono (show w.heap.size≤w1.heap.size by omega)
   have hc1:=hb1.cell (p:=⟨w.heap.size,0,none⟩) (by simp;omega)
   have hp1:=hb1.cell (p:=⟨w.heap.size+1,0,none⟩) (by simp)
   refine containsFuncTask v l 125 #[.pointer (some ⟨w.heap.size,0,none⟩),.pointer (some ⟨w.heap.size+1,0,none⟩)] (tooMuch c p) enters114 w1 ht1 ?_
   intro t ht w' hb'
   have hsz':=hb'.size
   refine givenClosure t c p w.heap.size w' (by omega) ?_ ?_
   ·rw [hb'.cell (by simp;omega),hc1]
    simp
   ·rw [hb'.cell (by simp;omega),hp1]
    simp
  generalize hA:l.any (tooMuch c p)=A at *
  clear hA
  cases A
  all_goals
   go_enter Tryz.func92,Tryz.ntmps92
   go_wp2_with (first | (go_at_call 55;refine (hV _ _).mono ?_;rintro e w1 ⟨rfl,hb1⟩) | (go_at_call 124;refine (HC.out _ (by assumption)).mono ?_;rintro e w2 ⟨rfl,hb2⟩))
   go_ret
   refine ⟨by rw [HG.out];rfl,?_⟩
   have hsz:=hb1.size
   simp only [World.size_alloc] at hsz
   exact ((hb0 _ _).trans (hb1.mono (by simp;omega))).trans (hb2.mono (by omega))
theorem fieldB_crew {t:Task} (h:fieldB t=true):0≤t.crew∧t.crew≤100:=by
 unfold fieldB betweenB at h
 simp only [Bool.and_eq_true,decide_eq_true_eq] at h
 exact h.1.2
theorem fieldB_pow {t:Task} (h:fieldB t=true):0≤t.pow∧t.pow≤100:=by
 unfold fieldB betweenB at h
 simp only [Bool.and_eq_true,decide_eq_true_eq] at h
 exact h.2
def needN (f:Task→Int) (l:List Task):Int:=(l.map fun t => f t*t.len).sum
def stepN (best s lim:Int):Int:=if 0<s then (if best<(s+lim-1) / lim then (s+lim-1) / lim else best) else best
def workN (l:List Task) (c p:Int):Int:=stepN (stepN 0 (needN Task.crew l) c) (needN Task.pow l) p
theorem needN_take (f:Task→Int) (l:List Task) (j:Nat) (hj:j<l.length):needN f (l.take (j+1))=needN f (l.take j)+f l[j]*l[j].len:=by
 unfold needN
 rw [take_snoc l j hj,List.map_append,List.sum_append]
 simp
theorem needN_bd (f : Task → Int) : ∀ (l : List Task),(∀ t ∈ l,0 ≤ f t * t.len ∧ f t * t.len ≤ 1000000) → 0 ≤ needN f l ∧ needN f l ≤ 1000000 * l.length
 | [],_ => by simp [needN]
 | t :: l,h => by
  have h1:=h t (by simp)
  have h2:=needN_bd f l fun t ht => h t (by simp [ht])
  have e:needN f (t :: l)=f t*t.len+needN f l:=by simp [needN]
  rw [e,List.length_cons]
  omega
theorem mul_bd {a b:Int} (h1:0≤a) (h2:a≤100) (h3:1≤b) (h4:b≤10000):0≤a*b∧a*b≤1000000:=by
 refine ⟨Int.mul_nonneg h1 (by omega),?_⟩
 have h5:a*b≤100*b:=Int.mul_le_mul_of_nonneg_right h2 (by omega)
 omega
theorem enters73:∀ args w,(callFunc 93 args).run Tryz.prog w = .ok (.enter 93 args) w:=enters_of Tryz.func93 (by kernel_rfl) rfl
theorem enters74:∀ args w,(callFunc 94 args).run Tryz.prog w = .ok (.enter 94 args) w:=enters_of Tryz.func94 (by kernel_rfl) rfl
theorem workCrew (t:Task) (w:World):Calls Tryz.prog 93 #[t.val] w fun e w' => e = .returned (.int .i64 t.crew)∧Below w.heap.size w w':=by
 obtain ⟨name,len,crew,pow,ba,bc,bef⟩:=t
 unfold Task.val
 simp only
 go_enter Tryz.func93,Tryz.ntmps93
 go_wp2
 go_ret
 exact ⟨rfl,(Below.refl _ _).alloc (Nat.le_refl _) _⟩
theorem workPow (t:Task) (w:World):Calls Tryz.prog 94 #[t.val] w fun e w' => e = .returned (.int .i64 t.pow)∧Below w.heap.size w w':=by
 obtain ⟨name,len,crew,pow,ba,bc,bef⟩:=t
 unfold Task.val
 simp only
 go_enter Tryz.func94,Tryz.ntmps94
 go_wp2
 go_ret
 exact ⟨rfl,(Below.refl _ _).alloc (Nat.le_refl _) _⟩
structure WorkRow (l:List Task) (c p:Int) (k:Nat) (lim:Int) (K:Nat) (f:Task→Int):Prop where
 enters:∀ args w,(callFunc K args).run Tryz.prog w = .ok (.enter K args) w
 call:∀ (t:Task) (w:World),Calls Tryz.prog K #[t.val] w fun e w' => e = .returned (.int .i64 (f t))∧Below w.heap.size w w'
 bd:∀ t ∈ l,0≤f t∧f t≤100
 fit:∀ t ∈ l,f t≤lim
 limbd:lim≤1000
def workAt (l : List Task) (c p : Int) : Nat → Int
 | 0 => 0
 | 1 => stepN 0 (needN Task.crew l) c
 | _ => workN l c p
theorem givenN_zero {l:List Task} {c p:Int} (h:givenN l c p=0):RightT l∧c≤1000∧p≤1000∧0≤c∧0≤p∧∀ t ∈ l,t.crew≤c∧t.pow≤p:=by
 unfold givenN at h
 cases hv:validB l c p with
 | false => rw [hv] at h;simp at h
 | true =>
  rw [hv] at h
  cases ha:l.any (tooMuch c p) with
  | true => rw [ha] at h;simp at h
  | false =>
   unfold validB betweenB at hv
   simp only [Bool.and_eq_true,decide_eq_true_eq] at hv
   refine ⟨(right_iff l).1 hv.1.1,hv.1.2.2,hv.2.2,hv.1.2.1,hv.2.1,fun t ht => ?_⟩
   have:=List.any_eq_false.1 ha t ht
   unfold tooMuch at this
   simp only [Bool.or_eq_true,decide_eq_true_eq,not_or] at this
   omega
theorem lim_pos {l:List Task} {c p lim:Int} {k K:Nat} {f:Task→Int} (h:WorkRow l c p k lim K f) (_hR:RightT l) (hs:0<needN f l):1≤lim:=by
 rcases Int.lt_or_le lim 1 with hl | hl
 ·exfalso
  have:∀ l':List Task,(∀ t ∈ l',t ∈ l)→needN f l'=0:=fun l' => by
   induction l' with
   | nil => intro _;rfl
   | cons t l' ih =>
    intro h'
    have h1:=h.bd t (h' t (by simp))
    have h2:=h.fit t (h' t (by simp))
    have e:f t=0:=by omega
    have ih:=ih fun t ht => h' t (by simp [ht])
    have e2:needN f (t :: l')=f t*t.len+needN f l':=by simp [needN]
    rw [e2,ih,e]
    simp
  have:=this l fun t ht => ht
  omega
 ·exact hl
theorem field_mem {l:List Task} (hR:RightT l) {t:Task} (ht:t ∈ l):fieldB t=true:=by
 obtain ⟨i,hi,rfl⟩:=List.getElem_of_mem ht
 exact hR.field i hi
def WorkPost (l:List Task) (c p:Int) (w:World) (e:Ending) (w':World):Prop :=
 e = .returned (.tuple #[.int .i64 (if givenN l c p=0 then workN l c p else 0),.int .i64 (givenN l c p)])∧Below w.heap.size w w'
set_option maxRecDepth 100000 in
set_option maxHeartbeats 4000000 in
theorem boundsWork (v:Value) (l:List Task) (c p:Int) (w:World) (hl:TasksAt w w.heap.size v l) :
  Calls Tryz.prog 52 #[v,.int .i64 c,.int .i64 p] w (WorkPost l c p w):=by
 have hG:=boundsGiven v l c p w hl
 have HL:=Lib.hid hl
 clear hl
 by_cases hg:givenN l c p=0
 ·obtain ⟨hR,hc1,hp1,hc0,hp0,hfit⟩:=givenN_zero hg
  rw [hg] at hG
  have Hg:=Lib.hid hg
  have h8:=hR.len
  have HRow:Hid (∀ k:Nat,k<2→∃ lim K f,WorkRow l c p k lim K f∧(Value.int .i64 lim,Value.func (.func K) #[] #[])=(if k=0 then (Value.int .i64 c,Value.func (.func 93) #[] #[]) else (Value.int .i64 p,Value.func (.func 94) #[] #[]))∧workAt l c p (k+1)=stepN (workAt l c p k) (needN f l) lim):=fun k hk => by
   rcases (show k=0∨k=1 by omega) with rfl | rfl
   ·exact ⟨c,_,Task.crew,⟨enters73,workCrew,fun t ht => fieldB_crew (field_mem hR ht),fun t ht => (hfit t ht).1,hc1⟩,rfl,rfl⟩
   ·exact ⟨p,_,Task.pow,⟨enters74,workPow,fun t ht => fieldB_pow (field_mem hR ht),fun t ht => (hfit t ht).2,hp1⟩,rfl,rfl⟩
  have HRT:=Lib.hid hR
  obtain ⟨A,cc,rfl,hA1,hA2,-⟩:=HL.out.open_
  unfold maxLen at hA2
  clear hg hR hfit
  go_enter Tryz.func52,Tryz.ntmps52
  go_wp2_with (go_at_call 92;refine hG.mono ?_;rintro e w1 ⟨rfl,hb1⟩)
  have hN:=World.cell?_alloc_new w1 #[.int .i64 c,.func (.func 93) #[] #[],.int .i64 p,.func (.func 94) #[] #[]] 129
  have hgl:w1.heap.size<(w1.alloc (.cells #[.int .i64 c,.func (.func 93) #[] #[],.int .i64 p,.func (.func 94) #[] #[]] 129)).heap.size:=by simp
  have hbw:=hb1.alloc hb1.size (.cells #[.int .i64 c,.func (.func 93) #[] #[],.int .i64 p,.func (.func 94) #[] #[]] 129)
  have HCell:Hid (∀ (k lim:Int) (K:Nat),True):=fun _ _ _ => trivial
  generalize w1.alloc (.cells #[.int .i64 c,.func (.func 93) #[] #[],.int .i64 p,.func (.func 94) #[] #[]] 129)=w2 at *
  generalize w1.heap.size=g at *
  clear hb1 hG
  have HCells:Hid (∀ k,k<2→∃ lim K f,WorkRow l c p k lim K f∧w2.cell? ⟨g,k*2,none⟩=some (.int .i64 lim)∧w2.cell? ⟨g,k*2+1,none⟩=some (.func (.func K) #[] #[])∧workAt l c p (k+1)=stepN (workAt l c p k) (needN f l) lim):=fun k hk => by
   obtain ⟨lim,K,f,h1,h2,h3⟩:=HRow.out k hk
   refine ⟨lim,K,f,h1,?_,?_,h3⟩
   ·rcases (show k=0∨k=1 by omega) with rfl | rfl
    ·rw [if_pos rfl] at h2;injection h2 with h2 _;rw [hN,h2];rfl
    ·rw [if_neg (by decide)] at h2;injection h2 with h2 _;rw [hN,h2];rfl
   ·rcases (show k=0∨k=1 by omega) with rfl | rfl
    ·rw [if_pos rfl] at h2;injection h2 with _ h2;rw [hN,h2];rfl
    ·rw [if_neg (by decide)] at h2;injection h2 with _ h2;rw [hN,h2];rfl
  clear hN HRow HCell
  go_loopw [28,9] (fun s b wr => ∃ k:Nat,k≤2∧s = .int .i64 k∧b = .int .i64 (workAt l c p k)∧Below w.heap.size w wr∧Below w2.heap.size w2 wr) (fun s _ _ => 2-(intOf s).toNat)
  case atStart => exact ⟨0,by omega,rfl,rfl,hbw,Below.refl _ _⟩
  case round =>
   obtain ⟨k,hk,rfl,rfl,hbel,hbel2⟩:=hrel
   by_cases hk2:k<2
   ·obtain ⟨lim,K,f,hrow,hc1',hc2',hst⟩:=HCells.out k hk2
    have hl1:=(hbel2.cell (p:=⟨g,k*2,none⟩) hgl).trans hc1'
    have hl2:=(hbel2.cell (p:=⟨g,k*2+1,none⟩) hgl).trans hc2'
    have Hst:=Lib.hid hst
    have hsz:=hbel.size
    have hsz2:=hbel2.size
    have hk2i:(k:Int)<2:=by omega
    clear hc1' hc2' hst
    go_wp2_with fail
    have hq0:=World.cell?_alloc_new wr #[.int .i64 lim,.func (.func K) #[] #[]] 129 0
    have hq1:=World.cell?_alloc_new wr #[.int .i64 lim,.func (.func K) #[] #[]] 129 1
    have hxl:wr.heap.size<(wr.alloc (.cells #[.int .i64 lim,.func (.func K) #[] #[]] 129)).heap.size:=by simp
    have hbx:=hbel.alloc hbel.size (.cells #[.int .i64 lim,.func (.func K) #[] #[]] 129)
    have hbx2:=hbel2.alloc hbel2.size (.cells #[.int .i64 lim,.func (.func K) #[] #[]] 129)
    generalize wr.alloc (.cells #[.int .i64 lim,.func (.func K) #[] #[]] 129)=wx at *
    generalize wr.heap.size=x at *
    clear hl1 hl2
    obtain ⟨eg,hcall,hfb,hff,hlb⟩:=hrow
    go_loopw [34,12] (fun s b wi => ∃ j:Nat,j≤l.length∧s = .int .i64 j∧b = .int .i64 (needN f (l.take j))∧Below wx.heap.size wx wi) (fun s _ _ => l.length-(intOf s).toNat)
    case atStart => exact ⟨0,by omega,rfl,rfl,Below.refl _ _⟩
    case round =>
     obtain ⟨j,hj,rfl,rfl,hbi⟩:=hrel
     by_cases hjl:j<l.length
     ·have HT:=HL.out.below ((hbx.trans (hbi.mono hbx.size))) (Nat.le_refl _)
      obtain ⟨b,off,rfl,hb,hcell⟩:=HT.cells hjl
      obtain ⟨t0,t1,t2,t3,t4⟩:=hcell j hjl
      clear hcell HT
      have hx1:=(hbi.cell (p:=⟨x,1,none⟩) hxl).trans hq1
      simp only [List.getElem?_toArray,List.getElem?_cons_succ,List.getElem?_cons_zero] at hx1
      have hszi:=hbi.size
      have hszx:=hbx.size
      clear hb
      go_wp2_with fail
      have hy:=World.cell?_alloc_new wr #[.string l[j].name,.int .i64 l[j].len,.int .i64 l[j].crew,.int .i64 l[j].pow,.slice l[j].ba l[j].bef.length l[j].bc] 41
      have y0:=hy 0
      have y1:=hy 1
      have y2:=hy 2
      have y3:=hy 3
      have y4:=hy 4
      simp only [List.getElem?_toArray,List.getElem?_cons_succ,List.getElem?_cons_zero] at y0 y1 y2 y3 y4
      have hxt:=(World.cell?_alloc_past (.cells #[.string l[j].name,.int .i64 l[j].len,.int .i64 l[j].crew,.int .i64 l[j].pow,.slice l[j].ba l[j].bef.length l[j].bc] 41) x 1 (by omega:x<wr.heap.size)).trans hx1
      have hbt:=(hbi.alloc hbi.size (.cells #[.string l[j].name,.int .i64 l[j].len,.int .i64 l[j].crew,.int .i64 l[j].pow,.slice l[j].ba l[j].bef.length l[j].bc] 41))
      have hbd:=hbt.drew
      clear hy t0 t1 t2 t3 t4 hx1
      generalize wr.alloc (.cells #[.string l[j].name,.int .i64 l[j].len,.int .i64 l[j].crew,.int .i64 l[j].pow,.slice l[j].ba l[j].bef.length l[j].bc] 41)=wt at *
      generalize wr.heap.size=gt at *
      obtain ⟨hf1,hf2⟩:=hfb l[j] (List.getElem_mem hjl)
      obtain ⟨hl1,hl2⟩:=fieldB_len (HRT.out.field j hjl)
      obtain ⟨hm1,hm2⟩:=mul_bd hf1 hf2 hl1 hl2
      have hsb:=needN_bd f (l.take j) fun t ht => by
       have h:=hfb t (List.mem_of_mem_take ht)
       have h':=fieldB_len (field_mem HRT.out (List.mem_of_mem_take ht))
       exact mul_bd h.1 h.2 h'.1 h'.2
      have hjl8:(l.take j).length≤8:=by rw [List.length_take];omega
      have hstep:=Lib.hid (needN_take f l j hjl)
      have hw1:Hid (IntKind.i64.wrap (f l[j]*l[j].len)=f l[j]*l[j].len):=IntWalk.i64_in _ (by omega)
      have hw2:Hid (IntKind.i64.wrap (needN f (l.take j)+f l[j]*l[j].len)=needN f (l.take j)+f l[j]*l[j].len):=IntWalk.i64_in _ (by omega)
      have HC:=Lib.hid (hcall l[j])
      clear hsb hm1 hm2 hcall
      unfold Task.val at HC
      go_region_held3 (fun w' => w'.cell? ⟨x,1,none⟩ = some (.func (.func K) #[] #[]) ∧ w'.cell? ⟨gt,0,none⟩ = some (.string l[j].name) ∧ w'.cell? ⟨gt,1,none⟩ = some (.int .i64 l[j].len) ∧ w'.cell? ⟨gt,2,none⟩ = some (.int .i64 l[j].crew) ∧ w'.cell? ⟨gt,3,none⟩ = some (.int .i64 l[j].pow) ∧ w'.cell? ⟨gt,4,none⟩ = some (.slice l[j].ba l[j].bef.length l[j].bc) ∧ Below wx.heap.size wx w')
       (first
        | (exact ⟨by assumption,by assumption,by assumption,by assumption,by assumption,by assumption,by assumption⟩)
        | (exact ⟨(hb2.cell (World.block_lt_of_cell? _ _ (by assumption))).trans (by assumption),(hb2.cell (World.block_lt_of_cell? _ _ (by assumption))).trans (by assumption),(hb2.cell (World.block_lt_of_cell? _ _ (by assumption))).trans (by assumption),(hb2.cell (World.block_lt_of_cell? _ _ (by assumption))).trans (by assumption),(hb2.cell (World.block_lt_of_cell? _ _ (by assumption))).trans (by assumption),(hb2.cell (World.block_lt_of_cell? _ _ (by assumption))).trans (by assumption),Below.trans (by assumption) (hb2.mono (Below.size (by assumption)))⟩)
        | (go_split_ands;exact ⟨by assumption,by assumption,by assumption,by assumption,by assumption,by assumption,by apply below_drew;assumption⟩)
        | go_keep)
       (first | (go_at_fn K;refine (HC.out _).mono ?_;rintro e w2 ⟨rfl,hb2⟩))
      rw [hw1.out,hw2.out,← hstep.out]
      have hbel9:Below wx.heap.size wx w2:=by
       first
        | assumption
        | (go_split_ands;assumption)
      clear hw1 hw2 hstep HC hb2
      go_wp2
      go_roundw
      case rel => exact ⟨j+1,by omega,by go_num,rfl,hbel9⟩
      case measure => simp [intOf];omega
     ·have hje:j=l.length:=by omega
      subst hje
      rw [List.take_length] at *
      have hsb:=needN_bd f l fun t ht => by
       have h:=hfb t ht
       have h':=fieldB_len (field_mem HRT.out ht)
       exact mul_bd h.1 h.2 h'.1 h'.2
      have hx0:=(hbi.cell (p:=⟨x,0,none⟩) hxl).trans hq0
      simp only [List.getElem?_toArray,List.getElem?_cons_zero] at hx0
      have hB1:=hbx.trans (hbi.mono hbx.size)
      have hB2:=hbx2.trans (hbi.mono hbx2.size)
      by_cases hs0:0<needN f l
      ·have hlp:1≤lim:=lim_pos (c:=c) (p:=p) (k:=k) (K:=K) ⟨eg,hcall,hfb,hff,hlb⟩ HRT.out hs0
       have hd1:Hid (stepN (workAt l c p k) (needN f l) lim=if workAt l c p k<(needN f l+lim-1) / lim then (needN f l+lim-1) / lim else workAt l c p k):=by unfold Hid stepN;rw [if_pos hs0]
       have hlz:¬ lim=0:=by omega
       clear hcall hfb hff eg hq0 hq1 hbi hbel hbel2 hbx hbx2
       go_wp2_with fail
       go_roundw
       case rel => exact ⟨k+1,by omega,by go_num,by rw [Hst.out,hd1.out],hB1,hB2⟩
       case measure => simp [intOf];omega
      ·have hsb0:decide (0<needN f l)=false:=by simpa using hs0
       have hd1:Hid (stepN (workAt l c p k) (needN f l) lim=workAt l c p k):=by unfold Hid stepN;rw [if_neg hs0]
       clear hcall hfb hff eg hq0 hq1 hbi hbel hbel2 hbx hbx2
       go_wp2_with fail
       go_roundw
       case rel => exact ⟨k+1,by omega,by go_num,by rw [Hst.out,hd1.out],hB1,hB2⟩
       case measure => simp [intOf];omega
   ·have hk2e:k=2:=by omega
    subst hk2e
    go_wp2_with fail
    refine bodyPost_ret (results_tmp2 rfl _ _ _) (by rfl) ?_
    refine ⟨?_,hbel⟩
    rw [Hg.out,if_pos rfl]
    rfl
 ·have Hg:=Lib.hid hg
  generalize hx:givenN l c p=x at *
  have hxb:(x == 0)=false:=by simpa using Hg.out
  clear hg
  go_enter Tryz.func52,Tryz.ntmps52
  go_wp2_with (go_at_call 92;refine hG.mono ?_;rintro e w1 ⟨rfl,hb1⟩)
  refine bodyPost_ret (results_tmp2 rfl _ _ _) (by rfl) ?_
  refine ⟨?_,hb1⟩
  rw [hx,if_neg Hg.out]
  rfl
end Go.Proofs.YtfhmbechennkbaaGreat
