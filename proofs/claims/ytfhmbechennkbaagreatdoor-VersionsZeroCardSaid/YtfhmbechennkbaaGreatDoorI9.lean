/- Lemmas. -/
import Derived.Test.YtfhmbechennkbaaGreatDoorD6
import Derived.Test.YtfhmbechennkbaaGreatDoorI8
namespace Go.Proofs.YtfhmbechennkbaaGreatDoor
set_option maxRecDepth 100000
set_option maxHeartbeats 40000000
open Go.RowKit Go.Shelf
def ku (p:Int):SetT:=⟨⟨#[97]⟩,0,0,9000,4000,[0,4000],p,0,1,1,0,[],[]⟩
theorem mN (p:Int) (w:World):Calls Tryz.prog 25 #[.int .i64 p] w fun e w'=>∃ v,e = .returned v∧SetAt w' w'.heap.size v (ku p)∧Below w.heap.size w w':=by
 go_enter Tryz.func25,Tryz.ntmps25
 go_wp2_with fail
 have h1:=iM (w.alloc (.cells #[.string ⟨#[97]⟩,.int .i64 0,.int .i64 0,.int .i64 9000,.int .i64 4000,.slice (some ⟨w.heap.size+1,0,none⟩) 2 2,.int .i64 p,.int .i64 0,.int .i64 1,.int .i64 1,.int .i64 0,.slice none 0 0,.slice none 0 0] 26)) 3 [0,4000] (by decide)
 have ao:Below w.heap.size w (w.alloc (.cells #[.string ⟨#[97]⟩,.int .i64 0,.int .i64 0,.int .i64 9000,.int .i64 4000,.slice (some ⟨w.heap.size+1,0,none⟩) 2 2,.int .i64 p,.int .i64 0,.int .i64 1,.int .i64 1,.int .i64 0,.slice none 0 0,.slice none 0 0] 26)):=(yB _ _).alloc (yA _) _
 have hd:=Blk.new w 26 #[.string ⟨#[97]⟩,.int .i64 0,.int .i64 0,.int .i64 9000,.int .i64 4000,.slice (some ⟨w.heap.size+1,0,none⟩) 2 2,.int .i64 p,.int .i64 0,.int .i64 1,.int .i64 1,.int .i64 0,.slice none 0 0,.slice none 0 0]
 have hs:(w.alloc (.cells #[.string ⟨#[97]⟩,.int .i64 0,.int .i64 0,.int .i64 9000,.int .i64 4000,.slice (some ⟨w.heap.size+1,0,none⟩) 2 2,.int .i64 p,.int .i64 0,.int .i64 1,.int .i64 1,.int .i64 0,.slice none 0 0,.slice none 0 0] 26)).heap.size=w.heap.size+1:=by simp
 generalize w.alloc (.cells #[.string ⟨#[97]⟩,.int .i64 0,.int .i64 0,.int .i64 9000,.int .i64 4000,.slice (some ⟨w.heap.size+1,0,none⟩) 2 2,.int .i64 p,.int .i64 0,.int .i64 1,.int .i64 1,.int .i64 0,.slice none 0 0,.slice none 0 0] 26)=W1 at *
 rw[hs] at h1
 have h1:bO (W1.alloc (.cells #[.int .i64 0,.int .i64 4000] 3)) (W1.alloc (.cells #[.int .i64 0,.int .i64 4000] 3)).heap.size (.slice (some ⟨w.heap.size+1,0,none⟩) 2 2) [0,4000]:=h1
 have WA:=hd.alloc (.cells #[.int .i64 0,.int .i64 4000] 3)
 have bE:Below W1.heap.size W1 (W1.alloc (.cells #[.int .i64 0,.int .i64 4000] 3)):=(yB _ _).alloc (yA _) _
 have HB:=zh (ao.trans (bE.mono ao.size))
 generalize W1.alloc (.cells #[.int .i64 0,.int .i64 4000] 3)=W4 at *
 obtain⟨z0,z1,z2,z3,z4,z5,z6,z7,z8,z9,jg,fc,gU⟩:=WA.c13
 refine YI (v:=.agg #[.string ⟨#[97]⟩,.int .i64 0,.int .i64 0,.int .i64 9000,.int .i64 4000,.slice (some ⟨w.heap.size+1,0,none⟩) 2 2,.int .i64 p,.int .i64 0,.int .i64 1,.int .i64 1,.int .i64 0,.slice none 0 0,.slice none 0 0]) (by simp[results,Tryz.results25,go_sem,z0,z1,z2,z3,z4,z5,z6,z7,z8,z9,jg,fc,gU]) rfl ?_
 exact⟨_,rfl,⟨_,_,_,_,_,_,rfl,h1,⟨none,0,rfl,yA _,yI _,fun h=>absurd h (Nat.lt_irrefl 0)⟩,⟨none,0,rfl,yA _,yI _,fun h=>absurd h (Nat.lt_irrefl 0)⟩⟩,HB.o⟩
theorem B6 (p:Int):SetNames (ku p):=⟨(show 1≤maxLen by unfold maxLen;decide),(fun x hx=>absurd hx List.not_mem_nil),(fun x hx=>absurd hx List.not_mem_nil)⟩
def nA:ByteArray:=⟨#[97]⟩
def w1:St:=⟨[ku 500],[[]],[],0⟩
def w2:St:=⟨[ku 500],[[]],[ku 500],1⟩
def w3:St:=⟨[ku 700],[[],[ku 500]],[ku 500],1⟩
def w4:St:=⟨[ku 700],[[],[ku 500]],[ku 500,ku 700],2⟩
def w5:St:=⟨[ku 500],[[]],[ku 500,ku 700],2⟩
theorem qvV:bS (ku 500)=true:=by decide +kernel
theorem qvU:bS (ku 700)=true:=by decide +kernel
theorem t1:putV O4 (ku 500)=(0,w1):=by kernel_rfl
theorem t2:bG w1 nA=w2:=by kernel_rfl
theorem t3:putV w2 (ku 700)=(0,w3):=by kernel_rfl
theorem t4:bG w3 nA=w4:=by kernel_rfl
theorem t5:cu w4=(0,w5):=by kernel_rfl
theorem t6:bG w5 nA=w5:=by kernel_rfl
theorem l1:ma w1 nA=([⟨1000,1⟩,⟨1000,1⟩],0):=by decide +kernel
theorem l3:ma w3 nA=([⟨1400,1⟩,⟨1400,1⟩],0):=by decide +kernel
theorem l5:ma w5 nA=([⟨1000,1⟩,⟨1000,1⟩],0):=by decide +kernel
theorem pG {B b t s n:Nat} {v:Value} {xs:List Value} {w w':World} (h:w.ownsRow b t s v n xs) (hc:ChgS B w w') (h1:t≠56) (h2:t≠46):w'.ownsRow b t s v n xs :=
 bX h fun g e=>let ⟨cs,hg⟩:=cm h e;hc.same g cs t (0,0) hg h1 h2
theorem VK {B D:Nat} {M:Nat→Prop} {st Ce:St} {nm:ByteArray} {w w':World} {e:Ending} {l:List FrT} {er:Int} (hp:lI B D M st nm w e w') (h1:ma st nm=(l,er)) (h2:bG st nm=Ce) :
  ChgS B w w'∧∃ M' r' A c,StoreAt w' B D M' Ce r'∧e = .returned (.tuple #[.slice A l.length c,.int .i64 er])∧w'.ownsRow w.heap.size 82 2 (.slice A l.length c) l.length (l.flatMap FrT.cells):=by
 obtain⟨hc,M',r',v,hS,-,he,ho,-⟩:=hp
 rw[h2] at hS
 rw[h1] at he ho
 obtain⟨A,c,rfl⟩:=bD ho
 exact⟨hc.chg,M',r',A,c,hS,he,ho⟩
theorem Vw {B D:Nat} {M:Nat→Prop} {o o':Int×St} {w w':World} {e:Ending} (hp:jF B D M o w e w') (h1:o=o'):e = .returned (.int .i64 o'.1)∧ChgS B w w'∧∃ M' r',StoreAt w' B D M' o'.2 r':=by
 subst h1
 obtain⟨he,hc,M',r',hS,-⟩:=hp
 exact⟨he,hc.chg,M',r',hS⟩
theorem ZA {B D:Nat} {M:Nat→Prop} {st:St} {o':Int×St} {w w':World} {e:Ending} (hp:lf B D M st w e w') (h1:cu st=o'):e = .returned (.int .i64 o'.1)∧ChgS B w w'∧∃ r',StoreAt w' B D M o'.2 r':=by
 obtain⟨he,hc,r',hS⟩:=hp
 rw[h1] at he hS
 exact⟨he,hc.chg,r',hS⟩
theorem ok_w1:StOk w1:=by
 have h:=StOk.put (st:=O4) vZ qvV
 rw[show fO O4 (ku 500)=(0,w1) from (by kernel_rfl)] at h
 exact h
theorem ok_w2:StOk w2:=by have:=ok_w1.lines nA;rw[t2] at this;exact this
theorem ok_w3:StOk w3:=by have:=ok_w2.put qvU;rw[show fO w2 (ku 700)=(0,w3) from (by kernel_rfl)] at this;exact this
theorem ok_w4:StOk w4:=by have:=ok_w3.lines nA;rw[t4] at this;exact this
theorem qz9:StOk w5:=by have:=ok_w4.undo;rw[t5] at this;exact this
theorem Nm {w:World} {B c:Nat} {A:Option Addr} {x y:FrT} (h:w.ownsRow B 82 2 (.slice A 2 c) 2 ([x,y].flatMap FrT.cells)):∃ g,A=some ⟨g,0,none⟩∧w.cell? ⟨g,0,none⟩=some (.int .i64 x.num)∧w.cell? ⟨g,1,none⟩=some (.int .i64 x.den):=by
 obtain⟨g,cap,e⟩:=ownsRow_succ h
 injection e with e1 _ _
 subst e1
 have h0:=h.cells (g:=g) (by simp[Value.ownBlock]) 0 _ rfl
 have h1:=h.cells (g:=g) (by simp[Value.ownBlock]) 1 _ rfl
 rw[Addr.add_lit] at h0 h1
 exact⟨g,rfl,h0,h1⟩
theorem AZ (w:World) (ht:Tab w):Calls Tryz.prog 16 #[] w fun e w'=>e = .returned (.bool true)∧Below w.heap.size w w':=by
 have HT:=zh ht
 clear ht
 go_enter Tryz.func16,Tryz.ntmps16
 go_wp2_with fail
 refine (qqG w.heap.size w (yA _)).mono ?_
 rintro e W1 ⟨D,rfl,ao,hS1⟩
 have bZ:=zh ao
 have rm:=zh hS1
 clear ao hS1
 go_wp2_with fail
 refine (mN 500 W1).mono ?_
 rintro e W2 ⟨v2,rfl,VZ,bE⟩
 have gx:=zh (rm.o.below bE)
 have bK:=zh (bZ.o.trans (bE.mono bZ.o.size))
 have HP2:=(Rv w.heap.size D _ O4 r0 v2 (ku 500) W2 gx.o vZ VZ (B6 500) (by decide)).mono fun _ _ hp=>Vw hp t1
 clear bE VZ rm bZ
 go_wp2_with fail
 refine HP2.mono ?_
 rintro e W3 ⟨rfl,hc3,M3,r3,Zo⟩
 try dsimp only at Zo ⊢
 have jS:=zh Zo
 have bY:=zh (bK.o.trans hc3.bel)
 have HP3:=(vw w.heap.size D M3 w1 r3 ⟨#[97]⟩ W3 Zo ok_w1 (HT.o.below bY.o) (by decide) (by decide)).mono fun _ _ hp=>VK hp l1 t2
 clear hc3 Zo HP2 gx bK
 go_wp2_with fail
 refine HP3.mono ?_
 rintro e W4 ⟨NC,M4,r4,Aa,ca,hS4,rfl,hoa⟩
 try dsimp only[List.length] at hoa ⊢
 have iW:=zh hS4
 have dU:=zh (bY.o.trans NC.bel)
 have Oi:=zh hoa
 have hW4:=Ej w.heap.size D M4 w2 r4 W4 hS4
 rw[show ((w2.work:Nat):Int)=1 from rfl] at hW4
 clear NC hS4 HP3 jS bY hoa
 go_wp2_with fail
 refine hW4.mono ?_
 rintro e W4' ⟨rfl,rfl⟩
 go_wp2_with fail
 refine (mN 700 W4).mono ?_
 rintro e W5 ⟨v5,rfl,hv5,bg⟩
 have gD:=zh (iW.o.below bg)
 have cN:=zh (dU.o.trans (bg.mono dU.o.size))
 have kg:=zh (bQ Oi.o bg)
 have Zy:=(Rv w.heap.size D _ w2 r4 v5 (ku 700) W5 gD.o ok_w2 hv5 (B6 700) (by decide)).mono fun _ _ hp=>Vw hp t3
 clear bg hv5 iW dU Oi hW4
 go_wp2_with fail
 refine Zy.mono ?_
 rintro e W6 ⟨rfl,hc6,M6,r6,hS6⟩
 try dsimp only at hS6 ⊢
 have HS6:=zh hS6
 have lK:=zh (cN.o.trans hc6.bel)
 have tS:=zh (pG kg.o hc6 (by decide) (by decide))
 have HP6:=(vw w.heap.size D M6 w3 r6 ⟨#[97]⟩ W6 hS6 ok_w3 (HT.o.below lK.o) (by decide) (by decide)).mono fun _ _ hp=>VK hp l3 t4
 clear hc6 hS6 Zy gD cN kg
 go_wp2_with fail
 refine HP6.mono ?_
 rintro e W7 ⟨FA,M7,r7,Ab,cb,hS7,rfl,Wk⟩
 try dsimp only[List.length] at Wk ⊢
 have C6:=zh hS7
 have CG:=zh (lK.o.trans FA.bel)
 have HO7:=zh (pG tS.o FA (by decide) (by decide))
 have HOb:=zh Wk
 have hW7:=Ej w.heap.size D M7 w4 r7 W7 hS7
 rw[show ((w4.work:Nat):Int)=2 from rfl] at hW7
 have HP7:=(Ru w.heap.size D M7 w4 r7 W7 hS7 (by decide)).mono fun _ _ (hp:lf _ _ _ _ _ _ _)=>ZA hp t5
 clear FA hS7 HP6 HS6 lK Wk tS
 go_wp2_with fail
 refine hW7.mono ?_
 rintro e W7' ⟨rfl,rfl⟩
 go_wp2_with fail
 refine HP7.mono ?_
 rintro e W8 ⟨rfl,hc8,r8,hS8⟩
 try dsimp only at hS8 ⊢
 have iV:=zh hS8
 have dP:=zh (CG.o.trans hc8.bel)
 have Qz:=zh (pG HO7.o hc8 (by decide) (by decide))
 have qj3:=zh (pG HOb.o hc8 (by decide) (by decide))
 have HP8:=(vw w.heap.size D M7 w5 r8 ⟨#[97]⟩ W8 hS8 qz9 (HT.o.below dP.o) (by decide) (by decide)).mono fun _ _ hp=>VK hp l5 t6
 clear hc8 hS8 HP7 C6 CG HO7 HOb hW7
 go_wp2_with fail
 refine HP8.mono ?_
 rintro e W9 ⟨hc9,M9,r9,Ac,cc,hS9,rfl,hoc⟩
 try dsimp only[List.length] at hoc ⊢
 have lJ:=zh (dP.o.trans hc9.bel)
 have Kg:=zh (pG Qz.o hc9 (by decide) (by decide))
 have qj2:=zh (pG qj3.o hc9 (by decide) (by decide))
 have hW9:=Ej w.heap.size D M9 w5 r9 W9 hS9
 rw[show ((w5.work:Nat):Int)=2 from rfl] at hW9
 have Jh:=DD _ _ [⟨1000,1⟩,⟨1000,1⟩] [⟨1000,1⟩,⟨1000,1⟩] W9.heap.size W9 (Flat.of_own Kg.o) (Flat.of_own hoc)
 rw[show decide (([⟨1000,1⟩,⟨1000,1⟩]:List FrT)=[⟨1000,1⟩,⟨1000,1⟩])=true by simp] at Jh
 try dsimp only[List.length] at Jh
 obtain⟨ga,rfl,ya0,ya1⟩:=Nm Kg.o
 obtain⟨gb,rfl,yb0,yb1⟩:=Nm qj2.o
 simp only at ya0 ya1 yb0 yb1
 clear hc9 hS9 HP8 iV dP Qz qj3 hoc Kg qj2
 go_wp2_with fail
 refine hW9.mono ?_
 rintro e W9' ⟨rfl,rfl⟩
 go_wp2_with fail
 refine Jh.mono ?_
 rintro e Mw ⟨rfl,nq,rfl⟩
 have HBz:=zh (Zf lJ.o nq)
 clear lJ hW9 Jh
 go_wp2_with fail
 go_ret
 exact⟨rfl,HBz.o⟩
structure ActC where
 kind:Int
 c:SetC
def ActC.cells (a:ActC):List Value:=.int .i64 a.kind::a.c.cells
def ActC.val (a:ActC):Value:=.agg a.cells.toArray
def ActsAt (w:World) (B:Nat) (v:Value) (L:List ActC):Prop:=Flat w B v L.length (L.flatMap ActC.cells)∧∀ a∈L,SetAt w B a.c.val a.c.s∧SetNames a.c.s
theorem ActsAt.below {w w':World} {B B':Nat} {v:Value} {L:List ActC} (h:ActsAt w B v L) (hb:Below B' w w') (hB:B≤B'):ActsAt w' B v L:=⟨Flat.below h.1 hb hB,fun a ha=>⟨(h.2 a ha).1.below hb hB,(h.2 a ha).2⟩⟩
theorem ActsAt.mono {w:World} {B B':Nat} {v:Value} {L:List ActC} (h:ActsAt w B v L) (hB:B≤B'):ActsAt w B' v L:=⟨Flat.mono h.1 hB,fun a ha=>⟨(h.2 a ha).1.mono hB,(h.2 a ha).2⟩⟩
def YM (w:World) (b off:Nat) (a:ActC):Prop:=∀ (i:Nat) u,a.cells[i]? = some u→w.cell? ⟨b,off+i,none⟩=some u
theorem ActsAt.open_ {w:World} {B:Nat} {v:Value} {L:List ActC} (h:ActsAt w B v L):∃ A c,v = .slice A L.length c∧L.length≤c∧c≤maxLen∧∀ k (_:k<L.length),∃ b off,A=some ⟨b,off,none⟩∧b<B∧∀ j (hj:j<L.length),YM w b (off+j*14) L[j]:=by
 obtain⟨⟨A,c,h1,h2,h3,h4⟩,_⟩:=h
 refine⟨A,c,h1,h2,h3,fun k hk=>?_⟩
 obtain⟨b,off,e,hl,hc⟩:=h4 (by omega)
 refine⟨b,off,e,hl,fun j hj i u hu=>?_⟩
 have hi:i<14:=by
  have:=(List.getElem?_eq_some_iff.1 hu).1
  simpa[ActC.cells,SetC.cells] using this
 rw[Nat.add_assoc]
 exact hc (j*14+i) u ((fC ActC.cells 14 (fun _=>rfl) L j i hj hi).trans hu)
def lO (st:St) (kind:Int) (x:SetT):St :=
 if kind=0 then (putV st x).2 else if kind=1 then (cw st x.name).2 else if kind=2 then (cu st).2 else if kind=3 then bG st x.name else st
theorem StOk.putV {st:St} (h:StOk st) (x:SetT):StOk (putV st x).2:=by
 unfold Go.Proofs.YtfhmbechennkbaaGreatDoor.putV
 split
 ·rename_i hx
  exact h.put hx
 exact h
theorem StOk.act {st:St} (h:StOk st) (kind:Int) (x:SetT):StOk (lO st kind x):=by
 unfold lO
 split
 ·exact h.putV x
 split
 ·exact h.drop _
 split
 ·exact h.undo
 split
 ·exact h.lines _
 exact h
structure StSmall (st:St) (n:Nat):Prop where
 past:st.past.length≤n
 known:st.known.length≤n
 work:st.work≤n
theorem StSmall.mono {st:St} {n m:Nat} (h:StSmall st n) (hm:n≤m):StSmall st m:=⟨yH h.past hm,yH h.known hm,yH h.work hm⟩
theorem StSmall.put {st:St} {n:Nat} (h:StSmall st n) (x:SetT):StSmall (fO st x).2 (n+1):=by
 unfold fO
 cases fG st.sets x.name with
 | some k=>
  dsimp only
  split
  ·exact h.mono (YK n)
  exact⟨by rw[yQ];exact Nat.succ_le_succ h.past,Nat.le_succ_of_le h.known,Nat.le_succ_of_le h.work⟩
 | none=>
  dsimp only
  split
  ·exact h.mono (YK n)
  exact⟨by rw[yQ];exact Nat.succ_le_succ h.past,Nat.le_succ_of_le h.known,Nat.le_succ_of_le h.work⟩
theorem StSmall.lines {st:St} {n:Nat} (h:StSmall st n) (nm:ByteArray):StSmall (bG st nm) (n+1):=by
 unfold bG
 cases fG st.sets nm with
 | none=>exact h.mono (YK n)
 | some k=>
  cases hk:st.sets[k]? with
  | none=>simpa[hk] using h.mono (YK n)
  | some x=>
   simp only[hk]
   split
   ·exact h.mono (YK n)
   exact⟨Nat.le_succ_of_le h.past,by rw[yQ];exact Nat.succ_le_succ h.known,Nat.succ_le_succ h.work⟩
theorem StSmall.act {st:St} {n:Nat} (h:StSmall st n) (kind:Int) (x:SetT):StSmall (lO st kind x) (n+1):=by
 unfold lO
 split
 ·unfold putV
  split
  ·exact h.put x
  exact h.mono (YK n)
 split
 ·unfold cw
  cases fG st.sets x.name with
  | none=>exact h.mono (YK n)
  | some k=>exact⟨by rw[yQ];exact Nat.succ_le_succ h.past,Nat.le_succ_of_le h.known,Nat.le_succ_of_le h.work⟩
 split
 ·unfold cu
  split
  ·exact h.mono (YK n)
  exact⟨by rw[List.length_dropLast];exact yH (Nat.sub_le _ _) (Nat.le_succ_of_le h.past),Nat.le_succ_of_le h.known,Nat.le_succ_of_le h.work⟩
 split
 ·exact h.lines _
 exact h.mono (YK n)
def dq (L:List ActC) (k:Nat):St:=(L.take k).foldl (fun st a=>lO st a.kind a.c.s) O4
theorem pb {L:List ActC} {k:Nat} (hk:k<L.length):dq L (k+1)=lO (dq L k) L[k].kind L[k].c.s:=by
 unfold dq
 rw[aC L k hk,List.foldl_append]
 rfl
structure StLen (st:St) (n:Nat):Prop where
 sets:st.sets.length≤n
 past:∀ l∈st.past,l.length≤n
theorem StLen.mono {st:St} {n m:Nat} (h:StLen st n) (hm:n≤m):StLen st m:=⟨yH h.sets hm,fun l hl=>yH (h.past l hl) hm⟩
theorem StLen.step {st:St} {n:Nat} (h:StLen st n) {l:List SetT} (hl:l.length≤n+1) (g:St) (e1:g.sets=l) (e2:g.past=st.past++[st.sets]):StLen g (n+1):=by
 refine⟨by rw[e1];exact hl,fun l' hl'=>?_⟩
 rw[e2] at hl'
 rcases List.mem_append.1 hl' with h1 | h1
 ·exact Nat.le_succ_of_le (h.past l' h1)
 rw[List.mem_singleton.1 h1];exact Nat.le_succ_of_le h.sets
theorem StLen.put {st:St} {n:Nat} (h:StLen st n) (x:SetT):StLen (fO st x).2 (n+1):=by
 unfold fO
 cases fG st.sets x.name with
 | some k=>
  dsimp only
  split
  ·exact h.mono (YK n)
  exact h.step (l:=st.sets.set k x) (by rw[List.length_set];exact Nat.le_succ_of_le h.sets) _ rfl rfl
 | none=>
  dsimp only
  split
  ·exact h.mono (YK n)
  exact h.step (l:=st.sets++[x]) (by rw[yQ];exact Nat.succ_le_succ h.sets) _ rfl rfl
theorem StLen.lines {st:St} {n:Nat} (h:StLen st n) (nm:ByteArray):StLen (bG st nm) (n+1):=by
 unfold bG
 cases fG st.sets nm with
 | none=>exact h.mono (YK n)
 | some k=>
  cases hk:st.sets[k]? with
  | none=>simpa[hk] using h.mono (YK n)
  | some x=>
   simp only[hk]
   split
   ·exact h.mono (YK n)
   exact⟨Nat.le_succ_of_le h.sets,fun l hl=>Nat.le_succ_of_le (h.past l hl)⟩
theorem StLen.act {st:St} {n:Nat} (h:StLen st n) (kind:Int) (x:SetT):StLen (lO st kind x) (n+1):=by
 unfold lO
 split
 ·unfold putV
  split
  ·exact h.put x
  exact h.mono (YK n)
 split
 ·unfold cw
  cases fG st.sets x.name with
  | none=>exact h.mono (YK n)
  | some k=>exact h.step (l:=st.sets.eraseIdx k) (yH (List.length_eraseIdx_le ..) (Nat.le_succ_of_le h.sets)) _ rfl rfl
 split
 ·unfold cu
  split
  ·exact h.mono (YK n)
  rename_i hp
  refine⟨?_,fun l hl=>Nat.le_succ_of_le (h.past l (List.dropLast_subset _ hl))⟩
  have e:st.past.getLastD []=st.past.getLast hp:=by
   rw[List.getLastD_eq_getLast?,List.getLast?_eq_some_getLast hp]
   rfl
  show (st.past.getLastD []).length≤n+1
  rw[e]
  exact Nat.le_succ_of_le (h.past _ (List.getLast_mem hp))
 split
 ·exact h.lines _
 exact h.mono (YK n)
theorem mr (L:List ActC):∀ k,k ≤ L.length→StOk (dq L k) ∧ StSmall (dq L k) k ∧ StLen (dq L k) k
 | 0,_=>by
  have e:dq L 0=O4:=by unfold dq;rw[List.take_zero];rfl
  rw[e]
  exact⟨vZ,⟨yA _,yA _,yA _⟩,⟨yA _,fun l hl=>nomatch hl⟩⟩
 | k+1,hk=>by
  obtain⟨h1,h2,h3⟩:=mr L k (by omega)
  rw[pb (by omega:k<L.length)]
  exact⟨h1.act _ _,h2.act _ _,h3.act _ _⟩
theorem EI (v:Value) (l:List ActC) (K:Nat) (C:Array Value) (eg:∀ args w,(callFunc K args).run Tryz.prog w = .ok (.enter K args) w) (w:World) (hl:ActsAt w w.heap.size v l)
  (hf:∀ t∈l,∀ w',Below w.heap.size w w'→Calls Tryz.prog K (#[t.val]++C) w' (QD w')) :
  Calls Tryz.prog 99 #[v,.func (.func K) #[] C] w fun e w'=>(∃ z:Int,e = .returned (.int .i64 z))∧Below w.heap.size w w':=by
 obtain⟨A,c,rfl,gC,dr,ah⟩:=hl.open_
 unfold maxLen at dr
 have HF:=zh hf
 have HC:=zh ah
 clear hf ah
 go_enter Tryz.func99,Tryz.ntmps99
 go_wp2
 go_loopw [8] (fun x wr=>∃ j:Nat,j≤l.length∧x = .int .i64 j∧Below w.heap.size w wr) (fun x _=>l.length-(intOf x).toNat)
 case atStart=>exact⟨0,yI _,rfl,yB _ _⟩
 obtain⟨j,hj,rfl,av⟩:=hrel
 by_cases aw:j<l.length
 ·obtain⟨b,off,rfl,hb,ah⟩:=HC.o j aw
  have h0:=(av.cell (p:=⟨b,off+j*14,none⟩) hb).trans (ah j aw 0 _ rfl)
  have h1:=(av.cell (p:=⟨b,off+j*14+1,none⟩) hb).trans (ah j aw 1 _ rfl)
  have h2:=(av.cell (p:=⟨b,off+j*14+2,none⟩) hb).trans (ah j aw 2 _ rfl)
  have h3:=(av.cell (p:=⟨b,off+j*14+3,none⟩) hb).trans (ah j aw 3 _ rfl)
  have h4:=(av.cell (p:=⟨b,off+j*14+4,none⟩) hb).trans (ah j aw 4 _ rfl)
  have h5:=(av.cell (p:=⟨b,off+j*14+5,none⟩) hb).trans (ah j aw 5 _ rfl)
  have h6:=(av.cell (p:=⟨b,off+j*14+6,none⟩) hb).trans (ah j aw 6 _ rfl)
  have h7:=(av.cell (p:=⟨b,off+j*14+7,none⟩) hb).trans (ah j aw 7 _ rfl)
  have h8:=(av.cell (p:=⟨b,off+j*14+8,none⟩) hb).trans (ah j aw 8 _ rfl)
  have h9:=(av.cell (p:=⟨b,off+j*14+9,none⟩) hb).trans (ah j aw 9 _ rfl)
  have vC:=(av.cell (p:=⟨b,off+j*14+10,none⟩) hb).trans (ah j aw 10 _ rfl)
  have Cz:=(av.cell (p:=⟨b,off+j*14+11,none⟩) hb).trans (ah j aw 11 _ rfl)
  have m6:=(av.cell (p:=⟨b,off+j*14+12,none⟩) hb).trans (ah j aw 12 _ rfl)
  have Ch:=(av.cell (p:=⟨b,off+j*14+13,none⟩) hb).trans (ah j aw 13 _ rfl)
  clear ah
  have eo:=HF.o l[j] (yV aw)
  generalize l[j]=t at *
  go_wp2_with (go_at_fn K;refine (eo _ av).mono ?_;rintro e w' ⟨q,rfl,gZ⟩)
  ·go_ret
   exact⟨⟨_,rfl⟩,av.trans (gZ.mono av.size)⟩
  go_roundw
  case rel=>exact⟨j+1,by omega,by go_num,av.trans (gZ.mono av.size)⟩
  simp[intOf];omega
 have mQ:j=l.length:=by omega
 subst mQ
 go_wp2
 go_ret
 exact⟨⟨_,rfl⟩,av⟩
theorem vi (v:Value) (l:List ActC) (K:Nat) (C:Array Value) (eg:∀ args w,(callFunc K args).run Tryz.prog w = .ok (.enter K args) w) (w:World) (hl:ActsAt w w.heap.size v l)
  (hf:∀ t∈l,∀ w',Below w.heap.size w w'→Calls Tryz.prog K (#[t.val]++C) w' (QD w')) :
  Calls Tryz.prog 55 #[v,.func (.func K) #[] C] w (QD w):=by
 have hI:=EI v l K C eg w hl hf
 obtain⟨A,c,rfl,-⟩:=hl.open_
 clear hl hf
 go_enter Tryz.func55,Tryz.ntmps55
 go_wp2_with fail
 refine hI.mono ?_
 rintro e w2 ⟨⟨z,rfl⟩,bE⟩
 go_wp2_with fail
 go_ret
 exact⟨_,rfl,bE⟩
theorem Fb:∀ args w,(callFunc 56 args).run Tryz.prog w = .ok (.enter 56 args) w:=enters_of Tryz.func56 (by kernel_rfl) rfl
theorem Pq (a:ActC) (w:World) (hs:SetAt w w.heap.size a.c.val a.c.s) (hn:SetNames a.c.s):Calls Tryz.prog 56 (#[a.val]++#[]) w (QD w):=by
 obtain⟨k,s,al,cl,ai,ci,ab,cb⟩:=a
 show Calls Tryz.prog 56 #[.agg #[.int .i64 k,.string s.name,.int .i64 s.depth,.int .i64 s.low,.int .i64 s.high,.int .i64 s.len,.slice al s.lines.length cl,.int .i64 s.pipe,.int .i64 s.arbor,.int .i64 s.purch,.int .i64 s.most,.int .i64 s.brake,.slice ai s.items.length ci,.slice ab s.bricks.length cb]] w (QD w)
 have HB:=zh ((yB _ w).alloc (yA _) (.cells #[.int .i64 k,.string s.name,.int .i64 s.depth,.int .i64 s.low,.int .i64 s.high,.int .i64 s.len,.slice al s.lines.length cl,.int .i64 s.pipe,.int .i64 s.arbor,.int .i64 s.purch,.int .i64 s.most,.int .i64 s.brake,.slice ai s.items.length ci,.slice ab s.bricks.length cb] 51))
 have hS:=R6 (aL s al cl ai ci ab cb) s 6 _ ((hs.below HB.o (yA _)).mono HB.o.size) hn.name hn.items hn.bricks
 clear hs hn
 go_enter Tryz.func56,Tryz.ntmps56
 go_wp2_with fail
 refine hS.mono ?_
 rintro e w2 ⟨q,rfl,bE⟩
 have hb:=HB.o.trans (bE.mono HB.o.size)
 go_wp2_with fail
 go_ret
 exact⟨_,rfl,hb⟩
theorem Nv (v:Value) (l:List ActC) (w:World) (hl:ActsAt w w.heap.size v l):Calls Tryz.prog 17 #[v] w fun e w'=>∃ q:Bool,e = .returned (.bool q)∧Below w.heap.size w w'∧(q=false→l.length≤12):=by
 have hC:=vi v l 56 #[] Fb w hl fun t ht w' hb=>Pq t w' (((hl.2 t ht).1.below hb (yA _)).mono hb.size) (hl.2 t ht).2
 obtain⟨A,c,rfl,-⟩:=hl.open_
 clear hl
 by_cases m6:12<(l.length:Int)
 ·have d:decide (12<(l.length:Int))=true:=yD m6
  go_enter Tryz.func17,Tryz.ntmps17
  go_wp2_with fail
  go_ret
  exact⟨true,rfl,yB _ _,fun h=>nomatch h⟩
 have d:decide (12<(l.length:Int))=false:=yC m6
 have HL:Y0 (l.length≤12):=zh (by omega)
 go_enter Tryz.func17,Tryz.ntmps17
 go_wp2_with fail
 refine hC.mono ?_
 rintro e w2 ⟨q,rfl,bE⟩
 go_wp2_with fail
 go_ret
 exact⟨q,rfl,bE,fun _=>HL.o⟩
theorem qvb (k:Int):(k=0∨k≠0∧k=1)∨(k≠0∧k≠1∧k=2)∨(k≠0∧k≠1∧k≠2∧k=3)∨(k≠0∧k≠1∧k≠2∧k≠3):=by omega
theorem vqr {st:St} {k:Int} {x:SetT} (h:k=0):lO st k x=(putV st x).2:=by unfold lO;rw[if_pos h]
theorem vqq {st:St} {k:Int} {x:SetT} (h:k=1):lO st k x=(cw st x.name).2:=by subst h;rfl
theorem vqp {st:St} {k:Int} {x:SetT} (h:k=2):lO st k x=(cu st).2:=by subst h;rfl
theorem vqo {st:St} {k:Int} {x:SetT} (h:k=3):lO st k x=bG st x.name:=by subst h;rfl
theorem vqn {st:St} {k:Int} {x:SetT} (h0:k≠0) (h1:k≠1) (h2:k≠2) (h3:k≠3):lO st k x=st:=by unfold lO;rw[if_neg h0,if_neg h1,if_neg h2,if_neg h3]
end Go.Proofs.YtfhmbechennkbaaGreatDoor
