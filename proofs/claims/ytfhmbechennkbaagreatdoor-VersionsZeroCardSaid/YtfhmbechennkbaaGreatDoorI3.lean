/- Lemmas. -/
import Derived.Laws.EntriesVeiled
import Derived.Test.YtfhmbechennkbaaGreatDoorD9
import Derived.Test.YtfhmbechennkbaaGreatDoorI1
namespace Go.Proofs.YtfhmbechennkbaaGreatDoor
set_option maxRecDepth 100000
set_option maxHeartbeats 40000000
open Go.RowKit Go.Shelf
def FlatM (w:World) (M:Nat→Prop) (v:Value) (n:Nat) (xs:List Value):Prop :=
 ∃ A c,v = .slice A n c∧n≤c∧c≤maxLen∧(0<n→∃ b off,A=some ⟨b,off,none⟩∧M b∧b<w.heap.size∧∀ (j:Nat) u,xs[j]? = some u→w.cell? ⟨b,off+j,none⟩=some u)
structure KeepM (M:Nat→Prop) (w w':World):Prop where
 size:w.heap.size≤w'.heap.size
 same:∀ g,M g→g<w.heap.size→w'.heap[g]? = w.heap[g]?
theorem KeepM.refl (M:Nat→Prop) (w:World):KeepM M w w:=⟨yA _,fun _ _ _=>rfl⟩
theorem KeepM.trans {M:Nat→Prop} {a b c:World} (h:KeepM M a b) (k:KeepM M b c):KeepM M a c :=
 ⟨yH h.size k.size,fun g hg hl=>(k.same g hg (yK hl h.size)).trans (h.same g hg hl)⟩
theorem KeepM.of_below {M:Nat→Prop} {w w':World} (h:Below w.heap.size w w'):KeepM M w w':=⟨h.size,fun g _ hl=>h.block g hl⟩
theorem KeepM.sub {M M':Nat→Prop} {w w':World} (h:KeepM M w w') (hs:∀ g,M' g→M g):KeepM M' w w':=⟨h.size,fun g hg hl=>h.same g (hs g hg) hl⟩
theorem Qg {w w':World} {b o:Nat} (h:w'.heap[b]? = w.heap[b]?):w'.cell? ⟨b,o,none⟩=w.cell? ⟨b,o,none⟩:=by
 simp[World.cell?,h]
section
variable {w w':World} {M M':Nat→Prop} {v:Value} {n:Nat} {xs:List Value}
theorem FlatM.flat (h:FlatM w M v n xs):Flat w w.heap.size v n xs:=by
 obtain⟨A,c,h1,h2,h3,h4⟩:=h
 exact⟨A,c,h1,h2,h3,fun hn=>let ⟨b,off,e,_,hl,hc⟩:=h4 hn;⟨b,off,e,hl,hc⟩⟩
theorem FlatM.kept (h:FlatM w M v n xs) (hk:KeepM M w w'):FlatM w' M v n xs:=by
 obtain⟨A,c,h1,h2,h3,h4⟩:=h
 refine⟨A,c,h1,h2,h3,fun hn=>?_⟩
 obtain⟨b,off,e,hm,hl,hc⟩:=h4 hn
 exact⟨b,off,e,hm,yK hl hk.size,fun j u hu=>(Qg (hk.same b hm hl)).trans (hc j u hu)⟩
theorem FlatM.sub (h:FlatM w M v n xs) (hs:∀ g,M g→M' g):FlatM w M' v n xs:=by
 obtain⟨A,c,h1,h2,h3,h4⟩:=h
 refine⟨A,c,h1,h2,h3,fun hn=>?_⟩
 obtain⟨b,off,e,hm,hl,hc⟩:=h4 hn
 exact⟨b,off,e,hs b hm,hl,hc⟩
theorem FlatM.of_own {base e size:Nat} (h:w.ownsRow base e size v n xs) (hM:∀ g,v.ownBlock=some g→M g):FlatM w M v n xs:=by
 obtain⟨hl,⟨rfl,rfl⟩ | ⟨g,cap,cur,rfl,hb,hg,hnc,Ja,mR,ht⟩⟩:=h
 ·exact⟨none,0,rfl,yA _,yI _,fun h=>absurd h (by omega)⟩
 refine⟨_,_,rfl,hnc,Ja,fun _=>⟨g,0,rfl,hM g (by simp[Value.ownBlock]),(Array.getElem?_eq_some_iff.1 hg).1,fun j u hu=>?_⟩⟩
 rw[yR,cell_of_row w g j cur e (0,0) hg]
 rw[← ht,List.getElem?_take] at hu
 split at hu
 ·simpa using hu
 cases hu
theorem FlatM.nil:FlatM w M (.slice none 0 0) 0 []:=⟨none,0,rfl,yA _,yI _,fun h=>absurd h (by omega)⟩
end
structure SetC where
 s:SetT
 al:Option Addr
 cl:Nat
 ai:Option Addr
 ci:Nat
 ab:Option Addr
 cb:Nat
def SetC.cells (c:SetC):List Value:=[.string c.s.name,.int .i64 c.s.depth,.int .i64 c.s.low,.int .i64 c.s.high,.int .i64 c.s.len,.slice c.al c.s.lines.length c.cl,.int .i64 c.s.pipe,.int .i64 c.s.arbor,.int .i64 c.s.purch,.int .i64 c.s.most,.int .i64 c.s.brake,.slice c.ai c.s.items.length c.ci,.slice c.ab c.s.bricks.length c.cb]
def SetC.val (c:SetC):Value:=aL c.s c.al c.cl c.ai c.ci c.ab c.cb
def SetCM (w:World) (M:Nat→Prop) (c:SetC):Prop :=
 FlatM w M (.slice c.al c.s.lines.length c.cl) c.s.lines.length (c.s.lines.map (Value.int .i64))∧FlatM w M (.slice c.ai c.s.items.length c.ci) c.s.items.length (c.s.items.flatMap ItemT.cells)∧FlatM w M (.slice c.ab c.s.bricks.length c.cb) c.s.bricks.length (c.s.bricks.flatMap BrickT.cells)
def SetsM (w:World) (M:Nat→Prop) (v:Value) (L:List SetC):Prop:=FlatM w M v L.length (L.flatMap SetC.cells)∧∀ c∈L,SetCM w M c
section
variable {w w':World} {M M':Nat→Prop} {v:Value} {c:SetC} {L:List SetC}
theorem SetCM.set (h:SetCM w M c):SetAt w w.heap.size c.val c.s:=⟨_,_,_,_,_,_,rfl,h.1.flat,h.2.1.flat,h.2.2.flat⟩
theorem SetCM.kept (h:SetCM w M c) (hk:KeepM M w w'):SetCM w' M c:=⟨h.1.kept hk,h.2.1.kept hk,h.2.2.kept hk⟩
theorem SetCM.sub (h:SetCM w M c) (hs:∀ g,M g→M' g):SetCM w M' c:=⟨h.1.sub hs,h.2.1.sub hs,h.2.2.sub hs⟩
theorem SetsM.kept (h:SetsM w M v L) (hk:KeepM M w w'):SetsM w' M v L:=⟨h.1.kept hk,fun c hc=>(h.2 c hc).kept hk⟩
theorem SetsM.sub (h:SetsM w M v L) (hs:∀ g,M g→M' g):SetsM w M' v L:=⟨h.1.sub hs,fun c hc=>(h.2 c hc).sub hs⟩
theorem SetsM.nil:SetsM w M (.slice none 0 0) []:=⟨FlatM.nil,fun _ h=>by cases h⟩
def JH (w:World) (b off:Nat) (c:SetC):Prop:=∀ (i:Nat) u,c.cells[i]? = some u→w.cell? ⟨b,off+i,none⟩=some u
theorem SetsM.open_ (h:SetsM w M v L):∃ A c,v = .slice A L.length c∧L.length≤c∧c≤maxLen∧∀ k (_:k<L.length),∃ b off,A=some ⟨b,off,none⟩∧M b∧b<w.heap.size∧∀ j (hj:j<L.length),JH w b (off+j*13) L[j]:=by
 obtain⟨⟨A,c,h1,h2,h3,h4⟩,_⟩:=h
 refine⟨A,c,h1,h2,h3,fun k hk=>?_⟩
 obtain⟨b,off,e,hm,hl,hc⟩:=h4 (by omega)
 refine⟨b,off,e,hm,hl,fun j hj i u hu=>?_⟩
 have hi:i<13:=by
  have:=(List.getElem?_eq_some_iff.1 hu).1
  simpa[SetC.cells] using this
 rw[Nat.add_assoc]
 exact hc (j*13+i) u ((fC SetC.cells 13 (fun _=>rfl) L j i hj hi).trans hu)
end
open Go.RowKit Go.Shelf Go.WideMaps Go.Maps
def rY (v:Value):Option (DataW Value×List MemPlace):=some (.held v,[])
def KMap (w:World) (b n:Nat) (F:ByteArray→Option Value):Prop :=
 ∃ D:DataW Value,w.ownsMap Tryz.prog 9 rY b n D∧(∀ s,Maps.has D (lk s)=(F s).isSome)∧∀ s v,F s=some v→∀ z,D.atKey (lk s) z = .held v
theorem KMap.lt {w:World} {b n:Nat} {F:ByteArray→Option Value} (h:KMap w b n F):b<w.heap.size:=let ⟨_,h,_⟩:=h;h.lt
theorem KMap.kept {w w':World} {b n:Nat} {F:ByteArray→Option Value} (h:KMap w b n F) {row:Option Nat} (hg:w.grownBy w' row) (fB:some b≠row):KMap w' b n F :=
 let ⟨D,h1,h2,h3⟩:=h
 ⟨D,h1.kept hg fB,h2,h3⟩
theorem KMap.of_heap {w w':World} {b n:Nat} {F:ByteArray→Option Value} (h:KMap w b n F) (he:w'.heap[b]? = w.heap[b]?):KMap w' b n F:=by
 obtain⟨D,⟨es,clock,h0,r⟩,h2,h3⟩:=h
 exact⟨D,⟨es,clock,he.trans h0,r⟩,h2,h3⟩
theorem KMap.made (w:World):KMap (w.alloc (.map #[] 0)) w.heap.size 0 (fun _=>none) :=
 ⟨_,World.ownsMap_made w _ _ _,fun s=>by simp[Maps.has],fun s v h=>by cases h⟩
theorem KMap.look {w:World} {b n:Nat} {F:ByteArray→Option Value} (h:KMap w b n F) {t e:TypeId} (ht:Tryz.prog.underlying t=some (.map 9 e)) {z:Value} (hz:(zeroValue e).run Tryz.prog w = .ok z w) {s:ByteArray} (hs:s.size≤maxLen) :
  (Instr.lookup t (.map (some b)) (.string s) true).run Tryz.prog w = .ok (.tuple #[(F s).getD z,.bool (F s).isSome]) w:=by
 obtain⟨D,h1,h2,h3⟩:=h
 obtain⟨v,ps,fh,hv⟩:=h1.look_ok qH ht hz (show rY z=some (.held z,[]) from rfl) (rU hs)
 have e1:DataW.held v=D.atKey (lk s) (.held z):=by
  have:=congrArg (fun o:Option (DataW Value×List MemPlace)=>o.map Prod.fst) hv
  simpa[rY] using this
 have e2:v=(F s).getD z:=by
  have hh:=h2 s
  cases hF:F s with
  | none=>
   rw[hF] at hh
   rw[Maps.atKey_of_not_has hh] at e1
   exact DataW.held.inj e1
  | some u=>
   rw[h3 s u hF] at e1
   exact DataW.held.inj e1
 rw[fh,h2,e2]
def qg (F:ByteArray→Option Value) (s:ByteArray) (v:Value):ByteArray→Option Value:=fun s'=>if s'=s then some v else F s'
theorem KMap.step {D:DataW Value} {F:ByteArray→Option Value} {s:ByteArray} {v:Value} (hm:IsMap D) (h2:∀ s,Maps.has D (lk s)=(F s).isSome) (h3:∀ s v,F s=some v→∀ z,D.atKey (lk s) z = .held v) :
  (∀ s',Maps.has (D.put (lk s) (.held v)) (lk s')=(qg F s v s').isSome)∧∀ s' u,qg F s v s'=some u→∀ z,(D.put (lk s) (.held v)).atKey (lk s') z = .held u:=by
 constructor
 ·intro s'
  unfold qg
  by_cases e:s'=s
  ·subst e
   rw[if_pos rfl,Maps.has_put_same hm (oD _)]
   rfl
  rw[if_neg e,Maps.has_put_other (fun e'=>e (oF e')),h2]
 intro s' u hu z
 unfold qg at hu
 by_cases e:s'=s
 ·subst e
  rw[if_pos rfl] at hu
  injection hu with hu
  rw[Maps.atKey_put_same hm (oD _),hu]
 rw[if_neg e] at hu
 rw[Maps.atKey_put_other (fun e'=>e (oF e'))]
 exact h3 s' u hu z
open Go.RowKit Go.Shelf
def SetsAt (w:World) (B:Nat) (v:Value) (L:List SetC):Prop:=Flat w B v L.length (L.flatMap SetC.cells)
theorem SetsAt.below {w w':World} {B B':Nat} {v:Value} {L:List SetC} (h:SetsAt w B v L) (hb:Below B' w w') (hB:B≤B'):SetsAt w' B v L:=Flat.below h hb hB
theorem SetsAt.mono {w:World} {B B':Nat} {v:Value} {L:List SetC} (h:SetsAt w B v L) (hB:B≤B'):SetsAt w B' v L:=Flat.mono h hB
theorem SetsM.at {w:World} {M:Nat→Prop} {v:Value} {L:List SetC} (h:SetsM w M v L):SetsAt w w.heap.size v L:=h.1.flat
theorem SetsAt.open_ {w:World} {B:Nat} {v:Value} {L:List SetC} (h:SetsAt w B v L):∃ A c,v = .slice A L.length c∧L.length≤c∧c≤maxLen∧∀ k (_:k<L.length),∃ b off,A=some ⟨b,off,none⟩∧b<B∧∀ j (hj:j<L.length),JH w b (off+j*13) L[j]:=by
 obtain⟨A,c,h1,h2,h3,h4⟩:=h
 refine⟨A,c,h1,h2,h3,fun k hk=>?_⟩
 obtain⟨b,off,e,hl,hc⟩:=h4 (by omega)
 refine⟨b,off,e,hl,fun j hj i u hu=>?_⟩
 have hi:i<13:=by
  have:=(List.getElem?_eq_some_iff.1 hu).1
  simpa[SetC.cells] using this
 rw[Nat.add_assoc]
 exact hc (j*13+i) u ((fC SetC.cells 13 (fun _=>rfl) L j i hj hi).trans hu)
theorem EH (v:Value) (l:List SetC) (K:Nat) (C:Array Value) (p:SetC→Bool) (eg:∀ args w,(callFunc K args).run Tryz.prog w = .ok (.enter K args) w) (w:World) (hl:SetsAt w w.heap.size v l)
  (hf:∀ t∈l,∀ w',Below w.heap.size w w'→Calls Tryz.prog K (#[t.val]++C) w' fun e sN=>e = .returned (.bool (p t))∧Below w'.heap.size w' sN) :
  Calls Tryz.prog 112 #[v,.func (.func K) #[] C] w fun e w'=>e = .returned (.int .i64 (ff (l.findIdx? p)))∧Below w.heap.size w w':=by
 obtain⟨A,c,rfl,gC,dr,ah⟩:=hl.open_
 unfold maxLen at dr
 have HF:=zh hf
 have HC:=zh ah
 clear hf ah
 go_enter Tryz.func112,Tryz.ntmps112
 go_wp2
 go_loopw [8] (fun x wr=>∃ j:Nat,j≤l.length∧x = .int .i64 j∧(l.take j).findIdx? p=none∧Below w.heap.size w wr) (fun x _=>l.length-(intOf x).toNat)
 case atStart=>exact⟨0,yI _,rfl,by simp,yB _ _⟩
 obtain⟨j,hj,rfl,gg,av⟩:=hrel
 have lp:=zh gg
 clear gg
 by_cases aw:j<l.length
 ·obtain⟨b,off,rfl,hb,ah⟩:=HC.o j aw
  have h0:=(av.cell (p:=⟨b,off+j*13,none⟩) hb).trans (ah j aw 0 _ rfl)
  have h1:=(av.cell (p:=⟨b,off+j*13+1,none⟩) hb).trans (ah j aw 1 _ rfl)
  have h2:=(av.cell (p:=⟨b,off+j*13+2,none⟩) hb).trans (ah j aw 2 _ rfl)
  have h3:=(av.cell (p:=⟨b,off+j*13+3,none⟩) hb).trans (ah j aw 3 _ rfl)
  have h4:=(av.cell (p:=⟨b,off+j*13+4,none⟩) hb).trans (ah j aw 4 _ rfl)
  have h5:=(av.cell (p:=⟨b,off+j*13+5,none⟩) hb).trans (ah j aw 5 _ rfl)
  have h6:=(av.cell (p:=⟨b,off+j*13+6,none⟩) hb).trans (ah j aw 6 _ rfl)
  have h7:=(av.cell (p:=⟨b,off+j*13+7,none⟩) hb).trans (ah j aw 7 _ rfl)
  have h8:=(av.cell (p:=⟨b,off+j*13+8,none⟩) hb).trans (ah j aw 8 _ rfl)
  have h9:=(av.cell (p:=⟨b,off+j*13+9,none⟩) hb).trans (ah j aw 9 _ rfl)
  have vC:=(av.cell (p:=⟨b,off+j*13+10,none⟩) hb).trans (ah j aw 10 _ rfl)
  have Cz:=(av.cell (p:=⟨b,off+j*13+11,none⟩) hb).trans (ah j aw 11 _ rfl)
  have m6:=(av.cell (p:=⟨b,off+j*13+12,none⟩) hb).trans (ah j aw 12 _ rfl)
  clear ah
  have eo:=HF.o l[j] (yV aw)
  have BV:=zh (su (p:=p) lp.o aw)
  have pe:=zh (pN (p:=p) lp.o aw)
  generalize l[j]=t at *
  cases hq:p t
  case true=>
   rw[hq] at eo
   have HE:=zh (BV.o hq)
   clear BV pe hq
   go_wp2_with (go_at_fn K;refine (eo _ av).mono ?_;rintro e w' ⟨rfl,gZ⟩)
   go_ret
   exact⟨by rw[HE.o];rfl,av.trans (gZ.mono av.size)⟩
  rw[hq] at eo
  have HE:=zh (pe.o hq)
  clear BV pe hq
  go_wp2_with (go_at_fn K;refine (eo _ av).mono ?_;rintro e w' ⟨rfl,gZ⟩)
  go_roundw
  case rel=>exact⟨j+1,by omega,by go_num,HE.o,av.trans (gZ.mono av.size)⟩
  simp[intOf];omega
 have mQ:j=l.length:=by omega
 subst mQ
 go_wp2
 go_ret
 exact⟨by rw[← yT (l:=l),lp.o];rfl,av⟩
theorem Xr:∀ args w,(callFunc 113 args).run Tryz.prog w = .ok (.enter 113 args) w:=enters_of Tryz.func113 (by kernel_rfl) rfl
theorem ZG (c:SetC) (nm:ByteArray) (E:Nat) (w:World) (hE:w.cell? ⟨E,0,none⟩=some (.string nm)) (hl:E<w.heap.size) :
  Calls Tryz.prog 113 (#[c.val]++#[.pointer (some ⟨E,0,none⟩)]) w fun e w'=>e = .returned (.bool (decide (c.s.name=nm)))∧Below w.heap.size w w':=by
 obtain⟨s,al,cl,ai,ci,ab,cb⟩:=c
 show Calls Tryz.prog 113 #[aL s al cl ai ci ab cb,.pointer (some ⟨E,0,none⟩)] w fun e w'=>e = .returned (.bool (decide (s.name=nm)))∧Below w.heap.size w w'
 have HS:=zh (dc s.name nm)
 unfold aL
 have pL:E+1<w.heap.size+1:=by omega
 have hx:=fun o=>(((yB w.heap.size w).alloc (yA _) o).cell (p:=⟨E,0,none⟩) hl).trans hE
 go_enter Tryz.func113,Tryz.ntmps113
 go_wp2_with fail
 go_ret
 exact⟨Ze HS.o,(yB _ _).alloc (yA _) _⟩
theorem Kz (D:Nat) (sv:Value) (l:List SetC) (nm:ByteArray) (w:World) (hD:w.cell? ⟨D,0,none⟩=some sv) (Kc:D<w.heap.size) (hl:SetsAt w w.heap.size sv l) :
  Calls Tryz.prog 70 #[.pointer (some ⟨D,0,none⟩),.string nm] w fun e w'=>e = .returned (.int .i64 (ff (l.findIdx? fun c=>decide (c.s.name=nm))))∧Below w.heap.size w w':=by
 have ao:Below w.heap.size w (w.alloc (.cells #[.string nm] 9)):=(yB _ _).alloc (yA _) _
 have pL:=(hl.below ao (yA _)).mono ao.size
 have hE:=(Blk.new w 9 #[.string nm]).cell 0
 have hEl:=(Blk.new w 9 #[.string nm]).lt
 have hIx:=EH sv l 113 #[.pointer (some ⟨w.heap.size,0,none⟩)] (fun c=>decide (c.s.name=nm)) Xr _ pL (fun t _ w' hb=>ZG t nm w.heap.size w' ((hb.cell (p:=⟨w.heap.size,0,none⟩) hEl).trans hE) (yK hEl hb.size))
 have nh:=(ao.cell (p:=⟨D,0,none⟩) Kc).trans hD
 have bZ:=zh ao
 obtain⟨A,cc,rfl⟩:∃ A cc,sv = .slice A l.length cc:=let ⟨A,c,h,_⟩:=hl.open_;⟨A,c,h⟩
 clear hl pL hE ao
 go_enter Tryz.func70,Tryz.ntmps70
 go_wp2_with fail
 refine hIx.mono ?_
 rintro e w2 ⟨rfl,bE⟩
 have hb:=bZ.o.trans (bE.mono bZ.o.size)
 go_wp2_with fail
 go_ret
 exact⟨rfl,hb⟩
structure St where
 sets:List SetT
 past:List (List SetT)
 known:List SetT
 work:Nat
def fG (l:List SetT) (nm:ByteArray):Option Nat:=l.findIdx? fun x=>decide (x.name=nm)
def fO (st:St) (x:SetT):Int×St :=
 match fG st.sets x.name with
 | some k=>if st.sets[k]? = some x then (0,st) else (0,{ st with sets:=st.sets.set k x,past:=st.past++[st.sets] })
 | none=>if 60≤st.sets.length then (4,st) else (0,{ st with sets:=st.sets++[x],past:=st.past++[st.sets] })
def putV (st:St) (x:SetT):Int×St:=if bS x then fO st x else (1,st)
def cw (st:St) (nm:ByteArray):Int×St :=
 match fG st.sets nm with
 | some k=>(0,{ st with sets:=st.sets.eraseIdx k,past:=st.past++[st.sets] })
 | none=>(9,st)
def cu (st:St):Int×St:=if st.past=[] then (14,st) else (0,{ st with sets:=st.past.getLastD [],past:=st.past.dropLast })
def bG (st:St) (nm:ByteArray):St :=
 match fG st.sets nm with
 | some k=>match st.sets[k]? with
  | some x=>if x∈st.known then st else { st with known:=st.known++[x],work:=st.work+1 }
  | none=>st
 | none=>st
def ax (x:SetT):List FrT:=if Zs x=0 then oA x else []
theorem mf {l:List SetT} {nm:ByteArray} {k:Nat} (h:fG l nm=some k):∃ hk:k<l.length,l[k].name=nm∧∀ j (hj:j<k),l[j].name≠nm:=by
 unfold fG at h
 rw[List.findIdx?_eq_some_iff_getElem] at h
 obtain⟨hk,h1,h2⟩:=h
 exact⟨hk,by simpa using h1,fun j hj=>by simpa using h2 j hj⟩
theorem Pw {l:List SetT} {nm:ByteArray} (h:fG l nm=none):∀ x∈l,x.name≠nm:=by
 unfold fG at h
 rw[List.findIdx?_eq_none_iff] at h
 intro x hx
 simpa using h x hx
structure StOk (st:St):Prop where
 sets:∀ x∈st.sets,bS x=true
 nodup:(st.sets.map SetT.name).Nodup
 len:st.sets.length≤60
 past:∀ l∈st.past,(∀ x∈l,bS x=true)∧(l.map SetT.name).Nodup∧l.length≤60
 known:∀ x∈st.known,bS x=true
theorem vZ:StOk ⟨[],[],[],0⟩:=⟨(fun _ h=>absurd h YG),List.nodup_nil,yI _,(fun _ h=>absurd h YG),(fun _ h=>absurd h YG)⟩
theorem StOk.names {st:St} (h:StOk st):∀ x∈st.sets,SetNames x:=fun x hx=>
 let hb:=h.sets x hx
 ⟨yH (gn (py hb)) (by unfold maxLen;decide),fun y hy=>Nat.le_trans (gn (mW ((Zm hb).wts.2 y hy).1)) (by unfold maxLen;decide),fun y hy=>Nat.le_trans (gn (lG ((dY hb).2 y hy)).1) (by unfold maxLen;decide)⟩
theorem Pb {l:List SetT} {k:Nat} {x:SetT} (hk:k<l.length) (hn:l[k].name=x.name):(l.set k x).map SetT.name=l.map SetT.name:=by
 rw[List.map_set]
 apply List.ext_getElem?
 intro i
 rw[List.getElem?_set]
 split
 ·rename_i e
  subst e
  simp[hk,hn]
 rfl
theorem StOk.put {st:St} (h:StOk st) {x:SetT} (hx:bS x=true):StOk (fO st x).2:=by
 have hp:∀ l∈st.past++[st.sets],(∀ x∈l,bS x=true)∧(l.map SetT.name).Nodup∧l.length≤60:=by
  intro l hl
  rcases List.mem_append.1 hl with hl | hl
  ·exact h.past l hl
  rw[List.mem_singleton] at hl
  subst hl
  exact⟨h.sets,h.nodup,h.len⟩
 unfold fO
 cases hi:fG st.sets x.name with
 | some k=>
  obtain⟨hk,hn,-⟩:=mf hi
  dsimp only
  split
  ·exact h
  refine⟨fun y hy=>?_,?_,?_,hp,h.known⟩
  ·rcases List.mem_or_eq_of_mem_set hy with hy | rfl
   ·exact h.sets y hy
   exact hx
  ·show ((st.sets.set k x).map SetT.name).Nodup
   rw[Pb hk hn]
   exact h.nodup
  show (st.sets.set k x).length≤60
  rw[List.length_set]
  exact h.len
 | none=>
  have hn:=Pw hi
  dsimp only
  split
  ·exact h
  refine⟨fun y hy=>?_,?_,?_,hp,h.known⟩
  ·rcases List.mem_append.1 hy with hy | hy
   ·exact h.sets y hy
   rw[List.mem_singleton] at hy
   subst hy
   exact hx
  ·show ((st.sets++[x]).map SetT.name).Nodup
   rw[yS,List.nodup_append]
   refine⟨h.nodup,by simp,?_⟩
   intro a ha b hb
   simp only[List.map_cons,List.map_nil,List.mem_singleton] at hb
   subst hb
   obtain⟨y,hy,rfl⟩:=List.mem_map.1 ha
   exact hn y hy
  show (st.sets++[x]).length≤60
  rw[yQ]
  simp only[List.length_singleton]
  omega
theorem StOk.drop {st:St} (h:StOk st) (nm:ByteArray):StOk (cw st nm).2:=by
 unfold cw
 cases hi:fG st.sets nm with
 | some k=>
  have LJ:(st.sets.eraseIdx k).Sublist st.sets:=List.eraseIdx_sublist _ _
  refine⟨fun y hy=>h.sets y (LJ.subset hy),?_,?_,?_,h.known⟩
  ·exact (LJ.map SetT.name).nodup h.nodup
  ·exact yH LJ.length_le h.len
  intro l hl
  rcases List.mem_append.1 hl with hl | hl
  ·exact h.past l hl
  rw[List.mem_singleton] at hl
  subst hl
  exact⟨h.sets,h.nodup,h.len⟩
 | none=>exact h
theorem StOk.undo {st:St} (h:StOk st):StOk (cu st).2:=by
 unfold cu
 split
 ·exact h
 rename_i fB
 have hl:st.past.getLastD []∈st.past:=by
  cases hp:st.past with
  | nil=>exact absurd hp fB
  | cons a r=>
   rw[List.getLastD_cons]
   have:=List.getLast_mem (l:=a::r) (by simp)
   rw[List.getLast_eq_getLastD] at this
   simpa using this
 obtain⟨h1,h2,h3⟩:=h.past _ hl
 exact⟨h1,h2,h3,fun l hl=>h.past l (List.dropLast_subset _ hl),h.known⟩
theorem StOk.lines {st:St} (h:StOk st) (nm:ByteArray):StOk (bG st nm):=by
 unfold bG
 cases hi:fG st.sets nm with
 | none=>exact h
 | some k=>
  cases hk:st.sets[k]? with
  | none=>simpa[hk] using h
  | some x=>
   simp only[hk]
   split
   ·exact h
   refine⟨h.sets,h.nodup,h.len,h.past,fun y hy=>?_⟩
   rcases List.mem_append.1 hy with hy | hy
   ·exact h.known y hy
   rw[List.mem_singleton] at hy
   subst hy
   exact h.sets y (List.mem_of_getElem? hk)
theorem Ef (v:Value) (s:SetT) (w:World) (hv:SetAt w w.heap.size v s) (h1:s.lines.length≤1000) (h2:s.items.length≤1000) (h3:s.bricks.length≤1000):Calls Tryz.prog 66 #[v] w (JV s w):=by
  obtain⟨Al,cl,Ai,ci,Ab,cb,rfl,hL,hI,hB⟩:=hv
  have HL:=zh hL
  have HI:=zh hI
  have HK:=zh hB
  clear hL hI hB
  unfold aL at *
  go_enter Tryz.func66,Tryz.ntmps66
  go_wp2_with (exact Go.WalkKit.wp_stop)
  have IZ:=(Blk.new w 26 (zA s Al cl Ai ci Ab cb)).alloc (.cells zE 26)
  have jo:=Blk.new (w.alloc (.cells (zA s Al cl Ai ci Ab cb) 26)) 26 zE
  rw[yZ] at jo
  have nC:=((yB _ w).alloc (yA _) (.cells (zA s Al cl Ai ci Ab cb) 26)).alloc (by simp) (.cells zE 26)
  generalize (w.alloc (.cells (zA s Al cl Ai ci Ab cb) 26)).alloc (.cells zE 26)=W2 at *
  have kA:=zh IZ
  have eK:=zh jo
  have bK:=zh nC
  clear IZ jo nC
  have y5:=kA.o.cell 5
  have iY:=kA.o.cell 11
  have iG:=kA.o.cell 12
  simp only[aP,aQ,aO] at y5 iY iG
  have u5:=YL y5
  have tW:=YL iY
  have FW:=YL iG
  clear y5 iY iG
  refine ag 10 (fun jx=>if jx=2 then some (gO w.heap.size s.lines) else if jx=5 then some (vd w.heap.size 118 7 s.items.length (s.items.flatMap ItemT.cells)) else if jx=8 then some (vd w.heap.size 87 3 s.bricks.length (s.bricks.flatMap BrickT.cells)) else none) (by kernel_rfl) (by kernel_rfl) ?_
  simp only[aU,aT,aW,aX]
  refine ae 2 (by kernel_rfl) (by rfl) (by decide) ?_
  simp only[aU,aT,aW,aX]
  repeat (go_big_quiet_step (fail))
  refine YH ?_
  refine af rfl rfl ?_ ?_
  · intro w1 ao hk
    have hb:=bK.o.trans (ao.mono bK.o.size)
    have hC:=NV (B:=w.heap.size) (RowAt.mono (RowAt.below HL.o hb (yA _)) hb.size) (by omega) hb.size
    exact⟨103,#[.slice Al s.lines.length cl],by go_simp,hC⟩
  rintro _ ⟨A1,k1,rfl⟩
  simp only[Act.put,aJ,aI,aH]
  refine ae 2 (by kernel_rfl) (by rfl) (by decide) ?_
  simp only[aU,aT,aW,aX]
  repeat (go_big_quiet_step (fail))
  refine YH ?_
  refine af rfl rfl ?_ ?_
  · intro w1 ao hk
    have hb:=bK.o.trans (ao.mono bK.o.size)
    have hC:=CP (B:=w.heap.size) (Qa _ s.items w1 (ItemsAt.mono (ItemsAt.below HI.o hb (yA _)) hb.size) (by omega)) hb.size
    exact⟨104,#[.slice Ai s.items.length ci],by go_simp,hC⟩
  rintro _ ⟨A2,k2,rfl⟩
  simp only[Act.put,aJ,aI,aH]
  refine ae 2 (by kernel_rfl) (by rfl) (by decide) ?_
  simp only[aU,aT,aW,aX]
  repeat (go_big_quiet_step (fail))
  refine YH ?_
  refine af rfl rfl ?_ ?_
  · intro w1 ao hk
    have hb:=bK.o.trans (ao.mono bK.o.size)
    have hC:=CP (B:=w.heap.size) (Ml _ s.bricks w1 (BricksAt.mono (BricksAt.below HK.o hb (yA _)) hb.size) (by omega)) hb.size
    exact⟨105,#[.slice Ab s.bricks.length cb],by go_simp,hC⟩
  rintro _ ⟨A3,k3,rfl⟩
  simp only[Act.put,aJ,aI,aH]
  refine ae 1 (by kernel_rfl) (by rfl) (by decide) ?_
  simp only[aU,aT,aW,aX]
  repeat (go_big_quiet_step (fail))
  refine YH ?_
  refine Zc ?_
  intro w8 aM hF
  have o1:w8.ownsRow w.heap.size 3 1 (.slice A1 s.lines.length k1) s.lines.length (s.lines.map (Value.int .i64)):=hF 5
  have o2:w8.ownsRow w.heap.size 118 7 (.slice A2 s.items.length k2) s.items.length (s.items.flatMap ItemT.cells):=hF 8
  have o3:w8.ownsRow w.heap.size 87 3 (.slice A3 s.bricks.length k3) s.bricks.length (s.bricks.flatMap BrickT.cells):=hF 11
  have d0:=kA.o.below aM kA.o.lt
  have d1:=eK.o.below aM eK.o.lt
  have dP:=zh (bK.o.trans (aM.mono bK.o.size))
  have e1:=d0.set_ 5 (.slice A1 s.lines.length k1)
  have e2:=e1.set_ 11 (.slice A2 s.items.length k2)
  have e3:Blk (((w8.setCell ⟨w.heap.size,5,none⟩ (.slice A1 s.lines.length k1)).setCell ⟨w.heap.size,11,none⟩ (.slice A2 s.items.length k2)).setCell ⟨w.heap.size,12,none⟩ (.slice A3 s.bricks.length k3)) w.heap.size 26 (zA s A1 k1 A2 k2 A3 k3):=e2.set_ 12 (.slice A3 s.bricks.length k3)
  have c5:=d0.cell 5
  have f5:=d0.frozen 5
  have tN:=e1.cell 11
  have f11:=e1.frozen 11
  have Ci:=e2.cell 12
  have f12:=e2.frozen 12
  simp only[aJ,aI,aH] at tN Ci
  simp only[aP,aQ,aO] at c5 tN Ci
  have fB:w.heap.size+1≠w.heap.size:=by omega
  have d3:=((d1.far (p:=⟨w.heap.size,5,none⟩) fB (.slice A1 s.lines.length k1)).far (p:=⟨w.heap.size,11,none⟩) fB (.slice A2 s.items.length k2)).far (p:=⟨w.heap.size,12,none⟩) fB (.slice A3 s.bricks.length k3)
  have hG3:=cg (cg (aY w8 w.heap.size 5 (.slice A1 s.lines.length k1)) (aY _ w.heap.size 11 (.slice A2 s.items.length k2))) (aY _ w.heap.size 12 (.slice A3 s.bricks.length k3))
  have q1:=o1.kept hG3 (cQ o1 d0 (by decide))
  have q2:=o2.kept hG3 (cQ o2 d0 (by decide))
  have q3:=o3.kept hG3 (cQ o3 d0 (by decide))
  have NI := dP.o.grown hG3 dP.o.size (fun k e=>by
   obtain rfl:w.heap.size=k := by simpa using e
   exact yA _)
  have E3:=zh e3
  have D3:=zh d3
  have bY:=zh NI
  have Q1:=zh q1
  have Q2:=zh q2
  have Q3:=zh q3
  have oH:World.there (((w8.setCell ⟨w.heap.size,5,none⟩ (.slice A1 s.lines.length k1)).setCell ⟨w.heap.size,11,none⟩ (.slice A2 s.items.length k2)).setCell ⟨w.heap.size,12,none⟩ (.slice A3 s.bricks.length k3)) (w.heap.size+1) 0 13:=fk d3 rfl
  have ql:=zh oH
  have ER:=zh (DO e3)
  have HR:=zh (World.rangeAt_setCells_same (((w8.setCell ⟨w.heap.size,5,none⟩ (.slice A1 s.lines.length k1)).setCell ⟨w.heap.size,11,none⟩ (.slice A2 s.items.length k2)).setCell ⟨w.heap.size,12,none⟩ (.slice A3 s.bricks.length k3)) (w.heap.size+1) 0 (zB s A1 k1 A2 k2 A3 k3) oH)
  clear o1 o2 o3 d0 d1 e1 e2 e3 d3 hG3 q1 q2 q3 NI dP hF aM u5 tW FW kA eK bK HL HI HK E3 oH
  go_upto_region 2 with fail
  refine wp_region_lit ?_
  refine wpList_load_mid rfl 26 (.tmp 1) rfl w.heap.size 0 rfl (zB s A1 k1 A2 k2 A3 k3) _ ER.o Tryz.underlying26 rfl (by kernel_rfl) ?_
  refine wpList_store_mid rfl 26 (.tmp 2) (.tmp 15) rfl (w.heap.size+1) 0 (zA s A1 k1 A2 k2 A3 k3) rfl rfl ql.o (by kernel_rfl) (by simp[Value.oneCell']) ?_
  refine wpList_nil ?_
  simp only[Act.put,aJ,aI,aH]
  clear ER ql
  generalize (((w8.setCell ⟨w.heap.size,5,none⟩ (.slice A1 s.lines.length k1)).setCell ⟨w.heap.size,11,none⟩ (.slice A2 s.items.length k2)).setCell ⟨w.heap.size,12,none⟩ (.slice A3 s.bricks.length k3))=W3 at *
  have jf:=bI (w.heap.size+1) (zB s A1 k1 A2 k2 A3 k3) 0 W3
  have uZ := bY.o.grown jf bY.o.size (fun k e=>by
   obtain rfl:w.heap.size + 1=k := by simpa using e
   omega)
  have r1:=Q1.o.kept jf (cQ Q1.o D3.o (by decide))
  have r2:=Q2.o.kept jf (cQ Q2.o D3.o (by decide))
  have r3:=Q3.o.kept jf (cQ Q3.o D3.o (by decide))
  have p0:=HR.o 0 _ rfl
  have p1:=HR.o 1 _ rfl
  have p2:=HR.o 2 _ rfl
  have p3:=HR.o 3 _ rfl
  have p4:=HR.o 4 _ rfl
  have p5:=HR.o 5 _ rfl
  have p6:=HR.o 6 _ rfl
  have p7:=HR.o 7 _ rfl
  have p8:=HR.o 8 _ rfl
  have p9:=HR.o 9 _ rfl
  have rO:=HR.o 10 _ rfl
  have rN:=HR.o 11 _ rfl
  have uv:=HR.o 12 _ rfl
  simp only[Nat.zero_add] at p0 p1 p2 p3 p4 p5 p6 p7 p8 p9 rO rN uv
  generalize World.setCells W3 (w.heap.size+1) 0 (zB s A1 k1 A2 k2 A3 k3)=W9 at *
  clear jf HR Q1 Q2 Q3 D3 bY
  go_wp2_with fail
  refine YI (v:=.agg (zA s A1 k1 A2 k2 A3 k3)) (by simp[results,Tryz.results66,go_sem,p0,p1,p2,p3,p4,p5,p6,p7,p8,p9,rO,rN,uv]) rfl ?_
  exact⟨uZ,A1,k1,A2,k2,A3,k3,rfl,r1,r2,r3⟩
def KnownAt (w:World) (B:Nat) (M:Nat→Prop) (mv:Value) (K:List SetT):Prop :=
 (mv = .map none∧K=[])∨∃ b F,mv = .map (some b)∧B≤b∧¬ M b∧KMap w b K.length F∧(∀ x,bS x=true→(F (⟨(eu x).toArray⟩:ByteArray)).isSome=decide (x∈K)) ∧
  ∀ x∈K,∃ v,F (⟨(eu x).toArray⟩:ByteArray)=some (.agg #[v,.int .i64 (Zs x)])∧FlatM w M v (ax x).length ((ax x).flatMap FrT.cells)
structure StR where
 sv:Value
 L:List SetC
 pv:Value
 P:List (Value×List SetC)
 mv:Value
structure StoreAt (w:World) (B D:Nat) (M:Nat→Prop) (st:St) (r:StR):Prop where
 blk:Blk w D 56 #[r.sv,r.pv,r.mv,.int .i64 (st.work:Int)]
 base:B≤D
 notM:¬ M D
 lt:∀ g,M g→g<w.heap.size
 sets:SetsM w M r.sv r.L
 setsE:r.L.map SetC.s=st.sets
 own:w.ownsRow B 46 1 r.pv r.P.length (r.P.map Prod.fst)
 ownM:∀ g,r.pv.ownBlock=some g→¬ M g
 past:∀ q∈r.P,SetsM w M q.1 q.2
 pastE:r.P.map (fun q=>q.2.map SetC.s)=st.past
 known:KnownAt w B M r.mv st.known
def StR.foot (r:StR) (D:Nat) (M:Nat→Prop) (g:Nat):Prop:=M g∨g=D∨r.pv.ownBlock=some g∨r.mv = .map (some g)
theorem bX {w w':World} {B e s n:Nat} {v:Value} {xs:List Value} (h:w.ownsRow B e s v n xs) (hk:∀ g,v.ownBlock=some g→w'.heap[g]? = w.heap[g]?):w'.ownsRow B e s v n xs:=by
 obtain⟨hl,h0 | ⟨g,cap,cur,hv,Za,hh,r⟩⟩:=h
 ·exact⟨hl,.inl h0⟩
 exact⟨hl,.inr ⟨g,cap,cur,hv,Za,(hk g (by rw[hv];simp[Value.ownBlock])).trans hh,r⟩⟩
theorem KnownAt.kept {w w':World} {B:Nat} {M:Nat→Prop} {mv:Value} {K:List SetT} (h:KnownAt w B M mv K) (hk:KeepM M w w') (hm:∀ g,mv = .map (some g)→w'.heap[g]? = w.heap[g]?):KnownAt w' B M mv K:=by
 rcases h with h | ⟨b,F,h1,h2,h3,h4,h5,h6⟩
 ·exact .inl h
 exact .inr ⟨b,F,h1,h2,h3,h4.of_heap (hm b h1),h5,fun x hx=>let ⟨v,e1,e2⟩:=h6 x hx;⟨v,e1,e2.kept hk⟩⟩
section
variable {w w':World} {B D:Nat} {M:Nat→Prop} {st:St} {r:StR}
theorem StoreAt.footLt (h:StoreAt w B D M st r) {g:Nat} (hg:r.foot D M g):g<w.heap.size:=by
 rcases hg with hg | rfl | hg | hg
 ·exact h.lt g hg
 ·exact h.blk.lt
 ·exact (h.own.lt g hg).2
 rcases h.known with⟨h1,_⟩ | ⟨b,F,h1,_,_,h4,_⟩
 ·rw[h1] at hg;cases hg
 rw[h1] at hg
 obtain rfl:b=g:=by simpa using hg
 exact h4.lt
theorem StoreAt.kept (h:StoreAt w B D M st r) (hs:w.heap.size≤w'.heap.size) (hk:∀ g,r.foot D M g→w'.heap[g]? = w.heap[g]?):StoreAt w' B D M st r:=by
 have hM:KeepM M w w':=⟨hs,fun g hg _=>hk g (.inl hg)⟩
 refine⟨(hk D (.inr (.inl rfl))).trans h.blk,h.base,h.notM,fun g hg=>yK (h.lt g hg) hs,h.sets.kept hM,h.setsE,bX h.own fun g hg=>hk g (.inr (.inr (.inl hg))),h.ownM,fun q hq=>(h.past q hq).kept hM,h.pastE,h.known.kept hM fun g hg=>hk g (.inr (.inr (.inr hg)))⟩
theorem StoreAt.below (h:StoreAt w B D M st r) (hb:Below w.heap.size w w'):StoreAt w' B D M st r:=h.kept hb.size fun g hg=>hb.block g (h.footLt hg)
theorem StoreAt.at (h:StoreAt w B D M st r):SetsAt w w.heap.size r.sv r.L:=h.sets.at
end
structure ChgS (B:Nat) (w w':World):Prop where
 bel:Below B w w'
 same:∀ (g:Nat) cs t f,w.heap[g]? = some (.cells cs t f)→t≠56→t≠46→w'.heap[g]? = w.heap[g]?
theorem ChgS.of_below {B:Nat} {w w':World} (h:Below w.heap.size w w') (hB:B≤w.heap.size):ChgS B w w' :=
 ⟨h.mono hB,fun g _ _ _ hg _ _=>h.block g (Array.getElem?_eq_some_iff.1 hg).1⟩
theorem ChgS.refl (B:Nat) (w:World):ChgS B w w:=⟨yB _ _,fun _ _ _ _ _ _ _=>rfl⟩
theorem ChgS.trans {B:Nat} {a b c:World} (h:ChgS B a b) (k:ChgS B b c):ChgS B a c :=
 ⟨h.bel.trans k.bel,fun g cs t f hg h1 h2=>(k.same g cs t f ((h.same g cs t f hg h1 h2).trans hg) h1 h2).trans (h.same g cs t f hg h1 h2)⟩
def KeepF (D:Nat) (w w':World):Prop :=
 ∀ sv pv mv wk,Blk w D 56 #[sv,pv,mv,wk]→w.heap.size≤w'.heap.size∧(∀ g,g<w.heap.size→g≠D→pv.ownBlock≠some g→mv ≠ .map (some g)→w'.heap[g]? = w.heap[g]?) ∧
  ∃ sv' pv' mv' wk',Blk w' D 56 #[sv',pv',mv',wk']∧(∀ g,pv'.ownBlock=some g→pv.ownBlock=some g∨w.heap.size≤g)∧∀ g,mv' = .map (some g)→mv = .map (some g)∨w.heap.size≤g
theorem KeepF.trans {D:Nat} {a b c:World} (h:KeepF D a b) (k:KeepF D b c):KeepF D a c:=by
 intro sv pv mv wk hb
 obtain⟨s1,e1,sv',pv',mv',wk',gZ,p1,m1⟩:=h sv pv mv wk hb
 obtain⟨s2,e2,sv2,pv2,mv2,wk2,bE,p2,m2⟩:=k _ _ _ _ gZ
 refine⟨yH s1 s2,fun g hg h1 h2 h3=>(e2 g (yK hg s1) h1 (fun e=>?_) (fun e=>?_)).trans (e1 g hg h1 h2 h3),sv2,pv2,mv2,wk2,bE,fun g e=>?_,fun g e=>?_⟩
 ·rcases p1 g e with h4 | h4
  ·exact h2 h4
  omega
 ·rcases m1 g e with h4 | h4
  ·exact h3 h4
  omega
 ·rcases p2 g e with h4 | h4
  ·exact p1 g h4
  exact .inr (yH s1 h4)
 rcases m2 g e with h4 | h4
 ·exact m1 g h4
 exact .inr (yH s1 h4)
theorem KeepF.of {D:Nat} {w w':World} {sv pv mv wk sv' pv' mv' wk':Value} (hb:Blk w D 56 #[sv,pv,mv,wk]) (hs:w.heap.size ≤ w'.heap.size)
  (he:∀ g,g<w.heap.size→g≠D→pv.ownBlock≠some g→mv ≠ .map (some g)→w'.heap[g]? = w.heap[g]?) (gZ:Blk w' D 56 #[sv',pv',mv',wk'])
  (hp:∀ g,pv'.ownBlock=some g→pv.ownBlock=some g∨w.heap.size≤g) (hm:∀ g,mv' = .map (some g)→mv = .map (some g)∨w.heap.size≤g):KeepF D w w':=by
 intro a b c d h2
 unfold Blk at hb h2
 rw[hb] at h2
 injection h2 with h2
 injection h2 with h2 _ _
 injection h2 with h2
 injection h2 with e1 h2
 injection h2 with e2 h2
 injection h2 with e3 h2
 injection h2 with e4 _
 subst e1 e2 e3 e4
 exact⟨hs,he,_,_,_,_,gZ,hp,hm⟩
theorem KeepF.of_below {D:Nat} {w w':World} (h:Below w.heap.size w w'):KeepF D w w':=fun _ _ _ _ hb=>
 ⟨h.size,fun g hg _ _ _=>h.block g hg,_,_,_,_,hb.below h hb.lt,fun _ e=>.inl e,fun _ e=>.inl e⟩
structure ChgF (B D:Nat) (w w':World):Prop where
 chg:ChgS B w w'
 keep:KeepF D w w'
theorem ChgF.of_below {B D:Nat} {w w':World} (h:Below w.heap.size w w') (hB:B≤w.heap.size):ChgF B D w w':=⟨ChgS.of_below h hB,KeepF.of_below h⟩
theorem ChgF.trans {B D:Nat} {a b c:World} (h:ChgF B D a b) (k:ChgF B D b c):ChgF B D a c:=⟨h.chg.trans k.chg,h.keep.trans k.keep⟩
theorem ChgF.refl (B D:Nat) (w:World):ChgF B D w w:=⟨ChgS.refl B w,KeepF.of_below (yB _ _)⟩
theorem ChgF.bel {B D:Nat} {a b:World} (h:ChgF B D a b):Below B a b:=h.chg.bel
theorem me (L:List SetC) (nm:ByteArray):L.findIdx? (fun c=>decide (c.s.name=nm))=fG (L.map SetC.s) nm:=by
 unfold fG
 rw[List.findIdx?_map]
 rfl
def dV:SetT:=⟨⟨#[]⟩,0,0,0,0,[],0,0,0,0,0,[],[]⟩
def nE:SetC:=⟨dV,none,0,none,0,none,0⟩
def tQ (st:St) (r:StR) (nm:ByteArray) (w:World) (e:Ending) (w':World):Prop :=
 Below w.heap.size w w'∧((∃ k c,fG st.sets nm=some k∧r.L[k]? = some c∧e = .returned (.tuple #[c.val,.int .i64 0]))∨(fG st.sets nm=none∧e = .returned (.tuple #[nE.val,.int .i64 9])))
theorem LB {r:StR} {st:St} (h:r.L.map SetC.s=st.sets) {nm:ByteArray} {k:Nat} (hi:fG st.sets nm=some k):∃ hk:k<r.L.length,r.L[k].s.name=nm:=by
 obtain⟨hk,hn,-⟩:=mf hi
 have hk':k<r.L.length:=by rw[← yP (f:=SetC.s),h];exact hk
 refine⟨hk',?_⟩
 have:st.sets[k]=r.L[k].s:=by
  have e:=List.getElem_map SetC.s (l:=r.L) (i:=k) (h:=by rw[h];exact hk)
  rw[← e]
  congr 1
  exact h.symm
 rw[← this]
 exact hn
theorem Ek (B D:Nat) (M:Nat→Prop) (st:St) (r:StR) (nm:ByteArray) (w:World) (h:StoreAt w B D M st r) :
  Calls Tryz.prog 65 #[.pointer (some ⟨D,0,none⟩),.string nm] w (tQ st r nm w):=by
 have bZ:=zh ((yB _ w).alloc (yA _) (.cells zE 26))
 have h1:=h.below bZ.o
 have hd:=h1.blk.cell 0
 simp only[aP,aO] at hd
 have hF:=Kz D r.sv r.L nm _ hd h1.blk.lt h1.at
 have HX:=zh (me r.L nm)
 rw[HX.o,h.setsE] at hF
 have nw:=zh (Blk.new w 26 zE)
 have rm:=zh h1
 have HE:=zh h.setsE
 clear h h1 hd HX
 go_enter Tryz.func65,Tryz.ntmps65
 go_wp2_with fail
 refine hF.mono ?_
 rintro e w2 ⟨rfl,bE⟩
 have gx:=zh (rm.o.below bE)
 have ia:=zh (nw.o.below bE nw.o.lt)
 have bK:=zh (bZ.o.trans (bE.mono bZ.o.size))
 clear bE rm nw bZ hF
 cases hi:fG st.sets nm with
 | none=>
  have HI:=zh hi
  clear hi
  rw[show ff none = -1 from rfl]
  go_upto_region 5 with fail
  refine wp_region_lit ?_
  iterate 3 (first | go_values | go_skip | go_guarded | go_step | go_upon)
  have oH:World.there w2 (w.heap.size) 0 13:=fk ia.o rfl
  have ql:=zh oH
  have HR:=zh (World.rangeAt_setCells_same w2 (w.heap.size) 0 zF oH)
  have jf:=bI (w.heap.size) zF 0 w2
  have uZ:=zh (bK.o.grown jf bK.o.size (fun k e=>by have e1:w.heap.size=k:=(by simpa using e);omega))
  clear oH jf
  refine wpList_store_mid rfl 26 (.tmp 4) (.tmp 15) rfl (w.heap.size) 0 zE rfl rfl ql.o (by kernel_rfl) (by simp[Value.oneCell']) ?_
  simp only[Act.put]
  clear ql
  have p0:=HR.o 0 _ rfl
  have p1:=HR.o 1 _ rfl
  have p2:=HR.o 2 _ rfl
  have p3:=HR.o 3 _ rfl
  have p4:=HR.o 4 _ rfl
  have p5:=HR.o 5 _ rfl
  have p6:=HR.o 6 _ rfl
  have p7:=HR.o 7 _ rfl
  have p8:=HR.o 8 _ rfl
  have p9:=HR.o 9 _ rfl
  have rO:=HR.o 10 _ rfl
  have rN:=HR.o 11 _ rfl
  have uv:=HR.o 12 _ rfl
  simp only[Nat.zero_add] at p0 p1 p2 p3 p4 p5 p6 p7 p8 p9 rO rN uv
  generalize World.setCells w2 (w.heap.size) 0 zF=W9 at *
  clear HR
  go_wp2_with fail
  refine YI (v:=.tuple #[.agg zE,.int .i64 9]) (by simp[results,Tryz.results65,go_sem,p0,p1,p2,p3,p4,p5,p6,p7,p8,p9,rO,rN,uv]) rfl ?_
  exact⟨uZ.o,.inr ⟨HI.o,rfl⟩⟩
 | some k=>
  have HI:=zh hi
  rw[show ff (some k)=(k:Int) from rfl]
  obtain⟨hk,-⟩:=LB HE.o hi
  have HG:=zh (yM hk)
  obtain⟨A,cc,eA,gC,dr,ah⟩:=gx.o.at.open_
  unfold maxLen at dr
  obtain⟨b1,o1,e1,ao,hx⟩:=ah k hk
  have hy:=hx k hk
  have hd:=gx.o.blk.cell 0
  simp only[aP,aO] at hd
  rw[eA,e1] at hd
  have y0:=hy 0 _ rfl
  have y1:=hy 1 _ rfl
  have y2:=hy 2 _ rfl
  have y3:=hy 3 _ rfl
  have y4:=hy 4 _ rfl
  have y5:=hy 5 _ rfl
  have y6:=hy 6 _ rfl
  have y7:=hy 7 _ rfl
  have y8:=hy 8 _ rfl
  have y9:=hy 9 _ rfl
  have lM:=hy 10 _ rfl
  have iY:=hy 11 _ rfl
  have iG:=hy 12 _ rfl
  rw[Nat.add_zero] at y0
  have k0:(0:Int)≤(k:Int):=yE _
  have k1:(k:Int)<(r.L.length:Int):=by omega
  have Kc:=gx.o.blk.lt
  clear hi hy hx ah eA e1 gx HE
  generalize r.L[k]=c at *
  generalize r.L.length=ln at *
  go_upto_region 6 with fail
  refine wp_region_lit ?_
  iterate 21 (first | go_values | go_skip | go_guarded | go_step | go_upon)
  have oH:World.there w2 (w.heap.size) 0 13:=fk ia.o rfl
  have ql:=zh oH
  have HR:=zh (World.rangeAt_setCells_same w2 (w.heap.size) 0 (zB c.s c.al c.cl c.ai c.ci c.ab c.cb) oH)
  have jf:=bI (w.heap.size) (zB c.s c.al c.cl c.ai c.ci c.ab c.cb) 0 w2
  have uZ:=zh (bK.o.grown jf bK.o.size (fun k e=>by have e1:w.heap.size=k:=(by simpa using e);omega))
  clear oH jf
  refine wpList_store_mid rfl 26 (.tmp 4) (.tmp 22) rfl (w.heap.size) 0 (zA c.s c.al c.cl c.ai c.ci c.ab c.cb) rfl rfl ql.o (by kernel_rfl) (by simp[Value.oneCell']) ?_
  simp only[Act.put]
  clear ql
  have p0:=HR.o 0 _ rfl
  have p1:=HR.o 1 _ rfl
  have p2:=HR.o 2 _ rfl
  have p3:=HR.o 3 _ rfl
  have p4:=HR.o 4 _ rfl
  have p5:=HR.o 5 _ rfl
  have p6:=HR.o 6 _ rfl
  have p7:=HR.o 7 _ rfl
  have p8:=HR.o 8 _ rfl
  have p9:=HR.o 9 _ rfl
  have rO:=HR.o 10 _ rfl
  have rN:=HR.o 11 _ rfl
  have uv:=HR.o 12 _ rfl
  simp only[Nat.zero_add] at p0 p1 p2 p3 p4 p5 p6 p7 p8 p9 rO rN uv
  generalize World.setCells w2 (w.heap.size) 0 (zB c.s c.al c.cl c.ai c.ci c.ab c.cb)=W9 at *
  clear HR
  go_wp2_with fail
  refine YI (v:=.tuple #[.agg (zA c.s c.al c.cl c.ai c.ci c.ab c.cb),.int .i64 0]) (by simp[results,Tryz.results65,go_sem,p0,p1,p2,p3,p4,p5,p6,p7,p8,p9,rO,rN,uv]) rfl ?_
  exact⟨uZ.o,.inl ⟨k,c,HI.o,HG.o,rfl⟩⟩
end Go.Proofs.YtfhmbechennkbaaGreatDoor
