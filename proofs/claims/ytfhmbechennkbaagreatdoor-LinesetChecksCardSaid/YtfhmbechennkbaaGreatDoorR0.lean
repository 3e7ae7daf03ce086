/- Parts of the proof, laid into one text: RegF, RegV, Dgs, DgsOps, Big, BigR, Equil, RefBeamP, GrowW. -/
import Derived.Test.YtfhmbechennkbaaGreatDoorC1
namespace Go.Proofs.YtfhmbechennkbaaGreatDoor
open Go.RowKit Go.Shelf
def waitsB (md:Region.Mode) (ops:Array Oper) (i j:Nat):Bool :=
 match ops[i]? with
 | some o => o.after.any fun e => Region.binds md e && e.on == j
 | none => false
def okM (md:Region.Mode) (ops:Array Oper) (S:List Nat) (i m:Nat):Bool :=
 (List.range S.length).all fun k => (!waitsB md ops i (S.getD k 0) || decide (k<m)) && (!waitsB md ops (S.getD k 0) i || decide (m≤k))
def freeRegB (md:Region.Mode) (ops:Array Oper) (_S:List Nat):Bool :=
 Region.noSelect ops && ops.all (fun o => o.guard.isNone) &&
 (List.range ops.size).all fun i => match ops[i]? with
  | none => false
  | some o => (o.after.all fun e => !Region.binds md e || decide (e.on < i)) &&
   (List.range ops.size).all fun j => match ops[j]? with
    | none => false
    | some p => match p.dst with
     | none => true
     | some d => (!(o.looksAt ops).contains d || waitsB md ops i j) && (decide (i=j) || !(o.dst == some d))
def freeStB (md:Region.Mode) (ops:Array Oper) (S:List Nat):Bool :=
 (List.range S.length).all fun k => decide (S.getD k 0<ops.size) && (decide (k=0) || waitsB md ops (S.getD k 0) (S.getD (k-1) 0)) && (match ops[S.getD k 0]? with | some o => o.dst.isNone | none => false)
section
variable {P:Program} {ops:Array Oper} {md:Region.Mode} {V:Nat→Value} {Wd:Nat→World} {S:List Nat}
theorem waits_iff {i j:Nat} {o:Oper} (ho:ops[i]? = some o):waitsB md ops i j=true ↔ ∃ e ∈ o.after,Region.binds md e=true∧e.on=j:=by
 unfold waitsB
 rw [ho]
 dsimp only
 rw [← Array.any_toList,List.any_eq_true]
 simp only [Bool.and_eq_true,beq_iff_eq,Array.mem_toList_iff]
def dstOf (ops:Array Oper) (i:Nat):Option Tmp:=(ops[i]?).bind (·.dst)
def pend (ops : Array Oper) (V : Nat → Value) (done : Array Bool) : List Nat → Act → Act
 | [],a => a
 | i :: r,a => pend ops V done r (if done.getD i true=false then a.put (dstOf ops i) (V i) else a)
theorem pend_set_out {done : Array Bool} {i : Nat} : ∀ (L : List Nat) (a : Act),i ∉ L → pend ops V (done.setIfInBounds i true) L a = pend ops V done L a
 | [],_,_ => rfl
 | j :: r,a,h => by
  have hji:i≠j:=fun e => h (by rw [e];simp)
  unfold pend
  rw [getD_set_ne true hji,pend_set_out r _ (fun hh => h (by simp [hh]))]
theorem pend_step {done:Array Bool} {i:Nat} (hi:done.getD i true=false) (hlt:i<done.size) (hd:∀ j,j≠i→∀ d,dstOf ops i=some d→dstOf ops j≠some d):∀ (L:List Nat) (a:Act),L.Nodup→i ∈ L →
  pend ops V (done.setIfInBounds i true) L (a.put (dstOf ops i) (V i))=pend ops V done L a
 | [],_,_,h => by cases h
 | j :: r,a,hn,hm => by
  rw [List.nodup_cons] at hn
  unfold pend
  by_cases e:j=i
  ·subst e
   have h1:(done.setIfInBounds j true).getD j true=true:=by
    simp [Array.getD,hlt]
   rw [if_neg (by rw [h1];simp),if_pos hi,pend_set_out r _ hn.1]
  ·rw [getD_set_ne true (Ne.symm e)]
   have hm':i ∈ r:=by
    rcases List.mem_cons.1 hm with h | h
    ·exact absurd h.symm e
    ·exact h
   by_cases hj:done.getD j true=false
   ·rw [if_pos hj,if_pos hj,Act.put_comm a (V i) (V j) (hd j e),pend_step hi hlt hd r _ hn.2 hm']
   ·rw [if_neg hj,if_neg hj,pend_step hi hlt hd r _ hn.2 hm']
theorem exec_pend {done : Array Bool} {o : Oper} (hs : ∀ cs b,o.op ≠ .select cs b) : ∀ (L : List Nat) (a : Act),(∀ j ∈ L,done.getD j true = false → ∀ d,dstOf ops j = some d → d ∉ o.looksAt ops) → execOp (pend ops V done L a).eval o = execOp a.eval o
 | [],_,_ => rfl
 | j :: r,a,h => by
  unfold pend
  by_cases hj:done.getD j true=false
  ·rw [if_pos hj,exec_pend hs r _ (fun j hj => h j (by simp [hj])),execOp_put (ops:=ops) o hs a _ _ (h j (by simp) hj)]
  ·rw [if_neg hj,exec_pend hs r _ (fun j hj => h j (by simp [hj]))]
def left (done:Array Bool) (n:Nat):Nat:=((List.range n).filter fun i => !done.getD i true).length
theorem left_set {done : Array Bool} {i : Nat} (hi : done.getD i true = false) (hlt : i < done.size) : ∀ L : List Nat,L.Nodup → i ∈ L → (L.filter fun i => !done.getD i true).length = (L.filter fun j => !(done.setIfInBounds i true).getD j true).length + 1
 | [],_,h => by cases h
 | j :: r,hn,hm => by
  rw [List.nodup_cons] at hn
  have hout:∀ r:List Nat,i ∉ r→(r.filter fun j => !(done.setIfInBounds i true).getD j true)=r.filter fun j => !done.getD j true:=fun r hr =>
   List.filter_congr fun x hx => by rw [getD_set_ne true (fun e => hr (by rw [e];exact hx))]
  by_cases e:j=i
  ·subst e
   have h1:(done.setIfInBounds j true).getD j true=true:=by
    simp [Array.getD,hlt]
   rw [List.filter_cons_of_pos (by rw [hi];rfl),List.filter_cons_of_neg (by rw [h1];simp),hout r hn.1]
   rfl
  ·have hm':i ∈ r:=by
    rcases List.mem_cons.1 hm with h | h
    ·exact absurd h.symm e
    ·exact h
   have ih:=left_set hi hlt r hn.2 hm'
   have h2:=getD_set_ne (listed:=done) true (Ne.symm e)
   cases hj:done.getD j true with
   | false =>
    rw [List.filter_cons_of_pos (by rw [hj];rfl),List.filter_cons_of_pos (by rw [h2,hj];rfl),List.length_cons,List.length_cons,ih]
   | true =>
    rw [List.filter_cons_of_neg (by rw [hj];simp),List.filter_cons_of_neg (by rw [h2,hj];simp),ih]
structure FInv (md:Region.Mode) (ops:Array Oper) (V:Nat→Value) (Wd:Nat→World) (S:List Nat) (aF:Act) (done:Array Bool) (a:Act) (w:World):Prop where
 size:done.size=ops.size
 act:pend ops V done (List.range ops.size) a=aF
 closed:∀ j,done.getD j false=true→∀ i,waitsB md ops j i=true→done.getD i false=true
 world:∃ m,m≤S.length∧w=Wd m∧∀ k,k<S.length→done.getD (S.getD k 0) false=decide (k<m)
theorem getD_two {done:Array Bool} {i:Nat} (h:i<done.size):done.getD i true=done.getD i false:=by
 simp [Array.getD,h]
def freeAt (P:Program) (md:Region.Mode) (ops:Array Oper) (V:Nat→Value) (Wd:Nat→World) (S:List Nat) (aF:Act) (i:Nat) (o:Oper):Prop :=
 (i ∉ S∧∀ m,m≤S.length→okM md ops S i m=true→(execOp aF.eval o).run P (Wd m) = .ok (.value (V i)) (Wd m))∨(∃ k,S[k]? = some i∧(execOp aF.eval o).run P (Wd k) = .ok .skip (Wd (k+1)))
theorem free_any {Q : Exit → Act → World → Prop} {aF : Act} (hF : freeRegB md ops S = true) (hS : freeStB md ops S = true) (hN : S.Nodup)
  (hW:∀ i o,ops[i]? = some o→freeAt P md ops V Wd S aF i o) (hQ:Q .normal aF (Wd S.length)) :
  ∀ (f:Nat) (done:Array Bool) (a:Act) (w:World),FInv md ops V Wd S aF done a w→left done ops.size=f→wpAny P md ops Q f done a w:=by
 unfold freeRegB at hF
 simp only [Bool.and_eq_true,List.all_eq_true,List.mem_range] at hF
 obtain ⟨⟨hsel,hgd⟩,hF⟩:=hF
 unfold freeStB at hS
 simp only [Bool.and_eq_true,List.all_eq_true,List.mem_range,decide_eq_true_eq,Bool.or_eq_true] at hS
 have hlow:∀ i j,waitsB md ops i j=true→j<i:=fun i j h => by
  unfold waitsB at h
  cases ho:ops[i]? with
  | none => rw [ho] at h;cases h
  | some o =>
   obtain ⟨e,he,h1,h2⟩:=(waits_iff ho).1 (by unfold waitsB;exact h)
   have hi:=hF i (Array.getElem?_eq_some_iff.1 ho).1
   rw [ho] at hi
   simp only [Bool.and_eq_true] at hi
   have h3:=Array.all_eq_true_iff_forall_mem.1 hi.1 e he
   simp only [Bool.or_eq_true,Bool.not_eq_true',decide_eq_true_eq] at h3
   rcases h3 with h3 | h3
   ·rw [h1] at h3;cases h3
   ·omega
 have hready:∀ done:Array Bool,done.size=ops.size→∀ i,i ∈ Region.ready md ops done ↔ (i<ops.size∧done.getD i false=false∧∀ j,waitsB md ops i j=true→done.getD j false=true):=fun done hsz i => by
  rw [mem_ready]
  constructor
  ·rintro ⟨h1,o,ho,h2⟩
   have hi:=(Array.getElem?_eq_some_iff.1 ho).1
   refine ⟨hi,by rw [← getD_two (by omega)];exact h1,fun j hj => ?_⟩
   obtain ⟨e,he,h3,rfl⟩:=(waits_iff ho).1 hj
   exact h2 e he h3
  ·rintro ⟨hi,h1,h2⟩
   refine ⟨by rw [getD_two (by omega)];exact h1,ops[i],Array.getElem?_eq_getElem hi,fun e he hb => h2 _ ((waits_iff (Array.getElem?_eq_getElem hi)).2 ⟨e,he,hb,rfl⟩)⟩
 have hend:∀ (done:Array Bool) (a:Act) (w:World),FInv md ops V Wd S aF done a w→Region.ready md ops done=[]→Q .normal a w:=fun done a w inv hr => by
  have hall:∀ i,i<ops.size→done.getD i false=true:=fun i => by
   induction i using Nat.strongRecOn with
   | _ i ih =>
    intro hi
    cases h:done.getD i false with
    | true => rfl
    | false =>
     have:i ∈ Region.ready md ops done:=(hready done inv.size i).2 ⟨hi,h,fun j hj => ih j (hlow i j hj) (by have:=hlow i j hj;omega)⟩
     rw [hr] at this
     cases this
  have hp:∀ L:List Nat,(∀ i ∈ L,i<ops.size)→∀ b,pend ops V done L b=b:=fun L => by
   induction L with
   | nil => intro _ _;rfl
   | cons i r ih =>
    intro h b
    unfold pend
    have h1:done.getD i true=true:=by rw [getD_two (by rw [inv.size];exact h i (by simp))];exact hall i (h i (by simp))
    rw [if_neg (by rw [h1];simp)]
    exact ih (fun j hj => h j (by simp [hj])) b
  have ha:=inv.act
  rw [hp _ (fun i hi => List.mem_range.1 hi)] at ha
  obtain ⟨m,hm,rfl,hd⟩:=inv.world
  have hmS:m=S.length:=by
   rcases Nat.lt_or_ge m S.length with h | h
   ·have h1:=hd m h
    rw [hall _ (hS m h).1.1] at h1
    exact absurd (of_decide_eq_true h1.symm) (Nat.lt_irrefl _)
   ·omega
  rw [ha,hmS]
  exact hQ
 intro f
 induction f with
 | zero =>
  intro done a w inv hl
  have hr:Region.ready md ops done=[]:=by
   rw [List.eq_nil_iff_forall_not_mem]
   intro i hi
   obtain ⟨h1,h2,-⟩:=(hready done inv.size i).1 hi
   have h3:i ∈ (List.range ops.size).filter fun i => !done.getD i true:=List.mem_filter.2 ⟨List.mem_range.2 h1,by rw [getD_two (by rw [inv.size];exact h1),h2];rfl⟩
   unfold left at hl
   rw [List.length_eq_zero_iff] at hl
   rw [hl] at h3
   cases h3
  exact ⟨hr,hend done a w inv hr⟩
 | succ f ih =>
  intro done a w inv hl
  refine ⟨hend done a w inv,fun i hi => ?_⟩
  obtain ⟨hilt,hiu,hiw⟩:=(hready done inv.size i).1 hi
  have hit:done.getD i true=false:=by rw [getD_two (by rw [inv.size];exact hilt)];exact hiu
  have ho:=Array.getElem?_eq_getElem hilt
  generalize hoo:ops[i]=o at ho
  unfold wpOp
  rw [ho]
  dsimp only
  have hg:=Array.all_eq_true_iff_forall_mem.1 hgd o (by rw [← hoo];exact Array.getElem_mem hilt)
  have hw:Region.wanted o (yielded ops a.tmps)=true:=by
   unfold Region.wanted
   rw [Option.isNone_iff_eq_none.1 hg]
  rw [if_pos hw]
  refine .inl ?_
  have hFi:=hF i hilt
  rw [ho] at hFi
  simp only [Bool.and_eq_true] at hFi
  have hSel:=Region.noSelect_spec hsel
  have hex:execOp aF.eval o=execOp a.eval o:=by
   rw [← inv.act]
   refine exec_pend (ops:=ops) (fun cs b => hSel i o cs b ho) _ _ fun j hj hju d hd hmem => ?_
   have hjl:=List.mem_range.1 hj
   have h1:=List.all_eq_true.1 hFi.2 j (List.mem_range.2 hjl)
   rw [Array.getElem?_eq_getElem hjl] at h1
   unfold dstOf at hd
   rw [Array.getElem?_eq_getElem hjl] at hd
   simp only [Option.bind_some] at hd
   dsimp only at h1
   rw [hd] at h1
   simp only [Bool.and_eq_true,Bool.or_eq_true,Bool.not_eq_true',List.contains_eq_mem,decide_eq_false_iff_not] at h1
   rcases h1.1 with h2 | h2
   ·exact h2 hmem
   ·have h3:=hiw j h2
    rw [getD_two (by rw [inv.size];exact hjl),h3] at hju
    cases hju
  have hdist:∀ j,j≠i→∀ d,dstOf ops i=some d→dstOf ops j≠some d:=fun j hji d hd hdj => by
   unfold dstOf at hdj
   cases hjo:ops[j]? with
   | none => rw [hjo] at hdj;cases hdj
   | some p =>
    have hjl:=(Array.getElem?_eq_some_iff.1 hjo).1
    rw [hjo] at hdj
    simp only [Option.bind_some] at hdj
    have h1:=List.all_eq_true.1 hFi.2 j (List.mem_range.2 hjl)
    rw [hjo] at h1
    dsimp only at h1
    rw [hdj] at h1
    unfold dstOf at hd
    rw [ho] at hd
    simp only [Option.bind_some] at hd
    simp only [Bool.and_eq_true,Bool.or_eq_true,Bool.not_eq_true',decide_eq_true_eq,beq_eq_false_iff_ne] at h1
    rcases h1.2 with h2 | h2
    ·exact hji h2.symm
    ·exact h2 hd
  have hnext:∀ u w',(∃ m,m≤S.length∧w'=Wd m∧∀ k,k<S.length→(done.setIfInBounds i true).getD (S.getD k 0) false=decide (k<m))→(dstOf ops i=none∨u=V i)→wpAny P md ops Q f (done.setIfInBounds i true) (a.put o.dst u) w':=fun u w' hw' hu => by
   refine ih _ _ _ ⟨by rw [Array.size_setIfInBounds];exact inv.size,?_,fun j hj k hk => ?_,hw'⟩ ?_
   ·have hdo:o.dst=dstOf ops i:=by unfold dstOf;rw [ho];rfl
    have h2:=pend_step (V:=V) hit (by rw [inv.size];exact hilt) hdist (List.range ops.size) a List.nodup_range (List.mem_range.2 hilt)
    rw [hdo]
    rcases hu with hu | hu
    ·rw [hu] at h2 ⊢
     exact h2.trans inv.act
    ·rw [hu]
     exact h2.trans inv.act
   ·by_cases e:i=j
    ·subst e
     exact getD_set_true (hiw k hk)
    ·rw [getD_set_ne false e] at hj
     exact getD_set_true (inv.closed j hj k hk)
   ·unfold left at hl ⊢
    have:=left_set hit (by rw [inv.size];exact hilt) (List.range ops.size) List.nodup_range (List.mem_range.2 hilt)
    omega
  obtain ⟨m,hm,rfl,hd⟩:=inv.world
  unfold Oper.wp
  rcases hW i o ho with ⟨hns,h1⟩ | ⟨k,hk,h1⟩
  ·have hrun:=h1 m hm (by
    unfold okM
    rw [List.all_eq_true]
    intro k hk
    have hkl:=List.mem_range.1 hk
    simp only [Bool.and_eq_true,Bool.or_eq_true,Bool.not_eq_true',decide_eq_true_eq]
    constructor
    ·cases hwt:waitsB md ops i (S.getD k 0) with
     | false => exact .inl rfl
     | true =>
      have h2:=hd k hkl
      rw [hiw _ hwt] at h2
      exact .inr (of_decide_eq_true h2.symm)
    ·cases hwt:waitsB md ops (S.getD k 0) i with
     | false => exact .inl rfl
     | true =>
      refine .inr (Nat.le_of_not_lt fun hlt => ?_)
      have h2:=hd k hkl
      rw [decide_eq_true hlt] at h2
      have h3:=inv.closed _ h2 i hwt
      rw [hiu] at h3
      cases h3)
   rw [← hex,hrun]
   exact hnext _ _ ⟨m,hm,rfl,fun k hk => by
    have hne:i≠S.getD k 0:=fun e => hns (by rw [e,List.getD_eq_getElem?_getD,List.getElem?_eq_getElem hk];exact List.getElem_mem hk)
    rw [getD_set_ne false hne]
    exact hd k hk⟩ (.inr rfl)
  ·have hkl:=(List.getElem?_eq_some_iff.1 hk).1
   have hki:S.getD k 0=i:=by rw [List.getD_eq_getElem?_getD,hk];rfl
   have hmk:m=k:=by
    have h2:=hd k hkl
    rw [hki,hiu] at h2
    have h3:=of_decide_eq_false h2.symm
    rcases Nat.eq_zero_or_pos k with h0 | h0
    ·omega
    ·rcases (hS k hkl).1.2 with h4 | h4
     ·omega
     ·rw [hki] at h4
      have h5:=hd (k-1) (by omega)
      rw [hiw _ h4] at h5
      have:=of_decide_eq_true h5.symm
      omega
   subst hmk
   have hdn:dstOf ops i=none:=by
    have h4:=(hS m hkl).2
    rw [hki,ho] at h4
    unfold dstOf
    rw [ho]
    exact Option.isNone_iff_eq_none.1 h4
   rw [← hex,h1]
   exact hnext _ _ ⟨m+1,hkl,rfl,fun k2 hk2 => by
    by_cases e:i=S.getD k2 0
    ·have hkk:k2=m:=by
      have e1:S[k2]=S[m]:=by
       rw [List.getD_eq_getElem?_getD,List.getElem?_eq_getElem hk2] at e
       rw [List.getD_eq_getElem?_getD,List.getElem?_eq_getElem hkl] at hki
       exact (e.symm.trans hki.symm)
      exact (List.getElem_inj hN).1 e1
     subst hkk
     rw [← e]
     have h9:i<done.size:=by rw [inv.size];exact hilt
     simp [Array.getD,h9]
    ·rw [getD_set_ne false e,hd k2 hk2]
     have hne:k2≠m:=fun e2 => e (by rw [e2];exact hki.symm)
     rw [decide_eq_decide]
     omega⟩ (.inl hdn)
theorem wp_region_free {id : Nat} {Q : Exit → Act → World → Prop} {a : Act} {w : World} {l : List Oper} (V : Nat → Value) (Wd : Nat → World) (S : List Nat) (hm : P.follows .mixedOrders = true)
  (hF:freeRegB .any l.toArray S=true) (hS:freeStB .any l.toArray S=true) (hN:S.Nodup) (h0:Wd 0=w.drew)
  (h:∀ aF,pend l.toArray V (Array.replicate l.toArray.size false) (List.range l.toArray.size) a=aF→(∀ i o,l.toArray[i]? = some o→freeAt P .any l.toArray V Wd S aF i o)∧Q .normal aF (Wd S.length)):(Code.region id l.toArray true).wp P Q a w:=by
 refine wp_region_any hm ?_
 obtain ⟨h1,h2⟩:=h _ rfl
 refine free_any (V:=V) (Wd:=Wd) (S:=S) hF hS hN h1 h2 _ _ _ _ ⟨by simp,rfl,fun j hj => ?_,0,Nat.zero_le _,h0.symm,fun k hk => ?_⟩ ?_
 ·rw [getD_replicate_false] at hj
  cases hj
 ·rw [getD_replicate_false]
  simp
 ·unfold left
  rw [List.filter_eq_self.2 (fun i hi => by rw [getD_in (by simpa using List.mem_range.1 hi) (getD_replicate_false _ _)];rfl),List.length_range]
def putAll : List Oper → List Value → Act → Act
 | o :: r,v :: vs,a => putAll r vs (a.put o.dst v)
 | _,_,a => a
def freeOne (P:Program) (ops:Array Oper) (Wd:Nat→World) (S:List Nat) (aF:Act) (i:Nat) (o:Oper) (v:Value):Prop :=
 (i ∉ S∧∀ m,m≤S.length→okM .any ops S i m=true→(execOp aF.eval o).run P (Wd m) = .ok (.value v) (Wd m))∨(∃ k,S[k]? = some i∧(execOp aF.eval o).run P (Wd k) = .ok .skip (Wd (k+1)))
def freeAll (P : Program) (ops : Array Oper) (Wd : Nat → World) (S : List Nat) (aF : Act) : Nat → List Oper → List Value → Prop
 | i,o :: r,v :: vs => freeOne P ops Wd S aF i o v∧freeAll P ops Wd S aF (i+1) r vs
 | _,_,_ => True
theorem pend_all {l:List Oper} {Vs:List Value}:∀ (r:List Oper) (vs:List Value) (k:Nat) (a:Act),r.length=vs.length→(∀ j,r[j]? = l[k+j]?)→(∀ j,vs[j]? = Vs[k+j]?)→k+r.length=l.length →
  pend l.toArray (fun i => Vs.getD i undef) (Array.replicate l.toArray.size false) (List.range' k r.length) a=putAll r vs a
 | [],[],_,_,_,_,_,_ => rfl
 | [],_ :: _,_,_,h,_,_,_ => by cases h
 | _ :: _,[],_,_,h,_,_,_ => by cases h
 | o :: r,v :: vs,k,a,h,h1,h2,h3 => by
  have ho:l[k]? = some o:=by simpa using (h1 0).symm
  have hv:Vs[k]? = some v:=by simpa using (h2 0).symm
  have hkl:k<l.length:=(List.getElem?_eq_some_iff.1 ho).1
  rw [List.length_cons,List.range'_succ]
  unfold pend putAll
  rw [if_pos (getD_in (by simpa using hkl) (getD_replicate_false _ _))]
  have hd:dstOf l.toArray k=o.dst:=by unfold dstOf;rw [List.getElem?_toArray,ho];rfl
  have hV:Vs.getD k undef=v:=by rw [List.getD_eq_getElem?_getD,hv];rfl
  rw [hd,hV]
  refine pend_all r vs (k+1) _ (by simpa using h) (fun j => ?_) (fun j => ?_) (by rw [List.length_cons] at h3;omega)
  ·have:=h1 (j+1)
   rw [List.getElem?_cons_succ] at this
   rw [this,show k+(j+1)=k+1+j by omega]
  ·have:=h2 (j+1)
   rw [List.getElem?_cons_succ] at this
   rw [this,show k+(j+1)=k+1+j by omega]
theorem free_all {P:Program} {l:List Oper} {Vs:List Value} {Wd:Nat→World} {S:List Nat} {aF:Act}:∀ (r:List Oper) (vs:List Value) (k:Nat),r.length=vs.length→(∀ j,r[j]? = l[k+j]?)→(∀ j,vs[j]? = Vs[k+j]?)→freeAll P l.toArray Wd S aF k r vs →
  ∀ j o,r[j]? = some o→freeAt P .any l.toArray (fun i => Vs.getD i undef) Wd S aF (k+j) o
 | [],_,_,_,_,_,_,_,_,h => by simp at h
 | _ :: _,[],_,h,_,_,_,_,_,_ => by cases h
 | o :: r,v :: vs,k,h,h1,h2,hF,j,o',ho' => by
  unfold freeAll at hF
  cases j with
  | zero =>
   obtain rfl:o=o':=by simpa using ho'
   have hv:Vs[k]? = some v:=by simpa using (h2 0).symm
   have hV:Vs.getD k undef=v:=by rw [List.getD_eq_getElem?_getD,hv];rfl
   have h4:=hF.1
   unfold freeOne at h4
   unfold freeAt
   rw [Nat.add_zero]
   dsimp only
   rw [hV]
   exact h4
  | succ j =>
   rw [List.getElem?_cons_succ] at ho'
   rw [show k+(j+1)=k+1+j by omega]
   refine free_all r vs (k+1) (by simpa using h) (fun j => ?_) (fun j => ?_) hF.2 j o' ho'
   ·have:=h1 (j+1)
    rw [List.getElem?_cons_succ] at this
    rw [this,show k+(j+1)=k+1+j by omega]
   ·have:=h2 (j+1)
    rw [List.getElem?_cons_succ] at this
    rw [this,show k+(j+1)=k+1+j by omega]
theorem wp_region_freeL {P : Program} {id : Nat} {Q : Exit → Act → World → Prop} {a : Act} {w : World} {l : List Oper} (Vs : List Value) (Wd : Nat → World) (S : List Nat) (hm : P.follows .mixedOrders = true)
  (hF:freeRegB .any l.toArray S=true) (hS:freeStB .any l.toArray S=true) (hN:S.Nodup) (hl:l.length=Vs.length) (h0:Wd 0=w.drew)
  (h1:freeAll P l.toArray Wd S (putAll l Vs a) 0 l Vs) (h2:Q .normal (putAll l Vs a) (Wd S.length)):(Code.region id l.toArray true).wp P Q a w:=by
 refine wp_region_free (fun i => Vs.getD i undef) Wd S hm hF hS hN h0 ?_
 rintro aF rfl
 have e:pend l.toArray (fun i => Vs.getD i undef) (Array.replicate l.toArray.size false) (List.range l.toArray.size) a=putAll l Vs a:=by
  rw [List.size_toArray,List.range_eq_range']
  exact pend_all l Vs 0 a hl (fun j => by rw [Nat.zero_add]) (fun j => by rw [Nat.zero_add]) (by omega)
 rw [e]
 refine ⟨fun i o ho => ?_,h2⟩
 rw [List.getElem?_toArray] at ho
 have:=free_all (P:=P) l Vs 0 hl (fun j => by rw [Nat.zero_add]) (fun j => by rw [Nat.zero_add]) h1 i o ho
 rwa [Nat.zero_add] at this
end
def chainStB (md:Region.Mode) (ops:Array Oper) (S:List Nat):Bool :=
 (List.range S.length).all fun k => decide (S.getD k 0<ops.size) && (decide (k=0) || waitsB md ops (S.getD k 0) (S.getD (k-1) 0) || (List.range ops.size).any fun j => waitsB md ops (S.getD k 0) j && waitsB md ops j (S.getD (k-1) 0))
section
variable {P:Program} {ops:Array Oper} {md:Region.Mode} {V:Nat→Value} {Wd:Nat→World} {S:List Nat}
def chainAt (P:Program) (md:Region.Mode) (ops:Array Oper) (V:Nat→Value) (Wd:Nat→World) (S:List Nat) (aF:Act) (i:Nat) (o:Oper):Prop :=
 (i ∉ S∧∀ m,m≤S.length→okM md ops S i m=true→(execOp aF.eval o).run P (Wd m) = .ok (.value (V i)) (Wd m))∨(∃ k,S[k]? = some i∧((o.dst=none∧(execOp aF.eval o).run P (Wd k) = .ok .skip (Wd (k+1)))∨(execOp aF.eval o).run P (Wd k) = .ok (.value (V i)) (Wd (k+1))∨∃ f args,(execOp aF.eval o).run P (Wd k) = .ok (.enter f args) (Wd k)∧Calls P f args (Wd k) fun e w' => e = .returned (V i)∧w'=Wd (k+1)))
theorem chain_any {Q : Exit → Act → World → Prop} {aF : Act} (hF : freeRegB md ops S = true) (hS : chainStB md ops S = true) (hN : S.Nodup)
  (hW:∀ i o,ops[i]? = some o→chainAt P md ops V Wd S aF i o) (hQ:Q .normal aF (Wd S.length)) :
  ∀ (f:Nat) (done:Array Bool) (a:Act) (w:World),FInv md ops V Wd S aF done a w→left done ops.size=f→wpAny P md ops Q f done a w:=by
 unfold freeRegB at hF
 simp only [Bool.and_eq_true,List.all_eq_true,List.mem_range] at hF
 obtain ⟨⟨hsel,hgd⟩,hF⟩:=hF
 unfold chainStB at hS
 simp only [Bool.and_eq_true,List.all_eq_true,List.mem_range,decide_eq_true_eq,Bool.or_eq_true] at hS
 have hlow:∀ i j,waitsB md ops i j=true→j<i:=fun i j h => by
  unfold waitsB at h
  cases ho:ops[i]? with
  | none => rw [ho] at h;cases h
  | some o =>
   obtain ⟨e,he,h1,h2⟩:=(waits_iff ho).1 (by unfold waitsB;exact h)
   have hi:=hF i (Array.getElem?_eq_some_iff.1 ho).1
   rw [ho] at hi
   simp only [Bool.and_eq_true] at hi
   have h3:=Array.all_eq_true_iff_forall_mem.1 hi.1 e he
   simp only [Bool.or_eq_true,Bool.not_eq_true',decide_eq_true_eq] at h3
   rcases h3 with h3 | h3
   ·rw [h1] at h3;cases h3
   ·omega
 have hready:∀ done:Array Bool,done.size=ops.size→∀ i,i ∈ Region.ready md ops done ↔ (i<ops.size∧done.getD i false=false∧∀ j,waitsB md ops i j=true→done.getD j false=true):=fun done hsz i => by
  rw [mem_ready]
  constructor
  ·rintro ⟨h1,o,ho,h2⟩
   have hi:=(Array.getElem?_eq_some_iff.1 ho).1
   refine ⟨hi,by rw [← getD_two (by omega)];exact h1,fun j hj => ?_⟩
   obtain ⟨e,he,h3,rfl⟩:=(waits_iff ho).1 hj
   exact h2 e he h3
  ·rintro ⟨hi,h1,h2⟩
   refine ⟨by rw [getD_two (by omega)];exact h1,ops[i],Array.getElem?_eq_getElem hi,fun e he hb => h2 _ ((waits_iff (Array.getElem?_eq_getElem hi)).2 ⟨e,he,hb,rfl⟩)⟩
 have hend:∀ (done:Array Bool) (a:Act) (w:World),FInv md ops V Wd S aF done a w→Region.ready md ops done=[]→Q .normal a w:=fun done a w inv hr => by
  have hall:∀ i,i<ops.size→done.getD i false=true:=fun i => by
   induction i using Nat.strongRecOn with
   | _ i ih =>
    intro hi
    cases h:done.getD i false with
    | true => rfl
    | false =>
     have:i ∈ Region.ready md ops done:=(hready done inv.size i).2 ⟨hi,h,fun j hj => ih j (hlow i j hj) (by have:=hlow i j hj;omega)⟩
     rw [hr] at this
     cases this
  have hp:∀ L:List Nat,(∀ i ∈ L,i<ops.size)→∀ b,pend ops V done L b=b:=fun L => by
   induction L with
   | nil => intro _ _;rfl
   | cons i r ih =>
    intro h b
    unfold pend
    have h1:done.getD i true=true:=by rw [getD_two (by rw [inv.size];exact h i (by simp))];exact hall i (h i (by simp))
    rw [if_neg (by rw [h1];simp)]
    exact ih (fun j hj => h j (by simp [hj])) b
  have ha:=inv.act
  rw [hp _ (fun i hi => List.mem_range.1 hi)] at ha
  obtain ⟨m,hm,rfl,hd⟩:=inv.world
  have hmS:m=S.length:=by
   rcases Nat.lt_or_ge m S.length with h | h
   ·have h1:=hd m h
    rw [hall _ (hS m h).1] at h1
    exact absurd (of_decide_eq_true h1.symm) (Nat.lt_irrefl _)
   ·omega
  rw [ha,hmS]
  exact hQ
 intro f
 induction f with
 | zero =>
  intro done a w inv hl
  have hr:Region.ready md ops done=[]:=by
   rw [List.eq_nil_iff_forall_not_mem]
   intro i hi
   obtain ⟨h1,h2,-⟩:=(hready done inv.size i).1 hi
   have h3:i ∈ (List.range ops.size).filter fun i => !done.getD i true:=List.mem_filter.2 ⟨List.mem_range.2 h1,by rw [getD_two (by rw [inv.size];exact h1),h2];rfl⟩
   unfold left at hl
   rw [List.length_eq_zero_iff] at hl
   rw [hl] at h3
   cases h3
  exact ⟨hr,hend done a w inv hr⟩
 | succ f ih =>
  intro done a w inv hl
  refine ⟨hend done a w inv,fun i hi => ?_⟩
  obtain ⟨hilt,hiu,hiw⟩:=(hready done inv.size i).1 hi
  have hit:done.getD i true=false:=by rw [getD_two (by rw [inv.size];exact hilt)];exact hiu
  have ho:=Array.getElem?_eq_getElem hilt
  generalize hoo:ops[i]=o at ho
  unfold wpOp
  rw [ho]
  dsimp only
  have hg:=Array.all_eq_true_iff_forall_mem.1 hgd o (by rw [← hoo];exact Array.getElem_mem hilt)
  have hw:Region.wanted o (yielded ops a.tmps)=true:=by
   unfold Region.wanted
   rw [Option.isNone_iff_eq_none.1 hg]
  rw [if_pos hw]
  refine .inl ?_
  have hFi:=hF i hilt
  rw [ho] at hFi
  simp only [Bool.and_eq_true] at hFi
  have hSel:=Region.noSelect_spec hsel
  have hex:execOp aF.eval o=execOp a.eval o:=by
   rw [← inv.act]
   refine exec_pend (ops:=ops) (fun cs b => hSel i o cs b ho) _ _ fun j hj hju d hd hmem => ?_
   have hjl:=List.mem_range.1 hj
   have h1:=List.all_eq_true.1 hFi.2 j (List.mem_range.2 hjl)
   rw [Array.getElem?_eq_getElem hjl] at h1
   unfold dstOf at hd
   rw [Array.getElem?_eq_getElem hjl] at hd
   simp only [Option.bind_some] at hd
   dsimp only at h1
   rw [hd] at h1
   simp only [Bool.and_eq_true,Bool.or_eq_true,Bool.not_eq_true',List.contains_eq_mem,decide_eq_false_iff_not] at h1
   rcases h1.1 with h2 | h2
   ·exact h2 hmem
   ·have h3:=hiw j h2
    rw [getD_two (by rw [inv.size];exact hjl),h3] at hju
    cases hju
  have hdist:∀ j,j≠i→∀ d,dstOf ops i=some d→dstOf ops j≠some d:=fun j hji d hd hdj => by
   unfold dstOf at hdj
   cases hjo:ops[j]? with
   | none => rw [hjo] at hdj;cases hdj
   | some p =>
    have hjl:=(Array.getElem?_eq_some_iff.1 hjo).1
    rw [hjo] at hdj
    simp only [Option.bind_some] at hdj
    have h1:=List.all_eq_true.1 hFi.2 j (List.mem_range.2 hjl)
    rw [hjo] at h1
    dsimp only at h1
    rw [hdj] at h1
    unfold dstOf at hd
    rw [ho] at hd
    simp only [Option.bind_some] at hd
    simp only [Bool.and_eq_true,Bool.or_eq_true,Bool.not_eq_true',decide_eq_true_eq,beq_eq_false_iff_ne] at h1
    rcases h1.2 with h2 | h2
    ·exact hji h2.symm
    ·exact h2 hd
  have hnext:∀ u w',(∃ m,m≤S.length∧w'=Wd m∧∀ k,k<S.length→(done.setIfInBounds i true).getD (S.getD k 0) false=decide (k<m))→(dstOf ops i=none∨u=V i)→wpAny P md ops Q f (done.setIfInBounds i true) (a.put o.dst u) w':=fun u w' hw' hu => by
   refine ih _ _ _ ⟨by rw [Array.size_setIfInBounds];exact inv.size,?_,fun j hj k hk => ?_,hw'⟩ ?_
   ·have hdo:o.dst=dstOf ops i:=by unfold dstOf;rw [ho];rfl
    have h2:=pend_step (V:=V) hit (by rw [inv.size];exact hilt) hdist (List.range ops.size) a List.nodup_range (List.mem_range.2 hilt)
    rw [hdo]
    rcases hu with hu | hu
    ·rw [hu] at h2 ⊢
     exact h2.trans inv.act
    ·rw [hu]
     exact h2.trans inv.act
   ·by_cases e:i=j
    ·subst e
     exact getD_set_true (hiw k hk)
    ·rw [getD_set_ne false e] at hj
     exact getD_set_true (inv.closed j hj k hk)
   ·unfold left at hl ⊢
    have:=left_set hit (by rw [inv.size];exact hilt) (List.range ops.size) List.nodup_range (List.mem_range.2 hilt)
    omega
  obtain ⟨m,hm,rfl,hd⟩:=inv.world
  unfold Oper.wp
  rcases hW i o ho with ⟨hns,h1⟩ | ⟨k,hk,h1⟩
  ·have hrun:=h1 m hm (by
    unfold okM
    rw [List.all_eq_true]
    intro k hk
    have hkl:=List.mem_range.1 hk
    simp only [Bool.and_eq_true,Bool.or_eq_true,Bool.not_eq_true',decide_eq_true_eq]
    constructor
    ·cases hwt:waitsB md ops i (S.getD k 0) with
     | false => exact .inl rfl
     | true =>
      have h2:=hd k hkl
      rw [hiw _ hwt] at h2
      exact .inr (of_decide_eq_true h2.symm)
    ·cases hwt:waitsB md ops (S.getD k 0) i with
     | false => exact .inl rfl
     | true =>
      refine .inr (Nat.le_of_not_lt fun hlt => ?_)
      have h2:=hd k hkl
      rw [decide_eq_true hlt] at h2
      have h3:=inv.closed _ h2 i hwt
      rw [hiu] at h3
      cases h3)
   rw [← hex,hrun]
   exact hnext _ _ ⟨m,hm,rfl,fun k hk => by
    have hne:i≠S.getD k 0:=fun e => hns (by rw [e,List.getD_eq_getElem?_getD,List.getElem?_eq_getElem hk];exact List.getElem_mem hk)
    rw [getD_set_ne false hne]
    exact hd k hk⟩ (.inr rfl)
  ·have hkl:=(List.getElem?_eq_some_iff.1 hk).1
   have hki:S.getD k 0=i:=by rw [List.getD_eq_getElem?_getD,hk];rfl
   have hmk:m=k:=by
    have h2:=hd k hkl
    rw [hki,hiu] at h2
    have h3:=of_decide_eq_false h2.symm
    rcases Nat.eq_zero_or_pos k with h0 | h0
    ·omega
    ·rcases (hS k hkl).2 with (h4 | h4) | h4
     ·omega
     ·rw [hki] at h4
      have h5:=hd (k-1) (by omega)
      rw [hiw _ h4] at h5
      have:=of_decide_eq_true h5.symm
      omega
     ·obtain ⟨j,-,h6⟩:=List.any_eq_true.1 h4
      rw [Bool.and_eq_true,hki] at h6
      have h5:=hd (k-1) (by omega)
      rw [inv.closed j (hiw _ h6.1) _ h6.2] at h5
      have:=of_decide_eq_true h5.symm
      omega
   subst hmk
   have hW2:∃ m',m'≤S.length∧Wd (m+1)=Wd m'∧∀ k,k<S.length→(done.setIfInBounds i true).getD (S.getD k 0) false=decide (k<m'):=⟨m+1,hkl,rfl,fun k2 hk2 => by
    by_cases e:i=S.getD k2 0
    ·have hkk:k2=m:=by
      have e1:S[k2]=S[m]:=by
       rw [List.getD_eq_getElem?_getD,List.getElem?_eq_getElem hk2] at e
       rw [List.getD_eq_getElem?_getD,List.getElem?_eq_getElem hkl] at hki
       exact (e.symm.trans hki.symm)
      exact (List.getElem_inj hN).1 e1
     subst hkk
     rw [← e]
     have h9:i<done.size:=by rw [inv.size];exact hilt
     simp [Array.getD,h9]
    ·rw [getD_set_ne false e,hd k2 hk2]
     have hne:k2≠m:=fun e2 => e (by rw [e2];exact hki.symm)
     rw [decide_eq_decide]
     omega⟩
   rcases h1 with ⟨hdn,h1⟩ | h1 | ⟨f,args,h1,hC⟩
   ·rw [← hex,h1]
    exact hnext _ _ hW2 (.inl (by unfold dstOf;rw [ho];exact hdn))
   ·rw [← hex,h1]
    exact hnext _ _ hW2 (.inr rfl)
   ·rw [← hex,h1]
    refine hC.mono ?_
    rintro e w' ⟨rfl,rfl⟩
    exact hnext _ _ hW2 (.inr rfl)
theorem wp_region_chain {id : Nat} {Q : Exit → Act → World → Prop} {a : Act} {w : World} {l : List Oper} (V : Nat → Value) (Wd : Nat → World) (S : List Nat) (hm : P.follows .mixedOrders = true)
  (hF:freeRegB .any l.toArray S=true) (hS:chainStB .any l.toArray S=true) (hN:S.Nodup) (h0:Wd 0=w.drew)
  (h:∀ aF,pend l.toArray V (Array.replicate l.toArray.size false) (List.range l.toArray.size) a=aF→(∀ i o,l.toArray[i]? = some o→chainAt P .any l.toArray V Wd S aF i o)∧Q .normal aF (Wd S.length)):(Code.region id l.toArray true).wp P Q a w:=by
 refine wp_region_any hm ?_
 obtain ⟨h1,h2⟩:=h _ rfl
 refine chain_any (V:=V) (Wd:=Wd) (S:=S) hF hS hN h1 h2 _ _ _ _ ⟨by simp,rfl,fun j hj => ?_,0,Nat.zero_le _,h0.symm,fun k hk => ?_⟩ ?_
 ·rw [getD_replicate_false] at hj
  cases hj
 ·rw [getD_replicate_false]
  simp
 ·unfold left
  rw [List.filter_eq_self.2 (fun i hi => by rw [getD_in (by simpa using List.mem_range.1 hi) (getD_replicate_false _ _)];rfl),List.length_range]
def chainOne (P:Program) (ops:Array Oper) (Wd:Nat→World) (S:List Nat) (aF:Act) (i:Nat) (o:Oper) (v:Value):Prop :=
 (i ∉ S∧∀ m,m≤S.length→okM .any ops S i m=true→(execOp aF.eval o).run P (Wd m) = .ok (.value v) (Wd m))∨(∃ k,S[k]? = some i∧((o.dst=none∧(execOp aF.eval o).run P (Wd k) = .ok .skip (Wd (k+1)))∨(execOp aF.eval o).run P (Wd k) = .ok (.value v) (Wd (k+1))∨∃ f args,(execOp aF.eval o).run P (Wd k) = .ok (.enter f args) (Wd k)∧Calls P f args (Wd k) fun e w' => e = .returned v∧w'=Wd (k+1)))
def chainAll (P : Program) (ops : Array Oper) (Wd : Nat → World) (S : List Nat) (aF : Act) : Nat → List Oper → List Value → Prop
 | i,o :: r,v :: vs => chainOne P ops Wd S aF i o v∧chainAll P ops Wd S aF (i+1) r vs
 | _,_,_ => True
theorem chain_all {P:Program} {l:List Oper} {Vs:List Value} {Wd:Nat→World} {S:List Nat} {aF:Act}:∀ (r:List Oper) (vs:List Value) (k:Nat),r.length=vs.length→(∀ j,r[j]? = l[k+j]?)→(∀ j,vs[j]? = Vs[k+j]?)→chainAll P l.toArray Wd S aF k r vs →
  ∀ j o,r[j]? = some o→chainAt P .any l.toArray (fun i => Vs.getD i undef) Wd S aF (k+j) o
 | [],_,_,_,_,_,_,_,_,h => by simp at h
 | _ :: _,[],_,h,_,_,_,_,_,_ => by cases h
 | o :: r,v :: vs,k,h,h1,h2,hF,j,o',ho' => by
  unfold chainAll at hF
  cases j with
  | zero =>
   obtain rfl:o=o':=by simpa using ho'
   have hv:Vs[k]? = some v:=by simpa using (h2 0).symm
   have hV:Vs.getD k undef=v:=by rw [List.getD_eq_getElem?_getD,hv];rfl
   have h4:=hF.1
   unfold chainOne at h4
   unfold chainAt
   rw [Nat.add_zero]
   dsimp only
   rw [hV]
   exact h4
  | succ j =>
   rw [List.getElem?_cons_succ] at ho'
   rw [show k+(j+1)=k+1+j by omega]
   refine chain_all r vs (k+1) (by simpa using h) (fun j => ?_) (fun j => ?_) hF.2 j o' ho'
   ·have:=h1 (j+1)
    rw [List.getElem?_cons_succ] at this
    rw [this,show k+(j+1)=k+1+j by omega]
   ·have:=h2 (j+1)
    rw [List.getElem?_cons_succ] at this
    rw [this,show k+(j+1)=k+1+j by omega]
theorem wp_region_chainL {P : Program} {id : Nat} {Q : Exit → Act → World → Prop} {a : Act} {w : World} {l : List Oper} (Vs : List Value) (Wd : Nat → World) (S : List Nat) (hm : P.follows .mixedOrders = true)
  (hF:freeRegB .any l.toArray S=true) (hS:chainStB .any l.toArray S=true) (hN:S.Nodup) (hl:l.length=Vs.length) (h0:Wd 0=w.drew)
  (h1:chainAll P l.toArray Wd S (putAll l Vs a) 0 l Vs) (h2:Q .normal (putAll l Vs a) (Wd S.length)):(Code.region id l.toArray true).wp P Q a w:=by
 refine wp_region_chain (fun i => Vs.getD i undef) Wd S hm hF hS hN h0 ?_
 rintro aF rfl
 have e:pend l.toArray (fun i => Vs.getD i undef) (Array.replicate l.toArray.size false) (List.range l.toArray.size) a=putAll l Vs a:=by
  rw [List.size_toArray,List.range_eq_range']
  exact pend_all l Vs 0 a hl (fun j => by rw [Nat.zero_add]) (fun j => by rw [Nat.zero_add]) (by omega)
 rw [e]
 refine ⟨fun i o ho => ?_,h2⟩
 rw [List.getElem?_toArray] at ho
 have:=chain_all (P:=P) l Vs 0 hl (fun j => by rw [Nat.zero_add]) (fun j => by rw [Nat.zero_add]) h1 i o ho
 rwa [Nat.zero_add] at this
end
theorem chain_append {P : Program} {o : Oper} {ρ : Operand → Value} {w w' : World} {s x : Operand} {t : TypeId} {v u r : Value} (ho : o.op = .call { callee := .builtin .append,args := #[s,x],argTypes := #[t,t] }) (hs : ρ s = v) (hx : ρ x = u)
  (hr:(Builtin.append_ #[t,t] o.type #[v,u]).run P w = .ok r w'):(execOp ρ o).run P w = .ok (.value r) w':=by
 unfold execOp
 simp only [ho,resolve,invoke,builtin,Sem.run_bind,Sem.run_pure,Result.andThen_ok,List.map_toArray,List.map_cons,List.map_nil,hs,hx,hr]
def gsum (f:Nat→Nat):Nat→Nat
 | 0 => 0
 | k+1 => gsum f k+16777216 ^ k*f k
def dgAt (L:List Nat) (i:Nat):Nat:=L.getD i 0
def gv (L:List Nat):Nat:=gsum (dgAt L) L.length
def Gok (L:List Nat):Prop:=∀ x ∈ L,x<16777216
def GTrim (L:List Nat):Prop:=L≠[]→dgAt L (L.length-1)≠0
theorem gpow_pos (k:Nat):0<16777216 ^ k:=Nat.pow_pos (by decide)
theorem dgAt_get {L:List Nat} {i:Nat} (h:i<L.length):dgAt L i=L[i]:=by unfold dgAt;rw [List.getD_eq_getElem?_getD,List.getElem?_eq_getElem h];rfl
theorem dgAt_none {L:List Nat} {i:Nat} (h:L.length≤i):dgAt L i=0:=by unfold dgAt;rw [List.getD_eq_getElem?_getD,List.getElem?_eq_none h];rfl
theorem dgAt_lt {L:List Nat} (h:Gok L) (i:Nat):dgAt L i<16777216:=by
 by_cases hi:i<L.length
 ·rw [dgAt_get hi];exact h _ (List.getElem_mem hi)
 ·rw [dgAt_none (by omega)];decide
theorem gsum_congr {f g : Nat → Nat} : ∀ {k : Nat},(∀ i,i < k → f i = g i) → gsum f k = gsum g k
 | 0,_ => rfl
 | k+1,h => by
  show gsum f k+_=gsum g k+_
  rw [gsum_congr (k:=k) fun i hi => h i (by omega),h k (by omega)]
theorem gsum_lt {f : Nat → Nat} (h : ∀ i,f i < 16777216) : ∀ k,gsum f k < 16777216 ^ k
 | 0 => Nat.one_pos
 | k+1 => by
  have ih:=gsum_lt h k
  have hk:=h k
  have h1:16777216 ^ k*f k≤16777216 ^ k*16777215:=Nat.mul_le_mul_left _ (by omega)
  show gsum f k+16777216 ^ k*f k<16777216 ^ (k+1)
  rw [Nat.pow_succ]
  omega
theorem gv_nil:gv []=0:=rfl
theorem Gok.take {L:List Nat} (h:Gok L) (k:Nat):Gok (L.take k):=fun x hx => h x (List.mem_of_mem_take hx)
theorem dgAt_set {L:List Nat} {i j x:Nat} (hi:i<L.length):dgAt (L.set i x) j=if j=i then x else dgAt L j:=by
 unfold dgAt
 rw [List.getD_eq_getElem?_getD,List.getD_eq_getElem?_getD,List.getElem?_set]
 by_cases e:i=j
 ·subst e;simp [hi]
 ·rw [if_neg e,if_neg (fun h => e h.symm)]
theorem gsum_set_ge {L:List Nat} {i x:Nat} (hi:i<L.length):∀ k,k≤i→gsum (dgAt (L.set i x)) k=gsum (dgAt L) k:=fun k hk =>
 gsum_congr fun j hj => by rw [dgAt_set hi,if_neg (by omega)]
theorem gsum_set_lt {L : List Nat} {i x : Nat} (hi : i < L.length) : ∀ k,i < k → gsum (dgAt (L.set i x)) k + 16777216 ^ i * dgAt L i = gsum (dgAt L) k + 16777216 ^ i * x
 | 0,h => by omega
 | k+1,h => by
  show gsum (dgAt (L.set i x)) k+16777216 ^ k*dgAt (L.set i x) k+_=gsum (dgAt L) k+16777216 ^ k*dgAt L k+_
  by_cases e:i=k
  ·subst e
   rw [gsum_set_ge hi i (Nat.le_refl _),dgAt_set hi,if_pos rfl]
   omega
  ·have ih:=gsum_set_lt (x:=x) hi k (by omega)
   rw [dgAt_set hi,if_neg (by omega)]
   omega
theorem Gok.set {L:List Nat} (h:Gok L) (i:Nat) {x:Nat} (hx:x<16777216):Gok (L.set i x):=fun y hy => by
 rcases List.mem_or_eq_of_mem_set hy with h1 | h1
 ·exact h y h1
 ·omega
theorem Gok.zeros (n:Nat):Gok (List.replicate n 0):=fun x hx => by rw [List.eq_of_mem_replicate hx];decide
theorem dgAt_zeros (n i:Nat):dgAt (List.replicate n 0) i=0:=by
 by_cases h:i<n
 ·rw [dgAt_get (by simpa using h)];simp
 ·exact dgAt_none (by simpa using h)
theorem gsum_zeros (n : Nat) : ∀ k,gsum (dgAt (List.replicate n 0)) k = 0
 | 0 => rfl
 | k+1 => by
  show gsum _ k+16777216 ^ k*dgAt _ k=0
  rw [dgAt_zeros,gsum_zeros n k,Nat.mul_zero]
theorem gmul_row {O:List Nat} {n p x y cy R:Nat} (hp:p<O.length) (hn:O.length=n) (h:gsum (dgAt O) n+16777216 ^ p*cy=R) :
  gsum (dgAt (O.set p ((x*y+dgAt O p+cy) % 16777216))) n+16777216 ^ (p+1)*((x*y+dgAt O p+cy) / 16777216)=R+16777216 ^ p*(x*y):=by
 have h1:=gsum_set_lt (L:=O) (x:=(x*y+dgAt O p+cy) % 16777216) hp n (by omega)
 have h2:16777216 ^ p*((x*y+dgAt O p+cy) % 16777216)+16777216 ^ (p+1)*((x*y+dgAt O p+cy) / 16777216)=16777216 ^ p*(x*y+dgAt O p+cy):=by
  rw [Nat.pow_succ,Nat.mul_assoc,← Nat.mul_add]
  congr 1
  have:=Nat.div_add_mod (x*y+dgAt O p+cy) 16777216
  omega
 have h3:16777216 ^ p*(x*y+dgAt O p+cy)=16777216 ^ p*(x*y)+16777216 ^ p*dgAt O p+16777216 ^ p*cy:=by rw [Nat.mul_add,Nat.mul_add]
 generalize 16777216 ^ p*((x*y+dgAt O p+cy) % 16777216)=u at *
 generalize 16777216 ^ (p+1)*((x*y+dgAt O p+cy) / 16777216)=v at *
 generalize 16777216 ^ p*(x*y)=z at *
 generalize 16777216 ^ p*dgAt O p=s at *
 generalize 16777216 ^ p*cy=t at *
 omega
theorem gmul_acc {i k a x y:Nat} {Y:Nat→Nat} (hy:y=Y k):a+16777216 ^ i*(x*gsum Y k)+16777216 ^ (i+k)*(x*y)=a+16777216 ^ i*(x*gsum Y (k+1)):=by
 have e:gsum Y (k+1)=gsum Y k+16777216 ^ k*Y k:=rfl
 rw [e,hy,Nat.mul_add,Nat.mul_add,Nat.pow_add,Nat.add_assoc]
 congr 2
 rw [Nat.mul_assoc,Nat.mul_left_comm x]
theorem gmul_next {i b:Nat} {X:Nat→Nat}:gsum X i*b+16777216 ^ i*(X i*b)=gsum X (i+1)*b:=by
 show _=(gsum X i+16777216 ^ i*X i)*b
 rw [Nat.add_mul,Nat.mul_assoc]
def gdig (Q j:Nat):Nat:=Q / 16777216 ^ j % 16777216
theorem gdig_lt (Q j:Nat):gdig Q j<16777216:=Nat.mod_lt _ (by decide)
theorem gdig_sum (Q : Nat) : ∀ n,gsum (gdig Q) n = Q % 16777216 ^ n
 | 0 => by show 0=Q % 1;omega
 | n+1 => by
  show gsum (gdig Q) n+16777216 ^ n*gdig Q n=_
  rw [gdig_sum Q n,Nat.pow_succ,Nat.mod_mul]
  rfl
def dlen (x:Nat):Nat:=if _h:x=0 then 0 else dlen (x / 16777216)+1
termination_by x
decreasing_by omega
theorem dlen_zero:dlen 0=0:=by rw [dlen];rfl
theorem dlen_pos {x:Nat} (h:x≠0):dlen x=dlen (x / 16777216)+1:=by rw [dlen,dif_neg h]
theorem dlen_lt (x:Nat):x<16777216 ^ dlen x:=by
 induction x using Nat.strongRecOn with
 | _ x ih =>
  by_cases h:x=0
  ·subst h;rw [dlen_zero];decide
  ·rw [dlen_pos h,Nat.pow_succ]
   have:=ih (x / 16777216) (by omega)
   omega
theorem dlen_le {x k:Nat} (h:x<16777216 ^ k):dlen x≤k:=by
 induction k generalizing x with
 | zero =>
  have:x=0:=by rw [Nat.pow_zero] at h;omega
  subst this
  rw [dlen_zero]
  exact Nat.le_refl _
 | succ k ih =>
  by_cases hx:x=0
  ·subst hx;rw [dlen_zero];omega
  ·rw [dlen_pos hx]
   have:=ih (x:=x / 16777216) (by rw [Nat.pow_succ] at h;rw [Nat.div_lt_iff_lt_mul (by decide)];exact h)
   omega
theorem dlen_iff {x k:Nat}:x<16777216 ^ k ↔ dlen x≤k:=⟨dlen_le,fun h => Nat.lt_of_lt_of_le (dlen_lt x) (Nat.pow_le_pow_right (by decide) h)⟩
def digsTo (x k:Nat):List Nat:=(List.range k).map (gdig x)
def digs (x:Nat):List Nat:=digsTo x (dlen x)
theorem digsTo_len (x k:Nat):(digsTo x k).length=k:=by unfold digsTo;rw [List.length_map,List.length_range]
theorem digs_len (x:Nat):(digs x).length=dlen x:=digsTo_len _ _
theorem digsTo_succ (x k:Nat):digsTo x (k+1)=digsTo x k ++ [gdig x k]:=by unfold digsTo;rw [List.range_succ,List.map_append];rfl
theorem digsTo_at {x k i:Nat} (h:i<k):dgAt (digsTo x k) i=gdig x i:=by
 rw [dgAt_get (by rw [digsTo_len];exact h)]
 simp [digsTo]
theorem gdig_hi {x i:Nat} (h:dlen x≤i):gdig x i=0:=by
 unfold gdig
 rw [Nat.div_eq_of_lt (dlen_iff.2 h)]
theorem digs_at (x i:Nat):dgAt (digs x) i=gdig x i:=by
 by_cases h:i<dlen x
 ·exact digsTo_at h
 ·rw [dgAt_none (by rw [digs_len];omega),gdig_hi (by omega)]
theorem digsTo_gv {x k:Nat} (h:dlen x≤k):gv (digsTo x k)=x:=by
 unfold gv
 rw [digsTo_len,gsum_congr (g:=gdig x) (fun i hi => digsTo_at hi),gdig_sum,Nat.mod_eq_of_lt (dlen_iff.2 h)]
theorem digs_gv (x:Nat):gv (digs x)=x:=digsTo_gv (Nat.le_refl _)
theorem gsum_dig {f : Nat → Nat} (hf : ∀ i,f i < 16777216) {i : Nat} : ∀ k,i < k → gdig (gsum f k) i = f i
 | 0,h => by omega
 | k+1,h => by
  have e:gsum f (k+1)=gsum f k+16777216 ^ k*f k:=rfl
  have hlt:=gsum_lt hf k
  by_cases hik:i<k
  ·have ih:=gsum_dig hf k hik
   unfold gdig at *
   have hp:16777216 ^ k=16777216 ^ i*(16777216*16777216 ^ (k-i-1)):=by
    rw [← Nat.pow_succ',← Nat.pow_add]
    congr 1
    omega
   rw [e,hp,Nat.mul_assoc,Nat.add_mul_div_left _ _ (gpow_pos i),Nat.mul_assoc,Nat.add_mul_mod_self_left,ih]
  ·obtain rfl:i=k:=by omega
   unfold gdig
   rw [e,Nat.add_mul_div_left _ _ (gpow_pos i),Nat.div_eq_of_lt hlt,Nat.zero_add,Nat.mod_eq_of_lt (hf i)]
theorem list_digs {L:List Nat} (h:Gok L):L=digsTo (gv L) L.length:=by
 refine List.ext_getElem (by rw [digsTo_len]) fun i h1 h2 => ?_
 have e:(digsTo (gv L) L.length)[i]=gdig (gv L) i:=by simp [digsTo]
 rw [e]
 unfold gv
 rw [gsum_dig (dgAt_lt h) _ h1,dgAt_get h1]
theorem digs_nil {x:Nat}:digs x=[] ↔ x=0:=by
 constructor
 ·intro h
  have:=digs_gv x
  rw [h,gv_nil] at this
  exact this.symm
 ·rintro rfl
  unfold digs
  rw [dlen_zero]
  rfl
theorem digs_trim (x:Nat):GTrim (digs x):=fun hne => by
 rw [digs_len,digs_at]
 have hx:x≠0:=fun e => hne (digs_nil.2 e)
 obtain ⟨k,hk⟩:∃ k,dlen x=k+1:=⟨dlen (x / 16777216),dlen_pos hx⟩
 rw [hk,Nat.add_sub_cancel]
 intro h0
 have h1:=gdig_sum x (k+1)
 rw [Nat.mod_eq_of_lt (dlen_iff.2 (by omega))] at h1
 have h2:gsum (gdig x) (k+1)=gsum (gdig x) k+16777216 ^ k*gdig x k:=rfl
 rw [h0,Nat.mul_zero,Nat.add_zero] at h2
 have h3:=gsum_lt (gdig_lt x) k
 have:dlen x≤k:=dlen_le (by omega)
 omega
theorem dlen_mono {x y:Nat} (h:x≤y):dlen x≤dlen y:=dlen_le (Nat.lt_of_le_of_lt h (dlen_lt y))
def carryN (m n i:Nat):Nat:=(m % 16777216 ^ i+n % 16777216 ^ i) / 16777216 ^ i
theorem carry_zero (m n:Nat):carryN m n 0=0:=by unfold carryN;rw [Nat.pow_zero,Nat.mod_one,Nat.mod_one]
theorem carry_le (m n i:Nat):carryN m n i≤1:=by
 unfold carryN
 have h1:=Nat.mod_lt m (gpow_pos i)
 have h2:=Nat.mod_lt n (gpow_pos i)
 have:(m % 16777216 ^ i+n % 16777216 ^ i) / 16777216 ^ i<2:=by
  rw [Nat.div_lt_iff_lt_mul (gpow_pos i)]
  omega
 omega
theorem mod_succ (m i:Nat):m % 16777216 ^ (i+1)=m % 16777216 ^ i+16777216 ^ i*gdig m i:=by
 rw [Nat.pow_succ,Nat.mod_mul]
 rfl
theorem split_add (P m n:Nat) (hP:0<P):(m+n) / P=m / P+n / P+(m % P+n % P) / P:=by
 have e:m+n=(m % P+n % P)+P*(m / P+n / P):=by
  have e1:=Nat.div_add_mod m P
  have e2:=Nat.div_add_mod n P
  rw [Nat.mul_add]
  omega
 rw [e,Nat.add_mul_div_left _ _ hP]
 omega
theorem plus_dig (m n i:Nat):(gdig m i+gdig n i+carryN m n i) % 16777216=gdig (m+n) i:=by
 unfold gdig carryN
 rw [split_add _ m n (gpow_pos i)]
 omega
theorem plus_carry (m n i:Nat):(gdig m i+gdig n i+carryN m n i) / 16777216=carryN m n (i+1):=by
 have e:carryN m n (i+1)=(m % 16777216 ^ i+n % 16777216 ^ i+16777216 ^ i*(gdig m i+gdig n i)) / (16777216 ^ i*16777216):=by
  unfold carryN
  rw [mod_succ,mod_succ,Nat.pow_succ,Nat.mul_add]
  congr 1
  omega
 rw [e,← Nat.div_div_eq_div_mul,Nat.add_mul_div_left _ _ (gpow_pos i)]
 unfold carryN
 congr 1
 omega
theorem plus_go (m n i:Nat):(i<dlen m∨i<dlen n∨0<carryN m n i) ↔ i<dlen (m+n):=by
 have h1:=dlen_mono (Nat.le_add_right m n)
 have h2:=dlen_mono (Nat.le_add_left n m)
 constructor
 ·rintro (h | h | h)
  ·omega
  ·omega
  ·rcases Nat.lt_or_ge i (dlen (m+n)) with h3 | h3
   ·exact h3
   ·exfalso
    have h4:=dlen_iff.2 h3
    unfold carryN at h
    rw [Nat.mod_eq_of_lt (by omega),Nat.mod_eq_of_lt (by omega),Nat.div_eq_of_lt h4] at h
    exact absurd h (by decide)
 ·intro h
  by_cases h3:i<dlen m
  ·exact .inl h3
  ·by_cases h4:i<dlen n
   ·exact .inr (.inl h4)
   ·refine .inr (.inr ?_)
    have h5:=dlen_iff.2 (show dlen m≤i by omega)
    have h6:=dlen_iff.2 (show dlen n≤i by omega)
    unfold carryN
    rw [Nat.mod_eq_of_lt h5,Nat.mod_eq_of_lt h6]
    rcases Nat.lt_or_ge (m+n) (16777216 ^ i) with h7 | h7
    ·have:=dlen_iff.1 h7;omega
    ·exact Nat.div_pos h7 (gpow_pos i)
def borrowN (m n i:Nat):Nat:=if m % 16777216 ^ i<n % 16777216 ^ i then 1 else 0
theorem borrow_zero (m n:Nat):borrowN m n 0=0:=by unfold borrowN;rw [Nat.pow_zero,Nat.mod_one,Nat.mod_one];rfl
theorem borrow_le (m n i:Nat):borrowN m n i≤1:=by unfold borrowN;split <;> omega
theorem split_sub (P m n:Nat) (hP:0<P) (h:n≤m):(m-n) / P+n / P+(if m % P<n % P then 1 else 0)=m / P:=by
 have e1:=Nat.div_add_mod m P
 have e2:=Nat.div_add_mod n P
 have e3:=Nat.mod_lt m hP
 have e4:=Nat.mod_lt n hP
 have e5:=Nat.div_le_div_right (c:=P) h
 split
 ·rename_i hb
  have hlt:n / P<m / P:=by
   rcases Nat.lt_or_ge (n / P) (m / P) with h1 | h1
   ·exact h1
   ·exfalso
    have:P*(n / P)=P*(m / P):=by rw [show n / P=m / P by omega]
    omega
  obtain ⟨k,hk⟩:∃ k,m / P=n / P+k+1:=⟨m / P-n / P-1,by omega⟩
  have e6:P*(m / P)=P*(n / P)+P*k+P:=by rw [hk,Nat.mul_add,Nat.mul_add,Nat.mul_one]
  have e7:m-n=(P+m % P-n % P)+P*k:=by omega
  rw [e7,Nat.add_mul_div_left _ _ hP,Nat.div_eq_of_lt (by omega)]
  omega
 ·rename_i hb
  obtain ⟨k,hk⟩:∃ k,m / P=n / P+k:=⟨m / P-n / P,by omega⟩
  have e6:P*(m / P)=P*(n / P)+P*k:=by rw [hk,Nat.mul_add]
  have e7:m-n=(m % P-n % P)+P*k:=by omega
  rw [e7,Nat.add_mul_div_left _ _ hP,Nat.div_eq_of_lt (by omega)]
  omega
theorem minus_dig {m n:Nat} (h:n≤m) (i:Nat) :
  (gdig m i:Int)-gdig n i-borrowN m n i=(gdig (m-n) i:Int)-(if (gdig m i:Int)-gdig n i-borrowN m n i<0 then 16777216 else 0):=by
 have e:=split_sub _ m n (gpow_pos i) h
 have hle:=borrow_le m n i
 unfold gdig borrowN at *
 generalize (m-n) / 16777216 ^ i=u at *
 generalize n / 16777216 ^ i=v at *
 generalize m / 16777216 ^ i=z at *
 generalize (if m % 16777216 ^ i<n % 16777216 ^ i then 1 else 0)=b at *
 split <;> omega
theorem minus_borrow {m n:Nat} (i:Nat):borrowN m n (i+1)=if (gdig m i:Int)-gdig n i-borrowN m n i<0 then 1 else 0:=by
 have e1:=Nat.mod_lt m (gpow_pos i)
 have e2:=Nat.mod_lt n (gpow_pos i)
 unfold borrowN
 rw [mod_succ,mod_succ]
 generalize 16777216 ^ i=P at *
 generalize m % P=m0 at *
 generalize n % P=n0 at *
 rcases Nat.lt_trichotomy (gdig m i) (gdig n i) with h | h | h
 ·obtain ⟨k,hk⟩:∃ k,gdig n i=gdig m i+k+1:=⟨gdig n i-gdig m i-1,by omega⟩
  have e:P*gdig n i=P*gdig m i+P*k+P:=by rw [hk,Nat.mul_add,Nat.mul_add,Nat.mul_one]
  rw [if_pos (by omega),if_pos (by split <;> omega)]
 ·rw [h]
  by_cases hb:m0<n0
  ·rw [if_pos (by omega),if_pos hb,if_pos (by omega)]
  ·rw [if_neg (by omega),if_neg hb,if_neg (by omega)]
 ·obtain ⟨k,hk⟩:∃ k,gdig m i=gdig n i+k+1:=⟨gdig m i-gdig n i-1,by omega⟩
  have e:P*gdig m i=P*gdig n i+P*k+P:=by rw [hk,Nat.mul_add,Nat.mul_add,Nat.mul_one]
  rw [if_neg (by omega),if_neg (by split <;> omega)]
theorem half_dig (m i:Nat):(gdig m i+m / 16777216 ^ (i+1) % 2*16777216) / 2=gdig (m / 2) i:=by
 unfold gdig
 rw [Nat.div_div_eq_div_mul,Nat.mul_comm 2,← Nat.div_div_eq_div_mul,Nat.pow_succ,← Nat.div_div_eq_div_mul]
 generalize m / 16777216 ^ i=z
 omega
theorem half_rest (m i:Nat):(gdig m i+m / 16777216 ^ (i+1) % 2*16777216) % 2=m / 16777216 ^ i % 2:=by
 unfold gdig
 rw [Nat.pow_succ,← Nat.div_div_eq_div_mul]
 generalize m / 16777216 ^ i=z
 omega
theorem cmp_eq {m n i:Nat} (h:m / 16777216 ^ (i+1)=n / 16777216 ^ (i+1)) (hd:gdig m i=gdig n i):m / 16777216 ^ i=n / 16777216 ^ i:=by
 rw [Nat.pow_succ,← Nat.div_div_eq_div_mul,← Nat.div_div_eq_div_mul] at h
 unfold gdig at hd
 omega
theorem cmp_lt {m n i:Nat} (h:m / 16777216 ^ (i+1)=n / 16777216 ^ (i+1)) (hd:gdig m i<gdig n i):m<n:=by
 rw [Nat.pow_succ,← Nat.div_div_eq_div_mul,← Nat.div_div_eq_div_mul] at h
 unfold gdig at hd
 rcases Nat.lt_or_ge m n with h1 | h1
 ·exact h1
 ·have:=Nat.div_le_div_right (c:=16777216 ^ i) h1
  omega
theorem cmp_len {m n:Nat} (h:dlen m<dlen n):m<n:=by
 rcases Nat.lt_or_ge m n with h1 | h1
 ·exact h1
 ·have:=dlen_mono h1
  omega
theorem even_dig (m:Nat):gdig m 0 % 2=m % 2:=by unfold gdig;rw [Nat.pow_zero,Nat.div_one];omega
open Go.RowKit Go.Shelf
def dgV (d:Nat):Value:=.int .i64 d
def TyD (w:World) (v:Value):Prop:=∀ g,v.ownBlock=some g→∃ cs r,w.heap[g]? = some (.cells cs 3 r)
def DgTo (w:World) (B:Nat) (v:Value) (x k:Nat):Prop:=RowAt dgV w B v (digsTo x k)∧(0<k→TyD w v)
def DgAt (w:World) (B:Nat) (v:Value) (x:Nat):Prop:=DgTo w B v x (dlen x)
theorem DgTo.below {w w':World} {B B':Nat} {v:Value} {x k:Nat} (h:DgTo w B v x k) (hb:Below B' w w') (hB:B≤B'):DgTo w' B v x k:=⟨Flat.below h.1 hb hB,fun hk g hg => by
 obtain ⟨cs,r,e⟩:=h.2 hk g hg
 obtain ⟨A,c,h1,-,-,h4⟩:=h.1
 rw [digsTo_len] at h4
 obtain ⟨b,off,eA,hlt,-⟩:=h4 hk
 rw [h1,eA] at hg
 obtain rfl:b=g:=by simpa [Value.ownBlock] using hg
 exact ⟨cs,r,(hb.block b (Nat.lt_of_lt_of_le hlt hB)).trans e⟩⟩
theorem DgTo.mono {w:World} {B B':Nat} {v:Value} {x k:Nat} (h:DgTo w B v x k) (hB:B≤B'):DgTo w B' v x k:=⟨Flat.mono h.1 hB,h.2⟩
theorem DgTo.grow {w w':World} {v:Value} {x k:Nat} (h:DgTo w w.heap.size v x k) (hb:Below w.heap.size w w'):DgTo w' w'.heap.size v x k:=(h.below hb (Nat.le_refl _)).mono hb.size
theorem DgTo.open_ {w:World} {B:Nat} {v:Value} {x k:Nat} (h:DgTo w B v x k):∃ A c,v = .slice A k c∧k≤c∧c≤maxLen∧∀ i,i<k→∃ b off,A=some ⟨b,off,none⟩∧b<B∧∀ j,j<k→w.cell? ⟨b,off+j,none⟩=some (.int .i64 (gdig x j:Nat)):=by
 obtain ⟨A,c,h1,h2,h3,h4⟩:=h.1
 rw [digsTo_len] at h1 h2 h4
 refine ⟨A,c,h1,h2,h3,fun i hi => ?_⟩
 obtain ⟨b,off,e,hlt,hc⟩:=h4 (by omega)
 refine ⟨b,off,e,hlt,fun j hj => hc j _ ?_⟩
 rw [List.getElem?_map,List.getElem?_eq_getElem (by rw [digsTo_len];exact hj)]
 simp [digsTo,dgV]
theorem DgTo.take {w:World} {B k c:Nat} {A:Option Addr} {x m:Nat} (h:DgTo w B (.slice A k c) x k) (hm:m≤k):DgTo w B (.slice A m c) x m:=by
 refine ⟨?_,fun h0 g hg => h.2 (by omega) g (by cases A <;> exact hg)⟩
 obtain ⟨A',c',h1,h2,h3,h4⟩:=h.1
 rw [digsTo_len] at h1 h2 h4
 injection h1 with e1 e2 e3
 subst e1 e3
 refine ⟨A,c,by rw [digsTo_len],by rw [digsTo_len];omega,h3,fun h0 => ?_⟩
 rw [digsTo_len] at h0
 obtain ⟨b,off,e,hlt,hc⟩:=h4 (by omega)
 refine ⟨b,off,e,hlt,fun j u hu => hc j u ?_⟩
 rw [List.getElem?_map] at hu ⊢
 by_cases hj:j<m
 ·rw [List.getElem?_eq_getElem (by rw [digsTo_len];exact hj)] at hu
  rw [List.getElem?_eq_getElem (by rw [digsTo_len];omega)]
  simp [digsTo] at hu ⊢
  exact hu
 ·rw [List.getElem?_eq_none (by rw [digsTo_len];omega)] at hu
  simp at hu
theorem DgTo.kept {w w':World} {B e s n x k:Nat} {v u:Value} {xs:List Value} (h:DgTo w w.heap.size v x k) (ho:w.ownsRow B e s u n xs) (hg:w.grownBy w' u.ownBlock) (ht:e≠3):DgTo w' w'.heap.size v x k:=by
 obtain ⟨A,c,h1,h2,h3,h4⟩:=h.1
 rw [digsTo_len] at h1 h2 h4
 have hne:∀ b off,0<k→A=some ⟨b,off,none⟩→some b≠u.ownBlock:=fun b off hk eA he => by
  obtain ⟨cs,r,e1⟩:=h.2 hk b (by rw [h1,eA];rfl)
  rcases ho.2 with ⟨rfl,_⟩ | ⟨g',cap,cur,rfl,_,hh,_⟩
  ·simp [Value.ownBlock] at he
  ·have:b=g':=by simpa [Value.ownBlock] using he
   subst this
   rw [e1] at hh
   injection hh with hh
   injection hh with _ h5
   exact ht h5.symm
 refine ⟨⟨A,c,by rw [digsTo_len];exact h1,by rw [digsTo_len];exact h2,h3,fun hk => ?_⟩,fun hk g hgb => ?_⟩
 ·rw [digsTo_len] at hk
  obtain ⟨b,off,eA,hlt,hc⟩:=h4 hk
  exact ⟨b,off,eA,Nat.lt_of_lt_of_le hlt hg.size,fun j y hy => (World.cell?_of_block (a:=⟨b,off+j,none⟩) (hg.block b hlt (hne b off hk eA))).trans (hc j y hy)⟩
 ·obtain ⟨b,off,eA,hlt,-⟩:=h4 hk
  obtain ⟨cs,r,e1⟩:=h.2 hk g hgb
  rw [h1,eA] at hgb
  obtain rfl:b=g:=by simpa [Value.ownBlock] using hgb
  exact ⟨cs,r,(hg.block b hlt (hne b off hk eA)).trans e1⟩
def BigAt (w:World) (B:Nat) (s:Bool) (v:Value) (n:Int):Prop:=s=decide (n<0)∧DgAt w B v n.natAbs
theorem BigAt.below {w w':World} {B B':Nat} {s:Bool} {v:Value} {n:Int} (h:BigAt w B s v n) (hb:Below B' w w') (hB:B≤B'):BigAt w' B s v n:=⟨h.1,DgTo.below h.2 hb hB⟩
theorem BigAt.mono {w:World} {B B':Nat} {s:Bool} {v:Value} {n:Int} (h:BigAt w B s v n) (hB:B≤B'):BigAt w B' s v n:=⟨h.1,DgTo.mono h.2 hB⟩
theorem BigAt.grow {w w':World} {s:Bool} {v:Value} {n:Int} (h:BigAt w w.heap.size s v n) (hb:Below w.heap.size w w'):BigAt w' w'.heap.size s v n:=(h.below hb (Nat.le_refl _)).mono hb.size
def ExqAt (w:World) (B:Nat) (x:Value) (q:Rat) (K:Nat):Prop :=
 ∃ s1 v1 s2 v2 N D,x = .agg #[.bool s1,v1,.bool s2,v2]∧BigAt w B s1 v1 N∧BigAt w B s2 v2 D∧0<D∧dlen N.natAbs≤K∧dlen D.natAbs≤K∧q=Rat.divInt N D
theorem ExqAt.below {w w':World} {B B':Nat} {x:Value} {q:Rat} {K:Nat} (h:ExqAt w B x q K) (hb:Below B' w w') (hB:B≤B'):ExqAt w' B x q K:=by
 obtain ⟨s1,v1,s2,v2,N,D,e,h1,h2,h3⟩:=h
 exact ⟨s1,v1,s2,v2,N,D,e,h1.below hb hB,h2.below hb hB,h3⟩
theorem ExqAt.mono {w:World} {B B':Nat} {x:Value} {q:Rat} {K:Nat} (h:ExqAt w B x q K) (hB:B≤B'):ExqAt w B' x q K:=by
 obtain ⟨s1,v1,s2,v2,N,D,e,h1,h2,h3⟩:=h
 exact ⟨s1,v1,s2,v2,N,D,e,h1.mono hB,h2.mono hB,h3⟩
theorem ExqAt.grow {w w':World} {x:Value} {q:Rat} {K:Nat} (h:ExqAt w w.heap.size x q K) (hb:Below w.heap.size w w'):ExqAt w' w'.heap.size x q K:=(h.below hb (Nat.le_refl _)).mono hb.size
theorem ExqAt.more {w:World} {B:Nat} {x:Value} {q:Rat} {K K':Nat} (h:ExqAt w B x q K) (hK:K≤K'):ExqAt w B x q K':=by
 obtain ⟨s1,v1,s2,v2,N,D,e,h1,h2,h3,h4,h5,h6⟩:=h
 exact ⟨s1,v1,s2,v2,N,D,e,h1,h2,h3,Nat.le_trans h4 hK,Nat.le_trans h5 hK,h6⟩
theorem ExqAt.kept {w w':World} {B e s n K:Nat} {x u:Value} {q:Rat} {xs:List Value} (h:ExqAt w w.heap.size x q K) (ho:w.ownsRow B e s u n xs) (hg:w.grownBy w' u.ownBlock) (ht:e≠3):ExqAt w' w'.heap.size x q K:=by
 obtain ⟨s1,v1,s2,v2,N,D,e,h1,h2,h3⟩:=h
 exact ⟨s1,v1,s2,v2,N,D,e,⟨h1.1,DgTo.kept h1.2 ho hg ht⟩,⟨h2.1,DgTo.kept h2.2 ho hg ht⟩,h3⟩
theorem dlen_mul {m n K M:Nat} (h1:dlen m≤K) (h2:dlen n≤M):dlen (m*n)≤K+M:=by
 refine dlen_le ?_
 rw [Nat.pow_add]
 exact Nat.mul_lt_mul'' (dlen_iff.2 h1) (dlen_iff.2 h2)
theorem dlen_add {m n K:Nat} (h1:dlen m≤K) (h2:dlen n≤K):dlen (m+n)≤K+1:=by
 refine dlen_le ?_
 have h3:=dlen_iff.2 h1
 have h4:=dlen_iff.2 h2
 rw [Nat.pow_succ]
 omega
theorem exq_plus {N D M E:Int} (hD:0<D) (hE:0<E):Rat.divInt N D+Rat.divInt M E=Rat.divInt (N*E+M*D) (D*E):=Rat.divInt_add_divInt _ _ (by omega) (by omega)
theorem exq_times {N D M E:Int} (_hD:0<D) (_hE:0<E):Rat.divInt N D*Rat.divInt M E=Rat.divInt (N*M) (D*E):=Rat.divInt_mul_divInt _ _
theorem exq_over {N D M E:Int} (hD:0<D) (hE:0<E) (hM:0<M):Rat.divInt N D / Rat.divInt M E=Rat.divInt (N*E) (D*M):=by
 rw [Rat.divInt_eq_div,Rat.divInt_eq_div,Rat.divInt_eq_div,Rat.intCast_mul,Rat.intCast_mul]
 have h1:(D:Rat)≠0:=fun h => by have:=Rat.intCast_eq_zero_iff.mp h;omega
 have h2:(E:Rat)≠0:=fun h => by have:=Rat.intCast_eq_zero_iff.mp h;omega
 have h3:(M:Rat)≠0:=fun h => by have:=Rat.intCast_eq_zero_iff.mp h;omega
 grind
theorem exq_sign {N D:Int} (hD:0<D):(Rat.divInt N D<0 ↔ N<0)∧(Rat.divInt N D=0 ↔ N=0):=by
 have h4:∀ M:Int,0≤Rat.divInt M D ↔ 0≤M:=fun M => Rat.divInt_nonneg_iff_of_pos_right hD
 have h2:Rat.divInt N D=0 ↔ N=0:=by
  constructor
  ·intro h
   have a1:=(h4 N).1 (by rw [h];exact Rat.le_refl)
   have a2:=(h4 (-N)).1 (by rw [← Rat.neg_divInt,h,Rat.neg_zero];exact Rat.le_refl)
   omega
  ·rintro rfl
   exact Rat.zero_divInt D
 refine ⟨?_,h2⟩
 have h3:0≤Rat.divInt N D ↔ 0≤N:=Rat.divInt_nonneg_iff_of_pos_right hD
 rw [← Rat.not_le,h3]
 omega
def givesR (o:Option Rat):Rat:=match o with | some y => y | none => 0
theorem over_step {b:BeamT} {f:LoadT→Option Rat} {s:Rat} {k:Nat} (hk:k<b.loads.length):overLoads b f s (k+1)=overLoads b f s k+givesR (f b.loads[k]):=by
 rw [Zl hk]
 cases f b.loads[k] with
 | none => show _=_+(0:Rat);rw [Rat.add_zero]
 | some y => rfl
theorem over_add (b : BeamT) (f : LoadT → Option Rat) (s : Rat) : ∀ k,k ≤ b.loads.length → overLoads b f s k = s + overLoads b f 0 k
 | 0,_ => by
  show s=s+(0:Rat)
  rw [Rat.add_zero]
 | k+1,hk => by
  rw [over_step (by omega),over_step (by omega),over_add b f s k (by omega)]
  grind
def midR (b:BeamT) (q:Rat) (i:Nat):Rat:=((2*(spanK b i+spanK b (i+1)):Int):Rat)-((spanK b i:Int):Rat)*q
def pqR (b:BeamT):Nat→Rat × Rat
 | 0 => (hangR b,0)
 | i+1 => ((rhs0 b (i+1)-((spanK b (i+1):Int):Rat)*(pqR b i).1) / midR b (pqR b i).2 (i+1),((spanK b (i+2):Int):Rat) / midR b (pqR b i).2 (i+1))
def bakR (b:BeamT):Nat→Rat
 | 0 => hangR (turnedT b)
 | j+1 => (pqR b (b.sup.length-2-j)).1-(pqR b (b.sup.length-2-j)).2*bakR b j
theorem pq_is (b:BeamT) (hz:∀ i,1≤i→i+1<b.sup.length→diagR b i≠0):∀ i,i+2<b.sup.length →
  midR b (pqR b i).2 (i+1)=diagR b (i+1)∧(pqR b (i+1)).1=rhsR b (i+1) / diagR b (i+1)∧(pqR b (i+1)).2=((spanK b (i+2):Int):Rat) / diagR b (i+1)
 | 0,h => by
  have e:midR b (pqR b 0).2 1=diagR b 1:=by
   show ((2*(spanK b 1+spanK b 2):Int):Rat)-((spanK b 1:Int):Rat)*0=((2*(spanK b 1+spanK b 2):Int):Rat)
   grind
  refine ⟨e,?_,?_⟩
  ·show (rhs0 b 1-((spanK b 1:Int):Rat)*hangR b) / midR b (pqR b 0).2 1=(rhs0 b 1-hangR b*((spanK b 1:Int):Rat)) / diagR b 1
   rw [e,Rat.mul_comm]
  ·show ((spanK b 2:Int):Rat) / midR b (pqR b 0).2 1=_
   rw [e]
 | i+1,h => by
  obtain ⟨h1,h2,h3⟩:=pq_is b hz i (by omega)
  have hd:=hz (i+1) (by omega) (by omega)
  have e:midR b (pqR b (i+1)).2 (i+2)=diagR b (i+2):=by
   unfold midR
   rw [h3]
   show _=((2*(spanK b (i+2)+spanK b (i+3)):Int):Rat)-((spanK b (i+2):Int):Rat) / diagR b (i+1)*((spanK b (i+2):Int):Rat)
   rw [Rat.mul_comm]
  refine ⟨e,?_,?_⟩
  ·show (rhs0 b (i+2)-((spanK b (i+2):Int):Rat)*(pqR b (i+1)).1) / midR b (pqR b (i+1)).2 (i+2)=(rhs0 b (i+2)-((spanK b (i+2):Int):Rat) / diagR b (i+1)*rhsR b (i+1)) / diagR b (i+2)
   rw [e,h2]
   congr 1
   generalize rhsR b (i+1)=r at *
   generalize diagR b (i+1)=d at *
   generalize ((spanK b (i+2):Int):Rat)=k at *
   generalize rhs0 b (i+2)=z at *
   clear h1 h2 h3 e
   grind
  ·show ((spanK b (i+3):Int):Rat) / midR b (pqR b (i+1)).2 (i+2)=_
   rw [e]
theorem bak_is (b : BeamT) (hz : ∀ i,1 ≤ i → i + 1 < b.sup.length → diagR b i ≠ 0) : ∀ j,j + 1 < b.sup.length → bakR b j = backR b j
 | 0,_ => rfl
 | j+1,h => by
  have ih:=bak_is b hz j (by omega)
  obtain ⟨i,hi⟩:∃ i,b.sup.length-2-j=i+1:=⟨b.sup.length-3-j,by omega⟩
  obtain ⟨-,h2,h3⟩:=pq_is b hz i (by omega)
  have hd:=hz (i+1) (by omega) (by omega)
  rw [bakR,backR,ih,hi,h2,h3,show b.sup.length-1-j=i+2 by omega]
  generalize rhsR b (i+1)=r at *
  generalize diagR b (i+1)=d at *
  generalize ((spanK b (i+2):Int):Rat)=k at *
  generalize backR b j=z at *
  clear h2 h3 ih
  grind
def endF (b:BeamT) (i:Nat) (x:LoadT):Option Rat:=if x.pos=supAt b i∨(i=0∧x.pos<supAt b 0)∨(i+1=b.sup.length∧supAt b i<x.pos) then some ((x.wt:Int):Rat) else none
def re1 (b:BeamT) (i:Nat):Rat:=overLoads b (endF b i) 0 b.loads.length
def re2 (b:BeamT) (i:Nat):Rat:=if i=0 then re1 b i+Zu 1000 [b.even,supAt b 0] else re1 b i
def re3 (b:BeamT) (i:Nat):Rat:=if i+1=b.sup.length then re2 b i+Zu 1000 [b.even,b.len-supAt b i] else re2 b i
def armR (b:BeamT) (lo hi:Int) (left:Bool) (m k:Rat) (s:Rat):Rat:=overLoads b (leverF lo hi left) (s+Zu 2000 [b.even,hi-lo]) b.loads.length+(k-m)*Zu (hi-lo) [1]
def re4 (b:BeamT) (i:Nat):Rat:=if 0<i then armR b (supAt b (i-1)) (supAt b i) false (Zx b i) (Zx b (i-1)) (re3 b i) else re3 b i
def re5 (b:BeamT) (i:Nat):Rat:=if i+1<b.sup.length then armR b (supAt b i) (supAt b (i+1)) true (Zx b i) (Zx b (i+1)) (re4 b i) else re4 b i
theorem end_one (b:BeamT) (i:Nat) (x:LoadT):givesR (endF b i x)=givesR (hereF (supAt b i) x)+(if i=0 then givesR (beyondF (supAt b i) x) else 0)+(if i+1=b.sup.length then givesR (beyondF (b.len-supAt b i) ⟨b.len-x.pos,x.wt⟩) else 0):=by
 unfold endF hereF beyondF
 have e:((⟨b.len-x.pos,x.wt⟩:LoadT).pos<b.len-supAt b i) ↔ supAt b i<x.pos:=by
  show b.len-x.pos<b.len-supAt b i ↔ _
  omega
 simp only [e]
 rcases Int.lt_trichotomy x.pos (supAt b i) with h | h | h
 ·rw [if_neg (show ¬ x.pos=supAt b i by omega),if_pos h,if_neg (show ¬ supAt b i<x.pos by omega)]
  by_cases h0:i=0
  ·subst h0
   rw [if_pos (.inr (.inl ⟨rfl,h⟩)),if_pos rfl]
   simp only [givesR]
   split <;> grind
  ·rw [if_neg (by omega),if_neg h0]
   simp only [givesR]
   split <;> grind
 ·rw [if_pos (.inl h),if_pos h,if_neg (show ¬ x.pos<supAt b i by omega),if_neg (show ¬ supAt b i<x.pos by omega)]
  simp only [givesR]
  split <;> split <;> grind
 ·rw [if_neg (show ¬ x.pos=supAt b i by omega),if_neg (show ¬ x.pos<supAt b i by omega),if_pos h]
  by_cases h0:i+1=b.sup.length
  ·rw [if_pos (.inr (.inr ⟨h0,h⟩)),if_pos h0]
   simp only [givesR]
   split <;> grind
  ·rw [if_neg (by
    rintro (h1 | ⟨h1,h2⟩ | ⟨h1,h2⟩)
    ·omega
    ·subst h1;omega
    ·exact h0 h1),if_neg h0]
   simp only [givesR]
   split <;> grind
theorem end_sum (b : BeamT) (i : Nat) : ∀ k,k ≤ b.loads.length → overLoads b (endF b i) 0 k = overLoads b (hereF (supAt b i)) 0 k + (if i = 0 then overLoads b (beyondF (supAt b i)) 0 k else 0) + (if i + 1 = b.sup.length then overLoads (turnedT b) (beyondF (b.len - supAt b i)) 0 k else 0)
 | 0,_ => by
  show (0:Rat)=0+(if i=0 then (0:Rat) else 0)+(if i+1=b.sup.length then (0:Rat) else 0)
  split <;> split <;> grind
 | k+1,hk => by
  have ih:=end_sum b i k (by omega)
  have hkl:k<b.loads.length:=by omega
  have hkt:k<(turnedT b).loads.length:=by simpa [turnedT] using hkl
  have ht:(turnedT b).loads[k]=⟨b.len-b.loads[k].pos,b.loads[k].wt⟩:=by simp [turnedT]
  rw [over_step hkl,over_step hkl,over_step hkl,over_step hkt,ht,ih,end_one]
  generalize overLoads b (hereF (supAt b i)) 0 k=u1 at *
  generalize overLoads b (beyondF (supAt b i)) 0 k=u2 at *
  generalize overLoads (turnedT b) (beyondF (b.len-supAt b i)) 0 k=u3 at *
  generalize givesR (hereF (supAt b i) b.loads[k])=v1 at *
  generalize givesR (beyondF (supAt b i) b.loads[k])=v2 at *
  generalize givesR (beyondF (b.len-supAt b i) _)=v3 at *
  split <;> split <;> grind
theorem arm_is (b:BeamT) {lo hi:Int} (left:Bool) (m k s:Rat) (h:lo<hi):armR b lo hi left m k s=s+leverR b lo hi left+(k-m) / ((hi-lo:Int):Rat):=by
 unfold armR leverR leverTo
 rw [over_add b _ (s+_) _ (Nat.le_refl _),over_add b _ (Zu 2000 _) _ (Nat.le_refl _)]
 have e:Zu (hi-lo) [1]=1 / ((hi-lo:Int):Rat):=by
  unfold Zu
  rw [show prodZ [1]=1 from rfl,Rat.divInt_eq_div,Rat.intCast_one]
 rw [e]
 have hne:((hi-lo:Int):Rat)≠0:=by
  intro h0
  have:hi-lo=0:=Rat.intCast_eq_zero_iff.mp h0
  omega
 generalize ((hi-lo:Int):Rat)=d at *
 generalize Zu 2000 [b.even,hi-lo]=z
 generalize overLoads b (leverF lo hi left) 0 b.loads.length=y
 grind
theorem re_is (b:BeamT) (hinc:∀ i,i+1<b.sup.length→supAt b i<supAt b (i+1)) (i:Nat) (hi:i<b.sup.length):re5 b i=reactR b i:=by
 have e1:=end_sum b i b.loads.length (Nat.le_refl _)
 have e2:react1 b i=overLoads b (hereF (supAt b i)) 0 b.loads.length:=by
  unfold react1 hereTo
  rfl
 have e3:beyondR b (supAt b i)=Zu 1000 [b.even,supAt b i]+overLoads b (beyondF (supAt b i)) 0 b.loads.length:=by
  unfold beyondR beyondTo
  exact over_add b _ _ _ (Nat.le_refl _)
 have e4:beyondR (turnedT b) (b.len-supAt b i)=Zu 1000 [b.even,b.len-supAt b i]+overLoads (turnedT b) (beyondF (b.len-supAt b i)) 0 b.loads.length:=by
  have hl:(turnedT b).loads.length=b.loads.length:=by simp [turnedT]
  unfold beyondR beyondTo
  rw [over_add (turnedT b) _ _ _ (Nat.le_refl _),hl]
  rfl
 have a1:0<i→armR b (supAt b (i-1)) (supAt b i) false (Zx b i) (Zx b (i-1)) (re3 b i)=re3 b i+leverR b (supAt b (i-1)) (supAt b i) false+(Zx b (i-1)-Zx b i) / ((spanK b i:Int):Rat):=fun h0 => by
  have:=hinc (i-1) (by omega)
  rw [show i-1+1=i by omega] at this
  exact arm_is b false _ _ _ this
 have a2:i+1<b.sup.length→armR b (supAt b i) (supAt b (i+1)) true (Zx b i) (Zx b (i+1)) (re4 b i)=re4 b i+leverR b (supAt b i) (supAt b (i+1)) true+(Zx b (i+1)-Zx b i) / ((spanK b (i+1):Int):Rat):=fun h0 =>
  arm_is b true _ _ _ (hinc i h0)
 unfold re5 reactR react4 react3 react2
 rw [e2,e3,e4]
 by_cases h0:0<i
 ·have n0:¬ i=0:=by omega
  rw [if_neg n0] at e1
  rw [if_pos h0,if_neg n0]
  by_cases hl:i+1<b.sup.length
  ·have nl:¬ i+1=b.sup.length:=by omega
   rw [if_neg nl] at e1
   rw [if_pos hl,if_neg nl,if_pos hl,a2 hl]
   unfold re4
   rw [if_pos h0,a1 h0]
   unfold re3 re2 re1
   rw [if_neg nl,if_neg n0,e1]
   clear a1 a2 e1 e2 e3 e4
   grind
  ·have pl:i+1=b.sup.length:=by omega
   rw [if_pos pl] at e1
   rw [if_neg hl,if_pos pl,if_neg hl]
   unfold re4
   rw [if_pos h0,a1 h0]
   unfold re3 re2 re1
   rw [if_pos pl,if_neg n0,e1]
   clear a1 a2 e1 e2 e3 e4
   grind
 ·have p0:i=0:=by omega
  rw [if_pos p0] at e1
  rw [if_neg h0,if_pos p0]
  by_cases hl:i+1<b.sup.length
  ·have nl:¬ i+1=b.sup.length:=by omega
   rw [if_neg nl] at e1
   rw [if_pos hl,if_neg nl,if_pos hl,a2 hl]
   unfold re4
   rw [if_neg h0]
   unfold re3 re2 re1
   rw [if_neg nl,if_pos p0,e1,show supAt b 0=supAt b i by rw [p0]]
   clear a1 a2 e1 e2 e3 e4
   grind
  ·have pl:i+1=b.sup.length:=by omega
   rw [if_pos pl] at e1
   rw [if_neg hl,if_pos pl,if_neg hl]
   unfold re4
   rw [if_neg h0]
   unfold re3 re2 re1
   rw [if_pos pl,if_pos p0,e1,show supAt b 0=supAt b i by rw [p0]]
   clear a1 a2 e1 e2 e3 e4
   grind
open Go.RowKit Go.Shelf
section
variable {P:Program} {ops:Array Oper} {W:World} {Φ:Nat→Option GPost}
theorem wpG_quiet1W {K : Act → FactsT → Prop} {k : Nat} {o : Oper} {r : List Oper} {a : Act} {F : FactsT} (hw : Region.wanted o (yielded ops a.tmps) = true) (hs : stillB o = true) (hΦ : Φ k = none)
  (h:wpQuiet P ops (fun w' => ∃ x:HeldB W,w'=x.w) (fun a' => wpG P ops W Φ K (k+1) r a' (putF F o.dst (known ops o F))) [o] a):wpG P ops W Φ K k (o :: r) a F:=by
 simp only [wpQuiet] at h
 rw [if_pos hw] at h
 obtain ⟨v,hq,h⟩:=h
 show gStep P ops W o (Φ k) _ a F
 unfold gStep
 rw [if_pos hw,hΦ]
 exact ⟨v,quietG_of (fun w hw => ⟨⟨w,hw⟩,rfl⟩) hs hq,h⟩
theorem no_enter_pick {o:Oper} {c x y:Operand} (ho:o.op = .pick c x y) {ρ:Operand→Value} {w w':World} {f:FuncId} {args:Array Value}:(execOp ρ o).run P w ≠ .ok (.enter f args) w':=by
 intro h
 unfold execOp at h
 rw [ho] at h
 dsimp only at h
 rw [Sem.run_bind] at h
 cases hs:(asBool (ρ c)).run P w with
 | ok b w2 =>
  rw [hs] at h
  simp only [Result.andThen,Sem.run_pure] at h
  injection h with h1 _
  cases h1
 | halt x w2 =>
  rw [hs] at h
  simp only [Result.andThen] at h
  cases h
theorem wpG_pickW {K : Act → FactsT → Prop} {k : Nat} {o : Oper} {c x y : Operand} {r : List Oper} {a : Act} {F : FactsT} (ho : o.op = .pick c x y) (hw : Region.wanted o (yielded ops a.tmps) = true) (hΦ : Φ k = none)
  (h:wpQuiet P ops (fun w' => ∃ x:HeldB W,w'=x.w) (fun a' => wpG P ops W Φ K (k+1) r a' (putF F o.dst (known ops o F))) [o] a):wpG P ops W Φ K k (o :: r) a F:=by
 simp only [wpQuiet] at h
 rw [if_pos hw] at h
 obtain ⟨v,hq,h⟩:=h
 show gStep P ops W o (Φ k) _ a F
 unfold gStep
 rw [if_pos hw,hΦ]
 refine ⟨v,fun w hb => ?_,h⟩
 have h1:=hq w ⟨⟨w,hb⟩,rfl⟩
 have h2:=fun f args w' => no_enter_pick (P:=P) ho (ρ:=a.eval) (w:=w) (w':=w') (f:=f) (args:=args)
 unfold Oper.quietAt at h1
 generalize (execOp a.eval o).run P w=q at *
 cases q with
 | ok n w' =>
  cases n <;> simp only [Oper.quietUpon] at h1
  case value u => exact h1
  case skip => exact h1
  case enter f args => exact absurd rfl (h2 f args w')
 | halt x w' => simp only [Oper.quietUpon] at h1
theorem wpG_callW {K : Act → FactsT → Prop} {k : Nat} {o : Oper} {r : List Oper} {a : Act} {F : FactsT} {φ : GPost} (hw : Region.wanted o (yielded ops a.tmps) = true) (hφ : Φ k = some φ)
  (h:∀ w,Below W.heap.size W w→known ops o F w→callsAt P o a φ w) (hK:∀ v,φ.σ v→wpG P ops W Φ K (k+1) r (a.put o.dst v) (putF F o.dst (φ.φ v))) (hfr:φ.fr=false:=by rfl):wpG P ops W Φ K k (o :: r) a F:=by
 show gStep P ops W o (Φ k) _ a F
 unfold gStep
 rw [if_pos hw,hφ]
 exact ⟨fun w h1 h2 => .inl ⟨hfr,h w h1 h2⟩,hK⟩
end
end Go.Proofs.YtfhmbechennkbaaGreatDoor
