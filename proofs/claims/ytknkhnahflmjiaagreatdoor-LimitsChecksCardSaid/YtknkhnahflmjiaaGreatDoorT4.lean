/- Lemmas. -/
import Derived.LoopIn
import Derived.LoopNIn
import Derived.OwnWalkIn
import Derived.RangeFuncBox
import Derived.TacticsInMore
import Derived.Test.YtknkhnahflmjiaaGreatDoorT3
namespace Go.Proofs.YtknkhnahflmjiaaGreatDoor
set_option maxRecDepth 100000
set_option maxHeartbeats 40000000
open Go.RowKit Go.Shelf
structure E4 where
 b1:Bool
 A1:Option Addr
 l1:Nat
 c1:Nat
 b2:Bool
 A2:Option Addr
 l2:Nat
 c2:Nat
def E4.cells (e:E4):List Value:=[.bool e.b1,.slice e.A1 e.l1 e.c1,.bool e.b2,.slice e.A2 e.l2 e.c2]
abbrev E4.val (e:E4):Value:=.agg #[.bool e.b1,.slice e.A1 e.l1 e.c1,.bool e.b2,.slice e.A2 e.l2 e.c2]
theorem qze (es:List E4):(es.flatMap E4.cells).length=es.length*4:=by
 induction es with
 | nil=>rfl
 | cons e es ih=>
  rw[List.flatMap_cons,yR,ih,List.length_cons];show 4+_=_;omega
theorem wd (es:List E4) (j i:Nat) (hj:j<es.length) (hi:i<4):(es.flatMap E4.cells)[j*4+i]?=es[j].cells[i]?:=by
 induction es generalizing j with
 | nil=>simp at hj
 | cons t l ih=>
  have h5:t.cells.length=4:=rfl;rw[List.flatMap_cons]
  cases j with
  | zero=>rw[List.getElem?_append_left (by rw[h5];omega)];simp
  | succ j=>
   rw[List.getElem?_append_right (by rw[h5];omega),h5]
   have:=ih j (by simpa using hj);rw[show (j+1)*4+i-4=j*4+i by omega,this];rfl
theorem Se (es:List E4) (i:Nat) (e:E4) (hi:i<es.length):(es.set i e).flatMap E4.cells=((((es.flatMap E4.cells).set (i*4) (.bool e.b1)).set (i*4+1) (.slice e.A1 e.l1 e.c1)).set (i*4+2) (.bool e.b2)).set (i*4+3) (.slice e.A2 e.l2 e.c2):=by
 induction es generalizing i with
 | nil=>simp at hi
 | cons t l ih=>
  cases i with
  | zero=>rfl
  | succ i=>
   rw[List.set_cons_succ,List.flatMap_cons,List.flatMap_cons,ih i (by simpa using hi)];have h5:t.cells.length=4:=rfl;have k:=fun (L:List Value) (m:Nat) (x:Value)=>List.set_append_right (s:=t.cells) (t:=L) (i:=m+4) (x:=x) (by rw[h5];omega);rw[show (i+1)*4=i*4+4 by omega,k,show i*4+4+1=i*4+1+4 by omega,k,show i*4+4+2=i*4+2+4 by omega,k,show i*4+4+3=i*4+3+4 by omega,k];rw[h5,Nat.add_sub_cancel,Nat.add_sub_cancel,Nat.add_sub_cancel,Nat.add_sub_cancel]
def ExRow (w:World) (g n:Nat) (f:Nat→Option Rat):Prop:=∃es:List E4,es.length=n∧Blk w g 223 (es.flatMap E4.cells).toArray∧∀j (hj:j<es.length) q,f j=some q→ExactAt w es[j].val q
section
variable {w w':World} {g n:Nat} {f:Nat→Option Rat}
theorem ExRow.blk (h:ExRow w g n f):∃cs,Blk w g 223 cs:=by
 obtain⟨es,_,h2,_⟩:=h;exact⟨_,h2⟩
theorem ExRow.lt (h:ExRow w g n f):g<w.heap.size:=by
 obtain⟨cs,h⟩:=h.blk;exact h.lt
theorem ExRow.frozen (h:ExRow w g n f) (i:Nat):w.frozen? ⟨g,i,none⟩=false:=by
 obtain⟨cs,h⟩:=h.blk;exact h.frozen i
theorem ExRow.grow (h:ExRow w g n f) (hb:Below w.heap.size w w'):ExRow w' g n f:=by
 obtain⟨es,h1,h2,h3⟩:=h;exact⟨es,h1,h2.below hb h2.lt,fun j hj q hq=>(h3 j hj q hq).grow hb⟩
theorem ExRow.read (h:ExRow w g n f) {i:Nat} (hi:i<n):∃b1 A1 l1 c1 b2 A2 l2 c2,w.cell? ⟨g,i*4,none⟩=some (.bool b1)∧w.cell? ⟨g,i*4+1,none⟩=some (.slice A1 l1 c1)∧w.cell? ⟨g,i*4+2,none⟩=some (.bool b2)∧w.cell? ⟨g,i*4+3,none⟩=some (.slice A2 l2 c2) ∧
  ∀q,f i=some q→ExactAt w (.agg (zD b1 A1 l1 c1 b2 A2 l2 c2)) q:=by
 obtain⟨es,rfl,h2,h3⟩:=h;have k:=fun (m:Nat) (hm:m<4)=>(h2.cell (i*4+m)).trans ((List.getElem?_toArray ..).trans (wd es i m hi hm));exact⟨_,_,_,_,_,_,_,_,k 0 (by decide),k 1 (by decide),k 2 (by decide),k 3 (by decide),fun q hq=>h3 i hi q hq⟩
theorem ExactAt.set4 {v:Value} {q:Rat} {cs:Array Value} (h:ExactAt w v q) (hD:Blk w g 223 cs) (o:Nat) (x0 x1 x2 x3:Value):ExactAt ((((w.setCell ⟨g,o,none⟩ x0).setCell ⟨g,o+1,none⟩ x1).setCell ⟨g,o+2,none⟩ x2).setCell ⟨g,o+3,none⟩ x3) v q :=
 (((h.setBox hD (by decide) o x0).setBox (hD.set_ o x0) (by decide) (o+1) x1).setBox ((hD.set_ o x0).set_ (o+1) x1) (by decide) (o+2) x2).setBox (((hD.set_ o x0).set_ (o+1) x1).set_ (o+2) x2) (by decide) (o+3) x3
theorem Blk.far4o {t:TypeId} {cs:Array Value} {D:Nat} (h:Blk w g t cs) (hg:g≠D) (o:Nat) (x0 x1 x2 x3:Value):Blk ((((w.setCell ⟨D,o,none⟩ x0).setCell ⟨D,o+1,none⟩ x1).setCell ⟨D,o+2,none⟩ x2).setCell ⟨D,o+3,none⟩ x3) g t cs :=
 (((h.far (p:=⟨D,o,none⟩) hg x0).far (p:=⟨D,o+1,none⟩) hg x1).far (p:=⟨D,o+2,none⟩) hg x2).far (p:=⟨D,o+3,none⟩) hg x3
theorem dI {B:Nat} {w0:World} (h:Below B w0 w) (hD:B≤g) (o:Nat) (x0 x1 x2 x3:Value):Below B w0 ((((w.setCell ⟨g,o,none⟩ x0).setCell ⟨g,o+1,none⟩ x1).setCell ⟨g,o+2,none⟩ x2).setCell ⟨g,o+3,none⟩ x3) :=
 (((h.setCell (p:=⟨g,o,none⟩) hD x0).setCell (p:=⟨g,o+1,none⟩) hD x1).setCell (p:=⟨g,o+2,none⟩) hD x2).setCell (p:=⟨g,o+3,none⟩) hD x3
def eu (f:Nat→Option Rat) (i:Nat) (q:Rat):Nat→Option Rat:=fun j=>if j=i then some q else f j
theorem ExRow.write (h:ExRow w g n f) {i:Nat} (hi:i<n) {b1:Bool} {A1:Option Addr} {l1 c1:Nat} {b2:Bool} {A2:Option Addr} {l2 c2:Nat} {q:Rat} (hE:ExactAt w (.agg (zD b1 A1 l1 c1 b2 A2 l2 c2)) q) :
  ExRow ((((w.setCell ⟨g,i*4,none⟩ (.bool b1)).setCell ⟨g,i*4+1,none⟩ (.slice A1 l1 c1)).setCell ⟨g,i*4+2,none⟩ (.bool b2)).setCell ⟨g,i*4+3,none⟩ (.slice A2 l2 c2)) g n (eu f i q):=by
 obtain⟨es,rfl,h2,h3⟩:=h;refine⟨es.set i ⟨b1,A1,l1,c1,b2,A2,l2,c2⟩,by simp,?_,fun j hj q' hq=>?_⟩
 ·have:=(((h2.set_ (i*4) (.bool b1)).set_ (i*4+1) (.slice A1 l1 c1)).set_ (i*4+2) (.bool b2)).set_ (i*4+3) (.slice A2 l2 c2);rw[Se es i _ hi];simpa using this
 have hj':j<es.length:=by simpa using hj
 unfold eu at hq;by_cases e:j=i
 ·subst e;rw[if_pos rfl] at hq;injection hq with hq;subst hq;simp only[List.getElem_set_self];exact hE.set4 h2 _ _ _ _ _
 rw[if_neg e] at hq;rw[List.getElem_set_ne (fun e'=>e e'.symm)];exact (h3 j hj' q' hq).set4 h2 _ _ _ _ _
theorem ExRow.far (h:ExRow w g n f) {D:Nat} {cs:Array Value} (hD:Blk w D 223 cs) (fS:g≠D) (o:Nat) (x0 x1 x2 x3:Value):ExRow ((((w.setCell ⟨D,o,none⟩ x0).setCell ⟨D,o+1,none⟩ x1).setCell ⟨D,o+2,none⟩ x2).setCell ⟨D,o+3,none⟩ x3) g n f:=by
 obtain⟨es,h1,h2,h3⟩:=h;exact⟨es,h1,h2.far4o fS _ _ _ _ _,fun j hj q hq=>(h3 j hj q hq).set4 hD _ _ _ _ _⟩
theorem ExBox.far {D:Nat} {q:Rat} (h:ExBox w D q) {cs:Array Value} (hg:Blk w g 223 cs) (fS:D≠g) (o:Nat) (x0 x1 x2 x3:Value):ExBox ((((w.setCell ⟨g,o,none⟩ x0).setCell ⟨g,o+1,none⟩ x1).setCell ⟨g,o+2,none⟩ x2).setCell ⟨g,o+3,none⟩ x3) D q:=by
 obtain⟨b1,A1,l1,c1,b2,A2,l2,c2,h1,h2⟩:=h;exact⟨b1,A1,l1,c1,b2,A2,l2,c2,h1.far4o fS _ _ _ _ _,h2.set4 hg _ _ _ _ _⟩
theorem ExRow.weak (h:ExRow w g n f) {f':Nat→Option Rat} (hf:∀j q,j<n→f' j=some q→f j=some q):ExRow w g n f':=by
 obtain⟨es,h1,h2,h3⟩:=h;exact⟨es,h1,h2,fun j hj q hq=>h3 j hj q (hf j q (by omega) hq)⟩
end
theorem pV:(Tryz.prog.info? 223).map (fun i=>(i.zero,i.size,i.bytes))=some (some (.agg (zD false none 0 0 false none 0 0)),4,64):=by kernel_rfl
theorem Ji (n:Nat):(madeCells (Value.cells (.agg (zD false none 0 0 false none 0 0))) (n*4)).toList=(List.replicate n (⟨false,none,0,0,false,none,0,0⟩:E4)).flatMap E4.cells:=by
 apply List.ext_getElem?;intro i;by_cases hi:i<n*4
 ·have e:i=(i/4)*4+i%4:=by omega
  have h4:i%4<4:=YJ _ (by decide)
  conv=>rhs;rw[e,wd _ _ _ (by simp;omega) h4]
  rw[Array.getElem?_toList,Array.getElem?_eq_getElem (by rw[size_madeCells];exact hi)];simp only[List.getElem_replicate];simp only[madeCells];have h:i%4=0∨i%4=1∨i%4=2∨i%4=3:=by omega
  rcases h with h|h|h|h <;> simp[E4.cells,Value.cells,h]
 rw[List.getElem?_eq_none (by rw[Array.length_toList,size_madeCells];omega),List.getElem?_eq_none (by rw[qze];simp;omega)]
theorem ExRow.made {w:World} {n:Nat} {B g:Nat} (h:w.ownsRow B 223 4 (.slice (some ⟨g,0,none⟩) n n) n (madeCells (Value.cells (.agg (zD false none 0 0 false none 0 0))) (n*4)).toList):ExRow w g n (fun _=>none):=by
 rcases h.2 with⟨h',_⟩|⟨g2,cap,cur,h',_,h3,_,_,hs,ht⟩
 ·cases h'
 injection h' with h4 _ h5;injection h4 with h4;injection h4 with h4 _ _;subst h4 h5;rw[List.take_of_length_le (by rw[Array.length_toList,hs];exact yA _),Ji] at ht;refine⟨List.replicate n ⟨false,none,0,0,false,none,0,0⟩,by simp,?_,fun j hj q hq=>by cases hq⟩;unfold Blk;rw[h3,←ht]
attribute [local go_sem] Oper.semAt_some
def jt {α:Type} (f:Nat→α) (k:Nat):List α:=(List.range k).map f
theorem EJ {α:Type} (f:Nat→α) (k:Nat):jt f (k+1)=jt f k++[f k]:=by simp[jt,List.range_succ]
theorem zq {α:Type} (f:Nat→α) (k:Nat):(jt f k).length=k:=by simp[jt]
def mP (zs:List Int) (j:Nat):Int×Int:=(((zs.length:Int)-1-j),zs[zs.length-1-j]?.getD 0)
def wM (n₀ Bs:Nat) (W W':World):Prop:=Below n₀ W W'∧∀v,W.cell? ⟨Bs,0,none⟩=some v→W'.cell? ⟨Bs,0,none⟩=some v
theorem JS {n₀ Bs:Nat} {A B C:World} (h:wM n₀ Bs A B) (k:wM n₀ Bs B C):wM n₀ Bs A C:=⟨h.1.trans k.1,fun v hv=>k.2 v (h.2 v hv)⟩
theorem SF (F:Fence) (n:Nat) (h7:F.fn 272) (Tz:F.round=none) (hn:1 ≤ n) (l Bs n₀:Nat) (a:Option Addr) (cap:Nat) (zs:List Int) (QY:zs.length ≤ 1000) (hI:∀k,k < zs.length→∃b off,a=some ⟨b,off,none⟩ ∧ b < n₀) (J Jx:List (Int×Int)→World→Prop)
  (hY:∀pre x W,J pre W→pre.length<zs.length→YieldAt F (n-1) Tryz.prog l #[.int .i64 x.1,.int .i64 x.2] W fun e W'=>
   (e=.returned (.bool true)∧J (pre++[x]) W'∧wM n₀ Bs W W')∨(e=.returned (.bool false)∧Jx (pre++[x]) W'))
  (W:World) (UZ:W.cell? ⟨Bs,0,none⟩=some (.slice a zs.length cap)) (hc:∀b off,a=some ⟨b,off,none⟩→∀j,j<zs.length→W.cell? ⟨b,off+j,none⟩=some (.int .i64 (zs[j]?.getD 0))) (h0:J [] W) :
  CallsIn F n Tryz.prog 272 #[.func (.yield l) #[] #[],.pointer (some ⟨Bs,0,none⟩)] W fun e W'=>(∃v,e=.returned v) ∧
   ((∃ys,ys=jt (mP zs) zs.length∧J ys W')∨(∃pre,(∃k,k≤zs.length∧pre=jt (mP zs) k)∧Jx pre W')):=by
 have HI:=zh hI;have HC:=zh hc;have HY:=zh hY;clear hI hc hY;refine callsIn_of_wp Tryz.func272 rfl h7 ?_ Tz;simp only[Tryz.ntmps272,List.size_toArray,List.length_cons,List.length_nil,Nat.reduceAdd,Nat.reduceSub,Array.replicate_succ,Array.replicate_zero,List.push_toArray,List.append_toArray,List.nil_append,List.cons_append];gi_wp2
 gi_loopw [3] (fun i wr=>∃k:Nat,k≤zs.length∧i=.int .i64 ((zs.length:Int)-1-k)∧J (jt (mP zs) k) wr∧Y0 (wM n₀ Bs W wr)) (fun i _=>(intOf i+1).toNat)
 case atStart=>exact⟨0,yI _,by go_num,h0,⟨yB _ _,fun _ h=>h⟩⟩
 obtain⟨k,hk,rfl,hJs,hnx⟩:=hrel;have gj:=hnx.o.2 _ UZ;by_cases aI:k<zs.length
 ·obtain⟨m,hm⟩:∃m,m=zs.length-1-k:=⟨_,rfl⟩;have e1:((zs.length:Int)-1-k)=(m:Int):=by omega
  rw[e1];have T5:m<zs.length:=by omega
  obtain⟨b,off,rfl,hb⟩:=HI.o m T5;have hx:=(hnx.o.1.cell (p:=⟨b,off+m,none⟩) hb).trans (HC.o b off rfl m T5);obtain⟨fn,tmps,assign,body,hy,hR⟩:=HY.o _ (mP zs k) wr hJs (by rw[zq];exact aI);have e2:mP zs k=((m:Int),zs[m]?.getD 0):=by unfold mP;rw[e1,hm]
  rw[e2] at hy hR;dsimp only at hy
  have HP:Y0 (jt (mP zs) (k+1)=jt (mP zs) k++[((m:Int),zs[m]?.getD 0)]):=by unfold Y0;rw[EJ,e2]
  generalize zs[m]?.getD 0=x at*;have m0:(0:Int)≤(m:Int):=yE _;have m1:(m:Int)<(zs.length:Int):=by omega
  have HM:=zh hm;have HE:=zh e1;clear e1 e2 hm;gi_wp2
  refine hR.mono ?_;rintro e W3 (⟨rfl,hJ3,hk3⟩|⟨rfl,vqO⟩)
  ·have vqD:Y0 (wM n₀ Bs W W3):=JS hnx.o hk3;clear hk3 hx gj;gi_wp2
   go_roundw
   case rel=>exact⟨k+1,by omega,by have:=HM.o;congr 1;omega,by rw[HP.o];exact hJ3,vqD⟩
   simp[intOf]
  gi_wp2
  refine YF (results_none rfl _ _ _) rfl ?_;exact⟨⟨_,rfl⟩,.inr ⟨_,⟨k+1,by omega,HP.o.symm⟩,vqO⟩⟩
 obtain rfl:k=zs.length:=by omega
 have e1:((zs.length:Int)-1-(zs.length:Int))=-1:=by omega
 rw[e1];clear e1;gi_wp2
 go_end0;exact⟨⟨_,rfl⟩,.inl ⟨_,rfl,hJs⟩⟩
theorem Iw (F:Fence) (n:Nat) (h7:F.fn 272) (Tz:F.round=none) (hn:1 ≤ n) (Bs n₀:Nat) (a:Option Addr) (cap:Nat) (zs:List Int) (QY:zs.length ≤ 1000) (w:World) (UZ:Bs < w.heap.size) (hn₀:n₀ ≤ w.heap.size)
  (hc:w.cell? ⟨Bs,0,none⟩=some (.slice a zs.length cap)) (hI:ct w n₀ (.slice a zs.length cap) zs) :
  SeqStopsK F n Tryz.prog 272 #[.pointer (some ⟨Bs,0,none⟩)] (fun x:Int×Int=>#[Value.int .i64 x.1,Value.int .i64 x.2]) (wM n₀ Bs) (fun ys=>ys=jt (mP zs) zs.length) (fun pre=>∃k,k≤zs.length∧pre=jt (mP zs) k) zs.length w:=fun l J Jx W hW _ _ hY h0=>by
 have hc':=(hW.cell (p:=⟨Bs,0,none⟩) UZ).trans hc;obtain⟨_,_,e,_,_,aL⟩:=hI.open_;injection e with e1 _ e2;subst e1 e2;refine SF F n h7 Tz hn l Bs n₀ _ _ zs QY (fun k hk=>?_) J Jx hY W hc' (fun b off e j hj=>?_) h0
 ·obtain⟨b,off,e,hb,-⟩:=aL k hk;exact⟨b,off,e,hb⟩
 obtain⟨b',vqw,e',hb,hx⟩:=aL j hj;rw[e] at e';injection e' with e';injection e' with e1 e2 _;subst e1 e2;have h:=(hW.cell (p:=⟨b,off+j,none⟩) (yK hb hn₀)).trans (hx j hj);rw[h,yN hj];rfl
theorem V6 (F:Fence) (n:Nat) (h5:F.fn 244) (Tz:F.round=none) (a:Option Addr) (len cap:Nat) (w:World) :
  CallsIn F n Tryz.prog 244 #[.slice a len cap] w fun e w'=>e=.returned (.func (.func 272) #[] #[.pointer (some ⟨w.heap.size,0,none⟩)])∧w'=w.alloc (.cells #[.slice a len cap] 33):=by
 refine callsIn_of_wp Tryz.func244 rfl h5 ?_ Tz;simp only[Tryz.ntmps244,List.size_toArray,List.length_cons,List.length_nil,Nat.reduceAdd,Nat.reduceSub,Array.replicate_succ,Array.replicate_zero,List.push_toArray,List.append_toArray,List.nil_append,List.cons_append];gi_wp2
 go_ret;exact⟨rfl,rfl⟩
attribute [local go_sem] Oper.semAt_some
def TurnedPost (b:BeamT) (w:World) (e:Ending) (w':World):Prop:=Below w.heap.size w w'∧∃v,e=.returned v∧BeamAt w' w'.heap.size v (ao b)
theorem sj:(Tryz.prog.info? 3).map (fun i=>(i.zero,i.size,i.bytes))=some (some (.int .i64 0),1,8):=by kernel_rfl
theorem mw:(Tryz.prog.info? 115).map (fun i=>(i.zero,i.size,i.bytes))=some (some (.agg #[.int .i64 0,.int .i64 0]),2,16):=by kernel_rfl
structure TnB (w W:World) (b:BeamT) (As:Option Addr) (cs:Nat) (Al:Option Addr) (cl:Nat) (v2 v3:Value) (xs:List Int) (ys:List LoadT):Prop where
 d0:Blk W w.heap.size 117 (zC b As cs Al cl)
 d1:Blk W (w.heap.size+1) 117 #[.string ⟨#[]⟩,.int .i64 0,.slice none 0 0,.slice none 0 0,.int .i64 0]
 d2:Blk W (w.heap.size+1+1) 117 #[.string b.name,.int .i64 b.len,v2,v3,.int .i64 b.even]
 d3:Blk W (w.heap.size+1+1+1) 33 #[.slice As b.sup.length cs]
 o2:W.ownsRow w.heap.size 3 1 v2 xs.length (xs.map (Value.int .i64))
 o3:W.ownsRow w.heap.size 115 2 v3 ys.length (ys.flatMap LoadT.cells)
section
variable {w W W':World} {b:BeamT} {As:Option Addr} {cs:Nat} {Al:Option Addr} {cl:Nat} {v2 v3:Value} {xs:List Int} {ys:List LoadT}
theorem Zj {w:World} {B e s n:Nat} {v:Value} {L:List Value} (h:w.ownsRow B e s v n L) {row:Option Nat} (hr:∀r,row=some r→∀cs f,w.heap[r]? ≠ some (.cells cs e f)):v.ownBlock=none∨v.ownBlock≠row:=by
 rcases h.2 with⟨rfl,_⟩|⟨g,cap,cur,rfl,_,hg,_⟩
 ·exact .inl rfl
 refine .inr fun e'=>?_;exact hr g (by rw[←e'];rfl) _ _ hg
theorem TnB.kept (h:TnB w W b As cs Al cl v2 v3 xs ys) {row:Option Nat} (hg:W.grownBy W' row) (hr:∀r,row=some r→∀cs t f,W.heap[r]?=some (.cells cs t f)→t≠117∧t≠33∧t≠3∧t≠115):TnB w W' b As cs Al cl v2 v3 xs ys:=by
 have k:=fun {g:Nat} {t:TypeId} {c:Array Value} (hb:Blk W g t c) (ht:t=117∨t=33)=>hb.kept hg (fun e=>by
  obtain⟨h1,h2,-,-⟩:=hr g e.symm _ _ _ hb;rcases ht with rfl|rfl
  ·exact h1 rfl
  exact h2 rfl)
 exact⟨k h.d0 (.inl rfl),k h.d1 (.inl rfl),k h.d2 (.inl rfl),k h.d3 (.inr rfl),h.o2.kept hg (Zj h.o2 fun r e c f hh=>(hr r e _ _ _ hh).2.2.1 rfl),h.o3.kept hg (Zj h.o3 fun r e c f hh=>(hr r e _ _ _ hh).2.2.2 rfl)⟩
theorem TnB.turn (h:TnB w W b As cs Al cl v2 v3 xs ys) {row:Option Nat} (hg:W.grownBy W' row) (hr:∀r,row=some r→∃o:Obj,W.heap[r]?=some o∧o.isCells=false):TnB w W' b As cs Al cl v2 v3 xs ys :=
 h.kept hg fun r e c t f hh=>by
  obtain⟨o,ho,hc⟩:=hr r e;rw[hh] at ho;cases ho;cases hc
theorem TnB.alloc (h:TnB w W b As cs Al cl v2 v3 xs ys) (o:Obj):TnB w (W.alloc o) b As cs Al cl v2 v3 xs ys:=h.kept (World.grownBy_alloc W o none) (fun r e=>by cases e)
theorem rW {w:World} {B e s n:Nat} {v:Value} {L:List Value} (h:w.ownsRow B e s v n L) {r:Nat} (hr:v.ownBlock=some r):∃cs,w.heap[r]?=some (.cells cs e (0,0)):=by
 rcases h.2 with⟨rfl,_⟩|⟨g,cap,cur,rfl,_,hg,_⟩
 ·cases hr
 obtain rfl:g=r:=by simpa[Value.ownBlock] using hr
 exact⟨cur,hg⟩
theorem TnB.step2 (h:TnB w W b As cs Al cl v2 v3 xs ys) {v':Value} {w1:World} {x:Int} (bO:w1.ownsRow w.heap.size 3 1 v' (xs.length+1) (xs.map (Value.int .i64)++[.int .i64 x])) (hg:W.grownBy w1 v2.ownBlock) :
  Blk w1 (w.heap.size+1+1) 117 #[.string b.name,.int .i64 b.len,v2,v3,.int .i64 b.even]∧TnB w (w1.setCell ⟨w.heap.size+1+1,2,none⟩ v') b As cs Al cl v' v3 (xs++[x]) ys:=by
 have hr:=fun r (e:v2.ownBlock=some r)=>rW h.o2 e;have k:=fun {g:Nat} {t:TypeId} {c:Array Value} (hb:Blk W g t c) (ht:t≠3)=>hb.kept hg (fun e=>by
  obtain⟨c',hc⟩:=hr g e.symm;unfold Blk at hb;rw[hb] at hc;injection hc with hc;injection hc with _ hc _;exact ht hc)
 have e0:=k h.d0 (by decide);have e1:=k h.d1 (by decide);have e2:=k h.d2 (by decide);have e3:=k h.d3 (by decide);have e4:w1.ownsRow w.heap.size 115 2 v3 ys.length (ys.flatMap LoadT.cells):=h.o3.kept hg (Zj h.o3 fun r e c f hh=>by
  obtain⟨c',hc⟩:=hr r e;rw[hh] at hc;injection hc with hc;injection hc with _ hc _;exact absurd hc (by decide))
 refine⟨e2,e0.far (by show w.heap.size≠w.heap.size+1+1;omega) _,e1.far (by show w.heap.size+1≠w.heap.size+1+1;omega) _,e2.set_ 2 v',e3.far (by show w.heap.size+1+1+1≠w.heap.size+1+1;omega) _,?_,?_⟩
 ·have:(w1.setCell ⟨w.heap.size+1+1,2,none⟩ v').ownsRow w.heap.size 3 1 v' (xs.length+1) (xs.map (Value.int .i64)++[.int .i64 x]):=bO.kept (e2.setGrown 2 v') (Zj bO fun r e c f hh=>by
   obtain rfl:w.heap.size+1+1=r:=by simpa using e
   unfold Blk at e2;rw[e2] at hh;injection hh with hh;injection hh with _ hh _;exact absurd hh (by decide))
  rw[yR,List.map_append];exact this
 exact e4.kept (e2.setGrown 2 v') (Zj e4 fun r e c f hh=>by
  obtain rfl:w.heap.size+1+1=r:=by simpa using e
  unfold Blk at e2;rw[e2] at hh;injection hh with hh;injection hh with _ hh _;exact absurd hh (by decide))
theorem TnB.step3 (h:TnB w W b As cs Al cl v2 v3 xs ys) {v':Value} {w1:World} {y:LoadT} (bO:w1.ownsRow w.heap.size 115 2 v' (ys.length+1) (ys.flatMap LoadT.cells++[.int .i64 y.pos,.int .i64 y.wt])) (hg:W.grownBy w1 v3.ownBlock) :
  Blk w1 (w.heap.size+1+1) 117 #[.string b.name,.int .i64 b.len,v2,v3,.int .i64 b.even]∧TnB w (w1.setCell ⟨w.heap.size+1+1,3,none⟩ v') b As cs Al cl v2 v' xs (ys++[y]):=by
 have hr:=fun r (e:v3.ownBlock=some r)=>rW h.o3 e;have k:=fun {g:Nat} {t:TypeId} {c:Array Value} (hb:Blk W g t c) (ht:t≠115)=>hb.kept hg (fun e=>by
  obtain⟨c',hc⟩:=hr g e.symm;unfold Blk at hb;rw[hb] at hc;injection hc with hc;injection hc with _ hc _;exact ht hc)
 have e0:=k h.d0 (by decide);have e1:=k h.d1 (by decide);have e2:=k h.d2 (by decide);have e3:=k h.d3 (by decide);have e4:w1.ownsRow w.heap.size 3 1 v2 xs.length (xs.map (Value.int .i64)):=h.o2.kept hg (Zj h.o2 fun r e c f hh=>by
  obtain⟨c',hc⟩:=hr r e;rw[hh] at hc;injection hc with hc;injection hc with _ hc _;exact absurd hc (by decide))
 refine⟨e2,e0.far (by show w.heap.size≠w.heap.size+1+1;omega) _,e1.far (by show w.heap.size+1≠w.heap.size+1+1;omega) _,e2.set_ 3 v',e3.far (by show w.heap.size+1+1+1≠w.heap.size+1+1;omega) _,?_,?_⟩
 ·exact e4.kept (e2.setGrown 3 v') (Zj e4 fun r e c f hh=>by
   obtain rfl:w.heap.size+1+1=r:=by simpa using e
   unfold Blk at e2;rw[e2] at hh;injection hh with hh;injection hh with _ hh _;exact absurd hh (by decide))
 have:(w1.setCell ⟨w.heap.size+1+1,3,none⟩ v').ownsRow w.heap.size 115 2 v' (ys.length+1) (ys.flatMap LoadT.cells++[.int .i64 y.pos,.int .i64 y.wt]):=bO.kept (e2.setGrown 3 v') (Zj bO fun r e c f hh=>by
  obtain rfl:w.heap.size+1+1=r:=by simpa using e
  unfold Blk at e2;rw[e2] at hh;injection hh with hh;injection hh with _ hh _;exact absurd hh (by decide))
 rw[yR,List.flatMap_append];exact this
end
attribute [local go_sem] Oper.semAt_some
theorem C7 {w:World} {B e s n:Nat} {v:Value} {L:List Value} (h:w.ownsRow B e s v n L):∃A c,v=.slice A n c:=by
 rcases h.2 with⟨rfl,rfl⟩|⟨g,cap,cur,rfl,_⟩
 ·exact⟨none,0,rfl⟩
 exact⟨_,cap,rfl⟩
theorem jR (w:World) (g i:Nat) (u:Value):w.grownBy (w.setCell ⟨g,i,none⟩ u) (some g):=⟨rfl,rfl,rfl,by simp[World.setCell],fun k _ hk=>Below.heap_setCell w _ u k (fun e=>hk (by rw[e]))⟩
theorem EX (w:World) (g:Nat) (u0 u1 u2 u3 u4:Value):w.grownBy (((((w.setCell ⟨g,0,none⟩ u0).setCell ⟨g,1,none⟩ u1).setCell ⟨g,2,none⟩ u2).setCell ⟨g,3,none⟩ u3).setCell ⟨g,4,none⟩ u4) (some g) :=
 dX (dX (dX (dX (jR w g 0 u0) (jR _ g 1 u1)) (jR _ g 2 u2)) (jR _ g 3 u3)) (jR _ g 4 u4)
theorem DL (F:Fence) (n:Nat) (h3:F.fn 198) (h5:F.fn 244) (h7:F.fn 272) (Tz:F.round=none) (hn:3≤n) (v:Value) (b:BeamT) (w:World) (hv:BeamAt w w.heap.size v b) (hb:BeamOk b) :
    CallsIn F n Tryz.prog 198 #[v] w (TurnedPost b w):=by
  have h1:1≤n:=by omega
  obtain⟨As,cs,Al,cl,rfl,hS,hL⟩:=hv;have HS:=zh hS;have HL:=zh hL;have Hb:=zh hb;clear hS hL hb;obtain⟨i0,hi,kg,lP,mX⟩:=info_parts sj;refine callsIn_of_wp_marks Tryz.func198 rfl h3 ?_ Tz;simp only[Tryz.ntmps198,List.size_toArray,List.length_cons,List.length_nil,Nat.reduceAdd,Nat.reduceSub,Array.replicate_succ,Array.replicate_zero,List.push_toArray,List.append_toArray,List.nil_append,List.cons_append]
  gi_wp2_with (gi_at_call 244; refine (V6 F (n-1) h5 Tz _ _ _ _).mono ?_; rintro e w' ⟨rfl,rfl⟩)
  have hBx:=cu w 117 117 117 (zC b As cs Al cl) #[.string ⟨#[]⟩,.int .i64 0,.slice none 0 0,.slice none 0 0,.int .i64 0] #[.string b.name,.int .i64 b.len,.slice none 0 0,.slice none 0 0,.int .i64 b.even];obtain⟨W3,Hu⟩:=zo (((w.alloc (.cells (zC b As cs Al cl) 117)).alloc (.cells #[.string ⟨#[]⟩,.int .i64 0,.slice none 0 0,.slice none 0 0,.int .i64 0] 117)).alloc (.cells #[.string b.name,.int .i64 b.len,.slice none 0 0,.slice none 0 0,.int .i64 b.even] 117))
  have fO:W3.heap.size=w.heap.size+1+1+1:=by rw[←Hu]; simp
  rw[Hu] at hBx;simp only[Hu];clear Hu;obtain⟨B1,B2,B3,bE⟩:=hBx;have hT0:TnB w (W3.alloc (.cells #[.slice As b.sup.length cs] 33)) b As cs Al cl (.slice none 0 0) (.slice none 0 0) [] []:=by
    have h4:=Blk.new W3 33 #[.slice As b.sup.length cs];rw[fO] at h4;exact⟨B1.alloc _,B2.alloc _,B3.alloc _,h4,yJ _ _ _ _,yJ _ _ _ _⟩
  have hB0:Below w.heap.size w (W3.alloc (.cells #[.slice As b.sup.length cs] 33)):=bE.alloc bE.size _;have Tx:b.sup.length≤1000:=yH Hb.o.sup1.2 (by decide);have Hv:=Iw F (n-1) h7 Tz (by omega) (w.heap.size+1+1+1) w.heap.size As cs b.sup Tx (W3.alloc (.cells #[.slice As b.sup.length cs] 33)) (by simp[fO]) hB0.size (by rw[hT0.d3.cell 0]; rfl) (HS.o.below hB0 (yA _));clear B1 B2 B3 bE;have vwK:(W3.alloc (.cells #[.slice As b.sup.length cs] 33)).heap.size=w.heap.size+1+1+1+1:=by simp[fO]
  generalize W3.alloc (.cells #[.slice As b.sup.length cs] 33)=W4 at*;clear fO;refine wpIn_rangeFunc_ownG Tz h1 (gf := 272) (lb := #[.pointer (some ⟨w.heap.size + 1 + 1 + 1,0,none⟩)]) rfl h7 (enters_of Tryz.func272 (by kernel_rfl) rfl)
    Hv JS (fun W l o o' hl ho hc hw=>⟨belowK_b (w:=W4) (by omega) W l o o' hl ho hc hw,fun v hv=>cell_kept hv (grownBy_putObj' W l o') (fun r e=>by cases e; exact⟨o,ho,hc⟩)⟩) (yB _ _) (fun _=>rfl)
    (fun pre W=>(∃v2,TnB w W b As cs Al cl v2 (.slice none 0 0) (pre.map fun p=>wrap64 (b.len-p.2)) [])∧Below w.heap.size w W)
    (fun _ _ _=>False)
    (OwnFrom.and (Own.from (fun s A B row hs hg hr=>by obtain⟨v2,h⟩:=hs; exact⟨v2,h.turn hg hr⟩) _) (ownFrom_below (yA _) (by omega)))
    (fun _ _ _ _ _ hs _ _=>hs)
    ⟨⟨_,hT0⟩,hB0⟩
    (fun x=>{ tmps:=#[.agg (zC b As cs Al cl),.pointer (some ⟨w.heap.size,0,none⟩),.pointer (some ⟨w.heap.size+1,0,none⟩),.pointer (some ⟨w.heap.size+1+1,0,none⟩),undef,.int .i64 x.2,undef,undef,.agg (zC b As cs Al cl),.pointer (some ⟨w.heap.size+1+1,2,none⟩),.pointer (some ⟨w.heap.size+1+1,3,none⟩),.pointer (some ⟨w.heap.size,2,none⟩),.slice As b.sup.length cs,.func (.func 272) #[] #[.pointer (some ⟨w.heap.size+1+1+1,0,none⟩)],.int .i64 x.1,.int .i64 x.2,undef,undef,undef,undef,undef,undef,undef,undef,undef,undef,undef,undef,undef,undef,undef,undef,undef,undef,undef,undef,undef,undef,undef,undef,undef,undef,undef,undef,undef,undef,undef],defers:=[] }) ?assign ?body ?done ?stop
  case assign=>
    intro l x W K hK;gi_wp2
    exact hK
  case body=>
    rintro l pre x W ⟨⟨v2,hT⟩,hB⟩ aI;have c1:=hT.d0.cell 1;have c2:=hT.d2.cell 2;simp only[aB,aD,aA] at c1 c2;have HT:=zh hT;have HB:=zh hB;have hlp:(pre.map fun p=>wrap64 (b.len-p.2)).length+1≤1000:=by rw[yQ]; omega
    have gL:=hB.size;clear hT hB Hv;gi_wp2_with (gi_at_builtin; refine wpListIn_append_own _ rfl _ _ 33 rfl w.heap.size 3 i0 (.int .i64 0) 1 8 Tryz.underlying33 hi kg lP mX rfl (by decide) _ _ _ rfl (HT.o.o2.alloc _) ⟨W.heap.size,0,none⟩ 1 1 [.int .i64 (wrap64 (b.len-x.2))] rfl rfl (cell_one_new _ _ _) (by simp[Value.oneCell']) (by unfold maxLen; omega) (by omega) (by simp; omega) ?_; intro v' w1 ip eO _; obtain⟨g',wA,rfl⟩:=ownsRow_succ ip; obtain⟨e2,hT'⟩:=(HT.o.alloc _).step2 ip eO; have HT':=zh hT'; have HG:=zh eO; have f2:=e2.frozen 2; have TG:=e2.cell 2; simp only[aB,aD,aA] at TG; clear hT' eO ip e2)
    have mT:=fun j (ej:v2.ownBlock=some j)=>((HT.o.alloc (.cells #[.int .i64 (wrap64 (b.len-x.2))] 3)).o2.lt j ej);have hKO:=((KeepsOthers.alloc W (.cells #[.int .i64 (wrap64 (b.len-x.2))] 3)).trans (KeepsOthers.of_grownBy HG.o fun j o ej hj=>by
      obtain⟨c',hc⟩:=rW (HT.o.alloc (.cells #[.int .i64 (wrap64 (b.len-x.2))] 3)).o2 ej;rw[hc] at hj;cases hj;rfl)).trans (KeepsOthers.setCell w1 ⟨w.heap.size+1+1,2,none⟩ (.slice (some ⟨g',0,none⟩) ((pre.map fun p=>wrap64 (b.len-p.2)).length+1) wA))
    have hBe:=(((yB w.heap.size W).alloc gL (.cells #[.int .i64 (wrap64 (b.len-x.2))] 3)).grown HG.o (by simp; omega) (fun j ej=>(mT j ej).1)).setCell (p:=⟨w.heap.size+1+1,2,none⟩) (by show w.heap.size≤w.heap.size+1+1; omega) (.slice (some ⟨g',0,none⟩) ((pre.map fun p=>wrap64 (b.len-p.2)).length+1) wA);have wS:=HT'.o;rw[yQ] at hKO hBe wS;refine⟨hKO.from _,⟨hBe,fun v hv=>?_⟩,⟨.slice (some ⟨g',0,none⟩) (pre.length+1) wA,?_⟩,HB.o.trans hBe⟩
    · rw[HT.o.d3.cell 0] at hv
      rw[wS.d3.cell 0];exact hv
    rw[List.map_append];exact wS
  case done=>
    rintro D ys W hD rfl ⟨⟨v2,hT⟩,hB⟩ hK;have qkz:((jt (mP b.sup) b.sup.length).map fun p=>wrap64 (b.len-p.2))=(ao b).sup:=by
      have hs:=Hb.o.sup;have hl:=Hb.o.len;apply List.ext_getElem
      · simp[jt,ao]
      intro i h1 h2;have hi':i<b.sup.length:=by simpa[jt] using h1
      have h3:=hs (b.sup.length-1-i) (by omega);have h4:ai b (b.sup.length-1-i)=b.sup[b.sup.length-1-i]'(by omega):=by unfold ai; rw[List.getD_eq_getElem?_getD,List.getElem?_eq_getElem (by omega)]; rfl
      rw[h4] at h3;simp only[jt,List.map_map,List.getElem_map,List.getElem_range,Function.comp,ao,List.getElem_reverse,mP];rw[yN (show b.sup.length-1-i<b.sup.length by omega)];simp only[Option.getD_some];unfold wrap64;omega
    rw[qkz] at hT;clear qkz Hv;have c3:=hT.d0.cell 3;simp only[aB,aD,aA] at c3;have HT:=zh hT;have HB:=zh hB;have HK:=zh hK;clear hT hB hK;obtain⟨iA,hiA,vqz,vqy,vqx⟩:=info_parts mw;gi_wp2
    gi_loopw [28] (fun ix wr=>∃k:Nat,k≤b.loads.length∧ix=.int .i64 k∧Y0 (∃v3,TnB w wr b As cs Al cl v2 v3 (ao b).sup ((ao b).loads.take k))∧Y0 (Below w.heap.size w wr)∧Y0 (wr.heap[D]?=some (.deferred (some [])))) (fun ix _=>b.loads.length-(intOf ix).toNat)
    case atStart=>exact⟨0,yI _,rfl,⟨_,HT.o⟩,HB,HK⟩
    clear HT HB HK c3;obtain⟨k,hk,rfl,XO,HB,HK⟩:=hrel;obtain⟨v3,hT⟩:=XO.o;have HT:=zh hT;clear hT XO;have k0:(0:Int)≤(k:Int):=yE _;by_cases aK:k<b.loads.length
    · have k1:(k:Int)<(b.loads.length:Int):=by omega
      obtain⟨_,_,e,_,dR,nQ⟩:=HL.o.open_;injection e with e1 _ e2;subst e1 e2;obtain⟨b2,o2,rfl,aI,hx⟩:=nQ k aK;obtain⟨cG,dc⟩:=hx k aK;have cG:=(HB.o.cell (p:=⟨b2,o2+k*2,none⟩) aI).trans cG;have dc:=(HB.o.cell (p:=⟨b2,o2+k*2+1,none⟩) aI).trans dc;obtain⟨p1,p2,p3,p4⟩:=Hb.o.loads _ (yV aK);obtain⟨Be,CV⟩:=Hb.o.len;have HY:Y0 ((ao b).loads.take (k+1)=(ao b).loads.take k++[⟨b.len-b.loads[k].pos,b.loads[k].wt⟩]):=by
        unfold Y0;rw[bF _ k (by simpa[ao] using aK)];simp[ao]
      have QQ:((ao b).loads.take k).length+1≤1000:=by
        have:=Hb.o.loads1;rw[YA];simp only[ao,List.length_map];omega
      clear nQ hx dR;generalize b.loads[k]=x at*;obtain⟨pos,wt⟩:=x;simp only at cG dc p1 p2 p3 p4;have HA:=zh ((HT.o.alloc (.cells #[.int .i64 pos,.int .i64 wt] 115)).alloc (.cells #[.int .i64 (b.len-pos),.int .i64 wt] 115));have mS:=yL (Blk.new (wr.alloc (.cells #[.int .i64 pos,.int .i64 wt] 115)) 115 #[.int .i64 (b.len-pos),.int .i64 wt]);rw[yZ] at mS;have jD:=zh mS;have A1:=HT.o.alloc (.cells #[.int .i64 pos,.int .i64 wt] 115)
      have c01:=A1.d0.cell 1;have c23:=A1.d2.cell 3;simp only[aB,aD,aA] at c01 c23;have gL:=HB.o.size;have kb:(b.loads.length:Int)≤40:=by have:=Hb.o.loads1; omega
      clear mS A1;gi_wp2_with (gi_at_builtin; refine wpListIn_append_own _ rfl _ _ 66 rfl w.heap.size 115 iA (.agg #[.int .i64 0,.int .i64 0]) 2 16 Tryz.underlying66 hiA vqz vqy vqx rfl (by decide) _ _ _ rfl HA.o.o3 ⟨wr.heap.size+1,0,none⟩ 1 1 [.int .i64 (b.len-pos),.int .i64 wt] rfl rfl jD.o (by simp[Value.oneCell']) (by unfold maxLen; omega) (by omega) (by simp; omega) ?_; intro v' w1 ip eO _; obtain⟨g',wA,rfl⟩:=ownsRow_succ ip; obtain⟨e2,hT'⟩:=HA.o.step3 (y:=⟨b.len-pos,wt⟩) ip eO; have HT':=zh hT'; have HG:=zh eO; have f2:=e2.frozen 3; have TG:=e2.cell 3; simp only[aB,aD,aA] at TG; clear hT' eO ip e2)
      have mT:=fun j (ej:v3.ownBlock=some j)=>HA.o.o3.lt j ej;have hKO:=(((KeepsOthers.alloc wr (.cells #[.int .i64 pos,.int .i64 wt] 115)).trans (KeepsOthers.alloc _ (.cells #[.int .i64 (b.len-pos),.int .i64 wt] 115))).trans (KeepsOthers.of_grownBy HG.o fun j o ej hj=>by
        obtain⟨c',hc⟩:=rW HA.o.o3 ej;rw[hc] at hj;cases hj;rfl)).trans (KeepsOthers.setCell w1 ⟨w.heap.size+1+1,3,none⟩ (.slice (some ⟨g',0,none⟩) (((ao b).loads.take k).length+1) wA))
      have hBe:=((((yB w.heap.size wr).alloc gL (.cells #[.int .i64 pos,.int .i64 wt] 115)).alloc (by simp; omega) (.cells #[.int .i64 (b.len-pos),.int .i64 wt] 115)).grown HG.o (by simp; omega) (fun j ej=>(mT j ej).1)).setCell (p:=⟨w.heap.size+1+1,3,none⟩) (by show w.heap.size≤w.heap.size+1+1; omega) (.slice (some ⟨g',0,none⟩) (((ao b).loads.take k).length+1) wA);have wS:=HT'.o;rw[YA] at hKO hBe wS
      rw[←HY.o] at wS;have HK2:=zh (hKO.same D _ HK.o rfl);have dV:=zh (HB.o.trans hBe);have r6:=zh wS;clear hKO hBe wS;go_roundw
      case rel=>exact⟨k+1,by omega,by go_num,⟨_,r6.o⟩,dV,HK2⟩
      simp[intOf]; omega
    obtain rfl:k=b.loads.length:=by omega
    have hT:=HT.o;rw[List.take_of_length_le (by simp[ao])] at hT;obtain⟨A2,c2,rfl⟩:=C7 hT.o2;obtain⟨A3,c3,rfl⟩:=C7 hT.o3;have y0:=hT.d2.cell 0;have y1:=hT.d2.cell 1;have y2:=hT.d2.cell 2;have y3:=hT.d2.cell 3;have y4:=hT.d2.cell 4;have z0:=hT.d1.cell 0;have z1:=hT.d1.cell 1;have z2:=hT.d1.cell 2;have z3:=hT.d1.cell 3;have z4:=hT.d1.cell 4;have f0:=hT.d1.frozen 0;have f1:=hT.d1.frozen 1;have f2:=hT.d1.frozen 2
    have f3:=hT.d1.frozen 3;have f4:=hT.d1.frozen 4;simp only[aB,aD,aA] at y0 y1 y2 y3 y4 z0 z1 z2 z3 z4;have HT:=zh hT;clear hT;gi_wp2
    have UY:=((((HT.o.d1.set_ 0 (.string b.name)).set_ 1 (.int .i64 b.len)).set_ 2 (.slice A2 (ao b).sup.length c2)).set_ 3 (.slice A3 (ao b).loads.length c3)).set_ 4 (.int .i64 b.even);have J4:=EX wr (w.heap.size+1) (.string b.name) (.int .i64 b.len) (.slice A2 (ao b).sup.length c2) (.slice A3 (ao b).loads.length c3) (.int .i64 b.even);have hK9:=(KeepsOthers.of_grownBy J4 fun j o ej hj=>by
      obtain rfl:w.heap.size+1=j:=by simpa using ej
      have h:=HT.o.d1;unfold Blk at h;rw[h] at hj;cases hj;rfl).same D _ HK.o rfl
    have hB9 := HB.o.grown J4 HB.o.size (fun k e=>by
     obtain rfl:w.heap.size + 1=k := by simpa using e
     omega)
    have Ac:=HT.o.o2.kept J4 (Zj HT.o.o2 fun r e c f hh=>by
      obtain rfl:w.heap.size+1=r:=by simpa using e
      have h:=HT.o.d1;unfold Blk at h;rw[h] at hh;injection hh with hh;injection hh with _ hh _;exact absurd hh (by decide))
    have ho3:=HT.o.o3.kept J4 (Zj HT.o.o3 fun r e c f hh=>by
      obtain rfl:w.heap.size+1=r:=by simpa using e
      have h:=HT.o.d1;unfold Blk at h;rw[h] at hh;injection hh with hh;injection hh with _ hh _;exact absurd hh (by decide))
    generalize ((((wr.setCell ⟨w.heap.size+1,0,none⟩ (.string b.name)).setCell ⟨w.heap.size+1,1,none⟩ (.int .i64 b.len)).setCell ⟨w.heap.size+1,2,none⟩ (.slice A2 (ao b).sup.length c2)).setCell ⟨w.heap.size+1,3,none⟩ (.slice A3 (ao b).loads.length c3)).setCell ⟨w.heap.size+1,4,none⟩ (.int .i64 b.even)=W9 at*;refine⟨by simp,.inl ⟨_,_,rfl,run_takeDeferred hK9,?_⟩⟩;have nK:=grownBy_putObj' W9 D (.deferred none)
    have hDz:Blk (W9.putObj D (.deferred none)) (w.heap.size+1) 117 #[.string b.name,.int .i64 b.len,.slice A2 (ao b).sup.length c2,.slice A3 (ao b).loads.length c3,.int .i64 b.even]:=Blk.kept UY nK (fun e=>by
      obtain rfl:w.heap.size+1=D:=by simpa using e
      unfold Blk at UY;rw[UY] at hK9;cases hK9)
    have p0:=hDz.cell 0;have p1:=hDz.cell 1;have p2:=hDz.cell 2;have p3:=hDz.cell 3;have p4:=hDz.cell 4;simp only[aB,aD,aA] at p0 p1 p2 p3 p4;refine⟨.agg #[.string b.name,.int .i64 b.len,.slice A2 (ao b).sup.length c2,.slice A3 (ao b).loads.length c3,.int .i64 b.even],by simp[results,Tryz.results198,go_sem,p0,p1,p2,p3,p4],?_⟩;have hBz:=hB9.trans (belowK_b (w:=w) (yA _) W9 D _ (.deferred none) (by omega) hK9 rfl rfl)
    refine⟨hBz,_,rfl,A2,c2,A3,c3,rfl,?_,?_⟩
    · exact RowAt.of_own (ownsRow_putObj Ac (.deferred none) hK9 rfl)
    exact Flat.of_own (ownsRow_putObj ho3 (.deferred none) hK9 rfl)
  rintro D c pre W _ _ h _;exact h.elim
theorem DN (v:Value) (b:BeamT) (w:World) (hv:BeamAt w w.heap.size v b) (hb:BeamOk b):Calls Tryz.prog 198 #[v] w (TurnedPost b w) :=
 callsIn_wide.1 (DL Fence.wide 3 trivial trivial trivial rfl (yA _) v b w hv hb)
theorem JO (v:Value) (b:BeamT) (lo hi:Int) (left:Bool) (w:World) (hv:BeamAt w w.heap.size v b) (hb:BeamOk b) (Hj:0≤lo) (UV:lo<hi) (ha2:hi≤b.len):Calls Tryz.prog 194 #[v,.int .i64 lo,.int .i64 hi,.bool left] w (MakesE (dQ b lo hi left) w):=by
 obtain⟨As,cs,Al,cl,rfl,hS,hL⟩:=hv;obtain⟨_,_,e,_,dR,nQ⟩:=hL.open_;injection e with e1 _ e2;subst e1 e2;have h2:=hb.loads1;have h3:=hb.even;have h5:=hb.len;unfold maxLen at dR;have uw:=zh nQ;have Hb:=zh hb;obtain⟨TD,h32⟩:=h3;obtain⟨XH,Vb⟩:=h5;clear nQ hb hS hL;go_enter Tryz.func194,Tryz.ntmps194;go_wp2_with fail;have hI:=im ((w.alloc (.cells (zC b As cs Al cl) 117)).alloc (.cells (zD false none 0 0 false none 0 0) 223)) 3 [b.even,hi-lo] (yU rfl)
 have fO:((w.alloc (.cells (zC b As cs Al cl) 117)).alloc (.cells (zD false none 0 0 false none 0 0) 223)).heap.size=w.heap.size+1+1:=by simp
 rw[fO] at hI;refine (fV 2000 _ [b.even,hi-lo] _ hI (yU rfl) (fun x hx=>?_) (by decide) (by decide)).mono ?_
 ·simp at hx;omega
 rintro e w1 ⟨lE,v1,rfl,kh⟩;obtain⟨m1,B1,k1,d1,m2,B2,k2,d2,rfl,-,-⟩:=kh.form;have qV:=((yB _ ((w.alloc (.cells (zC b As cs Al cl) 117)).alloc (.cells (zD false none 0 0 false none 0 0) 223))).alloc (yA _) (.cells #[.int .i64 b.even,.int .i64 (hi-lo)] 3)).trans (lE.mono (by simp));rw[fO] at qV;have aW:=zh (SumSt.start qV kh);have q3:=aW.o.bm.cell 3;simp only[aB,aD,aA] at q3;have HH:Y0 (da b lo hi left 0=Zu 2000 [b.even,hi-lo]):=rfl
 clear hI fO lE kh qV;go_wp2_with fail;generalize w1.heap.size=Ds at*;rw[←HH.o] at aW;clear HH q3;go_loopw [23] (fun ix wr=>∃k:Nat,k≤b.loads.length∧ix=.int .i64 k∧Y0 (SumSt w wr (zC b As cs Al cl) Ds (da b lo hi left k))) (fun ix _=>b.loads.length-(intOf ix).toNat)
 case atStart=>exact⟨0,yI _,rfl,aW⟩
 clear aW;obtain⟨k,hk,rfl,aW⟩:=hrel;have k0:(0:Int)≤(k:Int):=yE _;by_cases aK:k<b.loads.length
 ·have k1:(k:Int)<(b.loads.length:Int):=by omega
  obtain⟨b2,o2,rfl,aI,dR⟩:=uw.o k aK;obtain⟨cG,dc⟩:=dR k aK;have cG:=(aW.o.bel.cell (p:=⟨b2,o2+k*2,none⟩) aI).trans cG;have dc:=(aW.o.bel.cell (p:=⟨b2,o2+k*2+1,none⟩) aI).trans dc;obtain⟨p1,p2,p3,p4⟩:=Hb.o.loads _ (yV aK);have gZ:=zh (Zl (b:=b) (f:=gq lo hi left) (s:=Zu 2000 [b.even,hi-lo]) aK);have Mc:=zh (vF Hb.o Hj UV ha2 left (YG aK));have ey:=zh (aW.o.alloc (.cells #[.int .i64 b.loads[k].pos,.int .i64 b.loads[k].wt] 115))
  clear dR;generalize b.loads[k]=x at*;obtain⟨pos,wt⟩:=x;simp only at cG dc p1 p2 p3 p4 ey;by_cases Lc:pos≤lo
  ·have hd:decide (pos≤lo)=true:=yD Lc;have HT:Y0 (da b lo hi left (k+1)=da b lo hi left k):=by
    unfold Y0 da;rw[gZ.o];unfold gq;simp only[if_pos (Or.inl Lc)]
   rw[←HT.o] at ey;clear gZ aW;go_wp2_with fail;go_roundw
   case rel=>exact⟨k+1,by omega,by go_num,ey⟩
   simp[intOf];omega
  have hd:decide (pos≤lo)=false:=yC Lc;by_cases Mn:hi≤pos
  ·have mA:decide (hi≤pos)=true:=yD Mn;have HT:Y0 (da b lo hi left (k+1)=da b lo hi left k):=by
    unfold Y0 da;rw[gZ.o];unfold gq;simp only[if_pos (Or.inr Mn)]
   rw[←HT.o] at ey;clear gZ aW;go_wp2_with fail;go_roundw
   case rel=>exact⟨k+1,by omega,by go_num,ey⟩
   simp[intOf];omega
  have mA:decide (hi≤pos)=false:=yC Mn;have tE:¬(pos≤lo∨hi≤pos):=fun h=>h.elim Lc Mn;cases left
  ·have HT:Y0 (da b lo hi false (k+1)=da b lo hi false k+Zu (hi-lo) [wt,pos-lo]):=by
    unfold Y0 da;rw[gZ.o];unfold gq;simp only[if_neg tE,Bool.false_eq_true,if_false]
   have xy:Y0 (cg (Zu (hi-lo) [wt,pos-lo]) 5):=tj (by omega) (by omega) (by omega) (by omega);clear gZ;go_wp2_with fail;obtain⟨li,lk,kY,lg,lh,lj,kX,lf,hB,hE⟩:=ey.o.sum;obtain⟨y0,y1,y2,y3⟩:=hB.c4;have HE:=zh hE;have jE:=zh ey.o.bel;have z:=Blk.new wr 115 #[.int .i64 pos,.int .i64 wt];obtain⟨z0,z1⟩:=z.c2;clear hB hE z cG dc;generalize wr.alloc (.cells #[.int .i64 pos,.int .i64 wt] 115)=W1 at*;have u0:=YL y0
   have u1:=YL y1;have u2:=YL y2;have u3:=YL y3;have u4:=YL z0;have u5:=YL z1;clear y0 y1 y2 y3 z0 z1;have mz:(pos-lo).natAbs≤4611686018427387904:=by omega
   have lQ:wt.natAbs≤4611686018427387904:=by omega
   refine af 10 (fun i=>if i=7 then some (gI [wt,pos-lo]) else if i=8 then some (gE (Zu (hi-lo) [wt,pos-lo])) else if i=9 then some (gE (da b lo hi false k+Zu (hi-lo) [wt,pos-lo])) else none) (by kernel_rfl) (by kernel_rfl) ?_;simp only[aO,aR,aP,aQ];refine zw 7 ?_;simp only[aO,aR,aP,aQ]
   repeat (go_big_quiet_step (fail))
   refine YE ?_;refine aX rfl rfl (fun w1 ak _=>fm (T:=3) (l:=[wt,pos-lo]) (yU rfl) (by go_simp)) ?_;rintro _ ⟨g54,rfl⟩;simp only[Act.put,aw,av,au];refine ae rfl rfl ?_ ?_
   ·intro w1 ak hk;have hb:=(jE.o).trans (ak.mono (jE.o).size);have h54:ct w1 w1.heap.size (.slice (some ⟨g54,0,none⟩) 2 2) [wt,pos-lo]:=hk 54 (by decide);have hC:=MakesE.g (fV (hi-lo) _ [wt,pos-lo] w1 h54 (yU rfl) (EW lQ mz) (by omega) (by omega));exact zc hC
   rintro _ ⟨Oo,Ot,Oj,Om,On,Oq,Oi,Ol,rfl⟩;simp only[Act.put,aw,av,au];refine ae rfl rfl ?_ ?_
   ·intro w1 ak hk;have hb:=(jE.o).trans (ak.mono (jE.o).size);have h55:ExactAt w1 (.agg (zD Oo Ot Oj Om On Oq Oi Ol)) (Zu (hi-lo) [wt,pos-lo]):=hk 55 (by decide);have hC:=MakesE.g (fA _ _ _ _ 245 5 w1 (HE.o.grow ak) h55 Mc.o xy.o (by decide));exact zc hC
   rintro _ ⟨Oe,Oh,Oa,Oc,Od,Og,NZ,Ob,rfl⟩;simp only[Act.put,aw,av,au];refine Zc ?_;intro w8 aT hF;have Ln:ExactAt w8 (.agg (zD Oe Oh Oa Oc Od Og NZ Ob)) (da b lo hi false k+Zu (hi-lo) [wt,pos-lo]):=hF 56;have HL:=zh Ln;have dv:=zh (ey.o.grow aT);obtain⟨_,_,_,_,_,_,_,_,h1,-⟩:=dv.o.sum;have q0:=h1.cell 0;have q1:=h1.cell 1;have q2:=h1.cell 2;have q3:=h1.cell 3;have f0:=h1.frozen 0;have f1:=h1.frozen 1
   have f2:=h1.frozen 2;have f3:=h1.frozen 3;simp only[aB,aD,aA] at q0 q1 q2 q3;rw[←HT.o] at HL;clear hF u0 u1 u2 u3 u4 u5 aT Ln h1 HE jE ey aW;go_wp2_with fail;have mQ:=zh (dv.o.put HL.o);clear q0 q1 q2 q3 f0 f1 f2 f3 HL dv;go_roundw
   case rel=>exact⟨k+1,by omega,by go_num,mQ⟩
   simp[intOf];omega
  have HT:Y0 (da b lo hi true (k+1)=da b lo hi true k+Zu (hi-lo) [wt,hi-pos]):=by
   unfold Y0 da;rw[gZ.o];unfold gq;simp only[if_neg tE,if_true]
  have xy:Y0 (cg (Zu (hi-lo) [wt,hi-pos]) 5):=tj (by omega) (by omega) (by omega) (by omega);clear gZ;go_wp2_with fail;obtain⟨li,lk,kY,lg,lh,lj,kX,lf,hB,hE⟩:=ey.o.sum;obtain⟨y0,y1,y2,y3⟩:=hB.c4;have HE:=zh hE;have jE:=zh ey.o.bel;have z:=Blk.new wr 115 #[.int .i64 pos,.int .i64 wt];obtain⟨z0,z1⟩:=z.c2;clear hB hE z cG dc;generalize wr.alloc (.cells #[.int .i64 pos,.int .i64 wt] 115)=W1 at*;have u0:=YL y0
  have u1:=YL y1;have u2:=YL y2;have u3:=YL y3;have u4:=YL z0;have u5:=YL z1;clear y0 y1 y2 y3 z0 z1;have mz:(hi-pos).natAbs≤4611686018427387904:=by omega
  have lQ:wt.natAbs≤4611686018427387904:=by omega
  refine af 10 (fun i=>if i=7 then some (gI [wt,hi-pos]) else if i=8 then some (gE (Zu (hi-lo) [wt,hi-pos])) else if i=9 then some (gE (da b lo hi true k+Zu (hi-lo) [wt,hi-pos])) else none) (by kernel_rfl) (by kernel_rfl) ?_;simp only[aO,aR,aP,aQ];refine zw 7 ?_;simp only[aO,aR,aP,aQ]
  repeat (go_big_quiet_step (fail))
  refine YE ?_;refine aX rfl rfl (fun w1 ak _=>fm (T:=3) (l:=[wt,hi-pos]) (yU rfl) (by go_simp)) ?_;rintro _ ⟨g54,rfl⟩;simp only[Act.put,aw,av,au];refine ae rfl rfl ?_ ?_
  ·intro w1 ak hk;have hb:=(jE.o).trans (ak.mono (jE.o).size);have h54:ct w1 w1.heap.size (.slice (some ⟨g54,0,none⟩) 2 2) [wt,hi-pos]:=hk 54 (by decide);have hC:=MakesE.g (fV (hi-lo) _ [wt,hi-pos] w1 h54 (yU rfl) (EW lQ mz) (by omega) (by omega));exact zc hC
  rintro _ ⟨Oo,Ot,Oj,Om,On,Oq,Oi,Ol,rfl⟩;simp only[Act.put,aw,av,au];refine ae rfl rfl ?_ ?_
  ·intro w1 ak hk;have hb:=(jE.o).trans (ak.mono (jE.o).size);have h55:ExactAt w1 (.agg (zD Oo Ot Oj Om On Oq Oi Ol)) (Zu (hi-lo) [wt,hi-pos]):=hk 55 (by decide);have hC:=MakesE.g (fA _ _ _ _ 245 5 w1 (HE.o.grow ak) h55 Mc.o xy.o (by decide));exact zc hC
  rintro _ ⟨Oe,Oh,Oa,Oc,Od,Og,NZ,Ob,rfl⟩;simp only[Act.put,aw,av,au];refine Zc ?_;intro w8 aT hF;have Ln:ExactAt w8 (.agg (zD Oe Oh Oa Oc Od Og NZ Ob)) (da b lo hi true k+Zu (hi-lo) [wt,hi-pos]):=hF 56;have HL:=zh Ln;have dv:=zh (ey.o.grow aT);obtain⟨_,_,_,_,_,_,_,_,h1,-⟩:=dv.o.sum;have q0:=h1.cell 0;have q1:=h1.cell 1;have q2:=h1.cell 2;have q3:=h1.cell 3;have f0:=h1.frozen 0;have f1:=h1.frozen 1
  have f2:=h1.frozen 2;have f3:=h1.frozen 3;simp only[aB,aD,aA] at q0 q1 q2 q3;rw[←HT.o] at HL;clear hF u0 u1 u2 u3 u4 u5 aT Ln h1 HE jE ey aW;go_wp2_with fail;have mQ:=zh (dv.o.put HL.o);clear q0 q1 q2 q3 f0 f1 f2 f3 HL dv;go_roundw
  case rel=>exact⟨k+1,by omega,by go_num,mQ⟩
  simp[intOf];omega
 obtain rfl:k=b.loads.length:=by omega
 have ey:=aW;obtain⟨li,lk,kY,lg,lh,lj,kX,lf,hB,hE⟩:=ey.o.sum;obtain⟨y0,y1,y2,y3⟩:=hB.c4;have HE:=zh hE;have jE:=zh ey.o.bel;have q0:=aW.o.res.cell 0;have q1:=aW.o.res.cell 1;have q2:=aW.o.res.cell 2;have q3:=aW.o.res.cell 3;have f0:=aW.o.res.frozen 0;have f1:=aW.o.res.frozen 1;have f2:=aW.o.res.frozen 2;have f3:=aW.o.res.frozen 3;simp only[aB,aD,aA] at q0 q1 q2 q3;clear hB hE;go_wp2_with fail;refine YF (v:=.agg (zD li lk kY lg lh lj kX lf)) (by simp[results,Tryz.results194,go_sem,q0,q1,q2,q3]) rfl ?_
 exact⟨bI jE.o (by omega) _ _ _ _,_,rfl,HE.o.stored aW.o.res _ _ _ _⟩
theorem Sx (v:Value) (b:BeamT) (lo hi:Int) (left:Bool) (w:World) (hv:BeamAt w w.heap.size v b) (hb:BeamOk b) (Hj:0≤lo) (UV:lo<hi) (ha2:hi≤b.len):Calls Tryz.prog 236 #[v,.int .i64 lo,.int .i64 hi,.bool left] w (MakesE (cZ b lo hi left) w):=by
 obtain⟨As,cs,Al,cl,rfl,hS,hL⟩:=hv;obtain⟨_,_,e,_,dR,nQ⟩:=hL.open_;injection e with e1 _ e2;subst e1 e2;have h2:=hb.loads1;have h3:=hb.even;have h5:=hb.len;unfold maxLen at dR;have uw:=zh nQ;have Hb:=zh hb;obtain⟨TD,h32⟩:=h3;obtain⟨XH,Vb⟩:=h5;clear nQ hb hS hL;go_enter Tryz.func236,Tryz.ntmps236;go_wp2_with fail;have hI:=im ((w.alloc (.cells (zC b As cs Al cl) 117)).alloc (.cells (zD false none 0 0 false none 0 0) 223)) 3 [b.even,hi-lo,hi-lo,hi-lo] (yU rfl)
 have fO:((w.alloc (.cells (zC b As cs Al cl) 117)).alloc (.cells (zD false none 0 0 false none 0 0) 223)).heap.size=w.heap.size+1+1:=by simp
 rw[fO] at hI;refine (fV 4000 _ [b.even,hi-lo,hi-lo,hi-lo] _ hI (yU rfl) (fun x hx=>?_) (by decide) (by decide)).mono ?_
 ·simp at hx;omega
 rintro e w1 ⟨lE,v1,rfl,kh⟩;obtain⟨m1,B1,k1,d1,m2,B2,k2,d2,rfl,-,-⟩:=kh.form;have qV:=((yB _ ((w.alloc (.cells (zC b As cs Al cl) 117)).alloc (.cells (zD false none 0 0 false none 0 0) 223))).alloc (yA _) (.cells #[.int .i64 b.even,.int .i64 (hi-lo),.int .i64 (hi-lo),.int .i64 (hi-lo)] 3)).trans (lE.mono (by simp));rw[fO] at qV;have aW:=zh (SumSt.start qV kh);have q3:=aW.o.bm.cell 3;simp only[aB,aD,aA] at q3
 have HH:Y0 (bH b lo hi left 0=Zu 4000 [b.even,hi-lo,hi-lo,hi-lo]):=rfl;clear hI fO lE kh qV;go_wp2_with fail;generalize w1.heap.size=Ds at*;rw[←HH.o] at aW;clear HH q3;go_loopw [27] (fun ix wr=>∃k:Nat,k≤b.loads.length∧ix=.int .i64 k∧Y0 (SumSt w wr (zC b As cs Al cl) Ds (bH b lo hi left k))) (fun ix _=>b.loads.length-(intOf ix).toNat)
 case atStart=>exact⟨0,yI _,rfl,aW⟩
 clear aW;obtain⟨k,hk,rfl,aW⟩:=hrel;have k0:(0:Int)≤(k:Int):=yE _;by_cases aK:k<b.loads.length
 ·have k1:(k:Int)<(b.loads.length:Int):=by omega
  obtain⟨b2,o2,rfl,aI,dR⟩:=uw.o k aK;obtain⟨cG,dc⟩:=dR k aK;have cG:=(aW.o.bel.cell (p:=⟨b2,o2+k*2,none⟩) aI).trans cG;have dc:=(aW.o.bel.cell (p:=⟨b2,o2+k*2+1,none⟩) aI).trans dc;obtain⟨p1,p2,p3,p4⟩:=Hb.o.loads _ (yV aK);have gZ:=zh (Zl (b:=b) (f:=kZ lo hi left) (s:=Zu 4000 [b.even,hi-lo,hi-lo,hi-lo]) aK);have Mc:=zh (xH Hb.o Hj UV ha2 left (YG aK));have ey:=zh (aW.o.alloc (.cells #[.int .i64 b.loads[k].pos,.int .i64 b.loads[k].wt] 115))
  clear dR;generalize b.loads[k]=x at*;obtain⟨pos,wt⟩:=x;simp only at cG dc p1 p2 p3 p4 ey;by_cases Lc:pos≤lo
  ·have hd:decide (pos≤lo)=true:=yD Lc;have HT:Y0 (bH b lo hi left (k+1)=bH b lo hi left k):=by
    unfold Y0 bH;rw[gZ.o];unfold kZ;simp only[if_pos (Or.inl Lc)]
   rw[←HT.o] at ey;clear gZ aW;go_wp2_with fail;go_roundw
   case rel=>exact⟨k+1,by omega,by go_num,ey⟩
   simp[intOf];omega
  have hd:decide (pos≤lo)=false:=yC Lc;by_cases Mn:hi≤pos
  ·have mA:decide (hi≤pos)=true:=yD Mn;have HT:Y0 (bH b lo hi left (k+1)=bH b lo hi left k):=by
    unfold Y0 bH;rw[gZ.o];unfold kZ;simp only[if_pos (Or.inr Mn)]
   rw[←HT.o] at ey;clear gZ aW;go_wp2_with fail;go_roundw
   case rel=>exact⟨k+1,by omega,by go_num,ey⟩
   simp[intOf];omega
  have mA:decide (hi≤pos)=false:=yC Mn;have tE:¬(pos≤lo∨hi≤pos):=fun h=>h.elim Lc Mn;cases left
  ·have HT:Y0 (bH b lo hi false (k+1)=bH b lo hi false k+Zu (hi-lo) [wt,hi-pos,(hi-lo)*(hi-lo)-(hi-pos)*(hi-pos)]):=by
    unfold Y0 bH;rw[gZ.o];unfold kZ;simp only[if_neg tE,Bool.false_eq_true,if_false]
   have xy:Y0 (cg (Zu (hi-lo) [wt,hi-pos,(hi-lo)*(hi-lo)-(hi-pos)*(hi-pos)]) 5):=Dq (by omega) (by omega) (by omega) (by omega) (zr (by omega) (by omega) (by omega));clear gZ;go_wp2_with fail;obtain⟨li,lk,kY,lg,lh,lj,kX,lf,hB,hE⟩:=ey.o.sum;obtain⟨y0,y1,y2,y3⟩:=hB.c4;have HE:=zh hE;have jE:=zh ey.o.bel;have z:=Blk.new wr 115 #[.int .i64 pos,.int .i64 wt];obtain⟨z0,z1⟩:=z.c2;clear hB hE z cG dc;generalize wr.alloc (.cells #[.int .i64 pos,.int .i64 wt] 115)=W1 at*
   have u0:=YL y0;have u1:=YL y1;have u2:=YL y2;have u3:=YL y3;have u4:=YL z0;have u5:=YL z1;clear y0 y1 y2 y3 z0 z1;have lQ:wt.natAbs≤4611686018427387904:=by omega
   have mz:(hi-pos).natAbs≤4611686018427387904:=by omega
   have Rb:0≤(hi-lo)*(hi-lo):=Int.mul_nonneg (by omega) (by omega);have hm2:(hi-lo)*(hi-lo)≤1048576*1048576:=Int.mul_le_mul (by omega) (by omega) (by omega) (by omega);have hm3:0≤(hi-pos)*(hi-pos):=Int.mul_nonneg (by omega) (by omega);have hm4:(hi-pos)*(hi-pos)≤1048576*1048576:=Int.mul_le_mul (by omega) (by omega) (by omega) (by omega);have xi:((hi-lo)*(hi-lo)-(hi-pos)*(hi-pos)).natAbs≤4611686018427387904:=by omega
   refine af 15 (fun i=>if i=12 then some (gI [wt,hi-pos,(hi-lo)*(hi-lo)-(hi-pos)*(hi-pos)]) else if i=13 then some (gE (Zu (hi-lo) [wt,hi-pos,(hi-lo)*(hi-lo)-(hi-pos)*(hi-pos)])) else if i=14 then some (gE (bH b lo hi false k+Zu (hi-lo) [wt,hi-pos,(hi-lo)*(hi-lo)-(hi-pos)*(hi-pos)])) else none) (by kernel_rfl) (by kernel_rfl) ?_;simp only[aO,aR,aP,aQ];refine zw 12 ?_;simp only[aO,aR,aP,aQ]
   repeat (go_big_quiet_step (fail))
   refine YE ?_;refine aX rfl rfl (fun w1 ak _=>fm (T:=3) (l:=[wt,hi-pos,(hi-lo)*(hi-lo)-(hi-pos)*(hi-pos)]) (yU rfl) (by go_simp)) ?_;rintro _ ⟨g63,rfl⟩;simp only[Act.put,aw,av,au];refine ae rfl rfl ?_ ?_
   ·intro w1 ak hk;have hb:=(jE.o).trans (ak.mono (jE.o).size);have Va:ct w1 w1.heap.size (.slice (some ⟨g63,0,none⟩) 3 3) [wt,hi-pos,(hi-lo)*(hi-lo)-(hi-pos)*(hi-pos)]:=hk 63 (by decide);have hC:=MakesE.g (fV (hi-lo) _ [wt,hi-pos,(hi-lo)*(hi-lo)-(hi-pos)*(hi-pos)] w1 Va (yU rfl) (MY lQ mz xi) (by omega) (by omega));exact zc hC
   rintro _ ⟨NV,NY,NR,NT,NU,NW,NQ,NS,rfl⟩;simp only[Act.put,aw,av,au];refine ae rfl rfl ?_ ?_
   ·intro w1 ak hk;have hb:=(jE.o).trans (ak.mono (jE.o).size);have h64:ExactAt w1 (.agg (zD NV NY NR NT NU NW NQ NS)) (Zu (hi-lo) [wt,hi-pos,(hi-lo)*(hi-lo)-(hi-pos)*(hi-pos)]):=hk 64 (by decide);have hC:=MakesE.g (fA _ _ _ _ 245 5 w1 (HE.o.grow ak) h64 Mc.o xy.o (by decide));exact zc hC
   rintro _ ⟨NM,NP,NI,NK,NL,NN,NH,NJ,rfl⟩;simp only[Act.put,aw,av,au];refine Zc ?_;intro w8 aT hF;have h65:ExactAt w8 (.agg (zD NM NP NI NK NL NN NH NJ)) (bH b lo hi false k+Zu (hi-lo) [wt,hi-pos,(hi-lo)*(hi-lo)-(hi-pos)*(hi-pos)]):=hF 65;have HL:=zh h65;have dv:=zh (ey.o.grow aT);obtain⟨_,_,_,_,_,_,_,_,h1,-⟩:=dv.o.sum;have q0:=h1.cell 0;have q1:=h1.cell 1;have q2:=h1.cell 2;have q3:=h1.cell 3;have f0:=h1.frozen 0
   have f1:=h1.frozen 1;have f2:=h1.frozen 2;have f3:=h1.frozen 3;simp only[aB,aD,aA] at q0 q1 q2 q3;rw[←HT.o] at HL;clear hF u0 u1 u2 u3 u4 u5 aT h65 h1 HE jE ey aW;go_wp2_with fail;have mQ:=zh (dv.o.put HL.o);clear q0 q1 q2 q3 f0 f1 f2 f3 HL dv;go_roundw
   case rel=>exact⟨k+1,by omega,by go_num,mQ⟩
   simp[intOf];omega
  have HT:Y0 (bH b lo hi true (k+1)=bH b lo hi true k+Zu (hi-lo) [wt,pos-lo,(hi-lo)*(hi-lo)-(pos-lo)*(pos-lo)]):=by
   unfold Y0 bH;rw[gZ.o];unfold kZ;simp only[if_neg tE,if_true]
  have xy:Y0 (cg (Zu (hi-lo) [wt,pos-lo,(hi-lo)*(hi-lo)-(pos-lo)*(pos-lo)]) 5):=Dq (by omega) (by omega) (by omega) (by omega) (zr (by omega) (by omega) (by omega));clear gZ;go_wp2_with fail;obtain⟨li,lk,kY,lg,lh,lj,kX,lf,hB,hE⟩:=ey.o.sum;obtain⟨y0,y1,y2,y3⟩:=hB.c4;have HE:=zh hE;have jE:=zh ey.o.bel;have z:=Blk.new wr 115 #[.int .i64 pos,.int .i64 wt];obtain⟨z0,z1⟩:=z.c2;clear hB hE z cG dc;generalize wr.alloc (.cells #[.int .i64 pos,.int .i64 wt] 115)=W1 at*
  have u0:=YL y0;have u1:=YL y1;have u2:=YL y2;have u3:=YL y3;have u4:=YL z0;have u5:=YL z1;clear y0 y1 y2 y3 z0 z1;have lQ:wt.natAbs≤4611686018427387904:=by omega
  have mz:(pos-lo).natAbs≤4611686018427387904:=by omega
  have Rb:0≤(hi-lo)*(hi-lo):=Int.mul_nonneg (by omega) (by omega);have hm2:(hi-lo)*(hi-lo)≤1048576*1048576:=Int.mul_le_mul (by omega) (by omega) (by omega) (by omega);have hm3:0≤(pos-lo)*(pos-lo):=Int.mul_nonneg (by omega) (by omega);have hm4:(pos-lo)*(pos-lo)≤1048576*1048576:=Int.mul_le_mul (by omega) (by omega) (by omega) (by omega);have xi:((hi-lo)*(hi-lo)-(pos-lo)*(pos-lo)).natAbs≤4611686018427387904:=by omega
  refine af 15 (fun i=>if i=12 then some (gI [wt,pos-lo,(hi-lo)*(hi-lo)-(pos-lo)*(pos-lo)]) else if i=13 then some (gE (Zu (hi-lo) [wt,pos-lo,(hi-lo)*(hi-lo)-(pos-lo)*(pos-lo)])) else if i=14 then some (gE (bH b lo hi true k+Zu (hi-lo) [wt,pos-lo,(hi-lo)*(hi-lo)-(pos-lo)*(pos-lo)])) else none) (by kernel_rfl) (by kernel_rfl) ?_;simp only[aO,aR,aP,aQ];refine zw 12 ?_;simp only[aO,aR,aP,aQ]
  repeat (go_big_quiet_step (fail))
  refine YE ?_;refine aX rfl rfl (fun w1 ak _=>fm (T:=3) (l:=[wt,pos-lo,(hi-lo)*(hi-lo)-(pos-lo)*(pos-lo)]) (yU rfl) (by go_simp)) ?_;rintro _ ⟨g63,rfl⟩;simp only[Act.put,aw,av,au];refine ae rfl rfl ?_ ?_
  ·intro w1 ak hk;have hb:=(jE.o).trans (ak.mono (jE.o).size);have Va:ct w1 w1.heap.size (.slice (some ⟨g63,0,none⟩) 3 3) [wt,pos-lo,(hi-lo)*(hi-lo)-(pos-lo)*(pos-lo)]:=hk 63 (by decide);have hC:=MakesE.g (fV (hi-lo) _ [wt,pos-lo,(hi-lo)*(hi-lo)-(pos-lo)*(pos-lo)] w1 Va (yU rfl) (MY lQ mz xi) (by omega) (by omega));exact zc hC
  rintro _ ⟨NV,NY,NR,NT,NU,NW,NQ,NS,rfl⟩;simp only[Act.put,aw,av,au];refine ae rfl rfl ?_ ?_
  ·intro w1 ak hk;have hb:=(jE.o).trans (ak.mono (jE.o).size);have h64:ExactAt w1 (.agg (zD NV NY NR NT NU NW NQ NS)) (Zu (hi-lo) [wt,pos-lo,(hi-lo)*(hi-lo)-(pos-lo)*(pos-lo)]):=hk 64 (by decide);have hC:=MakesE.g (fA _ _ _ _ 245 5 w1 (HE.o.grow ak) h64 Mc.o xy.o (by decide));exact zc hC
  rintro _ ⟨NM,NP,NI,NK,NL,NN,NH,NJ,rfl⟩;simp only[Act.put,aw,av,au];refine Zc ?_;intro w8 aT hF;have h65:ExactAt w8 (.agg (zD NM NP NI NK NL NN NH NJ)) (bH b lo hi true k+Zu (hi-lo) [wt,pos-lo,(hi-lo)*(hi-lo)-(pos-lo)*(pos-lo)]):=hF 65;have HL:=zh h65;have dv:=zh (ey.o.grow aT);obtain⟨_,_,_,_,_,_,_,_,h1,-⟩:=dv.o.sum;have q0:=h1.cell 0;have q1:=h1.cell 1;have q2:=h1.cell 2;have q3:=h1.cell 3;have f0:=h1.frozen 0
  have f1:=h1.frozen 1;have f2:=h1.frozen 2;have f3:=h1.frozen 3;simp only[aB,aD,aA] at q0 q1 q2 q3;rw[←HT.o] at HL;clear hF u0 u1 u2 u3 u4 u5 aT h65 h1 HE jE ey aW;go_wp2_with fail;have mQ:=zh (dv.o.put HL.o);clear q0 q1 q2 q3 f0 f1 f2 f3 HL dv;go_roundw
  case rel=>exact⟨k+1,by omega,by go_num,mQ⟩
  simp[intOf];omega
 obtain rfl:k=b.loads.length:=by omega
 have ey:=aW;obtain⟨li,lk,kY,lg,lh,lj,kX,lf,hB,hE⟩:=ey.o.sum;obtain⟨y0,y1,y2,y3⟩:=hB.c4;have HE:=zh hE;have jE:=zh ey.o.bel;have q0:=aW.o.res.cell 0;have q1:=aW.o.res.cell 1;have q2:=aW.o.res.cell 2;have q3:=aW.o.res.cell 3;have f0:=aW.o.res.frozen 0;have f1:=aW.o.res.frozen 1;have f2:=aW.o.res.frozen 2;have f3:=aW.o.res.frozen 3;simp only[aB,aD,aA] at q0 q1 q2 q3;clear hB hE;go_wp2_with fail;refine YF (v:=.agg (zD li lk kY lg lh lj kX lf)) (by simp[results,Tryz.results236,go_sem,q0,q1,q2,q3]) rfl ?_
 exact⟨bI jE.o (by omega) _ _ _ _,_,rfl,HE.o.stored aW.o.res _ _ _ _⟩
def gB (b:BeamT):GPost:=⟨fun v=>∃As cs Al cl,v=.agg #[.string b.name,.int .i64 b.len,.slice As b.sup.length cs,.slice Al b.loads.length cl,.int .i64 b.even],fun v w=>BeamAt w w.heap.size v b,⟨_,none,0,none,0,rfl⟩,fun _ _ _ hb h=>BeamAt.grow h hb,false⟩
theorem TurnedPost.g {P:Program} {f:FuncId} {args:Array Value} {w:World} {b:BeamT} (h:Calls P f args w (TurnedPost b w)):Calls P f args w fun e w'=>∃v,e=.returned v∧Below w.heap.size w w'∧(gB (ao b)).σ v∧(gB (ao b)).φ v w' :=
 h.mono fun _ _ ⟨hb,v,he,hB⟩=>⟨v,he,hb,(by obtain⟨As,cs,Al,cl,h1,_,_⟩:=hB;exact⟨As,cs,Al,cl,h1⟩),hB⟩
def zm (B:Nat) (v:Value) (w:World):Prop:=∃g,v=.pointer (some ⟨g,0,none⟩)∧B≤g∧Blk w g 223 #[.bool false,.slice none 0 0,.bool false,.slice none 0 0]
def gA (B:Nat):GPost:=⟨fun v=>∃g,v=.pointer (some ⟨g,0,none⟩),zm B,⟨_,0,rfl⟩,fun _ _ _ hb h=>by
 obtain⟨g,h1,h2,h3⟩:=h;exact⟨g,h1,h2,h3.below hb h3.lt⟩,true⟩
theorem Ie {P:Program} {o:Oper} {a:Act} {w:World} {B:Nat} (hB:B≤w.heap.size) (h:(execOp a.eval o).run P w=.ok (.value (.pointer (some ⟨w.heap.size,0,none⟩))) (w.alloc (.cells (zD false none 0 0 false none 0 0) 223))):jv P o a (gA B) w :=
 ⟨_,_,h,(yB _ _).alloc (yA _) _,⟨_,rfl⟩,⟨_,rfl,hB,Blk.new _ _ _⟩,fun _=>⟨w.heap.size,rfl,yA _,by simp⟩⟩
theorem kV {a:Act} {d e:Tmp} (h1:rz (a.eval (.tmp d))=none) (h2:rz (a.eval (.tmp e))=none):∀x∈[d,e],rz (a.eval (.tmp x))=none:=fun x hx=>by
 simp at hx;rcases hx with rfl|rfl
 ·exact h1
 exact h2
def ExsAt (w:World) (v:Value) (l:List Rat):Prop:=∃g,v=.slice (some ⟨g,0,none⟩) l.length l.length∧ExRow w g l.length (fun j=>l[j]?)
theorem ExsAt.grow {w w':World} {v:Value} {l:List Rat} (h:ExsAt w v l) (hb:Below w.heap.size w w'):ExsAt w' v l:=by
 obtain⟨g,h1,h2⟩:=h;exact⟨g,h1,h2.grow hb⟩
def cK (b:BeamT):Bool:=if b.sup.length=1 then decide (bG b-bG (ao b)=0) else true
def AP (b:BeamT) (w:World) (e:Ending) (w':World):Prop:=Below w.heap.size w w'∧∃v,e=.returned (.tuple #[v,.bool (cK b)])∧ExsAt w' v (rX b)
def gX (q:Rat):GPost:=⟨fun v=>∃g,v=.slice (some ⟨g,0,none⟩) 1 1,fun v w=>ExsAt w v [q],⟨_,0,rfl⟩,fun _ _ _ hb h=>ExsAt.grow h hb,false⟩
theorem qzc {P:Program} {o:Oper} {a:Act} {w:World} {q:Rat} {b1:Bool} {A1:Option Addr} {l1 c1:Nat} {b2:Bool} {A2:Option Addr} {l2 c2:Nat} (hE:ExactAt w (.agg (zD b1 A1 l1 c1 b2 A2 l2 c2)) q)
  (h:(execOp a.eval o).run P w=.ok (.value (.slice (some ⟨w.heap.size,0,none⟩) 1 1)) (w.alloc (.cells (zD b1 A1 l1 c1 b2 A2 l2 c2) 223))):jv P o a (gX q) w :=
 ⟨_,_,h,(yB _ _).alloc (yA _) _,⟨_,rfl⟩,⟨w.heap.size,rfl,[⟨b1,A1,l1,c1,b2,A2,l2,c2⟩],rfl,Blk.new _ _ _,fun j hj q' hq=>by
  obtain rfl:j=0:=by simpa using hj
  have e:q=q':=by simpa using hq
  rw[←e];exact hE.grow ((yB _ _).alloc (yA _) _)⟩,fun h=>by cases h⟩
theorem MF {P:Program} {ops:Array Oper} {W:World} {Φ:Nat→Option GPost} {K:Act→aV→Prop} {k:Nat} {o:Oper} {r:List Oper} {a:Act} {F:aV} {v:Value} (hg:o.guard=none) (hφ:Φ k=none)
  (h:∀w,(execOp a.eval o).run P w=.ok (.value v) w) (hK:tA P ops W Φ K (k+1) r (a.put o.dst v) (iC F o.dst (kF ops o F))):tA P ops W Φ K k (o::r) a F:=by
 show cj P ops W o (Φ k) _ a F;have hw:Region.wanted o (yielded ops a.tmps)=true:=by
  unfold Region.wanted;rw[hg]
 unfold cj;rw[if_pos hw,hφ];exact⟨v,fun w _=>by rw[h w];exact⟨rfl,rfl⟩,hK⟩
def gV (v0:Value):GPost:=⟨fun v=>v=v0,fun _ _=>True,⟨_,rfl⟩,fun _ _ _ _ h=>h,false⟩
theorem Kv (q:Rat):(iI q.num==0)=decide (q=0):=by
 rw[Bool.eq_iff_iff,beq_iff_eq,decide_eq_true_eq,←Rat.num_eq_zero];unfold iI;split
 ·rename_i h;simp[h]
 rename_i h
 refine⟨fun h2=>?_,fun h2=>absurd h2 h⟩;split at h2 <;> cases h2
theorem qzn {w:World} {b1:Bool} {A1:Option Addr} {l1 c1:Nat} {b2:Bool} {A2:Option Addr} {l2 c2:Nat} {d1:Bool} {D1:Option Addr} {m1 e1:Nat} {d2:Bool} {D2:Option Addr} {m2 e2:Nat} {z:Int}
  (e:Value.agg (zD b1 A1 l1 c1 b2 A2 l2 c2)=.agg (zD d1 D1 m1 e1 d2 D2 m2 e2)) (h:NumAt w (.agg #[.bool d1,.slice D1 m1 e1]) z) :
  Calls Tryz.prog 235 #[.agg #[.bool b1,.slice A1 l1 c1]] w fun e w'=>∃v,e=.returned v∧Below w.heap.size w w'∧(gV (.int .i64 (iI z))).σ v∧(gV (.int .i64 (iI z))).φ v w':=by
 simp only[Value.agg.injEq,Array.mk.injEq,List.cons.injEq,and_true] at e;obtain⟨e1,e2,-⟩:=e;rw[e1,e2];exact (Sw _ z w h).mono fun _ _ ⟨he,hb⟩=>⟨_,he,hb,rfl,trivial⟩
structure MomSt (w wr:World) (b:BeamT) (bx:Array Value) (g5 g6:Nat):Prop where
 bm:Blk wr w.heap.size 117 bx
 fst:ExBox wr g5 (bG b)
 lst:ExBox wr g6 (bG (ao b))
 bel:Below w.heap.size w wr
 n5:w.heap.size<g5
 n6:w.heap.size<g6
 n56:g6≠g5
theorem MomSt.start {w W1 w8:World} {b:BeamT} {bx:Array Value} {g5 g6:Nat} (hD:Blk w8 w.heap.size 117 bx) (hB:Below w.heap.size w w8) (hW:w.heap.size < W1.heap.size) (h5:zm W1.heap.size (.pointer (some ⟨g5,0,none⟩)) w8) (h6:zm W1.heap.size (.pointer (some ⟨g6,0,none⟩)) w8) (Ln:g6 ≠ g5)
  {a1:Bool} {A1:Option Addr} {l1 c1:Nat} {a2:Bool} {A2:Option Addr} {l2 c2:Nat} (hx:ExactAt w8 (.agg (zD a1 A1 l1 c1 a2 A2 l2 c2)) (bG b))
  {d1:Bool} {D1:Option Addr} {m1 e1:Nat} {d2:Bool} {D2:Option Addr} {m2 e2:Nat} (hy:ExactAt w8 (.agg (zD d1 D1 m1 e1 d2 D2 m2 e2)) (bG (ao b))) :
  MomSt w ((((((((w8.setCell ⟨g5,0,none⟩ (.bool a1)).setCell ⟨g5,1,none⟩ (.slice A1 l1 c1)).setCell ⟨g5,2,none⟩ (.bool a2)).setCell ⟨g5,3,none⟩ (.slice A2 l2 c2)).setCell ⟨g6,0,none⟩ (.bool d1)).setCell ⟨g6,1,none⟩ (.slice D1 m1 e1)).setCell ⟨g6,2,none⟩ (.bool d2)).setCell ⟨g6,3,none⟩ (.slice D2 m2 e2)) b bx g5 g6:=by
 obtain⟨_,e5,Vb,h53⟩:=h5;obtain⟨_,e6,h62,Va⟩:=h6;injection e5 with e5;injection e5 with e5;injection e5 with e5 _ _;injection e6 with e6;injection e6 with e6;injection e6 with e6 _ _;subst e5 e6;have f1:=ExBox.put h53 rfl hx;have f2:=Va.far4o Ln 0 (.bool a1) (.slice A1 l1 c1) (.bool a2) (.slice A2 l2 c2);have f3:=hy.set4 h53 0 (.bool a1) (.slice A1 l1 c1) (.bool a2) (.slice A2 l2 c2);have f4:=hD.far4o (show w.heap.size≠g5 by omega) 0 (.bool a1) (.slice A1 l1 c1) (.bool a2) (.slice A2 l2 c2)
 exact⟨f4.far4o (show w.heap.size≠g6 by omega) 0 _ _ _ _,f1.far f2 (Ne.symm Ln) 0 _ _ _ _,ExBox.put f2 rfl f3,dI (dI hB (by omega) 0 _ _ _ _) (by omega) 0 _ _ _ _,by omega,by omega,Ln⟩
theorem MomSt.grow {w wr w':World} {b:BeamT} {bx:Array Value} {g5 g6:Nat} (h:MomSt w wr b bx g5 g6) (hb:Below wr.heap.size wr w'):MomSt w w' b bx g5 g6 :=
 ⟨h.bm.below hb h.bm.lt,h.fst.grow hb,h.lst.grow hb,h.bel.trans (hb.mono h.bel.size),h.n5,h.n6,h.n56⟩
def Tt (B m:Nat) (v:Value) (w:World):Prop:=∃g,v=.slice (some ⟨g,0,none⟩) m m∧B≤g∧ExRow w g m (fun _=>none)
def gR (B m:Nat):GPost:=⟨fun v=>∃g,v=.slice (some ⟨g,0,none⟩) m m,Tt B m,⟨_,0,rfl⟩,fun _ _ _ hb h=>by
 obtain⟨g,h1,h2,h3⟩:=h;exact⟨g,h1,h2,h3.grow hb⟩,true⟩
theorem RH {o:Oper} {a:Act} {w:World} {B m:Nat} {l c:Operand} (hop:o.op=Op.makeSlice 172 l c) (hl:a.eval l=.int .i64 (m:Int)) (hc:a.eval c=.int .i64 (m:Int)) (hm:m≤1000) (hB:B≤w.heap.size):jv Tryz.prog o a (gR B m) w:=by
 obtain⟨iE,GX,pX,pW,sk⟩:=info_parts pV;obtain⟨w',ki,r1,r2⟩:=run_make_full (P:=Tryz.prog) w w.heap.size 172 223 iE (.agg (zD false none 0 0 false none 0 0)) 4 Tryz.underlying172 GX pX pW .i64 .i64 m (by rw[sk];omega) (by unfold maxLen;omega) (Nat.le_refl _);have hb:Below w.heap.size w w':=(yB _ _).grown r2 (yA _) (fun k hk=>by cases hk);have hR:=ExRow.made r1;refine⟨_,w',?_,hb,⟨_,rfl⟩,⟨_,rfl,hB,hR⟩,fun _=>⟨w.heap.size,rfl,yA _,hR.lt⟩⟩
 simp[execOp,hop,hl,hc,ki,Result.andThen]
theorem MomSt.set4 {w wr:World} {b:BeamT} {bx:Array Value} {g5 g6 g:Nat} {cs:Array Value} (h:MomSt w wr b bx g5 g6) (hg:Blk wr g 223 cs) (h0:w.heap.size<g) (h5:g≠g5) (h6:g≠g6) (o:Nat) (x0 x1 x2 x3:Value) :
  MomSt w ((((wr.setCell ⟨g,o,none⟩ x0).setCell ⟨g,o+1,none⟩ x1).setCell ⟨g,o+2,none⟩ x2).setCell ⟨g,o+3,none⟩ x3) b bx g5 g6 :=
 ⟨h.bm.far4o (Nat.ne_of_lt h0) _ _ _ _ _,h.fst.far hg (Ne.symm h5) _ _ _ _ _,h.lst.far hg (Ne.symm h6) _ _ _ _ _,dI h.bel (YG h0) _ _ _ _ _,h.n5,h.n6,h.n56⟩
structure MomRows (w wr:World) (b:BeamT) (bx:Array Value) (g5 g6 go gd gr:Nat) (fo fd fr:Nat→Option Rat):Prop where
 st:MomSt w wr b bx g5 g6
 o:ExRow wr go b.sup.length fo
 dia:ExRow wr gd b.sup.length fd
 rgt:ExRow wr gr b.sup.length fr
 lo:w.heap.size<go∧w.heap.size<gd∧w.heap.size<gr
 no:go≠g5∧go≠g6
 nd:gd≠g5∧gd≠g6
 nr:gr≠g5∧gr≠g6
 ne:go≠gd∧go≠gr∧gd≠gr
theorem gJ (f:Nat→Option Rat) (i:Nat) (q:Rat):eu f i q i=some q:=if_pos rfl
theorem vz (f:Nat→Option Rat) {i j:Nat} (q:Rat) (h:j≠i):eu f i q j=f j:=if_neg h
theorem gK (f:Nat→Option Rat) (i:Nat) (p q:Rat):eu (eu f i p) i q=eu f i q:=by
 funext j
 unfold eu;split <;> rfl
def gG (f:Nat→Rat) (i:Nat):Nat→Option Rat:=fun j=>if 1≤j∧j<i then some (f j) else none
theorem lV (f:Nat→Rat) {i:Nat} (hi:1≤i):gG f (i+1)=eu (gG f i) i (f i):=by
 funext j
 unfold gG eu;by_cases e:j=i
 ·subst e;rw[if_pos rfl,if_pos ⟨hi,by omega⟩]
 rw[if_neg e];dsimp only
 by_cases h:1≤j∧j<i
 ·rw[if_pos h,if_pos ⟨h.1,by omega⟩]
 rw[if_neg h,if_neg (fun h2=>h ⟨h2.1,by omega⟩)]
theorem qw (f:Nat→Rat) {i j:Nat} (h1:1≤j) (h2:j<i):gG f i j=some (f j):=if_pos ⟨h1,h2⟩
theorem xC (f:Nat→Rat):gG f 1=fun _=>none:=by
 funext j
 exact if_neg (by omega)
theorem Sk (b:BeamT) {i:Nat} (hi:2≤i):bN b i=((2*(bk b i+bk b (i+1)):Int):Rat)-((bk b i:Int):Rat)/bN b (i-1)*((bk b i:Int):Rat):=by
 obtain⟨j,rfl⟩:∃j,i=j+2:=⟨i-2,by omega⟩;rfl
theorem Ue (b:BeamT) {i:Nat} (hi:2≤i):gS b i=jS b i-((bk b i:Int):Rat)/bN b (i-1)*gS b (i-1):=by
 obtain⟨j,rfl⟩:∃j,i=j+2:=⟨i-2,by omega⟩;rfl
section
variable {w wr w':World} {b:BeamT} {bx:Array Value} {g5 g6 go gd gr:Nat} {fo fd fr:Nat→Option Rat}
theorem MomRows.grow (h:MomRows w wr b bx g5 g6 go gd gr fo fd fr) (hb:Below wr.heap.size wr w'):MomRows w w' b bx g5 g6 go gd gr fo fd fr :=
 ⟨h.st.grow hb,h.o.grow hb,h.dia.grow hb,h.rgt.grow hb,h.lo,h.no,h.nd,h.nr,h.ne⟩
theorem MomRows.alloc (h:MomRows w wr b bx g5 g6 go gd gr fo fd fr) (o:Obj):MomRows w (wr.alloc o) b bx g5 g6 go gd gr fo fd fr:=h.grow ((yB _ _).alloc (yA _) _)
theorem MomRows.drew (h:MomRows w wr b bx g5 g6 go gd gr fo fd fr) (n:Nat):MomRows w (wr.drewN n) b bx g5 g6 go gd gr fo fd fr:=h.grow (Zf (yB _ _) n)
variable {b1:Bool} {A1:Option Addr} {l1 c1:Nat} {b2:Bool} {A2:Option Addr} {l2 c2:Nat} {q:Rat}
theorem MomRows.putD (h:MomRows w wr b bx g5 g6 go gd gr fo fd fr) {i:Nat} (hi:i<b.sup.length) (hE:ExactAt wr (.agg (zD b1 A1 l1 c1 b2 A2 l2 c2)) q) :
  MomRows w ((((wr.setCell ⟨gd,i*4,none⟩ (.bool b1)).setCell ⟨gd,i*4+1,none⟩ (.slice A1 l1 c1)).setCell ⟨gd,i*4+2,none⟩ (.bool b2)).setCell ⟨gd,i*4+3,none⟩ (.slice A2 l2 c2)) b bx g5 g6 go gd gr fo (eu fd i q) fr:=by
 obtain⟨cs,hg⟩:=h.dia.blk;exact⟨h.st.set4 hg h.lo.2.1 h.nd.1 h.nd.2 _ _ _ _ _,h.o.far hg h.ne.1 _ _ _ _ _,h.dia.write hi hE,h.rgt.far hg (Ne.symm h.ne.2.2) _ _ _ _ _,h.lo,h.no,h.nd,h.nr,h.ne⟩
theorem MomRows.farB (h:MomRows w wr b bx g5 g6 go gd gr fo fd fr) {g:Nat} {cs:Array Value} (hg:Blk wr g 223 cs) (h0:∀x∈[w.heap.size,g5,g6,go,gd,gr],x<g) (x0 x1 x2 x3:Value) :
  MomRows w ((((wr.setCell ⟨g,0,none⟩ x0).setCell ⟨g,1,none⟩ x1).setCell ⟨g,2,none⟩ x2).setCell ⟨g,3,none⟩ x3) b bx g5 g6 go gd gr fo fd fr:=by
 have k:=fun x (hx:x∈[w.heap.size,g5,g6,go,gd,gr])=>h0 x hx;exact⟨h.st.set4 hg (k _ (by simp)) (Nat.ne_of_gt (k _ (by simp))) (Nat.ne_of_gt (k _ (by simp))) 0 _ _ _ _,h.o.far hg (Nat.ne_of_lt (k _ (by simp))) 0 _ _ _ _,h.dia.far hg (Nat.ne_of_lt (k _ (by simp))) 0 _ _ _ _,h.rgt.far hg (Nat.ne_of_lt (k _ (by simp))) 0 _ _ _ _,h.lo,h.no,h.nd,h.nr,h.ne⟩
theorem MomRows.all_lt (h:MomRows w wr b bx g5 g6 go gd gr fo fd fr) {B:Nat} (hB:wr.heap.size≤B):∀x∈[w.heap.size,g5,g6,go,gd,gr],x<B:=fun x hx=>by
 have k1:=h.st.bm.lt;obtain⟨_,_,_,_,_,_,_,_,k2,-⟩:=h.st.fst;obtain⟨_,_,_,_,_,_,_,_,k3,-⟩:=h.st.lst;have k2:=k2.lt;have k3:=k3.lt;have k4:=h.o.lt;have k5:=h.dia.lt;have k6:=h.rgt.lt;simp at hx;omega
theorem MomRows.putR (h:MomRows w wr b bx g5 g6 go gd gr fo fd fr) {i:Nat} (hi:i<b.sup.length) (hE:ExactAt wr (.agg (zD b1 A1 l1 c1 b2 A2 l2 c2)) q) :
  MomRows w ((((wr.setCell ⟨gr,i*4,none⟩ (.bool b1)).setCell ⟨gr,i*4+1,none⟩ (.slice A1 l1 c1)).setCell ⟨gr,i*4+2,none⟩ (.bool b2)).setCell ⟨gr,i*4+3,none⟩ (.slice A2 l2 c2)) b bx g5 g6 go gd gr fo fd (eu fr i q):=by
 obtain⟨cs,hg⟩:=h.rgt.blk;exact⟨h.st.set4 hg h.lo.2.2 h.nr.1 h.nr.2 _ _ _ _ _,h.o.far hg h.ne.2.1 _ _ _ _ _,h.dia.far hg h.ne.2.2 _ _ _ _ _,h.rgt.write hi hE,h.lo,h.no,h.nd,h.nr,h.ne⟩
theorem MomRows.putO (h:MomRows w wr b bx g5 g6 go gd gr fo fd fr) {i:Nat} (hi:i<b.sup.length) (hE:ExactAt wr (.agg (zD b1 A1 l1 c1 b2 A2 l2 c2)) q) :
  MomRows w ((((wr.setCell ⟨go,i*4,none⟩ (.bool b1)).setCell ⟨go,i*4+1,none⟩ (.slice A1 l1 c1)).setCell ⟨go,i*4+2,none⟩ (.bool b2)).setCell ⟨go,i*4+3,none⟩ (.slice A2 l2 c2)) b bx g5 g6 go gd gr (eu fo i q) fd fr:=by
 obtain⟨cs,hg⟩:=h.o.blk;exact⟨h.st.set4 hg h.lo.1 h.no.1 h.no.2 _ _ _ _ _,h.o.write hi hE,h.dia.far hg (Ne.symm h.ne.1) _ _ _ _ _,h.rgt.far hg (Ne.symm h.ne.2.1) _ _ _ _ _,h.lo,h.no,h.nd,h.nr,h.ne⟩
end
def pg (b:BeamT) (i:Nat):Nat→Option Rat:=fun j=>if j=0∨i<j then some (Zx b j) else none
theorem DX (b:BeamT) (hm:2≤b.sup.length) {j:Nat} {q:Rat} (hj:j<b.sup.length) (h:pg b (b.sup.length-2) j=some q):eu (eu (fun _=>none) 0 (bG b)) (b.sup.length-1) (bG (ao b)) j=some q:=by
 unfold pg at h;split at h
 ·rename_i hc
  rw[←h];unfold eu Zx;by_cases e:j=b.sup.length-1
  ·rw[if_pos e,if_neg (by omega),e,Nat.sub_self];rfl
  rw[if_neg e];dsimp only
  rw[if_pos (by omega),if_pos (by omega)]
 cases h
theorem Ix (b:BeamT) {i:Nat} (hi:1≤i):eu (pg b i) i (Zx b i)=pg b (i-1):=by
 funext j
 unfold eu pg;by_cases e:j=i
 ·subst e;rw[if_pos rfl,if_pos (.inr (by omega))]
 rw[if_neg e];by_cases h:j=0∨i<j
 ·rw[if_pos h,if_pos (by omega)]
 rw[if_neg h,if_neg (by omega)]
theorem SE (b:BeamT) {i j:Nat} (h:i<j):pg b i j=some (Zx b j):=if_pos (.inr h)
theorem LK (b:BeamT) {j:Nat} {q:Rat} (h:(rX b)[j]?=some q):pg b 0 j=some q:=by
 unfold rX at h;rw[YC] at h
 cases hj:(List.range b.sup.length)[j]? with
 | none=>rw[hj] at h;cases h
 | some x=>
  rw[hj] at h;obtain⟨h1,h2⟩:=List.getElem?_eq_some_iff.1 hj;simp only[List.getElem_range] at h2;subst h2;unfold pg;rw[if_pos (by omega)];exact h
theorem Q6 (b:BeamT) {i:Nat} (h1:1≤i) (h2:i+1<b.sup.length):Zx b i=(gS b i-Zx b (i+1)*((bk b (i+1):Int):Rat))/bN b i:=by
 obtain⟨j,hj⟩:∃j,b.sup.length-1-i=j+1:=⟨b.sup.length-2-i,by omega⟩;unfold Zx;rw[if_neg (by omega),if_neg (by omega),hj];have e1:b.sup.length-2-j=i:=by omega
 have e2:b.sup.length-1-j=i+1:=by omega
 have e3:b.sup.length-1-(i+1)=j:=by omega
 rw[e3];show (gS b (b.sup.length-2-j)-wF b j*((bk b (b.sup.length-1-j):Int):Rat))/bN b (b.sup.length-2-j)=_;rw[e1,e2]
theorem MomRows.weakO {w wr:World} {b:BeamT} {bx:Array Value} {g5 g6 go gd gr:Nat} {fo fd fr f':Nat→Option Rat} (h:MomRows w wr b bx g5 g6 go gd gr fo fd fr) (hf:∀j q,j<b.sup.length→f' j=some q→fo j=some q):MomRows w wr b bx g5 g6 go gd gr f' fd fr :=
 ⟨h.st,h.o.weak hf,h.dia,h.rgt,h.lo,h.no,h.nd,h.nr,h.ne⟩
theorem qL (b:BeamT):(rX b).length=b.sup.length:=by simp[rX]
theorem DT (v:Value) (b:BeamT) (a:Int) (w:World) (hv:BeamAt w w.heap.size v b) (hb:BeamOk b) (Hj:0≤a) (UV:a≤b.len):Calls Tryz.prog 197 #[v,.int .i64 a] w (MakesE (eh b a) w):=by
 obtain⟨As,cs,Al,cl,rfl,hS,hL⟩:=hv;obtain⟨_,_,e,_,dR,nQ⟩:=hL.open_;injection e with e1 _ e2;subst e1 e2;have h2:=hb.loads1;have h3:=hb.even;have h5:=hb.len;unfold maxLen at dR;have uw:=zh nQ;have Hb:=zh hb;obtain⟨TD,h32⟩:=h3;obtain⟨XH,Vb⟩:=h5;clear nQ hb hS hL;go_enter Tryz.func197,Tryz.ntmps197;go_wp2_with fail;have hI:=im ((w.alloc (.cells (zC b As cs Al cl) 117)).alloc (.cells (zD false none 0 0 false none 0 0) 223)) 3 [b.even,a] (yU rfl)
 have fO:((w.alloc (.cells (zC b As cs Al cl) 117)).alloc (.cells (zD false none 0 0 false none 0 0) 223)).heap.size=w.heap.size+1+1:=by simp
 rw[fO] at hI;refine (fV 1000 _ [b.even,a] _ hI (yU rfl) (fun x hx=>?_) (by decide) (by decide)).mono ?_
 ·simp at hx;omega
 rintro e w1 ⟨lE,v1,rfl,kh⟩;obtain⟨m1,B1,k1,d1,m2,B2,k2,d2,rfl,-,-⟩:=kh.form;have qV:=((yB _ ((w.alloc (.cells (zC b As cs Al cl) 117)).alloc (.cells (zD false none 0 0 false none 0 0) 223))).alloc (yA _) (.cells #[.int .i64 b.even,.int .i64 a] 3)).trans (lE.mono (by simp));rw[fO] at qV;have aW:=zh (SumSt.start qV kh);have q3:=aW.o.bm.cell 3;simp only[aB,aD,aA] at q3;have HH:Y0 (ef b a 0=Zu 1000 [b.even,a]):=rfl
 clear hI fO lE kh qV;go_wp2_with fail;generalize w1.heap.size=Ds at*;rw[←HH.o] at aW;clear HH q3;go_loopw [16] (fun ix wr=>∃k:Nat,k≤b.loads.length∧ix=.int .i64 k∧Y0 (SumSt w wr (zC b As cs Al cl) Ds (ef b a k))) (fun ix _=>b.loads.length-(intOf ix).toNat)
 case atStart=>exact⟨0,yI _,rfl,aW⟩
 clear aW;obtain⟨k,hk,rfl,aW⟩:=hrel;have k0:(0:Int)≤(k:Int):=yE _;by_cases aK:k<b.loads.length
 ·have k1:(k:Int)<(b.loads.length:Int):=by omega
  obtain⟨b2,o2,rfl,aI,dR⟩:=uw.o k aK;obtain⟨cG,dc⟩:=dR k aK;have cG:=(aW.o.bel.cell (p:=⟨b2,o2+k*2,none⟩) aI).trans cG;have dc:=(aW.o.bel.cell (p:=⟨b2,o2+k*2+1,none⟩) aI).trans dc;obtain⟨p1,p2,p3,p4⟩:=Hb.o.loads _ (yV aK);have gZ:=zh (Zl (b:=b) (f:=eC a) (s:=Zu 1000 [b.even,a]) aK);have Mc:=zh (kJ Hb.o Hj UV (YG aK));have ey:=zh (aW.o.alloc (.cells #[.int .i64 b.loads[k].pos,.int .i64 b.loads[k].wt] 115))
  clear dR;generalize b.loads[k]=x at*;obtain⟨pos,wt⟩:=x;simp only at cG dc p1 p2 p3 p4 ey;by_cases pY:pos<a
  ·have HT:Y0 (ef b a (k+1)=ef b a k+((wt:Int):Rat)):=by
    unfold Y0 ef;rw[gZ.o];unfold eC;simp only[if_pos pY]
   have hd:decide (pos<a)=true:=yD pY;have xy:Y0 (cg ((wt:Int):Rat) 5):=tP (x:=⟨pos,wt⟩) ⟨p3,p4⟩;clear gZ;go_wp2_with fail;obtain⟨li,lk,kY,lg,lh,lj,kX,lf,hB,hE⟩:=ey.o.sum;obtain⟨y0,y1,y2,y3⟩:=hB.c4;have HE:=zh hE;have jE:=zh ey.o.bel;have z:=Blk.new wr 115 #[.int .i64 pos,.int .i64 wt];obtain⟨z0,z1⟩:=z.c2;clear hB hE z cG dc;generalize wr.alloc (.cells #[.int .i64 pos,.int .i64 wt] 115)=W1 at*;have u0:=YL y0
   have u1:=YL y1;have u2:=YL y2;have u3:=YL y3;have u4:=YL z0;have u5:=YL z1;clear y0 y1 y2 y3 z0 z1;refine af 5 (fun i=>if i=3 then some (gE (((wt:Int):Rat))) else if i=4 then some (gE (ef b a k+((wt:Int):Rat))) else none) (by kernel_rfl) (by kernel_rfl) ?_;simp only[aO,aR,aP,aQ];refine zw 3 ?_;simp only[aO,aR,aP,aQ]
   repeat (go_big_quiet_step (fail))
   refine YE ?_;refine ae rfl rfl ?_ ?_
   ·intro w1 ak hk;have hb:=(jE.o).trans (ak.mono (jE.o).size);have hC:=MakesE.g (fU wt w1 (by omega) (by omega));exact zc hC
   rintro _ ⟨Oz,O1,Ov,Ox,Oy,O0,Ou,Ow,rfl⟩;simp only[Act.put,aw,av,au];refine ae rfl rfl ?_ ?_
   ·intro w1 ak hk;have hb:=(jE.o).trans (ak.mono (jE.o).size);have h27:ExactAt w1 (.agg (zD Oz O1 Ov Ox Oy O0 Ou Ow)) (((wt:Int):Rat)):=hk 27 (by decide);have hC:=MakesE.g (fA _ _ _ _ 245 5 w1 (HE.o.grow ak) h27 Mc.o xy.o (by decide));exact zc hC
   rintro _ ⟨qv5,qv7,qv1,qv3,qv4,qv6,qv0,qv2,rfl⟩;simp only[Act.put,aw,av,au];refine Zc ?_;intro w8 aT hF;have h28:ExactAt w8 (.agg (zD qv5 qv7 qv1 qv3 qv4 qv6 qv0 qv2)) (ef b a k+((wt:Int):Rat)):=hF 28;have HL:=zh h28;have dv:=zh (ey.o.grow aT);obtain⟨_,_,_,_,_,_,_,_,h1,-⟩:=dv.o.sum;have q0:=h1.cell 0;have q1:=h1.cell 1;have q2:=h1.cell 2;have q3:=h1.cell 3;have f0:=h1.frozen 0;have f1:=h1.frozen 1
   have f2:=h1.frozen 2;have f3:=h1.frozen 3;simp only[aB,aD,aA] at q0 q1 q2 q3;rw[←HT.o] at HL;clear hF u0 u1 u2 u3 u4 u5 aT h28 h1 HE jE ey aW;go_wp2_with fail;have mQ:=zh (dv.o.put HL.o);clear q0 q1 q2 q3 f0 f1 f2 f3 HL dv;go_roundw
   case rel=>exact⟨k+1,by omega,by go_num,mQ⟩
   simp[intOf];omega
  have hd:decide (pos<a)=false:=yC pY;have HT:Y0 (ef b a (k+1)=ef b a k):=by
   unfold Y0 ef;rw[gZ.o];unfold eC;simp only[if_neg pY]
  rw[←HT.o] at ey;clear gZ aW;go_wp2_with fail;go_roundw
  case rel=>exact⟨k+1,by omega,by go_num,ey⟩
  simp[intOf];omega
 obtain rfl:k=b.loads.length:=by omega
 have ey:=aW;obtain⟨li,lk,kY,lg,lh,lj,kX,lf,hB,hE⟩:=ey.o.sum;obtain⟨y0,y1,y2,y3⟩:=hB.c4;have HE:=zh hE;have jE:=zh ey.o.bel;have q0:=aW.o.res.cell 0;have q1:=aW.o.res.cell 1;have q2:=aW.o.res.cell 2;have q3:=aW.o.res.cell 3;have f0:=aW.o.res.frozen 0;have f1:=aW.o.res.frozen 1;have f2:=aW.o.res.frozen 2;have f3:=aW.o.res.frozen 3;simp only[aB,aD,aA] at q0 q1 q2 q3;clear hB hE;go_wp2_with fail;refine YF (v:=.agg (zD li lk kY lg lh lj kX lf)) (by simp[results,Tryz.results197,go_sem,q0,q1,q2,q3]) rfl ?_
 exact⟨bI jE.o (by omega) _ _ _ _,_,rfl,HE.o.stored aW.o.res _ _ _ _⟩
