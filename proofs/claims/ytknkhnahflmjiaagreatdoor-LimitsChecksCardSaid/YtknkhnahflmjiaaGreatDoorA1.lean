/- Lemmas. -/
import Derived.IntWalk
import Derived.BigQuiet
import Derived.Deep.AppendLies
import Derived.Deep.LoopGhost
import Derived.Lib.Hide
import Derived.PlainAid
import Derived.Shelf.Abstract
import Derived.StillTailTactics
import Derived.Test.YtknkhnahflmjiaaGreatDoorProg
import Derived.WalkLawsBesides
import Derived.WalkSpells
namespace Go.Proofs.YtknkhnahflmjiaaGreatDoor
set_option maxRecDepth 100000
set_option maxHeartbeats 40000000
open Go.RowKit Go.Shelf
theorem zo {α:Type} (e:α):∃x,e=x:=⟨e,rfl⟩
abbrev zD (p:Bool) (a:Option Addr) (l b:Nat) (q:Bool) (c:Option Addr) (m d:Nat):Array Value:=#[.bool p,.slice a l b,.bool q,.slice c m d]
abbrev zE:Array Value:=#[.string ⟨#[]⟩,.int .i64 0,.int .i64 0,.int .i64 0,.int .i64 0,.slice none 0 0,.int .i64 0,.int .i64 0,.int .i64 0,.int .i64 0,.int .i64 0,.slice none 0 0,.slice none 0 0]
abbrev zF:List Value:=[.string ⟨#[]⟩,.int .i64 0,.int .i64 0,.int .i64 0,.int .i64 0,.slice none 0 0,.int .i64 0,.int .i64 0,.int .i64 0,.int .i64 0,.int .i64 0,.slice none 0 0,.slice none 0 0]
theorem zb {α:Type} [BEq α] [LawfulBEq α] {a b:α} (h:a≠b):(a==b)=false:=beq_eq_false_iff_ne.2 h
abbrev yA:=@Nat.le_refl
abbrev yB:=@Below.refl
abbrev yC:=@decide_eq_false
abbrev yD:=@decide_eq_true
abbrev yE:=@Int.natCast_nonneg
abbrev yF:=@IntWalk.i64_in
abbrev yG:=@of_decide_eq_true
abbrev yH:=@Nat.le_trans
abbrev yI:=@Nat.zero_le
abbrev yJ:=@World.ownsRow_nil
abbrev yK:=@Nat.lt_of_lt_of_le
abbrev yL:=@World.news_of_block
abbrev yM:=@Bool.eq_false_or_eq_true
abbrev yN:=@List.getElem?_eq_getElem
abbrev yO:=@List.getD_eq_getElem?_getD
abbrev yP:=@decide_eq_true_iff
abbrev yQ:=@List.length_map
abbrev yR:=@List.length_append
abbrev yS:=@Nat.zero_add
abbrev yT:=@List.take_length
abbrev yU:=@Nat.le_of_ble_eq_true
abbrev yV:=@List.getElem_mem
abbrev yW:=@Nat.pow_succ
abbrev yX:=@Nat.mul_add
abbrev yY:=@Nat.mul_assoc
abbrev yZ:=@World.size_alloc
abbrev YA:=@List.length_take
abbrev YB:=@Nat.div_div_eq_div_mul
abbrev YC:=@List.getElem?_map
abbrev YD:=@decide_eq_false_iff_not
abbrev YE:=@wpQuiet_nil
abbrev YF:=@bodyPost_ret
abbrev YG:=@Nat.le_of_lt
abbrev YH:=@Nat.le_succ
abbrev YI:=@Nat.div_add_mod
abbrev YJ:=@Nat.mod_lt
abbrev YK:=@Nat.div_le_self
def Y0 (p:Prop):Prop:=p
theorem Y0.o {p:Prop} (h:Y0 p):p:=h
theorem zh {p:Prop} (h:p):Y0 p:=h
theorem aB {α:Type} {l:List α} {i:Nat}:l.toArray[i]?=l[i]?:=List.getElem?_toArray
theorem aD {α:Type} {a:α} {l:List α} {i:Nat}:(a::l)[i+1]?=l[i]?:=List.getElem?_cons_succ
theorem aA {α:Type} {a:α} {l:List α}:(a::l)[0]?=some a:=List.getElem?_cons_zero
theorem aO {α:Type} {a:α} {l:List α} {i:Nat}:(a::l).take (i+1)=a::l.take i:=rfl
theorem aR {α:Type} {l:List α}:l.take 0=[]:=List.take_zero
theorem aP {α:Type} {a:α} {l:List α} {i:Nat}:(a::l).drop (i+1)=l.drop i:=rfl
theorem aQ {α:Type} {l:List α}:l.drop 0=l:=rfl
theorem aw {α:Type} {l:List α} {i:Nat} {a:α}:l.toArray.setIfInBounds i a=(l.set i a).toArray:=List.setIfInBounds_toArray ..
theorem av {α:Type} {a b:α} {l:List α}:(a::l).set 0 b=b::l:=rfl
theorem au {α:Type} {a b:α} {l:List α} {i:Nat}:(a::l).set (i+1) b=a::l.set i b:=rfl
instance:BEq ByteArray:=⟨fun a b=>decide (a=b)⟩
instance:LawfulBEq ByteArray where
 eq_of_beq {a b} h:=by simpa using yG h
 rfl {a}:=yD rfl
theorem qA (a b:ByteArray):(a.toList==b.toList)=decide (a=b):=by
 rw[Go.ByteArray.toList_eq,Go.ByteArray.toList_eq,Bool.eq_iff_iff];cases a;cases b;simp
theorem Zf {B:Nat} {a w:World} (h:Below B a w) (n:Nat):Below B a (w.drewN n):=⟨h.os,h.tape,h.output,h.size,h.block⟩
theorem q1 {w:World} {n:Nat}:∃k,w.drewN k=w.drewN n:=⟨_,rfl⟩
theorem q2 {w:World} {n m:Nat}:∃k,w.drewN k=(w.drewN n).drewN m:=⟨n+m,(World.drewN_drewN ..).symm⟩
theorem pH {P:Program} {f:FuncId} {args:Array Value} {w:World} {n:Nat} {v:Value}
  (h:Calls P f args (w.drewN n) fun e w'=>e=.returned v∧w.drewN n=w'):Calls P f args (w.drewN n) fun e kS=>e=.returned v∧∃m,kS=w.drewN m :=
 h.mono fun _ _ ⟨he,hm⟩=>⟨he,n,hm.symm⟩
theorem C1 {P:Program} {f:FuncId} {args:Array Value} {w:World} {n:Nat} {v:Value}
  (h:Calls P f args (w.drewN n) fun e w'=>e=.returned v∧∃m,(w.drewN n).drewN m=w'):Calls P f args (w.drewN n) fun e kS=>e=.returned v∧∃m,kS=w.drewN m :=
 h.mono fun _ _ ⟨he,m,hm⟩=>⟨he,n+m,by rw[←hm,World.drewN_drewN]⟩
theorem o8 {P:Program} {f:FuncId} {args:Array Value} {w:World} {a n:Nat} {v:Value}
  (h:Calls P f args (w.drewN (a+n)) fun e w'=>e=.returned v∧w.drewN (a+n)=w'):Calls P f args (w.drewN (a+n)) fun e kS=>e=.returned v∧∃m,kS=w.drewN (a+m) :=
 h.mono fun _ _ ⟨he,hm⟩=>⟨he,n,hm.symm⟩
theorem jQ {P:Program} {ops:Array Oper} {W:World} {Q:Act→Prop}:∀(l:List Oper) (a:Act),wpQuiet P ops (fun w'=>w'=W) Q l a→wpStill P ops W Q l a
 | [],_,h=>h
 | o::rest,a,h=>by
  unfold wpQuiet at h;unfold wpStill;split
  ·rename_i hw
   rw[if_pos hw] at h;obtain⟨v,h1,h2⟩:=h;have h3:=h1 W rfl;have h4:=jQ rest _ h2;unfold Oper.quietAt at h3;unfold Oper.still;generalize (execOp a.eval o).run P W=r at*
   cases r with
   | ok n w'=>
    cases n <;> simp only[Oper.quietUpon] at h3 <;> simp only[Oper.stillUpon]
    case value u=>obtain⟨rfl,rfl⟩:=h3;exact⟨rfl,h4⟩
    case skip=>obtain⟨rfl,rfl⟩:=h3;exact⟨rfl,h4⟩
    case enter f args=>obtain⟨rfl,hc⟩:=h3;exact⟨rfl,_,hc,h4⟩
   | halt x w'=>simp only[Oper.quietUpon] at h3
  rename_i hw
  rw[if_neg hw] at h;exact jQ rest _ h
theorem hU {P:Program} {id:Nat} {Q:Exit→Act→World→Prop} {a:Act} {w:World} {l:List Oper} (n:Nat) (hm:P.follows .mixedOrders=true) (hB:Region.lexTailB .any l.toArray n=true)
  (h:wpQuiet P l.toArray (fun w'=>w'=w.drew) (fun a'=>wpList P l.toArray Q (l.drop n) a' w.drew) (l.take n) a):(Code.region id l.toArray true).wp P Q a w :=
 wp_region_still_tail n hm hB (jQ _ _ h)
def Flat (w:World) (B:Nat) (v:Value) (n:Nat) (xs:List Value):Prop :=
 ∃A c,v=.slice A n c∧n≤c∧c≤maxLen∧(0<n→∃b off,A=some ⟨b,off,none⟩∧b<B∧∀(j:Nat) u,xs[j]?=some u→w.cell? ⟨b,off+j,none⟩=some u)
theorem Flat.below {w w':World} {B B' n:Nat} {v:Value} {xs:List Value} (h:Flat w B v n xs) (hb:Below B' w w') (hB:B≤B'):Flat w' B v n xs:=by
 obtain⟨A,c,h1,h2,h3,h4⟩:=h;refine⟨A,c,h1,h2,h3,fun hn=>?_⟩;obtain⟨b,off,e,aI,hc⟩:=h4 hn;exact⟨b,off,e,aI,fun j u hu=>(hb.cell (p:=⟨b,off+j,none⟩) (yK aI hB)).trans (hc j u hu)⟩
theorem Flat.mono {w:World} {B B' n:Nat} {v:Value} {xs:List Value} (h:Flat w B v n xs) (hB:B≤B'):Flat w B' v n xs:=by
 obtain⟨A,c,h1,h2,h3,h4⟩:=h;refine⟨A,c,h1,h2,h3,fun hn=>?_⟩;obtain⟨b,off,e,aI,hc⟩:=h4 hn;exact⟨b,off,e,yK aI hB,hc⟩
theorem Flat.of_own {w:World} {base e size n:Nat} {v:Value} {xs:List Value} (h:w.ownsRow base e size v n xs):Flat w w.heap.size v n xs:=by
 obtain⟨hl,⟨rfl,rfl⟩|⟨g,cap,cur,rfl,hb,hg,hnc,UO,oR,ht⟩⟩:=h
 ·exact⟨none,0,rfl,yA _,yI _,fun h=>absurd h (by omega)⟩
 refine⟨_,_,rfl,hnc,UO,fun _=>⟨g,0,rfl,(Array.getElem?_eq_some_iff.1 hg).1,fun j u hu=>?_⟩⟩;rw[yS,cell_of_row w g j cur e (0,0) hg];rw[←ht,List.getElem?_take] at hu;split at hu
 ·simpa using hu
 cases hu
def RowAt {α:Type} (enc:α→Value) (w:World) (B:Nat) (v:Value) (l:List α):Prop:=Flat w B v l.length (l.map enc)
abbrev SQ:=@RowAt ByteArray Value.string
abbrev ct:=@RowAt Int (Value.int .i64)
section
variable {α:Type} {enc:α→Value} {w w':World} {B B':Nat} {v:Value} {l:List α}
theorem RowAt.below (h:RowAt enc w B v l) (hb:Below B' w w') (hB:B≤B'):RowAt enc w' B v l:=Flat.below h hb hB
theorem RowAt.mono (h:RowAt enc w B v l) (hB:B≤B'):RowAt enc w B' v l:=Flat.mono h hB
theorem RowAt.of_own {base e n:Nat} (h:w.ownsRow base e 1 v n (l.map enc)):RowAt enc w w.heap.size v l:=by
 have hn:n=l.length:=by have:=h.1;simp at this;omega
 subst hn;exact Flat.of_own h
theorem RowAt.open_ (h:RowAt enc w B v l) :
  ∃A c,v=.slice A l.length c∧l.length≤c∧c≤maxLen∧∀k (_:k<l.length),∃b off,A=some ⟨b,off,none⟩∧b<B∧∀j (hj:j<l.length),w.cell? ⟨b,off+j,none⟩=some (enc l[j]):=by
 obtain⟨A,c,h1,h2,h3,h4⟩:=h;refine⟨A,c,h1,h2,h3,fun k hk=>?_⟩;obtain⟨b,off,e,aI,hc⟩:=h4 (by omega);exact⟨b,off,e,aI,fun j hj=>hc j (enc l[j]) (by simp[hj])⟩
end
structure Task where
 name:ByteArray
 len:Int
 crew:Int
 pow:Int
 ba:Option Addr
 bc:Nat
 bef:List ByteArray
abbrev Task.bv (t:Task):Value:=.slice t.ba t.bef.length t.bc
def Task.cells (t:Task):List Value:=[.string t.name,.int .i64 t.len,.int .i64 t.crew,.int .i64 t.pow,.slice t.ba t.bef.length t.bc]
def Task.val (t:Task):Value:=.agg #[.string t.name,.int .i64 t.len,.int .i64 t.crew,.int .i64 t.pow,.slice t.ba t.bef.length t.bc]
structure Task.ok (t:Task):Prop where
 name:t.name.size≤maxLen
 bef:∀s∈t.bef,s.size≤maxLen
 len : -9223372036854775808≤t.len∧t.len≤9223372036854775807
 crew : -9223372036854775808≤t.crew∧t.crew≤9223372036854775807
 pow : -9223372036854775808≤t.pow∧t.pow≤9223372036854775807
def TasksAt (w:World) (B:Nat) (v:Value) (l:List Task):Prop:=Flat w B v l.length (l.flatMap Task.cells)∧(∀t∈l,SQ w B t.bv t.bef)∧∀t∈l,t.ok
theorem TasksAt.below {w w':World} {B B':Nat} {v:Value} {l:List Task} (h:TasksAt w B v l) (hb:Below B' w w') (hB:B≤B'):TasksAt w' B v l :=
 ⟨h.1.below hb hB,fun t ht=>(h.2.1 t ht).below hb hB,h.2.2⟩
theorem TasksAt.mono {w:World} {B B':Nat} {v:Value} {l:List Task} (h:TasksAt w B v l) (hB:B≤B'):TasksAt w B' v l :=
 ⟨h.1.mono hB,fun t ht=>(h.2.1 t ht).mono hB,h.2.2⟩
theorem TasksAt.drewN {w:World} {B:Nat} {v:Value} {l:List Task} (h:TasksAt w B v l) (n:Nat):TasksAt (w.drewN n) B v l:=h.below (Zf (yB _ _) n) (yA _)
theorem RP (l:List Task) (j i:Nat) (hj:j<l.length) (hi:i<5):(l.flatMap Task.cells)[j*5+i]?=l[j].cells[i]?:=by
 induction l generalizing j with
 | nil=>simp at hj
 | cons t l ih=>
  have h5:t.cells.length=5:=rfl;rw[List.flatMap_cons]
  cases j with
  | zero=>rw[List.getElem?_append_left (by rw[h5];omega)];simp
  | succ j=>
   rw[List.getElem?_append_right (by rw[h5];omega),h5]
   have:=ih j (by simpa using hj);rw[show (j+1)*5+i-5=j*5+i by omega,this];rfl
def TaskCells (w:World) (b off:Nat) (t:Task):Prop :=
 w.cell? ⟨b,off,none⟩=some (.string t.name)∧w.cell? ⟨b,off+1,none⟩=some (.int .i64 t.len)∧w.cell? ⟨b,off+2,none⟩=some (.int .i64 t.crew) ∧
  w.cell? ⟨b,off+3,none⟩=some (.int .i64 t.pow)∧w.cell? ⟨b,off+4,none⟩=some (.slice t.ba t.bef.length t.bc)
theorem TaskCells.below {w w':World} {B b off:Nat} {t:Task} (h:TaskCells w b off t) (hb:Below B w w') (hB:b<B):TaskCells w' b off t :=
 ⟨(hb.cell (p:=⟨b,off,none⟩) hB).trans h.1,(hb.cell (p:=⟨b,off+1,none⟩) hB).trans h.2.1,(hb.cell (p:=⟨b,off+2,none⟩) hB).trans h.2.2.1,
  (hb.cell (p:=⟨b,off+3,none⟩) hB).trans h.2.2.2.1,(hb.cell (p:=⟨b,off+4,none⟩) hB).trans h.2.2.2.2⟩
theorem TasksAt.open_ {w:World} {B:Nat} {v:Value} {l:List Task} (h:TasksAt w B v l) :
  ∃A c,v=.slice A l.length c∧l.length≤c∧c≤maxLen∧∀k (_:k<l.length),∃b off,A=some ⟨b,off,none⟩∧b<B∧∀j (hj:j<l.length),TaskCells w b (off+j*5) l[j]:=by
 obtain⟨⟨A,c,h1,h2,h3,h4⟩,_⟩:=h;refine⟨A,c,h1,h2,h3,fun k hk=>?_⟩;obtain⟨b,off,e,aI,hc⟩:=h4 (by omega);refine⟨b,off,e,aI,fun j hj=>?_⟩;have f:=fun (i:Nat) (hi:i<5) u (hu:l[j].cells[i]?=some u)=>hc (j*5+i) u ((RP l j i hj hi).trans hu);have g:=fun (i:Nat) (hi:i<5) u (hu:l[j].cells[i]?=some u)=>(congrArg (fun o=>w.cell? ⟨b,o,none⟩) (Nat.add_assoc off (j*5) i)).trans (f i hi u hu);exact⟨g 0 (by omega) _ rfl,g 1 (by omega) _ rfl,g 2 (by omega) _ rfl,g 3 (by omega) _ rfl,g 4 (by omega) _ rfl⟩
theorem TasksAt.bef {w:World} {B:Nat} {v:Value} {l:List Task} (h:TasksAt w B v l) {k:Nat} (hk:k<l.length):SQ w B l[k].bv l[k].bef:=h.2.1 _ (yV hk)
theorem TasksAt.ok {w:World} {B:Nat} {v:Value} {l:List Task} (h:TasksAt w B v l) {k:Nat} (hk:k<l.length):l[k].ok:=h.2.2 _ (yV hk)
theorem C6 {w:World} {B B':Nat} {e size n:Nat} {v:Value} {xs:List Value} (h:w.ownsRow B e size v n xs) (hB:B'≤B):w.ownsRow B' e size v n xs:=by
 refine⟨h.1,?_⟩;rcases h.2 with h'|⟨g,cap,cur,h1,h2,r⟩
 ·exact .inl h'
 exact .inr ⟨g,cap,cur,h1,yH hB h2,r⟩
theorem dX {a b c:World} {row:Option Nat} (h:a.grownBy b row) (k:b.grownBy c row):a.grownBy c row :=
 ⟨k.os.trans h.os,k.tape.trans h.tape,k.output.trans h.output,yH h.size k.size,fun i hi fS=>(k.block i (yK hi h.size) fS).trans (h.block i hi fS)⟩
theorem kH {a b:World} {row:Option Nat} (h:Below a.heap.size a b):a.grownBy b row:=⟨h.os,h.tape,h.output,h.size,fun i hi _=>h.block i hi⟩
theorem DU {a b:World} (h:a.grownBy b none):Below a.heap.size a b:=⟨h.os,h.tape,h.output,h.size,fun i hi=>h.block i hi (by simp)⟩
def Blk (w:World) (g:Nat) (t:TypeId) (cs:Array Value):Prop:=w.heap[g]?=some (.cells cs t (0,0))
section
variable {w w':World} {g:Nat} {t:TypeId} {cs:Array Value}
theorem Blk.lt (h:Blk w g t cs):g<w.heap.size:=(Array.getElem?_eq_some_iff.1 h).1
theorem Blk.cell (h:Blk w g t cs) (i:Nat):w.cell? ⟨g,i,none⟩=cs[i]?:=cell_of_row w g i cs t (0,0) h
theorem Blk.c2 {w:World} {g:Nat} {t:TypeId} {a0 a1:Value} (h:Blk w g t #[a0,a1]):w.cell? ⟨g,0,none⟩=some a0∧w.cell? ⟨g,1,none⟩=some a1:=⟨(h.cell 0).trans rfl,(h.cell 1).trans rfl⟩
theorem Blk.c4 {w:World} {g:Nat} {t:TypeId} {a0 a1 a2 a3:Value} (h:Blk w g t #[a0,a1,a2,a3]):w.cell? ⟨g,0,none⟩=some a0∧w.cell? ⟨g,1,none⟩=some a1∧w.cell? ⟨g,2,none⟩=some a2∧w.cell? ⟨g,3,none⟩=some a3:=⟨(h.cell 0).trans rfl,(h.cell 1).trans rfl,(h.cell 2).trans rfl,(h.cell 3).trans rfl⟩
theorem Blk.c5 {w:World} {g:Nat} {t:TypeId} {a0 a1 a2 a3 a4:Value} (h:Blk w g t #[a0,a1,a2,a3,a4]):w.cell? ⟨g,0,none⟩=some a0∧w.cell? ⟨g,1,none⟩=some a1∧w.cell? ⟨g,2,none⟩=some a2∧w.cell? ⟨g,3,none⟩=some a3∧w.cell? ⟨g,4,none⟩=some a4:=⟨(h.cell 0).trans rfl,(h.cell 1).trans rfl,(h.cell 2).trans rfl,(h.cell 3).trans rfl,(h.cell 4).trans rfl⟩
theorem Blk.c13 {w:World} {g:Nat} {t:TypeId} {a0 a1 a2 a3 a4 a5 a6 a7 a8 a9 a10 a11 a12:Value} (h:Blk w g t #[a0,a1,a2,a3,a4,a5,a6,a7,a8,a9,a10,a11,a12]):w.cell? ⟨g,0,none⟩=some a0∧w.cell? ⟨g,1,none⟩=some a1∧w.cell? ⟨g,2,none⟩=some a2∧w.cell? ⟨g,3,none⟩=some a3∧w.cell? ⟨g,4,none⟩=some a4∧w.cell? ⟨g,5,none⟩=some a5∧w.cell? ⟨g,6,none⟩=some a6∧w.cell? ⟨g,7,none⟩=some a7∧w.cell? ⟨g,8,none⟩=some a8∧w.cell? ⟨g,9,none⟩=some a9∧w.cell? ⟨g,10,none⟩=some a10∧w.cell? ⟨g,11,none⟩=some a11∧w.cell? ⟨g,12,none⟩=some a12:=⟨(h.cell 0).trans rfl,(h.cell 1).trans rfl,(h.cell 2).trans rfl,(h.cell 3).trans rfl,(h.cell 4).trans rfl,(h.cell 5).trans rfl,(h.cell 6).trans rfl,(h.cell 7).trans rfl,(h.cell 8).trans rfl,(h.cell 9).trans rfl,(h.cell 10).trans rfl,(h.cell 11).trans rfl,(h.cell 12).trans rfl⟩
theorem Blk.frozen (h:Blk w g t cs) (i:Nat):w.frozen? ⟨g,i,none⟩=false:=by
 unfold Blk at h;simp[World.frozen?,h]
theorem Blk.new (w:World) (t:TypeId) (cs:Array Value):Blk (w.alloc (.cells cs t)) w.heap.size t cs:=heap_alloc_new w _
theorem Blk.alloc (h:Blk w g t cs) (o:Obj):Blk (w.alloc o) g t cs:=(Below.heap_alloc w o g h.lt).trans h
theorem Blk.drewN (h:Blk w g t cs) (n:Nat):Blk (w.drewN n) g t cs:=h
theorem Blk.set_ (h:Blk w g t cs) (i:Nat) (u:Value):Blk (w.setCell ⟨g,i,none⟩ u) g t (cs.setIfInBounds i u):=by
 unfold Blk at h⊢;simp[World.setCell,Array.getElem?_modify,h]
theorem Blk.far (h:Blk w g t cs) {p:Addr} (hp:g≠p.block) (u:Value):Blk (w.setCell p u) g t cs:=(Below.heap_setCell w p u g hp).trans h
theorem Blk.kept (h:Blk w g t cs) {row:Option Nat} (hb:w.grownBy w' row) (hg:some g≠row):Blk w' g t cs:=(hb.block g h.lt hg).trans h
theorem Blk.below {B:Nat} (h:Blk w g t cs) (hb:Below B w w') (hg:g<B):Blk w' g t cs:=(hb.block g hg).trans h
theorem Blk.ne_own {b e s n:Nat} {v:Value} {xs:List Value} (h:Blk w g t cs) (ho:w.ownsRow b e s v n xs) (fS:e≠t):some g≠v.ownBlock:=by
 rcases ho.2 with⟨rfl,_⟩|⟨g',cap,cur,rfl,_,hh,_⟩
 ·simp[Value.ownBlock]
 intro he
 have:g=g':=by simpa[Value.ownBlock] using he
 subst this;unfold Blk at h;rw[h] at hh;injection hh with hh;injection hh with _ h3;exact fS h3.symm
theorem Blk.setGrown (_h:Blk w g t cs) (i:Nat) (u:Value):w.grownBy (w.setCell ⟨g,i,none⟩ u) (some g) :=
 ⟨rfl,rfl,rfl,by simp[World.setCell],fun k _ hk=>Below.heap_setCell w _ u k (fun e=>hk (by rw[e]))⟩
end
theorem fR {w:World} {B e size n:Nat} {v:Value} {xs:List Value} (h:w.ownsRow B e size v n xs) (k:Nat):(w.drewN k).ownsRow B e size v n xs:=h
theorem fE {P:Program} (w:World) {ops:Array Oper} {rest:List Oper} {o:Oper} {a:Act} {Q:Exit→Act→World→Prop} (oQ:o.guard=none) (s x:Operand) (t:TypeId)
  (ho:o.op=.call { callee:=.builtin .append,args:=#[s,x],argTypes:=#[t,t] })
  (base:Nat) (e:TypeId) {z:Value} {bytes:Nat} (Re:(P.info? e).map (fun i=>(i.zero,i.size,i.bytes))=some (some z,1,bytes)) (ht:P.underlying t=some (.slice e)) (lP:z.cells.size=1)
  (v:Value) (n:Nat) (xs:List Value) (hs:a.eval s=v) (bO:w.ownsRow base e 1 v n xs) (u:Value) (hu:u.oneCell'=true)
  (hx:a.eval x=.slice (some ⟨w.heap.size,0,none⟩) 1 1) (Va:n+1≤maxLen) (cm:(n+1)*bytes≤140737488355328) (X9:base≤w.heap.size)
  (h:∀g cap w',w'.ownsRow base e 1 (.slice (some ⟨g,0,none⟩) (n+1) cap) (n+1) (xs++[u])→w.grownBy w' v.ownBlock→base≤g→(v.ownBlock=some g∨w.heap.size≤g) →
   wpList P ops Q rest (a.put o.dst (.slice (some ⟨g,0,none⟩) (n+1) cap)) w') :
  wpList P ops Q (o::rest) a (w.alloc (.cells #[u] e)):=by
 obtain⟨i,hi,hz,fO,hby⟩:=info_parts Re;refine wpList_append_own_at _ oQ s x t ho base e i z 1 bytes ht hi hz fO hby lP (by decide) v n xs hs (bO.alloc _) ⟨w.heap.size,0,none⟩ 1 1 [u] hx rfl (cell_one_new _ _ _)
  (fun y hy=>by simp only[List.mem_singleton] at hy;subst hy;exact hu) Va cm (by simp;omega) ?_
 intro v' w' h2 h3 _ h5;have hl:=h2.1;rcases h2.2 with⟨rfl,h0⟩|⟨g,cap,cur,rfl,xY,r⟩
 ·exact absurd h0 (by omega)
 refine h g cap w' h2 (dX (World.grownBy_alloc w _ _) h3) xY ?_;rcases h5 with h5|h5
 ·exact .inl (by simpa[Value.ownBlock] using h5.symm)
 right
 have:g=w.heap.size+1:=by simpa[Value.ownBlock] using h5
 omega
theorem bF {α:Type} (l:List α) (k:Nat) (h:k<l.length):l.take (k+1)=l.take k++[l[k]]:=List.take_succ_eq_append_getElem h
theorem Dr {α:Type} {p:α→Bool} {l:List α} {j:Nat} (h:(l.take j).findIdx? p=none) (hj:j<l.length) (hp:p l[j]=true):l.findIdx? p=some j:=by
 rw[List.findIdx?_eq_some_iff_getElem];refine⟨hj,hp,fun i hi=>?_⟩;rw[List.findIdx?_eq_none_iff] at h
 have:=h l[i] (by rw[List.mem_take_iff_getElem];exact⟨i,by omega,rfl⟩);simp[this]
theorem yk {α:Type} {p:α→Bool} {l:List α} {j:Nat} (h:(l.take j).findIdx? p=none) (hj:j<l.length) (hp:p l[j]=false):(l.take (j+1)).findIdx? p=none:=by
 rw[List.findIdx?_eq_none_iff] at h⊢;intro x hx;rw[List.take_succ_eq_append_getElem hj,List.mem_append,List.mem_singleton] at hx;rcases hx with hx|rfl
 ·exact h x hx
 exact hp
def oZ (o:Option Nat):Int:=match o with|some i=>i|none=>-1
theorem QP (o:Option Nat):decide (0≤oZ o)=o.isSome:=by
 cases o with
 | none=>rfl
 | some i=>simp[oZ]
theorem xu {α:Type} (p:α→Bool) (l:List α):(l.findIdx? p).isSome=l.any p:=by
 rw[List.findIdx?_isSome]
theorem Jr {α:Type} (p:α→Bool) (l:List α):decide (0≤oZ (l.findIdx? p))=l.any p:=by rw[QP,xu]
theorem QO {α:Type} (p:α→Bool) (l:List α) : -1≤oZ (l.findIdx? p):=by
 cases l.findIdx? p with
 | none=>exact Int.le_refl _
 | some i=>simp only[oZ];omega
theorem Ze {a b:Bool} (h:a=b):Ending.returned (.bool a)=.returned (.bool b):=by rw[h]
theorem ij {k:IntKind} {a b:Int} (h:a=b):Ending.returned (.int k a)=.returned (.int k b):=by rw[h]
open Go.RowKit Go.Shelf Go.PlainAid
def dr (n:Int):Bool:=decide ((97≤n∧n≤122)∨(65≤n∧n≤90))
def mE (n:Int):Bool:=decide (48≤n∧n≤57)
def fc (n:Int):Bool:=dr n||mE n||decide (n=95)
def WordTo (s:ByteArray) (k:Nat):Prop:=k≤s.size∧(∀i,i<k→fc (bt s i)=true)∧(k<s.size→fc (bt s k)=false)
def dW (s:ByteArray):Bool:=decide (0<s.size∧s.size≤20∧dr (bt s 0)=true∧∀i,i<s.size→fc (bt s i)=true)
theorem WordTo.start (s:ByteArray):∀i,i<0→fc (bt s i)=true:=fun i h=>absurd h (Nat.not_lt_zero i)
theorem jG {s:ByteArray} {k:Nat} (h:∀i,i<k→fc (bt s i)=true) (hk:fc (bt s k)=true):∀i,i<k+1→fc (bt s i)=true:=by
 intro i hi;by_cases e:i=k
 ·subst e;exact hk
 exact h i (by omega)
theorem qK {s:ByteArray} {k:Nat} (h:WordTo s k) (h0:0<s.size) (Mx:s.size≤20) (hl:dr (bt s 0)=true):decide ((k:Int)=(s.size:Int))=dW s:=by
 unfold dW;rw[Bool.eq_iff_iff,yP,yP];constructor
 ·intro e
  have:k=s.size:=by omega
  subst this;exact⟨h0,Mx,hl,h.2.1⟩
 intro ⟨_,_,_,ha⟩;rcases Nat.lt_or_ge k s.size with aI|X4
 ·have:=h.2.2 aI;rw[ha k aI] at this;cases this
 have:=h.1;omega
theorem o9 {s:ByteArray} (h:¬(0<s.size∧s.size≤20∧dr (bt s 0)=true)):dW s=false:=by
 unfold dW;rw[YD];exact fun⟨a,b,c,_⟩=>h ⟨a,b,c⟩
theorem xM (n:Int) (w:World):Calls Tryz.prog 133 #[.int .u8 n] w fun e w'=>e=.returned (.bool (dr n))∧w=w':=by
  by_cases h1:97 ≤ n <;> by_cases h2:n ≤ 122 <;> by_cases h3:65 ≤ n <;> by_cases h4:n ≤ 90 <;> first
    | (exfalso;omega)
    | (have Lp:decide (97 ≤ n)=true := by simpa using h1
       have h2b:decide (n≤122)=true:=by simpa using h2
       go_enter Tryz.func133,Tryz.ntmps133;go_wp2;go_ret;exact⟨Ze (by unfold dr;symm;simp;omega),rfl⟩)
    | (have Lp:decide (97 ≤ n)=true := by simpa using h1
       have h2b:decide (n≤122)=false:=by simpa using h2
       have R8:decide (65≤n)=true:=by simpa using h3
       have h4b:decide (n≤90)=false:=by simpa using h4
       go_enter Tryz.func133,Tryz.ntmps133;go_wp2;go_ret;exact⟨Ze (by unfold dr;symm;simp;omega),rfl⟩)
    | (have Lp:decide (97 ≤ n)=false := by simpa using h1
       have R8:decide (65≤n)=true:=by simpa using h3
       have h4b:decide (n≤90)=true:=by simpa using h4
       go_enter Tryz.func133,Tryz.ntmps133;go_wp2;go_ret;exact⟨Ze (by unfold dr;symm;simp;omega),rfl⟩)
    | (have Lp:decide (97 ≤ n)=false := by simpa using h1
       have R8:decide (65≤n)=true:=by simpa using h3
       have h4b:decide (n≤90)=false:=by simpa using h4
       go_enter Tryz.func133,Tryz.ntmps133;go_wp2;go_ret;exact⟨Ze (by unfold dr;symm;simp;omega),rfl⟩)
    | (have Lp:decide (97 ≤ n)=false := by simpa using h1
       have R8:decide (65≤n)=false:=by simpa using h3
       go_enter Tryz.func133,Tryz.ntmps133;go_wp2;go_ret;exact⟨Ze (by unfold dr;symm;simp;omega),rfl⟩)
theorem Nm (n:Int) (w:World):Calls Tryz.prog 188 #[.int .u8 n] w fun e w'=>e=.returned (.bool (mE n))∧w=w':=by
 by_cases h1:48≤n
 ·by_cases h2:n≤57
  all_goals
   go_enter Tryz.func188,Tryz.ntmps188;go_wp2;go_ret;exact⟨Ze (by unfold mE;symm;simp;omega),rfl⟩
 have Lp:decide (48≤n)=false:=by simpa using h1
 go_enter Tryz.func188,Tryz.ntmps188;go_wp2;go_ret;exact⟨Ze (by unfold mE;symm;simp;omega),rfl⟩
theorem yv (n:Int) (w:World):Calls Tryz.prog 176 #[.int .u8 n] w fun e w'=>e=.returned (.bool (dr n))∧w=w':=by
  by_cases h1:97 ≤ n <;> by_cases h2:n ≤ 122 <;> by_cases h3:65 ≤ n <;> by_cases h4:n ≤ 90 <;> first
    | (exfalso;omega)
    | (have Lp:decide (97 ≤ n)=true := by simpa using h1
       have h2b:decide (n≤122)=true:=by simpa using h2
       go_enter Tryz.func176,Tryz.ntmps176;go_wp2;go_ret;exact⟨Ze (by unfold dr;symm;simp;omega),rfl⟩)
    | (have Lp:decide (97 ≤ n)=true := by simpa using h1
       have h2b:decide (n≤122)=false:=by simpa using h2
       have R8:decide (65≤n)=true:=by simpa using h3
       have h4b:decide (n≤90)=false:=by simpa using h4
       go_enter Tryz.func176,Tryz.ntmps176;go_wp2;go_ret;exact⟨Ze (by unfold dr;symm;simp;omega),rfl⟩)
    | (have Lp:decide (97 ≤ n)=false := by simpa using h1
       have R8:decide (65≤n)=true:=by simpa using h3
       have h4b:decide (n≤90)=true:=by simpa using h4
       go_enter Tryz.func176,Tryz.ntmps176;go_wp2;go_ret;exact⟨Ze (by unfold dr;symm;simp;omega),rfl⟩)
    | (have Lp:decide (97 ≤ n)=false := by simpa using h1
       have R8:decide (65≤n)=true:=by simpa using h3
       have h4b:decide (n≤90)=false:=by simpa using h4
       go_enter Tryz.func176,Tryz.ntmps176;go_wp2;go_ret;exact⟨Ze (by unfold dr;symm;simp;omega),rfl⟩)
    | (have Lp:decide (97 ≤ n)=false := by simpa using h1
       have R8:decide (65≤n)=false:=by simpa using h3
       go_enter Tryz.func176,Tryz.ntmps176;go_wp2;go_ret;exact⟨Ze (by unfold dr;symm;simp;omega),rfl⟩)
theorem Sl (n:Int) (w:World):Calls Tryz.prog 232 #[.int .u8 n] w fun e w'=>e=.returned (.bool (mE n))∧w=w':=by
 by_cases h1:48≤n
 ·by_cases h2:n≤57
  all_goals
   go_enter Tryz.func232,Tryz.ntmps232;go_wp2;go_ret;exact⟨Ze (by unfold mE;symm;simp;omega),rfl⟩
 have Lp:decide (48≤n)=false:=by simpa using h1
 go_enter Tryz.func232,Tryz.ntmps232;go_wp2;go_ret;exact⟨Ze (by unfold mE;symm;simp;omega),rfl⟩
theorem Ul (s:ByteArray) (hs:s.size≤maxLen) (w:World):Calls Tryz.prog 134 #[.string s,.int .i64 0] w fun e w'=>(∃k:Nat,e=.returned (.int .i64 k)∧WordTo s k)∧w=w':=by
 unfold maxLen at hs;have ub:=get_bt s;go_enter Tryz.func134,Tryz.ntmps134;go_wp2;go_loopw [1] (fun x wr=>∃j:Nat,j≤s.size∧x=.int .i64 j∧Y0 (∀i,i<j→fc (bt s i)=true)∧w=wr) (fun x _=>s.size-(intOf x).toNat)
 case atStart=>exact⟨0,yI _,rfl,WordTo.start s,rfl⟩
 obtain⟨j,hj,rfl,Hw,rfl⟩:=hrel;by_cases aI:j<s.size
 ·have hL:=xM (bt s j) w;have hD:=Nm (bt s j) w;cases h1:dr (bt s j)
  case true=>
   rw[h1] at hL;have HK:Y0 (fc (bt s j)=true):=by unfold Y0 fc;simp[h1]
   clear h1;go_wp2_with (go_at_call 133;refine hL.mono ?_;rintro e w' ⟨rfl,rfl⟩);go_roundw
   case rel=>exact⟨j+1,by omega,by go_num,jG Hw.o HK.o,by trivial⟩
   simp[intOf];omega
  rw[h1] at hL;cases h2:mE (bt s j)
  case true=>
   rw[h2] at hD;have HK:Y0 (fc (bt s j)=true):=by unfold Y0 fc;simp[h2]
   clear h1 h2;go_wp2_with (first|(go_at_call 133;refine hL.mono ?_;rintro e w' ⟨rfl,rfl⟩)|(go_at_call 188;refine hD.mono ?_;rintro e w' ⟨rfl,rfl⟩));go_roundw
   case rel=>exact⟨j+1,by omega,by go_num,jG Hw.o HK.o,by trivial⟩
   simp[intOf];omega
  rw[h2] at hD;by_cases h3:bt s j=95
  ·have HK:Y0 (fc (bt s j)=true):=by unfold Y0 fc;simp[h3]
   have R8:(bt s j==95)=true:=by simpa using h3
   clear h1 h2 h3;go_wp2_with (first|(go_at_call 133;refine hL.mono ?_;rintro e w' ⟨rfl,rfl⟩)|(go_at_call 188;refine hD.mono ?_;rintro e w' ⟨rfl,rfl⟩));go_roundw
   case rel=>exact⟨j+1,by omega,by go_num,jG Hw.o HK.o,by trivial⟩
   simp[intOf];omega
  have HK:Y0 (fc (bt s j)=false):=by unfold Y0 fc;simp[h1,h2,h3]
  have R8:(bt s j==95)=false:=by simpa using h3
  clear h1 h2 h3;go_wp2_with (first|(go_at_call 133;refine hL.mono ?_;rintro e w' ⟨rfl,rfl⟩)|(go_at_call 188;refine hD.mono ?_;rintro e w' ⟨rfl,rfl⟩));go_ret;exact⟨⟨j,rfl,hj,Hw.o,fun _=>HK.o⟩,rfl⟩
 go_wp2;go_ret;exact⟨⟨j,rfl,hj,Hw.o,fun h=>absurd h aI⟩,rfl⟩
theorem Vt (s:ByteArray) (hs:s.size≤maxLen) (w:World):Calls Tryz.prog 177 #[.string s] w fun e w'=>(∃k:Nat,e=.returned (.int .i64 k)∧WordTo s k)∧w=w':=by
 unfold maxLen at hs;have ub:=get_bt s;go_enter Tryz.func177,Tryz.ntmps177;go_wp2;go_loopw [3] (fun x wr=>∃j:Nat,j≤s.size∧x=.int .i64 j∧Y0 (∀i,i<j→fc (bt s i)=true)∧w=wr) (fun x _=>s.size-(intOf x).toNat)
 case atStart=>exact⟨0,yI _,rfl,WordTo.start s,rfl⟩
 obtain⟨j,hj,rfl,Hw,rfl⟩:=hrel;by_cases aI:j<s.size
 ·have hL:=yv (bt s j) w;have hD:=Sl (bt s j) w;cases h1:dr (bt s j)
  case true=>
   rw[h1] at hL;have HK:Y0 (fc (bt s j)=true):=by unfold Y0 fc;simp[h1]
   clear h1;go_wp2_with (go_at_call 176;refine hL.mono ?_;rintro e w' ⟨rfl,rfl⟩);go_roundw
   case rel=>exact⟨j+1,by omega,by go_num,jG Hw.o HK.o,by trivial⟩
   simp[intOf];omega
  rw[h1] at hL;cases h2:mE (bt s j)
  case true=>
   rw[h2] at hD;have HK:Y0 (fc (bt s j)=true):=by unfold Y0 fc;simp[h2]
   clear h1 h2;go_wp2_with (first|(go_at_call 176;refine hL.mono ?_;rintro e w' ⟨rfl,rfl⟩)|(go_at_call 232;refine hD.mono ?_;rintro e w' ⟨rfl,rfl⟩));go_roundw
   case rel=>exact⟨j+1,by omega,by go_num,jG Hw.o HK.o,by trivial⟩
   simp[intOf];omega
  rw[h2] at hD;by_cases h3:bt s j=95
  ·have HK:Y0 (fc (bt s j)=true):=by unfold Y0 fc;simp[h3]
   have R8:(bt s j==95)=true:=by simpa using h3
   clear h1 h2 h3;go_wp2_with (first|(go_at_call 176;refine hL.mono ?_;rintro e w' ⟨rfl,rfl⟩)|(go_at_call 232;refine hD.mono ?_;rintro e w' ⟨rfl,rfl⟩));go_roundw
   case rel=>exact⟨j+1,by omega,by go_num,jG Hw.o HK.o,by trivial⟩
   simp[intOf];omega
  have HK:Y0 (fc (bt s j)=false):=by unfold Y0 fc;simp[h1,h2,h3]
  have R8:(bt s j==95)=false:=by simpa using h3
  clear h1 h2 h3;go_wp2_with (first|(go_at_call 176;refine hL.mono ?_;rintro e w' ⟨rfl,rfl⟩)|(go_at_call 232;refine hD.mono ?_;rintro e w' ⟨rfl,rfl⟩));go_ret;exact⟨⟨j,rfl,hj,Hw.o,fun _=>HK.o⟩,rfl⟩
 go_wp2;go_ret;exact⟨⟨j,rfl,hj,Hw.o,fun h=>absurd h aI⟩,rfl⟩
theorem o7 (s:ByteArray) (hs:s.size≤maxLen) (w:World):Calls Tryz.prog 90 #[.string s] w fun e w'=>e=.returned (.bool (dW s))∧w=w':=by
 have hW:=Ul s hs w;unfold maxLen at hs;by_cases h0:s.size=0
 ·have HN:=zh (o9 (s:=s) (by omega));have he0:((s.size:Int)==0)=true:=beq_iff_eq.2 (by omega);clear h0;go_enter Tryz.func90,Tryz.ntmps90;go_wp2;go_ret;exact⟨Ze HN.o.symm,rfl⟩
 have he0:((s.size:Int)==0)=false:=zb (by omega);have Lb:0<s.size:=by omega
 clear h0;by_cases Mx:s.size≤20
 ·have ub:=get_bt s;have hL:=xM (bt s 0) w;cases h1:dr (bt s 0)
  ·rw[h1] at hL;have HN:=zh (o9 (s:=s) (by simp[h1]));clear h1;go_enter Tryz.func90,Tryz.ntmps90;go_wp2_with (go_at_call 133;refine hL.mono ?_;rintro e w' ⟨rfl,rfl⟩);go_ret;exact⟨Ze HN.o.symm,rfl⟩
  rw[h1] at hL;have HN:=fun k (h:WordTo s k)=>qK h Lb Mx h1;have HN:=zh HN;clear h1;go_enter Tryz.func90,Tryz.ntmps90;go_wp2_with (first|(go_at_call 133;refine hL.mono ?_;rintro e w' ⟨rfl,rfl⟩)|(go_at_call 134;refine hW.mono ?_;rintro e w' ⟨⟨k,rfl,hk⟩,rfl⟩));go_ret;exact⟨Ze (by rw[←HN.o k hk];rfl),rfl⟩
 have HN:=zh (o9 (s:=s) (by omega));go_enter Tryz.func90,Tryz.ntmps90;go_wp2;go_ret;exact⟨Ze HN.o.symm,rfl⟩
theorem oG (s:ByteArray) (hs:s.size≤maxLen) (w:World):Calls Tryz.prog 126 #[.string s] w fun e w'=>e=.returned (.bool (dW s))∧w=w':=by
 have hW:=Vt s hs w;unfold maxLen at hs;by_cases h0:s.size=0
 ·have HN:=zh (o9 (s:=s) (by omega));have he:s.toList.isEmpty=true:=by rw[Go.ByteArray.toList_eq];simpa[←ByteArray.size_data] using h0
  clear h0;go_enter Tryz.func126,Tryz.ntmps126;go_wp2;go_ret;exact⟨Ze HN.o.symm,rfl⟩
 have he:s.toList.isEmpty=false:=by rw[Go.ByteArray.toList_eq];simpa[←ByteArray.size_data] using h0
 have Lb:0<s.size:=by omega
 clear h0;by_cases Mx:s.size≤20
 ·have ub:=get_bt s;have hL:=yv (bt s 0) w;cases h1:dr (bt s 0)
  ·rw[h1] at hL;have HN:=zh (o9 (s:=s) (by simp[h1]));clear h1;go_enter Tryz.func126,Tryz.ntmps126;go_wp2_with (go_at_call 176;refine hL.mono ?_;rintro e w' ⟨rfl,rfl⟩);go_ret;exact⟨Ze HN.o.symm,rfl⟩
  rw[h1] at hL;have HN:=fun k (h:WordTo s k)=>qK h Lb Mx h1;have HN:=zh HN;clear h1;go_enter Tryz.func126,Tryz.ntmps126;go_wp2_with (first|(go_at_call 176;refine hL.mono ?_;rintro e w' ⟨rfl,rfl⟩)|(go_at_call 177;refine hW.mono ?_;rintro e w' ⟨⟨k,rfl,hk⟩,rfl⟩));go_ret;exact⟨Ze (by rw[←HN.o k hk];rfl),rfl⟩
 have HN:=zh (o9 (s:=s) (by omega));go_enter Tryz.func126,Tryz.ntmps126;go_wp2;go_ret;exact⟨Ze HN.o.symm,rfl⟩
open Go.RowKit Go.Shelf
def qjg (l:List Task) (s:ByteArray):Option Nat:=l.findIdx? fun t=>decide (t.name=s)
def pl (l:List Task) (s:ByteArray):Int:=oZ (qjg l s)
def mM (l:List Task):List ByteArray:=l.map Task.name
def rm (l:List Task):Bool:=decide (mM l).Nodup
def Zw (n lo hi:Int):Bool:=decide (lo≤n∧n≤hi)
open Go.RowKit Go.Shelf Go.WideMaps Go.Maps
def rZ (s:ByteArray):Lit:=.string s.data.toList
theorem vH {a b:ByteArray} (h:rZ a=rZ b):a=b:=by
 unfold rZ at h;injection h with h;cases a;cases b;simp at h;rw[h]
theorem vG (s:ByteArray):WideAt.IsKeyLit (rZ s):=trivial
theorem zZ:Keyed Tryz.prog 9:=string_keyed Tryz.underlying9
theorem Jo {s:ByteArray} (h:s.size≤maxLen):keyOf Tryz.prog 9 (.string s)=some (rZ s):=keyOf_string_mk Tryz.underlying9 h
structure NamesD (l:List Task) (j:Nat) (D:DataW Unit):Prop where
 has:∀s,Maps.has D (rZ s)=decide (s∈mM (l.take j))
 at_:(mM (l.take j)).Nodup→∀i (hi:i<l.length),i<j→∀z,D.atKey (rZ l[i].name) z=.lit (.int .i64 i)
 size:Maps.size D=j↔(mM (l.take j)).Nodup
 le:Maps.size D≤j
def NamesMap (w:World) (b:Nat) (l:List Task) (j:Nat):Prop:=∃D,w.ownsMap Tryz.prog 9 (plainElem Tryz.prog 3) b j D∧NamesD l j D
theorem NamesD.start (l:List Task):NamesD l 0 (.map []) :=
 ⟨fun s=>by simp[Maps.has,mM],fun _ i _ hi=>absurd hi (Nat.not_lt_zero i),by simp[Maps.size,mM],yA _⟩
theorem GA (l:List Task) {j:Nat} (hj:j<l.length):mM (l.take (j+1))=mM (l.take j)++[l[j].name]:=by
 unfold mM;rw[bF l j hj,List.map_append];rfl
theorem vC {α:Type} {x:α} {l:List α}:(l++[x]).Nodup↔l.Nodup∧x∉l:=by
 rw[List.nodup_append];constructor
 ·rintro⟨h1,-,h3⟩;exact⟨h1,fun hx=>h3 x hx x (by simp) rfl⟩
 rintro⟨h1,h2⟩;refine⟨h1,by simp,fun a ha b hb=>?_⟩;simp only[List.mem_singleton] at hb;subst hb;exact fun e=>h2 (e▸ha)
theorem NamesD.step {l:List Task} {j:Nat} {D:DataW Unit} (h:NamesD l j D) (hj:j<l.length) (hm:IsMap D) (ht:Tidy D):NamesD l (j+1) (D.put (rZ l[j].name) (.lit (.int .i64 j))):=by
 have hn:=GA l hj;refine⟨fun s=>?_,fun hnd i hi hij z=>?_,?_,?_⟩
 ·rw[hn];by_cases e:s=l[j].name
  ·subst e;rw[Maps.has_put_same hm (vG _)];simp
  rw[Maps.has_put_other (fun e'=>e (vH e')),h.has,Bool.eq_iff_iff];simp[e]
 ·rw[hn,vC] at hnd;by_cases e:i=j
  ·subst e;rw[Maps.atKey_put_same hm (vG _)]
  have aI:i<j:=by omega
  rw[Maps.atKey_put_other,h.at_ hnd.1 i hi aI];intro e';apply hnd.2;have e2:=vH e';rw[←e2];exact List.mem_map.2 ⟨l[i],by rw[List.mem_take_iff_getElem];exact⟨i,by omega,rfl⟩,rfl⟩
 ·have iD:=h.le;have hs:=h.size;rw[Maps.size_put ht,h.has,hn,vC,←hs];by_cases e:l[j].name∈mM (l.take j)
  ·simp[e];omega
  simp[e]
 have iD:=h.le;rw[Maps.size_put ht];split
 ·omega
 omega
theorem NamesD.all {l:List Task} {D:DataW Unit} (h:NamesD l l.length D):(((Maps.size D:Nat):Int)==(l.length:Int))=rm l:=by
 have:=h.size;rw[yT] at this;unfold rm;rw[Bool.eq_iff_iff,beq_iff_eq,yP,←this];omega
theorem NamesMap.kept {w w':World} {b:Nat} {l:List Task} {j:Nat} (h:NamesMap w b l j) {row:Option Nat} (hg:w.grownBy w' row) (fS:some b≠row):NamesMap w' b l j:=by
 obtain⟨D,bO,hD⟩:=h;exact⟨D,bO.kept hg fS,hD⟩
theorem NamesMap.lt {w:World} {b:Nat} {l:List Task} {j:Nat} (h:NamesMap w b l j):b<w.heap.size:=by
 obtain⟨D,bO,-⟩:=h;exact bO.lt
def Good (l:List Task) (t:Task) (L:List ByteArray):Prop:=L.Nodup∧∀s∈L,s∈mM l∧s≠t.name
noncomputable def S9 (l:List Task):Bool:=@decide (∀t∈l,Good l t t.bef) (Classical.propDecidable _)
theorem Good.nil (l:List Task) (t:Task):Good l t []:=⟨List.nodup_nil,by simp⟩
def pls (l:List Task) (L:List ByteArray):List Int:=L.map (pl l)
theorem QM:(Tryz.prog.info? 3).map (fun i=>(i.zero,i.size,i.bytes))=some (some (.int .i64 0),1,8):=by kernel_rfl
theorem Good.le {l:List Task} {t:Task} {L:List ByteArray} (h:Good l t L):L.length≤l.length:=by
 have:=List.Nodup.length_le_of_subset h.1 (fun s hs=>(h.2 s hs).1);simpa[mM] using this
structure BefRows (w:World) (base O:Nat) (l:List Task) (i:Nat) (cs:List Value):Prop where
 own:w.ownsRow base 33 1 (.slice (some ⟨O,0,none⟩) l.length l.length) l.length cs
 rows:∀j (hj:j<l.length) (hc:j<cs.length),j<i→w.ownsRow base 3 1 cs[j] l[j].bef.length ((pls l l[j].bef).map (Value.int .i64))
 rest:∀j (hc:j<cs.length),i≤j→cs[j]=.slice none 0 0
def BefPost (l:List Task) (w:World) (e:Ending) (w':World):Prop :=
 Below w.heap.size w w' ∧
   ((rm l&&S9 l)=false∧e=.returned (.tuple #[.slice none 0 0,.bool false]) ∨
    (rm l&&S9 l)=true∧∃O cs,e=.returned (.tuple #[.slice (some ⟨O,0,none⟩) l.length l.length,.bool true])∧BefRows w' w.heap.size O l l.length cs)
theorem BefPost.no {l:List Task} {w w':World} (hb:Below w.heap.size w w') (h:S9 l=false):BefPost l w (.returned (.tuple #[.slice none 0 0,.bool false])) w':=⟨hb,.inl ⟨by simp[h],rfl⟩⟩
open Go.RowKit Go.Shelf
theorem TasksAt.cells {w:World} {B:Nat} {A:Option Addr} {c:Nat} {l:List Task} (h:TasksAt w B (.slice A l.length c) l) {k:Nat} (hk:k<l.length) :
  ∃b off,A=some ⟨b,off,none⟩∧b<B∧∀j (hj:j<l.length),TaskCells w b (off+j*5) l[j]:=by
 obtain⟨A',c',e,_,_,h'⟩:=h.open_;injection e with e1 _ e3;subst e1 e3;exact h' k hk
theorem add_lit (b off j:Nat):(⟨b,off,none⟩:Addr).add j=⟨b,off+j,none⟩:=by
 unfold Addr.add;split
 ·rename_i h;subst h;rfl
 rfl
theorem pB {P:Program} (w:World) (base:Nat) (t ty e:TypeId) (i:TypeInfo) (size:Nat) (ht:P.underlying t=some (.slice e)) (hi:P.info? e=some i)
  (v:Value) (n:Nat) (xs:List Value) (bO:w.ownsRow base e size v n xs) (c:Nat):(Builtin.append_ #[t,t] ty #[v,.slice none 0 c]).run P w=.ok v w:=by
 rcases bO.2 with⟨rfl,rfl⟩|⟨g,cap,cur,rfl,_,_,hnc,_⟩
 ·simp[Builtin.append_,run_underlying ht,sizeOf,typeInfo,hi,Builtin.lenOf,Builtin.firstCells]
 simp[Builtin.append_,run_underlying ht,sizeOf,typeInfo,hi,Builtin.lenOf,Builtin.firstCells,hnc,storeCells]
theorem rL {P:Program} (w:World) {ops:Array Oper} {rest:List Oper} {o:Oper} {a:Act} {Q:Exit→Act→World→Prop} (oQ:o.guard=none) (s x:Operand) (t:TypeId)
  (ho:o.op=.call { callee:=.builtin .append,args:=#[s,x],argTypes:=#[t,t] })
  (base:Nat) (e:TypeId) {z:Value} {size bytes:Nat} (Re:(P.info? e).map (fun i=>(i.zero,i.size,i.bytes))=some (some z,size,bytes)) (ht:P.underlying t=some (.slice e)) (hzs:z.cells.size=size) (fO:0<size)
  (v:Value) (n:Nat) (xs:List Value) (hs:a.eval s=v) (bO:w.ownsRow base e size v n xs)
  (B m:Nat) (sv:Value) (news:List Value) (hx:a.eval x=sv) (hsv:Flat w B sv m news) (hl:news.length=m*size) (h1:∀u∈news,u.oneCell'=true)
  (Va:n+m≤maxLen) (cm:(n+m)*bytes≤140737488355328) (X9:base≤w.heap.size)
  (h:∀v' w',w'.ownsRow base e size v' (n+m) (xs++news)→w.grownBy w' v.ownBlock→(v'.ownBlock=v.ownBlock∨v'.ownBlock=some w.heap.size)→wpList P ops Q rest (a.put o.dst v') w') :
  wpList P ops Q (o::rest) a w:=by
 obtain⟨i,hi,hz,vqA,hby⟩:=info_parts Re;obtain⟨A,c,rfl,hmc,UO,aL⟩:=hsv;suffices H:∃v' w',(Builtin.append_ #[t,t] o.type #[v,.slice A m c]).run P w=.ok v' w'∧w'.ownsRow base e size v' (n+m) (xs++news)∧w.grownBy w' v.ownBlock∧(v'.ownBlock=v.ownBlock∨v'.ownBlock=some w.heap.size) by
  refine wpList_plain oQ fun K hK=>?_;obtain⟨v',w',ki,h2,h3,h4⟩:=H;unfold Oper.wp execOp;simp only[ho,resolve,invoke,builtin,Sem.run_bind,Sem.run_pure,Result.andThen_ok,List.map_toArray,List.map_cons,List.map_nil,hs,hx,ki];exact hK _ _ (h v' w' h2 h3 h4)
 rcases A with _|ad
 ·have hm:m=0:=by
   rcases Nat.eq_zero_or_pos m with h0|h0
   ·exact h0
   obtain⟨b,off,e,_⟩:=aL h0;cases e
  subst hm;have hn:news=[]:=List.eq_nil_of_length_eq_zero (by simpa using hl);subst hn;exact⟨v,w,pB w base t o.type e i size ht hi v n xs bO c,by simpa using bO,World.grownBy.refl w _,.inl rfl⟩
 have qx8:∀j u,news[j]?=some u→w.cell? (ad.add j)=some u:=by
  intro j u hu;rcases Nat.eq_zero_or_pos m with h0|h0
  ·subst h0;have hn:news=[]:=List.eq_nil_of_length_eq_zero (by simpa using hl);subst hn;simp at hu
  obtain⟨b,off,e,_,hc⟩:=aL h0;injection e with e;subst e;rw[add_lit];exact hc j u hu
 obtain⟨v',w',ki,h2,h3,_,h5⟩:=run_append_own_at (P:=P) w base t o.type e i z size bytes ht hi hz vqA hby hzs fO v n xs bO ad m c news hl qx8 h1 Va cm X9;exact⟨v',w',ki,h2,h3,h5⟩
theorem Sr (v:Value) (l:List Int) (w:World) (hl:ct w w.heap.size v l) (dD:l.length≤1000000) :
  Calls Tryz.prog 146 #[v] w fun e w'=>∃v',e=.returned v'∧w'.ownsRow w.heap.size 3 1 v' l.length (l.map (Value.int .i64))∧Below w.heap.size w w':=by
 have HL:=zh hl;obtain⟨A,c,rfl,kG,eH,aL⟩:=hl.open_;clear hl
 cases A with
 | none=>
  have su:l=[]:=by
   cases l with
   | nil=>rfl
   | cons x r=>obtain⟨b,off,e,_⟩:=aL 0 (by simp);cases e
  subst su;have heq:=fun W=>Lib.run_eql_slice_nil (P:=Tryz.prog) W 33 3 none 0 c 0 0 Tryz.underlying33;clear aL;go_enter Tryz.func146,Tryz.ntmps146;go_wp2;go_ret;exact⟨_,rfl,yJ _ _ _ _,yB _ _⟩
 | some ad=>
  have heq:=fun W=>Lib.run_eql_slice_nil (P:=Tryz.prog) W 33 3 (some ad) l.length c 0 0 Tryz.underlying33;clear aL;go_enter Tryz.func146,Tryz.ntmps146;go_wp2_with (at_builtin;refine rL _ rfl (.tmp 5) (.tmp 6) 33 rfl w.heap.size 3 QM Tryz.underlying33 rfl (by decide) (.slice (some ⟨w.heap.size,0,none⟩) 0 0) 0 [] rfl (World.ownsRow_made w #[] 0 (yA _) (yI _) rfl) w.heap.size l.length (.slice (some ad) l.length c) (l.map (Value.int .i64)) rfl (HL.o.below ((yB _ _).alloc (yA _) _) (yA _)) (by simp) (by simp[Value.oneCell']) (by unfold maxLen;omega) (by omega) (by simp) ?_;intro v1 w1 qjr hg1 vwS)
  go_ret;refine⟨_,rfl,by simpa using qjr,?_⟩;exact ((yB w.heap.size w).alloc (yA _) _).grown hg1 (by simp) (fun k hk=>by simp[Value.ownBlock] at hk;omega)
