/- Lemmas. -/
import Derived.IntWalk
import Derived.BigQuiet
import Derived.Deep.AppendLies
import Derived.Deep.LoopGhost
import Derived.Lib.Hide
import Derived.PlainAid
import Derived.Shelf.Abstract
import Derived.StillTailTactics
import Derived.Test.YtmmhehgajkaniaaGreatDoorProg
import Derived.WalkLawsBesides
import Derived.WalkSpells
namespace Go.Proofs.YtmmhehgajkaniaaGreatDoor
set_option maxRecDepth 100000
set_option maxHeartbeats 40000000
open Go.RowKit Go.Shelf
theorem zo {α:Type} (e:α):∃x,e=x:=⟨e,rfl⟩
abbrev zD (p:Bool) (a:Option Addr) (l b:Nat) (q:Bool) (c:Option Addr) (m d:Nat):Array Value:=#[.bool p,.slice a l b,.bool q,.slice c m d]
abbrev zE:Array Value:=#[.string ⟨#[]⟩,.int .i64 0,.int .i64 0,.int .i64 0,.int .i64 0,.slice none 0 0,.int .i64 0,.int .i64 0,.int .i64 0,.int .i64 0,.int .i64 0,.slice none 0 0,.slice none 0 0]
abbrev zF:List Value:=[.string ⟨#[]⟩,.int .i64 0,.int .i64 0,.int .i64 0,.int .i64 0,.slice none 0 0,.int .i64 0,.int .i64 0,.int .i64 0,.int .i64 0,.int .i64 0,.slice none 0 0,.slice none 0 0]
theorem zb {α:Type} [BEq α] [LawfulBEq α] {a b:α} (h:a≠b):(a==b)=false:=beq_eq_false_iff_ne.2 h
abbrev yA:=@Nat.le_refl
abbrev yB:=@Below.refl
abbrev yC:=@decide_eq_false
abbrev yD:=@decide_eq_true
abbrev yE:=@Int.natCast_nonneg
abbrev yF:=@IntWalk.i64_in
abbrev yG:=@of_decide_eq_true
abbrev yH:=@Nat.le_trans
abbrev yI:=@Nat.zero_le
abbrev yJ:=@World.ownsRow_nil
abbrev yK:=@Nat.lt_of_lt_of_le
abbrev yL:=@Bool.eq_false_or_eq_true
abbrev yM:=@List.getElem?_eq_getElem
abbrev yN:=@List.getD_eq_getElem?_getD
abbrev yO:=@decide_eq_true_iff
abbrev yP:=@List.length_map
abbrev yQ:=@List.length_append
abbrev yR:=@Nat.zero_add
abbrev yS:=@List.map_append
abbrev yT:=@List.take_length
abbrev yU:=@Nat.le_of_ble_eq_true
abbrev yV:=@List.getElem_mem
abbrev yW:=@Nat.pow_succ
abbrev yX:=@Nat.mul_add
abbrev yY:=@Nat.mul_assoc
abbrev yZ:=@World.size_alloc
abbrev YA:=@List.length_take
abbrev YB:=@Nat.div_div_eq_div_mul
abbrev YC:=@List.getElem?_map
abbrev YD:=@decide_eq_false_iff_not
abbrev YE:=@wpQuiet_nil
abbrev YF:=@bodyPost_ret
abbrev YG:=@Nat.le_of_lt
abbrev YH:=@Nat.le_succ
abbrev YI:=@Nat.div_add_mod
abbrev YJ:=@Nat.mod_lt
abbrev YK:=@Nat.div_le_self
def Y0 (p:Prop):Prop:=p
theorem Y0.o {p:Prop} (h:Y0 p):p:=h
theorem zh {p:Prop} (h:p):Y0 p:=h
theorem aG {α:Type} {l:List α} {i:Nat}:l.toArray[i]?=l[i]?:=List.getElem?_toArray
theorem aH {α:Type} {a:α} {l:List α} {i:Nat}:(a::l)[i+1]?=l[i]?:=List.getElem?_cons_succ
theorem aD {α:Type} {a:α} {l:List α}:(a::l)[0]?=some a:=List.getElem?_cons_zero
theorem aM {α:Type} {a:α} {l:List α} {i:Nat}:(a::l).take (i+1)=a::l.take i:=rfl
theorem aP {α:Type} {l:List α}:l.take 0=[]:=List.take_zero
theorem aN {α:Type} {a:α} {l:List α} {i:Nat}:(a::l).drop (i+1)=l.drop i:=rfl
theorem aO {α:Type} {l:List α}:l.drop 0=l:=rfl
theorem aC {α:Type} {l:List α} {i:Nat} {a:α}:l.toArray.setIfInBounds i a=(l.set i a).toArray:=List.setIfInBounds_toArray ..
theorem aB {α:Type} {a b:α} {l:List α}:(a::l).set 0 b=b::l:=rfl
theorem aA {α:Type} {a b:α} {l:List α} {i:Nat}:(a::l).set (i+1) b=a::l.set i b:=rfl
instance:BEq ByteArray:=⟨fun a b=>decide (a=b)⟩
instance:LawfulBEq ByteArray where
 eq_of_beq {a b} h:=by simpa using yG h
 rfl {a}:=yD rfl
theorem pi (a b:ByteArray):(a.toList==b.toList)=decide (a=b):=by
 rw[Go.ByteArray.toList_eq,Go.ByteArray.toList_eq,Bool.eq_iff_iff];cases a;cases b;simp
theorem Zf {B:Nat} {a w:World} (h:Below B a w) (n:Nat):Below B a (w.drewN n):=⟨h.os,h.tape,h.output,h.size,h.block⟩
theorem q1 {w:World} {n:Nat}:∃k,w.drewN k=w.drewN n:=⟨_,rfl⟩
theorem q2 {w:World} {n m:Nat}:∃k,w.drewN k=(w.drewN n).drewN m:=⟨n+m,(World.drewN_drewN ..).symm⟩
theorem qp {P:Program} {f:FuncId} {args:Array Value} {w:World} {n:Nat} {v:Value}
  (h:Calls P f args (w.drewN n) fun e w'=>e=.returned v∧w.drewN n=w'):Calls P f args (w.drewN n) fun e fV=>e=.returned v∧∃m,fV=w.drewN m :=
 h.mono fun _ _ ⟨he,hm⟩=>⟨he,n,hm.symm⟩
theorem ui {P:Program} {f:FuncId} {args:Array Value} {w:World} {n:Nat} {v:Value}
  (h:Calls P f args (w.drewN n) fun e w'=>e=.returned v∧∃m,(w.drewN n).drewN m=w'):Calls P f args (w.drewN n) fun e fV=>e=.returned v∧∃m,fV=w.drewN m :=
 h.mono fun _ _ ⟨he,m,hm⟩=>⟨he,n+m,by rw[←hm,World.drewN_drewN]⟩
theorem px {P:Program} {f:FuncId} {args:Array Value} {w:World} {a n:Nat} {v:Value}
  (h:Calls P f args (w.drewN (a+n)) fun e w'=>e=.returned v∧w.drewN (a+n)=w'):Calls P f args (w.drewN (a+n)) fun e fV=>e=.returned v∧∃m,fV=w.drewN (a+m) :=
 h.mono fun _ _ ⟨he,hm⟩=>⟨he,n,hm.symm⟩
theorem ye {a w:World} {row:Option Nat} (h:a.grownBy w row):a.grownBy w.drew row:=⟨h.os,h.tape,h.output,h.size,h.block⟩
theorem kg {P:Program} {ops:Array Oper} {W:World} {Q:Act→Prop}:∀(l:List Oper) (a:Act),wpQuiet P ops (fun w'=>w'=W) Q l a→wpStill P ops W Q l a
 | [],_,h=>h
 | o::rest,a,h=>by
  unfold wpQuiet at h;unfold wpStill;split
  ·rename_i hw
   rw[if_pos hw] at h;obtain⟨v,h1,h2⟩:=h;have h3:=h1 W rfl;have h4:=kg rest _ h2;unfold Oper.quietAt at h3;unfold Oper.still;generalize (execOp a.eval o).run P W=r at*
   cases r with
   | ok n w'=>
    cases n <;> simp only[Oper.quietUpon] at h3 <;> simp only[Oper.stillUpon]
    case value u=>obtain⟨rfl,rfl⟩:=h3;exact⟨rfl,h4⟩
    case skip=>obtain⟨rfl,rfl⟩:=h3;exact⟨rfl,h4⟩
    case enter f args=>obtain⟨rfl,hc⟩:=h3;exact⟨rfl,_,hc,h4⟩
   | halt x w'=>simp only[Oper.quietUpon] at h3
  rename_i hw
  rw[if_neg hw] at h;exact kg rest _ h
theorem bP {P:Program} {id:Nat} {Q:Exit→Act→World→Prop} {a:Act} {w:World} {l:List Oper} (n:Nat) (hm:P.follows .mixedOrders=true) (hB:Region.lexTailB .any l.toArray n=true)
  (h:wpQuiet P l.toArray (fun w'=>w'=w.drew) (fun a'=>wpList P l.toArray Q (l.drop n) a' w.drew) (l.take n) a):(Code.region id l.toArray true).wp P Q a w :=
 wp_region_still_tail n hm hB (kg _ _ h)
def Flat (w:World) (B:Nat) (v:Value) (n:Nat) (xs:List Value):Prop :=
 ∃A c,v=.slice A n c∧n≤c∧c≤maxLen∧(0<n→∃b off,A=some ⟨b,off,none⟩∧b<B∧∀(j:Nat) u,xs[j]?=some u→w.cell? ⟨b,off+j,none⟩=some u)
theorem Flat.below {w w':World} {B B' n:Nat} {v:Value} {xs:List Value} (h:Flat w B v n xs) (hb:Below B' w w') (hB:B≤B'):Flat w' B v n xs:=by
 obtain⟨A,c,h1,h2,h3,h4⟩:=h;refine⟨A,c,h1,h2,h3,fun hn=>?_⟩;obtain⟨b,off,e,ao,hc⟩:=h4 hn;exact⟨b,off,e,ao,fun j u hu=>(hb.cell (p:=⟨b,off+j,none⟩) (yK ao hB)).trans (hc j u hu)⟩
theorem Flat.mono {w:World} {B B' n:Nat} {v:Value} {xs:List Value} (h:Flat w B v n xs) (hB:B≤B'):Flat w B' v n xs:=by
 obtain⟨A,c,h1,h2,h3,h4⟩:=h;refine⟨A,c,h1,h2,h3,fun hn=>?_⟩;obtain⟨b,off,e,ao,hc⟩:=h4 hn;exact⟨b,off,e,yK ao hB,hc⟩
theorem Flat.of_own {w:World} {base e size n:Nat} {v:Value} {xs:List Value} (h:w.ownsRow base e size v n xs):Flat w w.heap.size v n xs:=by
 obtain⟨hl,⟨rfl,rfl⟩|⟨g,cap,cur,rfl,hb,hg,hnc,YM,jJ,ht⟩⟩:=h
 ·exact⟨none,0,rfl,yA _,yI _,fun h=>absurd h (by omega)⟩
 refine⟨_,_,rfl,hnc,YM,fun _=>⟨g,0,rfl,(Array.getElem?_eq_some_iff.1 hg).1,fun j u hu=>?_⟩⟩;rw[yR,cell_of_row w g j cur e (0,0) hg];rw[←ht,List.getElem?_take] at hu;split at hu
 ·simpa using hu
 cases hu
def RowAt {α:Type} (enc:α→Value) (w:World) (B:Nat) (v:Value) (l:List α):Prop:=Flat w B v l.length (l.map enc)
abbrev Wp:=@RowAt ByteArray Value.string
abbrev bg:=@RowAt Int (Value.int .i64)
abbrev qqc:=@RowAt Bool Value.bool
section
variable {α:Type} {enc:α→Value} {w w':World} {B B':Nat} {v:Value} {l:List α}
theorem RowAt.below (h:RowAt enc w B v l) (hb:Below B' w w') (hB:B≤B'):RowAt enc w' B v l:=Flat.below h hb hB
theorem RowAt.mono (h:RowAt enc w B v l) (hB:B≤B'):RowAt enc w B' v l:=Flat.mono h hB
theorem RowAt.of_own {base e n:Nat} (h:w.ownsRow base e 1 v n (l.map enc)):RowAt enc w w.heap.size v l:=by
 have hn:n=l.length:=by have:=h.1;simp at this;omega
 subst hn;exact Flat.of_own h
theorem RowAt.open_ (h:RowAt enc w B v l) :
  ∃A c,v=.slice A l.length c∧l.length≤c∧c≤maxLen∧∀k (_:k<l.length),∃b off,A=some ⟨b,off,none⟩∧b<B∧∀j (hj:j<l.length),w.cell? ⟨b,off+j,none⟩=some (enc l[j]):=by
 obtain⟨A,c,h1,h2,h3,h4⟩:=h;refine⟨A,c,h1,h2,h3,fun k hk=>?_⟩;obtain⟨b,off,e,ao,hc⟩:=h4 (by omega);exact⟨b,off,e,ao,fun j hj=>hc j (enc l[j]) (by simp[hj])⟩
end
structure Task where
 name:ByteArray
 len:Int
 crew:Int
 pow:Int
 ba:Option Addr
 bc:Nat
 bef:List ByteArray
abbrev Task.bv (t:Task):Value:=.slice t.ba t.bef.length t.bc
def Task.cells (t:Task):List Value:=[.string t.name,.int .i64 t.len,.int .i64 t.crew,.int .i64 t.pow,.slice t.ba t.bef.length t.bc]
def Task.val (t:Task):Value:=.agg #[.string t.name,.int .i64 t.len,.int .i64 t.crew,.int .i64 t.pow,.slice t.ba t.bef.length t.bc]
structure Task.ok (t:Task):Prop where
 name:t.name.size≤maxLen
 bef:∀s∈t.bef,s.size≤maxLen
 len : -9223372036854775808≤t.len∧t.len≤9223372036854775807
 crew : -9223372036854775808≤t.crew∧t.crew≤9223372036854775807
 pow : -9223372036854775808≤t.pow∧t.pow≤9223372036854775807
def TasksAt (w:World) (B:Nat) (v:Value) (l:List Task):Prop:=Flat w B v l.length (l.flatMap Task.cells)∧(∀t∈l,Wp w B t.bv t.bef)∧∀t∈l,t.ok
theorem TasksAt.below {w w':World} {B B':Nat} {v:Value} {l:List Task} (h:TasksAt w B v l) (hb:Below B' w w') (hB:B≤B'):TasksAt w' B v l :=
 ⟨h.1.below hb hB,fun t ht=>(h.2.1 t ht).below hb hB,h.2.2⟩
theorem TasksAt.mono {w:World} {B B':Nat} {v:Value} {l:List Task} (h:TasksAt w B v l) (hB:B≤B'):TasksAt w B' v l :=
 ⟨h.1.mono hB,fun t ht=>(h.2.1 t ht).mono hB,h.2.2⟩
theorem TasksAt.drewN {w:World} {B:Nat} {v:Value} {l:List Task} (h:TasksAt w B v l) (n:Nat):TasksAt (w.drewN n) B v l:=h.below (Zf (yB _ _) n) (yA _)
theorem Vn (l:List Task) (j i:Nat) (hj:j<l.length) (hi:i<5):(l.flatMap Task.cells)[j*5+i]?=l[j].cells[i]?:=by
 induction l generalizing j with
 | nil=>simp at hj
 | cons t l ih=>
  have h5:t.cells.length=5:=rfl;rw[List.flatMap_cons]
  cases j with
  | zero=>rw[List.getElem?_append_left (by rw[h5];omega)];simp
  | succ j=>
   rw[List.getElem?_append_right (by rw[h5];omega),h5]
   have:=ih j (by simpa using hj);rw[show (j+1)*5+i-5=j*5+i by omega,this];rfl
def TaskCells (w:World) (b off:Nat) (t:Task):Prop :=
 w.cell? ⟨b,off,none⟩=some (.string t.name)∧w.cell? ⟨b,off+1,none⟩=some (.int .i64 t.len)∧w.cell? ⟨b,off+2,none⟩=some (.int .i64 t.crew) ∧
  w.cell? ⟨b,off+3,none⟩=some (.int .i64 t.pow)∧w.cell? ⟨b,off+4,none⟩=some (.slice t.ba t.bef.length t.bc)
theorem TaskCells.below {w w':World} {B b off:Nat} {t:Task} (h:TaskCells w b off t) (hb:Below B w w') (hB:b<B):TaskCells w' b off t :=
 ⟨(hb.cell (p:=⟨b,off,none⟩) hB).trans h.1,(hb.cell (p:=⟨b,off+1,none⟩) hB).trans h.2.1,(hb.cell (p:=⟨b,off+2,none⟩) hB).trans h.2.2.1,
  (hb.cell (p:=⟨b,off+3,none⟩) hB).trans h.2.2.2.1,(hb.cell (p:=⟨b,off+4,none⟩) hB).trans h.2.2.2.2⟩
theorem TasksAt.open_ {w:World} {B:Nat} {v:Value} {l:List Task} (h:TasksAt w B v l) :
  ∃A c,v=.slice A l.length c∧l.length≤c∧c≤maxLen∧∀k (_:k<l.length),∃b off,A=some ⟨b,off,none⟩∧b<B∧∀j (hj:j<l.length),TaskCells w b (off+j*5) l[j]:=by
 obtain⟨⟨A,c,h1,h2,h3,h4⟩,_⟩:=h;refine⟨A,c,h1,h2,h3,fun k hk=>?_⟩;obtain⟨b,off,e,ao,hc⟩:=h4 (by omega);refine⟨b,off,e,ao,fun j hj=>?_⟩;have f:=fun (i:Nat) (hi:i<5) u (hu:l[j].cells[i]?=some u)=>hc (j*5+i) u ((Vn l j i hj hi).trans hu);have g:=fun (i:Nat) (hi:i<5) u (hu:l[j].cells[i]?=some u)=>(congrArg (fun o=>w.cell? ⟨b,o,none⟩) (Nat.add_assoc off (j*5) i)).trans (f i hi u hu);exact⟨g 0 (by omega) _ rfl,g 1 (by omega) _ rfl,g 2 (by omega) _ rfl,g 3 (by omega) _ rfl,g 4 (by omega) _ rfl⟩
theorem TasksAt.bef {w:World} {B:Nat} {v:Value} {l:List Task} (h:TasksAt w B v l) {k:Nat} (hk:k<l.length):Wp w B l[k].bv l[k].bef:=h.2.1 _ (yV hk)
theorem TasksAt.ok {w:World} {B:Nat} {v:Value} {l:List Task} (h:TasksAt w B v l) {k:Nat} (hk:k<l.length):l[k].ok:=h.2.2 _ (yV hk)
theorem TasksAt.open_bef {w:World} {B:Nat} {v:Value} {l:List Task} (h:TasksAt w B v l) {k:Nat} (hk:k<l.length) :
  l[k].bef.length≤l[k].bc∧l[k].bc≤maxLen∧∀i (_:i<l[k].bef.length),∃b off,l[k].ba=some ⟨b,off,none⟩∧b<B∧∀j (hj:j<l[k].bef.length),w.cell? ⟨b,off+j,none⟩=some (.string l[k].bef[j]):=by
 obtain⟨A,c,hv,h1,h2,h3⟩:=(h.bef hk).open_;injection hv with e1 _ e3;subst e1 e3;exact⟨h1,h2,h3⟩
theorem jg {w:World} {B B':Nat} {e size n:Nat} {v:Value} {xs:List Value} (h:w.ownsRow B e size v n xs) (hB:B'≤B):w.ownsRow B' e size v n xs:=by
 refine⟨h.1,?_⟩;rcases h.2 with h'|⟨g,cap,cur,h1,h2,r⟩
 ·exact .inl h'
 exact .inr ⟨g,cap,cur,h1,yH hB h2,r⟩
theorem vE {w:World} {base e n:Nat} {v:Value} {xs:List Value} (h:w.ownsRow base e 1 v n xs):xs.length=n:=by have:=h.1;omega
theorem xt {w:World} {b1 b2 e1 e2 s1 s2 n1 n2:Nat} {v1 v2:Value} {xs1 xs2:List Value} (h1:w.ownsRow b1 e1 s1 v1 n1 xs1) (h2:w.ownsRow b2 e2 s2 v2 n2 xs2) (dL:e1≠e2):v1.ownBlock=none∨v1.ownBlock≠v2.ownBlock:=by
 rcases h1.2 with⟨rfl,_⟩|⟨g1,c1,u1,rfl,_,hg1,_⟩
 ·exact .inl rfl
 right
 rcases h2.2 with⟨rfl,_⟩|⟨g2,c2,u2,rfl,_,hg2,_⟩
 ·simp[Value.ownBlock]
 intro he
 have:g1=g2:=by simpa[Value.ownBlock] using he
 subst this;rw[hg1] at hg2;injection hg2 with hg2;injection hg2 with _ h3;exact dL h3
theorem dy {a b c:World} {row:Option Nat} (h:a.grownBy b row) (k:b.grownBy c row):a.grownBy c row :=
 ⟨k.os.trans h.os,k.tape.trans h.tape,k.output.trans h.output,yH h.size k.size,fun i hi dL=>(k.block i (yK hi h.size) dL).trans (h.block i hi dL)⟩
theorem qK {a b c:World} {row row':Option Nat} (h:a.grownBy b row) (k:b.grownBy c row') (hr:∀g,row'=some g→a.heap.size≤g∨row=some g):a.grownBy c row :=
 ⟨k.os.trans h.os,k.tape.trans h.tape,k.output.trans h.output,yH h.size k.size,fun i hi dL=>(k.block i (yK hi h.size) (fun e=>by
  rcases hr i e.symm with h'|h'
  ·omega
  exact dL h'.symm)).trans (h.block i hi dL)⟩
theorem gG {a b:World} {row:Option Nat} (h:Below a.heap.size a b):a.grownBy b row:=⟨h.os,h.tape,h.output,h.size,fun i hi _=>h.block i hi⟩
theorem oV {a b:World} (h:a.grownBy b none):Below a.heap.size a b:=⟨h.os,h.tape,h.output,h.size,fun i hi=>h.block i hi (by simp)⟩
def Blk (w:World) (g:Nat) (t:TypeId) (cs:Array Value):Prop:=w.heap[g]?=some (.cells cs t (0,0))
section
variable {w w':World} {g:Nat} {t:TypeId} {cs:Array Value}
theorem Blk.lt (h:Blk w g t cs):g<w.heap.size:=(Array.getElem?_eq_some_iff.1 h).1
theorem Blk.cell (h:Blk w g t cs) (i:Nat):w.cell? ⟨g,i,none⟩=cs[i]?:=cell_of_row w g i cs t (0,0) h
theorem Blk.c2 {w:World} {g:Nat} {t:TypeId} {a0 a1:Value} (h:Blk w g t #[a0,a1]):w.cell? ⟨g,0,none⟩=some a0∧w.cell? ⟨g,1,none⟩=some a1:=⟨(h.cell 0).trans rfl,(h.cell 1).trans rfl⟩
theorem Blk.c4 {w:World} {g:Nat} {t:TypeId} {a0 a1 a2 a3:Value} (h:Blk w g t #[a0,a1,a2,a3]):w.cell? ⟨g,0,none⟩=some a0∧w.cell? ⟨g,1,none⟩=some a1∧w.cell? ⟨g,2,none⟩=some a2∧w.cell? ⟨g,3,none⟩=some a3:=⟨(h.cell 0).trans rfl,(h.cell 1).trans rfl,(h.cell 2).trans rfl,(h.cell 3).trans rfl⟩
theorem Blk.c5 {w:World} {g:Nat} {t:TypeId} {a0 a1 a2 a3 a4:Value} (h:Blk w g t #[a0,a1,a2,a3,a4]):w.cell? ⟨g,0,none⟩=some a0∧w.cell? ⟨g,1,none⟩=some a1∧w.cell? ⟨g,2,none⟩=some a2∧w.cell? ⟨g,3,none⟩=some a3∧w.cell? ⟨g,4,none⟩=some a4:=⟨(h.cell 0).trans rfl,(h.cell 1).trans rfl,(h.cell 2).trans rfl,(h.cell 3).trans rfl,(h.cell 4).trans rfl⟩
theorem Blk.c13 {w:World} {g:Nat} {t:TypeId} {a0 a1 a2 a3 a4 a5 a6 a7 a8 a9 a10 a11 a12:Value} (h:Blk w g t #[a0,a1,a2,a3,a4,a5,a6,a7,a8,a9,a10,a11,a12]):w.cell? ⟨g,0,none⟩=some a0∧w.cell? ⟨g,1,none⟩=some a1∧w.cell? ⟨g,2,none⟩=some a2∧w.cell? ⟨g,3,none⟩=some a3∧w.cell? ⟨g,4,none⟩=some a4∧w.cell? ⟨g,5,none⟩=some a5∧w.cell? ⟨g,6,none⟩=some a6∧w.cell? ⟨g,7,none⟩=some a7∧w.cell? ⟨g,8,none⟩=some a8∧w.cell? ⟨g,9,none⟩=some a9∧w.cell? ⟨g,10,none⟩=some a10∧w.cell? ⟨g,11,none⟩=some a11∧w.cell? ⟨g,12,none⟩=some a12:=⟨(h.cell 0).trans rfl,(h.cell 1).trans rfl,(h.cell 2).trans rfl,(h.cell 3).trans rfl,(h.cell 4).trans rfl,(h.cell 5).trans rfl,(h.cell 6).trans rfl,(h.cell 7).trans rfl,(h.cell 8).trans rfl,(h.cell 9).trans rfl,(h.cell 10).trans rfl,(h.cell 11).trans rfl,(h.cell 12).trans rfl⟩
theorem Blk.frozen (h:Blk w g t cs) (i:Nat):w.frozen? ⟨g,i,none⟩=false:=by
 unfold Blk at h;simp[World.frozen?,h]
theorem Blk.new (w:World) (t:TypeId) (cs:Array Value):Blk (w.alloc (.cells cs t)) w.heap.size t cs:=heap_alloc_new w _
theorem Blk.alloc (h:Blk w g t cs) (o:Obj):Blk (w.alloc o) g t cs:=(Below.heap_alloc w o g h.lt).trans h
theorem Blk.drewN (h:Blk w g t cs) (n:Nat):Blk (w.drewN n) g t cs:=h
theorem Blk.set_ (h:Blk w g t cs) (i:Nat) (u:Value):Blk (w.setCell ⟨g,i,none⟩ u) g t (cs.setIfInBounds i u):=by
 unfold Blk at h⊢;simp[World.setCell,Array.getElem?_modify,h]
theorem Blk.far (h:Blk w g t cs) {p:Addr} (hp:g≠p.block) (u:Value):Blk (w.setCell p u) g t cs:=(Below.heap_setCell w p u g hp).trans h
theorem Blk.kept (h:Blk w g t cs) {row:Option Nat} (hb:w.grownBy w' row) (hg:some g≠row):Blk w' g t cs:=(hb.block g h.lt hg).trans h
theorem Blk.below {B:Nat} (h:Blk w g t cs) (hb:Below B w w') (hg:g<B):Blk w' g t cs:=(hb.block g hg).trans h
theorem Blk.ne_own {b e s n:Nat} {v:Value} {xs:List Value} (h:Blk w g t cs) (ho:w.ownsRow b e s v n xs) (dL:e≠t):some g≠v.ownBlock:=by
 rcases ho.2 with⟨rfl,_⟩|⟨g',cap,cur,rfl,_,hh,_⟩
 ·simp[Value.ownBlock]
 intro he
 have:g=g':=by simpa[Value.ownBlock] using he
 subst this;unfold Blk at h;rw[h] at hh;injection hh with hh;injection hh with _ h3;exact dL h3.symm
theorem Blk.setGrown (_h:Blk w g t cs) (i:Nat) (u:Value):w.grownBy (w.setCell ⟨g,i,none⟩ u) (some g) :=
 ⟨rfl,rfl,rfl,by simp[World.setCell],fun k _ hk=>Below.heap_setCell w _ u k (fun e=>hk (by rw[e]))⟩
end
theorem fL {w:World} {B e size n:Nat} {v:Value} {xs:List Value} (h:w.ownsRow B e size v n xs) (k:Nat):(w.drewN k).ownsRow B e size v n xs:=h
theorem Ya {w:World} {base e g cap n:Nat} {xs:List Value} {u:Value} (hn:xs.length=n) (h:w.ownsRow base e 1 (.slice (some ⟨g,0,none⟩) (n+1) cap) (n+1) (xs++[u])):w.ownsRow base e 1 (.slice (some ⟨g,0,none⟩) n cap) n xs :=
 ownsRow_pop (by omega) h
theorem dQ {P:Program} (w:World) {ops:Array Oper} {rest:List Oper} {o:Oper} {a:Act} {Q:Exit→Act→World→Prop} (sP:o.guard=none) (s x:Operand) (t:TypeId)
  (ho:o.op=.call { callee:=.builtin .append,args:=#[s,x],argTypes:=#[t,t] })
  (base:Nat) (e:TypeId) {z:Value} {bytes:Nat} (FH:(P.info? e).map (fun i=>(i.zero,i.size,i.bytes))=some (some z,1,bytes)) (ht:P.underlying t=some (.slice e)) (jb:z.cells.size=1)
  (v:Value) (n:Nat) (xs:List Value) (hs:a.eval s=v) (aK:w.ownsRow base e 1 v n xs) (u:Value) (hu:u.oneCell'=true)
  (hx:a.eval x=.slice (some ⟨w.heap.size,0,none⟩) 1 1) (UX:n+1≤maxLen) (aZ:(n+1)*bytes≤140737488355328) (Mq:base≤w.heap.size)
  (h:∀g cap w',w'.ownsRow base e 1 (.slice (some ⟨g,0,none⟩) (n+1) cap) (n+1) (xs++[u])→w.grownBy w' v.ownBlock→base≤g→(v.ownBlock=some g∨w.heap.size≤g) →
   wpList P ops Q rest (a.put o.dst (.slice (some ⟨g,0,none⟩) (n+1) cap)) w') :
  wpList P ops Q (o::rest) a (w.alloc (.cells #[u] e)):=by
 obtain⟨i,hi,hz,de,hby⟩:=info_parts FH;refine wpList_append_own_at _ sP s x t ho base e i z 1 bytes ht hi hz de hby jb (by decide) v n xs hs (aK.alloc _) ⟨w.heap.size,0,none⟩ 1 1 [u] hx rfl (cell_one_new _ _ _)
  (fun y hy=>by simp only[List.mem_singleton] at hy;subst hy;exact hu) UX aZ (by simp;omega) ?_
 intro v' w' h2 h3 _ h5;have hl:=h2.1;rcases h2.2 with⟨rfl,h0⟩|⟨g,cap,cur,rfl,xW,r⟩
 ·exact absurd h0 (by omega)
 refine h g cap w' h2 (dy (World.grownBy_alloc w _ _) h3) xW ?_;rcases h5 with h5|h5
 ·exact .inl (by simpa[Value.ownBlock] using h5.symm)
 right
 have:g=w.heap.size+1:=by simpa[Value.ownBlock] using h5
 omega
theorem Bv {w w':World} {row:Option Nat} (hg:w.grownBy w' row) {D:Nat} {o:Obj} (h:w.heap[D]?=some o) (dL:some D≠row):w'.heap[D]?=some o :=
 (hg.block D (Array.getElem?_eq_some_iff.1 h).1 dL).trans h
theorem aY {α:Type} (l:List α) (k:Nat) (h:k<l.length):l.take (k+1)=l.take k++[l[k]]:=List.take_succ_eq_append_getElem h
theorem ik {α:Type} {p:α→Bool} {l:List α} {j:Nat} (h:(l.take j).findIdx? p=none) (hj:j<l.length) (hp:p l[j]=true):l.findIdx? p=some j:=by
 rw[List.findIdx?_eq_some_iff_getElem];refine⟨hj,hp,fun i hi=>?_⟩;rw[List.findIdx?_eq_none_iff] at h
 have:=h l[i] (by rw[List.mem_take_iff_getElem];exact⟨i,by omega,rfl⟩);simp[this]
theorem fN {α:Type} {p:α→Bool} {l:List α} {j:Nat} (h:(l.take j).findIdx? p=none) (hj:j<l.length) (hp:p l[j]=false):(l.take (j+1)).findIdx? p=none:=by
 rw[List.findIdx?_eq_none_iff] at h⊢;intro x hx;rw[List.take_succ_eq_append_getElem hj,List.mem_append,List.mem_singleton] at hx;rcases hx with hx|rfl
 ·exact h x hx
 exact hp
def fj (o:Option Nat):Int:=match o with|some i=>i|none=>-1
theorem Un (o:Option Nat):decide (0≤fj o)=o.isSome:=by
 cases o with
 | none=>rfl
 | some i=>simp[fj]
theorem Am {α:Type} (p:α→Bool) (l:List α):(l.findIdx? p).isSome=l.any p:=by
 rw[List.findIdx?_isSome]
theorem jI {α:Type} (p:α→Bool) (l:List α):decide (0≤fj (l.findIdx? p))=l.any p:=by rw[Un,Am]
theorem mU {α:Type} (p:α→Bool) (l:List α) : -1≤fj (l.findIdx? p):=by
 cases l.findIdx? p with
 | none=>exact Int.le_refl _
 | some i=>simp only[fj];omega
theorem Ze {a b:Bool} (h:a=b):Ending.returned (.bool a)=.returned (.bool b):=by rw[h]
theorem qqq {v:Value} {a b:Bool} (h:a=b):Ending.returned (.tuple #[v,.bool a])=.returned (.tuple #[v,.bool b]):=by rw[h]
theorem eK {k:IntKind} {a b:Int} (h:a=b):Ending.returned (.int k a)=.returned (.int k b):=by rw[h]
theorem zZ (v:Value) (l:List Task) (K:Nat) (C:Array Value) (p:Task→Bool) (eg:∀args w,(callFunc K args).run Tryz.prog w=.ok (.enter K args) w) (w:World) (hl:TasksAt w w.heap.size v l)
  (hf:∀t∈l,∀w',Below w.heap.size w w'→Calls Tryz.prog K (#[t.val]++C) w' fun e fV=>e=.returned (.bool (p t))∧Below w'.heap.size w' fV) :
  Calls Tryz.prog 195 #[v,.func (.func K) #[] C] w fun e w'=>e=.returned (.int .i64 (fj (l.findIdx? p)))∧Below w.heap.size w w':=by
 obtain⟨A,c,rfl,fU,cM,aj⟩:=hl.open_;unfold maxLen at cM;have HF:=zh hf;clear hf;go_enter Tryz.func195,Tryz.ntmps195;go_wp2;go_loopw [8] (fun x wr=>∃j:Nat,j≤l.length∧x=.int .i64 j∧(l.take j).findIdx? p=none∧Below w.heap.size w wr) (fun x _=>l.length-(intOf x).toNat)
 case atStart=>exact⟨0,yI _,rfl,by simp,yB _ _⟩
 obtain⟨j,hj,rfl,iu,ai⟩:=hrel;have nE:=zh iu;clear iu;by_cases ao:j<l.length
 ·obtain⟨b,off,rfl,hb,aj⟩:=aj j ao;obtain⟨h0,h1,h2,h3,h4⟩:=(aj j ao).below ai hb;clear aj;have bH:=HF.o l[j] (yV ao);unfold Task.val at bH;cases hq:p l[j]
  case true=>
   rw[hq] at bH;go_wp2_with (go_at_fn K;refine (bH _ ai).mono ?_;rintro e w' ⟨rfl,ev⟩);go_ret;exact⟨by rw[ik nE.o ao hq];rfl,ai.trans (ev.mono ai.size)⟩
  rw[hq] at bH;go_wp2_with (go_at_fn K;refine (bH _ ai).mono ?_;rintro e w' ⟨rfl,ev⟩);go_roundw
  case rel=>exact⟨j+1,by omega,by go_num,fN nE.o ao hq,ai.trans (ev.mono ai.size)⟩
  simp[intOf];omega
 have oD:j=l.length:=by omega
 subst oD;go_wp2;go_ret;exact⟨by rw[←yT (l:=l),nE.o];rfl,ai⟩
theorem tI (v:Value) (l:List Task) (K:Nat) (C:Array Value) (p:Task→Bool) (eg:∀args w,(callFunc K args).run Tryz.prog w=.ok (.enter K args) w) (w:World) (hl:TasksAt w w.heap.size v l)
  (hf:∀t∈l,∀w',Below w.heap.size w w'→Calls Tryz.prog K (#[t.val]++C) w' fun e fV=>e=.returned (.bool (p t))∧Below w'.heap.size w' fV) :
  Calls Tryz.prog 162 #[v,.func (.func K) #[] C] w fun e w'=>e=.returned (.bool (l.any p))∧Below w.heap.size w w':=by
 have hc:=zZ v l K C p eg w hl hf;have sQ:=mU p l;have HA:=zh (jI p l);generalize fj (l.findIdx? p)=x at*;clear hf hl;go_enter Tryz.func162,Tryz.ntmps162;go_wp2_with (go_at_call 195;refine hc.mono ?_;rintro e w' ⟨rfl,ev⟩);go_ret;exact⟨Ze HA.o,ev⟩
theorem C5 (v:Value) (l:List Int) (K:Nat) (C:Array Value) (p:Int→Bool) (eg:∀args w,(callFunc K args).run Tryz.prog w=.ok (.enter K args) w) (w:World) (hl:RowAt (Value.int .i64) w w.heap.size v l)
  (hf:∀t∈l,∀w',Below w.heap.size w w'→Calls Tryz.prog K (#[(Value.int .i64) t]++C) w' fun e fV=>e=.returned (.bool (p t))∧Below w'.heap.size w' fV) :
  Calls Tryz.prog 127 #[v,.func (.func K) #[] C] w fun e w'=>e=.returned (.int .i64 (fj (l.findIdx? p)))∧Below w.heap.size w w':=by
 obtain⟨A,c,rfl,fU,cM,aj⟩:=hl.open_;unfold maxLen at cM;have HF:=zh hf;clear hf;go_enter Tryz.func127,Tryz.ntmps127;go_wp2;go_loopw [8] (fun x wr=>∃j:Nat,j≤l.length∧x=.int .i64 j∧(l.take j).findIdx? p=none∧Below w.heap.size w wr) (fun x _=>l.length-(intOf x).toNat)
 case atStart=>exact⟨0,yI _,rfl,by simp,yB _ _⟩
 obtain⟨j,hj,rfl,iu,ai⟩:=hrel;have nE:=zh iu;clear iu;by_cases ao:j<l.length
 ·obtain⟨b,off,rfl,hb,aj⟩:=aj j ao;have h0:=(ai.cell (p:=⟨b,off+j,none⟩) hb).trans (aj j ao);clear aj;have bH:=HF.o l[j] (yV ao);cases hq:p l[j]
  case true=>
   rw[hq] at bH;go_wp2_with (go_at_fn K;refine (bH _ ai).mono ?_;rintro e w' ⟨rfl,ev⟩);go_ret;exact⟨by rw[ik nE.o ao hq];rfl,ai.trans (ev.mono ai.size)⟩
  rw[hq] at bH;go_wp2_with (go_at_fn K;refine (bH _ ai).mono ?_;rintro e w' ⟨rfl,ev⟩);go_roundw
  case rel=>exact⟨j+1,by omega,by go_num,fN nE.o ao hq,ai.trans (ev.mono ai.size)⟩
  simp[intOf];omega
 have oD:j=l.length:=by omega
 subst oD;go_wp2;go_ret;exact⟨by rw[←yT (l:=l),nE.o];rfl,ai⟩
theorem vl (v:Value) (l:List Int) (K:Nat) (C:Array Value) (p:Int→Bool) (eg:∀args w,(callFunc K args).run Tryz.prog w=.ok (.enter K args) w) (w:World) (hl:RowAt (Value.int .i64) w w.heap.size v l)
  (hf:∀t∈l,∀w',Below w.heap.size w w'→Calls Tryz.prog K (#[(Value.int .i64) t]++C) w' fun e fV=>e=.returned (.bool (p t))∧Below w'.heap.size w' fV) :
  Calls Tryz.prog 73 #[v,.func (.func K) #[] C] w fun e w'=>e=.returned (.bool (l.any p))∧Below w.heap.size w w':=by
 have hc:=C5 v l K C p eg w hl hf;have sQ:=mU p l;have HA:=zh (jI p l);generalize fj (l.findIdx? p)=x at*;clear hf hl;go_enter Tryz.func73,Tryz.ntmps73;go_wp2_with (go_at_call 127;refine hc.mono ?_;rintro e w' ⟨rfl,ev⟩);go_ret;exact⟨Ze HA.o,ev⟩
theorem Aa (v:Value) (l:List Int) (K:Nat) (C:Array Value) (p:Int→Bool) (eg:∀args w,(callFunc K args).run Tryz.prog w=.ok (.enter K args) w) (B:Nat) (w:World) (hl:RowAt (Value.int .i64) w B v l)
  (hf:∀t∈l,Calls Tryz.prog K (#[(Value.int .i64) t]++C) w fun e fV=>e=.returned (.bool (p t))∧w=fV) :
  Calls Tryz.prog 127 #[v,.func (.func K) #[] C] w fun e w'=>e=.returned (.int .i64 (fj (l.findIdx? p)))∧w=w':=by
 obtain⟨A,c,rfl,fU,cM,aj⟩:=hl.open_;unfold maxLen at cM;have HF:=zh hf;clear hf;go_enter Tryz.func127,Tryz.ntmps127;go_wp2;go_loopw [8] (fun x wr=>∃j:Nat,j≤l.length∧x=.int .i64 j∧(l.take j).findIdx? p=none∧w=wr) (fun x _=>l.length-(intOf x).toNat)
 case atStart=>exact⟨0,yI _,rfl,by simp,rfl⟩
 obtain⟨j,hj,rfl,iu,rfl⟩:=hrel;have nE:=zh iu;clear iu;by_cases ao:j<l.length
 ·obtain⟨b,off,rfl,hb,aj⟩:=aj j ao;have h0:=aj j ao;clear aj;have bH:=HF.o l[j] (yV ao);cases hq:p l[j]
  case true=>
   rw[hq] at bH;go_wp2_with (go_at_fn K;refine bH.mono ?_;rintro e w' ⟨rfl,rfl⟩);go_ret;exact⟨by rw[ik nE.o ao hq];rfl,rfl⟩
  rw[hq] at bH;go_wp2_with (go_at_fn K;refine bH.mono ?_;rintro e w' ⟨rfl,rfl⟩);go_roundw
  case rel=>exact⟨j+1,by omega,by go_num,fN nE.o ao hq,by trivial⟩
  simp[intOf];omega
 have oD:j=l.length:=by omega
 subst oD;go_wp2;go_ret;exact⟨by rw[←yT (l:=l),nE.o];rfl,rfl⟩
theorem mm (v:Value) (l:List Int) (K:Nat) (C:Array Value) (p:Int→Bool) (eg:∀args w,(callFunc K args).run Tryz.prog w=.ok (.enter K args) w) (B:Nat) (w:World) (hl:RowAt (Value.int .i64) w B v l)
  (hf:∀t∈l,Calls Tryz.prog K (#[(Value.int .i64) t]++C) w fun e fV=>e=.returned (.bool (p t))∧w=fV) :
  Calls Tryz.prog 73 #[v,.func (.func K) #[] C] w fun e w'=>e=.returned (.bool (l.any p))∧w=w':=by
 have hc:=Aa v l K C p eg B w hl hf;have sQ:=mU p l;have HA:=zh (jI p l);generalize fj (l.findIdx? p)=x at*;clear hf hl;go_enter Tryz.func73,Tryz.ntmps73;go_wp2_with (go_at_call 127;refine hc.mono ?_;rintro e w' ⟨rfl,rfl⟩);go_ret;exact⟨Ze HA.o,rfl⟩
theorem Uk (v:Value) (l:List ByteArray) (x:ByteArray) (B:Nat) (w:World) (hl:RowAt (Value.string) w B v l) :
  Calls Tryz.prog 196 #[v,(Value.string) x] w fun e w'=>e=.returned (.int .i64 (fj (l.findIdx? fun y=>decide (x=y))))∧w=w':=by
 obtain⟨A,c,rfl,fU,cM,aj⟩:=hl.open_;unfold maxLen at cM;go_enter Tryz.func196,Tryz.ntmps196;go_wp2;go_loopw [8] (fun s wr=>∃j:Nat,j≤l.length∧s=.int .i64 j∧((l.take j).findIdx? fun y=>decide (x=y))=none∧w=wr) (fun x _=>l.length-(intOf x).toNat)
 case atStart=>exact⟨0,yI _,rfl,by simp,rfl⟩
 obtain⟨j,hj,rfl,iu,rfl⟩:=hrel;have nE:=zh iu;clear iu;by_cases ao:j<l.length
 ·obtain⟨b,off,rfl,hb,aj⟩:=aj j ao;have h0:=aj j ao;clear aj;by_cases hq:x=l[j]
  ·have ht:(x.toList==l[j].toList)=true:=by rw[pi];simpa using hq
   go_wp2;go_ret;exact⟨by rw[ik nE.o ao (by simpa using hq)];rfl,rfl⟩
  have ht:(x.toList==l[j].toList)=false:=by rw[pi];simpa using hq
  go_wp2;go_roundw
  case rel=>exact⟨j+1,by omega,by go_num,fN nE.o ao (by simpa using hq),by trivial⟩
  simp[intOf];omega
 have oD:j=l.length:=by omega
 subst oD;go_wp2;go_ret;exact⟨by rw[←yT (l:=l),nE.o];rfl,rfl⟩
theorem uJ (v:Value) (l:List ByteArray) (x:ByteArray) (B:Nat) (w:World) (hl:RowAt (Value.string) w B v l) :
  Calls Tryz.prog 164 #[v,(Value.string) x] w fun e w'=>e=.returned (.bool (decide (x∈l)))∧w=w':=by
 have hc:=Uk v l x B w hl;have sQ:=mU (fun y=>decide (x=y)) l;have HA:=zh ((jI (fun y=>decide (x=y)) l).trans (show _=decide (x∈l) by rw[Bool.eq_iff_iff];simp));generalize fj (l.findIdx? fun y=>decide (x=y))=i at*;clear hl;go_enter Tryz.func164,Tryz.ntmps164;go_wp2_with (go_at_call 196;refine hc.mono ?_;rintro e w' ⟨rfl,rfl⟩);go_ret;exact⟨Ze HA.o,rfl⟩
theorem Ul (v:Value) (l:List Int) (x:Int) (B:Nat) (w:World) (hl:RowAt (Value.int .i64) w B v l) :
  Calls Tryz.prog 197 #[v,(Value.int .i64) x] w fun e w'=>e=.returned (.int .i64 (fj (l.findIdx? fun y=>decide (x=y))))∧w=w':=by
 obtain⟨A,c,rfl,fU,cM,aj⟩:=hl.open_;unfold maxLen at cM;go_enter Tryz.func197,Tryz.ntmps197;go_wp2;go_loopw [8] (fun s wr=>∃j:Nat,j≤l.length∧s=.int .i64 j∧((l.take j).findIdx? fun y=>decide (x=y))=none∧w=wr) (fun x _=>l.length-(intOf x).toNat)
 case atStart=>exact⟨0,yI _,rfl,by simp,rfl⟩
 obtain⟨j,hj,rfl,iu,rfl⟩:=hrel;have nE:=zh iu;clear iu;by_cases ao:j<l.length
 ·obtain⟨b,off,rfl,hb,aj⟩:=aj j ao;have h0:=aj j ao;clear aj;by_cases hq:x=l[j]
  ·have ht:(x==l[j])=true:=by simpa using hq
   go_wp2;go_ret;exact⟨by rw[ik nE.o ao (by simpa using hq)];rfl,rfl⟩
  have ht:(x==l[j])=false:=by simpa using hq
  go_wp2;go_roundw
  case rel=>exact⟨j+1,by omega,by go_num,fN nE.o ao (by simpa using hq),by trivial⟩
  simp[intOf];omega
 have oD:j=l.length:=by omega
 subst oD;go_wp2;go_ret;exact⟨by rw[←yT (l:=l),nE.o];rfl,rfl⟩
theorem Gs (v:Value) (l:List Int) (x:Int) (B:Nat) (w:World) (hl:RowAt (Value.int .i64) w B v l) :
  Calls Tryz.prog 166 #[v,(Value.int .i64) x] w fun e w'=>e=.returned (.bool (decide (x∈l)))∧w=w':=by
 have hc:=Ul v l x B w hl;have sQ:=mU (fun y=>decide (x=y)) l;have HA:=zh ((jI (fun y=>decide (x=y)) l).trans (show _=decide (x∈l) by rw[Bool.eq_iff_iff];simp));generalize fj (l.findIdx? fun y=>decide (x=y))=i at*;clear hl;go_enter Tryz.func166,Tryz.ntmps166;go_wp2_with (go_at_call 197;refine hc.mono ?_;rintro e w' ⟨rfl,rfl⟩);go_ret;exact⟨Ze HA.o,rfl⟩
theorem NY (v:Value) (l:List Bool) (x:Bool) (B:Nat) (w:World) (hl:RowAt (Value.bool) w B v l) :
  Calls Tryz.prog 168 #[v,(Value.bool) x] w fun e w'=>e=.returned (.int .i64 (fj (l.findIdx? fun y=>decide (x=y))))∧w=w':=by
 obtain⟨A,c,rfl,fU,cM,aj⟩:=hl.open_;unfold maxLen at cM;go_enter Tryz.func168,Tryz.ntmps168;go_wp2;go_loopw [8] (fun s wr=>∃j:Nat,j≤l.length∧s=.int .i64 j∧((l.take j).findIdx? fun y=>decide (x=y))=none∧w=wr) (fun x _=>l.length-(intOf x).toNat)
 case atStart=>exact⟨0,yI _,rfl,by simp,rfl⟩
 obtain⟨j,hj,rfl,iu,rfl⟩:=hrel;have nE:=zh iu;clear iu;by_cases ao:j<l.length
 ·obtain⟨b,off,rfl,hb,aj⟩:=aj j ao;have h0:=aj j ao;clear aj;by_cases hq:x=l[j]
  ·have ht:(x==l[j])=true:=by simpa using hq
   go_wp2;go_ret;exact⟨by rw[ik nE.o ao (by simpa using hq)];rfl,rfl⟩
  have ht:(x==l[j])=false:=by simpa using hq
  go_wp2;go_roundw
  case rel=>exact⟨j+1,by omega,by go_num,fN nE.o ao (by simpa using hq),by trivial⟩
  simp[intOf];omega
 have oD:j=l.length:=by omega
 subst oD;go_wp2;go_ret;exact⟨by rw[←yT (l:=l),nE.o];rfl,rfl⟩
theorem CY (v:Value) (l:List Bool) (x:Bool) (B:Nat) (w:World) (hl:RowAt (Value.bool) w B v l) :
  Calls Tryz.prog 129 #[v,(Value.bool) x] w fun e w'=>e=.returned (.bool (decide (x∈l)))∧w=w':=by
 have hc:=NY v l x B w hl;have sQ:=mU (fun y=>decide (x=y)) l;have HA:=zh ((jI (fun y=>decide (x=y)) l).trans (show _=decide (x∈l) by rw[Bool.eq_iff_iff];simp));generalize fj (l.findIdx? fun y=>decide (x=y))=i at*;clear hl;go_enter Tryz.func129,Tryz.ntmps129;go_wp2_with (go_at_call 168;refine hc.mono ?_;rintro e w' ⟨rfl,rfl⟩);go_ret;exact⟨Ze HA.o,rfl⟩
open Go.RowKit Go.Shelf Go.PlainAid
def da (n:Int):Bool:=decide ((97≤n∧n≤122)∨(65≤n∧n≤90))
def mY (n:Int):Bool:=decide (48≤n∧n≤57)
def eT (n:Int):Bool:=da n||mY n||decide (n=95)
def WordTo (s:ByteArray) (k:Nat):Prop:=k≤s.size∧(∀i,i<k→eT (bt s i)=true)∧(k<s.size→eT (bt s k)=false)
def dw (s:ByteArray):Bool:=decide (0<s.size∧s.size≤20∧da (bt s 0)=true∧∀i,i<s.size→eT (bt s i)=true)
theorem WordTo.start (s:ByteArray):∀i,i<0→eT (bt s i)=true:=fun i h=>absurd h (Nat.not_lt_zero i)
theorem jP {s:ByteArray} {k:Nat} (h:∀i,i<k→eT (bt s i)=true) (hk:eT (bt s k)=true):∀i,i<k+1→eT (bt s i)=true:=by
 intro i hi;by_cases e:i=k
 ·subst e;exact hk
 exact h i (by omega)
theorem rM {s:ByteArray} {k:Nat} (h:WordTo s k) (h0:0<s.size) (Mu:s.size≤20) (hl:da (bt s 0)=true):decide ((k:Int)=(s.size:Int))=dw s:=by
 unfold dw;rw[Bool.eq_iff_iff,yO,yO];constructor
 ·intro e
  have:k=s.size:=by omega
  subst this;exact⟨h0,Mu,hl,h.2.1⟩
 intro ⟨_,_,_,ha⟩;rcases Nat.lt_or_ge k s.size with ao|hge
 ·have:=h.2.2 ao;rw[ha k ao] at this;cases this
 have:=h.1;omega
theorem pz {s:ByteArray} (h:¬(0<s.size∧s.size≤20∧da (bt s 0)=true)):dw s=false:=by
 unfold dw;rw[YD];exact fun⟨a,b,c,_⟩=>h ⟨a,b,c⟩
theorem AV (n:Int) (w:World):Calls Tryz.prog 49 #[.int .u8 n] w fun e w'=>e=.returned (.bool (da n))∧w=w':=by
  by_cases h1:97 ≤ n <;> by_cases h2:n ≤ 122 <;> by_cases h3:65 ≤ n <;> by_cases h4:n ≤ 90 <;> first
    | (exfalso;omega)
    | (have Mv:decide (97 ≤ n)=true := by simpa using h1
       have h2b:decide (n≤122)=true:=by simpa using h2
       go_enter Tryz.func49,Tryz.ntmps49;go_wp2;go_ret;exact⟨Ze (by unfold da;symm;simp;omega),rfl⟩)
    | (have Mv:decide (97 ≤ n)=true := by simpa using h1
       have h2b:decide (n≤122)=false:=by simpa using h2
       have P8:decide (65≤n)=true:=by simpa using h3
       have h4b:decide (n≤90)=false:=by simpa using h4
       go_enter Tryz.func49,Tryz.ntmps49;go_wp2;go_ret;exact⟨Ze (by unfold da;symm;simp;omega),rfl⟩)
    | (have Mv:decide (97 ≤ n)=false := by simpa using h1
       have P8:decide (65≤n)=true:=by simpa using h3
       have h4b:decide (n≤90)=true:=by simpa using h4
       go_enter Tryz.func49,Tryz.ntmps49;go_wp2;go_ret;exact⟨Ze (by unfold da;symm;simp;omega),rfl⟩)
    | (have Mv:decide (97 ≤ n)=false := by simpa using h1
       have P8:decide (65≤n)=true:=by simpa using h3
       have h4b:decide (n≤90)=false:=by simpa using h4
       go_enter Tryz.func49,Tryz.ntmps49;go_wp2;go_ret;exact⟨Ze (by unfold da;symm;simp;omega),rfl⟩)
    | (have Mv:decide (97 ≤ n)=false := by simpa using h1
       have P8:decide (65≤n)=false:=by simpa using h3
       go_enter Tryz.func49,Tryz.ntmps49;go_wp2;go_ret;exact⟨Ze (by unfold da;symm;simp;omega),rfl⟩)
theorem Q5 (n:Int) (w:World):Calls Tryz.prog 98 #[.int .u8 n] w fun e w'=>e=.returned (.bool (mY n))∧w=w':=by
 by_cases h1:48≤n
 ·by_cases h2:n≤57
  all_goals
   go_enter Tryz.func98,Tryz.ntmps98;go_wp2;go_ret;exact⟨Ze (by unfold mY;symm;simp;omega),rfl⟩
 have Mv:decide (48≤n)=false:=by simpa using h1
 go_enter Tryz.func98,Tryz.ntmps98;go_wp2;go_ret;exact⟨Ze (by unfold mY;symm;simp;omega),rfl⟩
theorem BG (n:Int) (w:World):Calls Tryz.prog 77 #[.int .u8 n] w fun e w'=>e=.returned (.bool (da n))∧w=w':=by
  by_cases h1:97 ≤ n <;> by_cases h2:n ≤ 122 <;> by_cases h3:65 ≤ n <;> by_cases h4:n ≤ 90 <;> first
    | (exfalso;omega)
    | (have Mv:decide (97 ≤ n)=true := by simpa using h1
       have h2b:decide (n≤122)=true:=by simpa using h2
       go_enter Tryz.func77,Tryz.ntmps77;go_wp2;go_ret;exact⟨Ze (by unfold da;symm;simp;omega),rfl⟩)
    | (have Mv:decide (97 ≤ n)=true := by simpa using h1
       have h2b:decide (n≤122)=false:=by simpa using h2
       have P8:decide (65≤n)=true:=by simpa using h3
       have h4b:decide (n≤90)=false:=by simpa using h4
       go_enter Tryz.func77,Tryz.ntmps77;go_wp2;go_ret;exact⟨Ze (by unfold da;symm;simp;omega),rfl⟩)
    | (have Mv:decide (97 ≤ n)=false := by simpa using h1
       have P8:decide (65≤n)=true:=by simpa using h3
       have h4b:decide (n≤90)=true:=by simpa using h4
       go_enter Tryz.func77,Tryz.ntmps77;go_wp2;go_ret;exact⟨Ze (by unfold da;symm;simp;omega),rfl⟩)
    | (have Mv:decide (97 ≤ n)=false := by simpa using h1
       have P8:decide (65≤n)=true:=by simpa using h3
       have h4b:decide (n≤90)=false:=by simpa using h4
       go_enter Tryz.func77,Tryz.ntmps77;go_wp2;go_ret;exact⟨Ze (by unfold da;symm;simp;omega),rfl⟩)
    | (have Mv:decide (97 ≤ n)=false := by simpa using h1
       have P8:decide (65≤n)=false:=by simpa using h3
       go_enter Tryz.func77,Tryz.ntmps77;go_wp2;go_ret;exact⟨Ze (by unfold da;symm;simp;omega),rfl⟩)
theorem VD (n:Int) (w:World):Calls Tryz.prog 130 #[.int .u8 n] w fun e w'=>e=.returned (.bool (mY n))∧w=w':=by
 by_cases h1:48≤n
 ·by_cases h2:n≤57
  all_goals
   go_enter Tryz.func130,Tryz.ntmps130;go_wp2;go_ret;exact⟨Ze (by unfold mY;symm;simp;omega),rfl⟩
 have Mv:decide (48≤n)=false:=by simpa using h1
 go_enter Tryz.func130,Tryz.ntmps130;go_wp2;go_ret;exact⟨Ze (by unfold mY;symm;simp;omega),rfl⟩
theorem XR (s:ByteArray) (hs:s.size≤maxLen) (w:World):Calls Tryz.prog 50 #[.string s,.int .i64 0] w fun e w'=>(∃k:Nat,e=.returned (.int .i64 k)∧WordTo s k)∧w=w':=by
 unfold maxLen at hs;have rf:=get_bt s;go_enter Tryz.func50,Tryz.ntmps50;go_wp2;go_loopw [1] (fun x wr=>∃j:Nat,j≤s.size∧x=.int .i64 j∧Y0 (∀i,i<j→eT (bt s i)=true)∧w=wr) (fun x _=>s.size-(intOf x).toNat)
 case atStart=>exact⟨0,yI _,rfl,WordTo.start s,rfl⟩
 obtain⟨j,hj,rfl,Hw,rfl⟩:=hrel;by_cases ao:j<s.size
 ·have hL:=AV (bt s j) w;have hD:=Q5 (bt s j) w;cases h1:da (bt s j)
  case true=>
   rw[h1] at hL;have HK:Y0 (eT (bt s j)=true):=by unfold Y0 eT;simp[h1]
   clear h1;go_wp2_with (go_at_call 49;refine hL.mono ?_;rintro e w' ⟨rfl,rfl⟩);go_roundw
   case rel=>exact⟨j+1,by omega,by go_num,jP Hw.o HK.o,by trivial⟩
   simp[intOf];omega
  rw[h1] at hL;cases h2:mY (bt s j)
  case true=>
   rw[h2] at hD;have HK:Y0 (eT (bt s j)=true):=by unfold Y0 eT;simp[h2]
   clear h1 h2;go_wp2_with (first|(go_at_call 49;refine hL.mono ?_;rintro e w' ⟨rfl,rfl⟩)|(go_at_call 98;refine hD.mono ?_;rintro e w' ⟨rfl,rfl⟩));go_roundw
   case rel=>exact⟨j+1,by omega,by go_num,jP Hw.o HK.o,by trivial⟩
   simp[intOf];omega
  rw[h2] at hD;by_cases h3:bt s j=95
  ·have HK:Y0 (eT (bt s j)=true):=by unfold Y0 eT;simp[h3]
   have P8:(bt s j==95)=true:=by simpa using h3
   clear h1 h2 h3;go_wp2_with (first|(go_at_call 49;refine hL.mono ?_;rintro e w' ⟨rfl,rfl⟩)|(go_at_call 98;refine hD.mono ?_;rintro e w' ⟨rfl,rfl⟩));go_roundw
   case rel=>exact⟨j+1,by omega,by go_num,jP Hw.o HK.o,by trivial⟩
   simp[intOf];omega
  have HK:Y0 (eT (bt s j)=false):=by unfold Y0 eT;simp[h1,h2,h3]
  have P8:(bt s j==95)=false:=by simpa using h3
  clear h1 h2 h3;go_wp2_with (first|(go_at_call 49;refine hL.mono ?_;rintro e w' ⟨rfl,rfl⟩)|(go_at_call 98;refine hD.mono ?_;rintro e w' ⟨rfl,rfl⟩));go_ret;exact⟨⟨j,rfl,hj,Hw.o,fun _=>HK.o⟩,rfl⟩
 go_wp2;go_ret;exact⟨⟨j,rfl,hj,Hw.o,fun h=>absurd h ao⟩,rfl⟩
theorem ZB (s:ByteArray) (hs:s.size≤maxLen) (w:World):Calls Tryz.prog 78 #[.string s] w fun e w'=>(∃k:Nat,e=.returned (.int .i64 k)∧WordTo s k)∧w=w':=by
 unfold maxLen at hs;have rf:=get_bt s;go_enter Tryz.func78,Tryz.ntmps78;go_wp2;go_loopw [3] (fun x wr=>∃j:Nat,j≤s.size∧x=.int .i64 j∧Y0 (∀i,i<j→eT (bt s i)=true)∧w=wr) (fun x _=>s.size-(intOf x).toNat)
 case atStart=>exact⟨0,yI _,rfl,WordTo.start s,rfl⟩
 obtain⟨j,hj,rfl,Hw,rfl⟩:=hrel;by_cases ao:j<s.size
 ·have hL:=BG (bt s j) w;have hD:=VD (bt s j) w;cases h1:da (bt s j)
  case true=>
   rw[h1] at hL;have HK:Y0 (eT (bt s j)=true):=by unfold Y0 eT;simp[h1]
   clear h1;go_wp2_with (go_at_call 77;refine hL.mono ?_;rintro e w' ⟨rfl,rfl⟩);go_roundw
   case rel=>exact⟨j+1,by omega,by go_num,jP Hw.o HK.o,by trivial⟩
   simp[intOf];omega
  rw[h1] at hL;cases h2:mY (bt s j)
  case true=>
   rw[h2] at hD;have HK:Y0 (eT (bt s j)=true):=by unfold Y0 eT;simp[h2]
   clear h1 h2;go_wp2_with (first|(go_at_call 77;refine hL.mono ?_;rintro e w' ⟨rfl,rfl⟩)|(go_at_call 130;refine hD.mono ?_;rintro e w' ⟨rfl,rfl⟩));go_roundw
   case rel=>exact⟨j+1,by omega,by go_num,jP Hw.o HK.o,by trivial⟩
   simp[intOf];omega
  rw[h2] at hD;by_cases h3:bt s j=95
  ·have HK:Y0 (eT (bt s j)=true):=by unfold Y0 eT;simp[h3]
   have P8:(bt s j==95)=true:=by simpa using h3
   clear h1 h2 h3;go_wp2_with (first|(go_at_call 77;refine hL.mono ?_;rintro e w' ⟨rfl,rfl⟩)|(go_at_call 130;refine hD.mono ?_;rintro e w' ⟨rfl,rfl⟩));go_roundw
   case rel=>exact⟨j+1,by omega,by go_num,jP Hw.o HK.o,by trivial⟩
   simp[intOf];omega
  have HK:Y0 (eT (bt s j)=false):=by unfold Y0 eT;simp[h1,h2,h3]
  have P8:(bt s j==95)=false:=by simpa using h3
  clear h1 h2 h3;go_wp2_with (first|(go_at_call 77;refine hL.mono ?_;rintro e w' ⟨rfl,rfl⟩)|(go_at_call 130;refine hD.mono ?_;rintro e w' ⟨rfl,rfl⟩));go_ret;exact⟨⟨j,rfl,hj,Hw.o,fun _=>HK.o⟩,rfl⟩
 go_wp2;go_ret;exact⟨⟨j,rfl,hj,Hw.o,fun h=>absurd h ao⟩,rfl⟩
theorem pu (s:ByteArray) (hs:s.size≤maxLen) (w:World):Calls Tryz.prog 20 #[.string s] w fun e w'=>e=.returned (.bool (dw s))∧w=w':=by
 have hW:=XR s hs w;unfold maxLen at hs;by_cases h0:s.size=0
 ·have HN:=zh (pz (s:=s) (by omega));have he0:((s.size:Int)==0)=true:=beq_iff_eq.2 (by omega);clear h0;go_enter Tryz.func20,Tryz.ntmps20;go_wp2;go_ret;exact⟨Ze HN.o.symm,rfl⟩
 have he0:((s.size:Int)==0)=false:=zb (by omega);have pQ:0<s.size:=by omega
 clear h0;by_cases Mu:s.size≤20
 ·have rf:=get_bt s;have hL:=AV (bt s 0) w;cases h1:da (bt s 0)
  ·rw[h1] at hL;have HN:=zh (pz (s:=s) (by simp[h1]));clear h1;go_enter Tryz.func20,Tryz.ntmps20;go_wp2_with (go_at_call 49;refine hL.mono ?_;rintro e w' ⟨rfl,rfl⟩);go_ret;exact⟨Ze HN.o.symm,rfl⟩
  rw[h1] at hL;have HN:=fun k (h:WordTo s k)=>rM h pQ Mu h1;have HN:=zh HN;clear h1;go_enter Tryz.func20,Tryz.ntmps20;go_wp2_with (first|(go_at_call 49;refine hL.mono ?_;rintro e w' ⟨rfl,rfl⟩)|(go_at_call 50;refine hW.mono ?_;rintro e w' ⟨⟨k,rfl,hk⟩,rfl⟩));go_ret;exact⟨Ze (by rw[←HN.o k hk];rfl),rfl⟩
 have HN:=zh (pz (s:=s) (by omega));go_enter Tryz.func20,Tryz.ntmps20;go_wp2;go_ret;exact⟨Ze HN.o.symm,rfl⟩
theorem mf (s:ByteArray) (hs:s.size≤maxLen) (w:World):Calls Tryz.prog 35 #[.string s] w fun e w'=>e=.returned (.bool (dw s))∧w=w':=by
 have hW:=ZB s hs w;unfold maxLen at hs;by_cases h0:s.size=0
 ·have HN:=zh (pz (s:=s) (by omega));have he:s.toList.isEmpty=true:=by rw[Go.ByteArray.toList_eq];simpa[←ByteArray.size_data] using h0
  clear h0;go_enter Tryz.func35,Tryz.ntmps35;go_wp2;go_ret;exact⟨Ze HN.o.symm,rfl⟩
 have he:s.toList.isEmpty=false:=by rw[Go.ByteArray.toList_eq];simpa[←ByteArray.size_data] using h0
 have pQ:0<s.size:=by omega
 clear h0;by_cases Mu:s.size≤20
 ·have rf:=get_bt s;have hL:=BG (bt s 0) w;cases h1:da (bt s 0)
  ·rw[h1] at hL;have HN:=zh (pz (s:=s) (by simp[h1]));clear h1;go_enter Tryz.func35,Tryz.ntmps35;go_wp2_with (go_at_call 77;refine hL.mono ?_;rintro e w' ⟨rfl,rfl⟩);go_ret;exact⟨Ze HN.o.symm,rfl⟩
  rw[h1] at hL;have HN:=fun k (h:WordTo s k)=>rM h pQ Mu h1;have HN:=zh HN;clear h1;go_enter Tryz.func35,Tryz.ntmps35;go_wp2_with (first|(go_at_call 77;refine hL.mono ?_;rintro e w' ⟨rfl,rfl⟩)|(go_at_call 78;refine hW.mono ?_;rintro e w' ⟨⟨k,rfl,hk⟩,rfl⟩));go_ret;exact⟨Ze (by rw[←HN.o k hk];rfl),rfl⟩
 have HN:=zh (pz (s:=s) (by omega));go_enter Tryz.func35,Tryz.ntmps35;go_wp2;go_ret;exact⟨Ze HN.o.symm,rfl⟩
open Go.RowKit Go.Shelf
def qv0 (l:List Task) (s:ByteArray):Option Nat:=l.findIdx? fun t=>decide (t.name=s)
def pl (l:List Task) (s:ByteArray):Int:=fj (qv0 l s)
def dK (l:List Task):List ByteArray:=l.map Task.name
def cX (l:List Task):Bool:=decide (dK l).Nodup
theorem Bi {l:List Task} {s:ByteArray}:s∈dK l ↔ ∃i,∃h:i<l.length,l[i].name=s:=by
 unfold dK;rw[List.mem_map];constructor
 ·rintro⟨t,ht,rfl⟩;obtain⟨i,hi,rfl⟩:=List.getElem_of_mem ht;exact⟨i,hi,rfl⟩
 rintro⟨i,hi,rfl⟩;exact⟨l[i],yV hi,rfl⟩
theorem oy {l:List Task} {s:ByteArray} (h:s∈dK l):∃i,∃hi:i<l.length,pl l s=(i:Int)∧l[i].name=s:=by
 unfold pl qv0
 cases hf:l.findIdx? (fun t=>decide (t.name=s)) with
 | none=>
  exfalso
  rw[List.findIdx?_eq_none_iff] at hf;obtain⟨i,hi,rfl⟩:=Bi.1 h
  have:=hf l[i] (yV hi);simp at this
 | some i=>
  rw[List.findIdx?_eq_some_iff_getElem] at hf;obtain⟨hi,hp,-⟩:=hf;exact⟨i,hi,rfl,by simpa using hp⟩
theorem sB {l:List Task} (h:cX l=true) {i j:Nat} (hi:i<l.length) (hj:j<l.length) (e:l[i].name=l[j].name):i=j:=by
 have hn:(dK l).Nodup:=by simpa[cX] using h
 unfold dK at hn;have hp:=List.pairwise_iff_getElem.1 hn;rcases Nat.lt_trichotomy i j with ao|rfl|ao
 ·exact absurd (by rw[List.getElem_map,List.getElem_map];exact e) (hp i j (by simpa using hi) (by simpa using hj) ao)
 ·rfl
 exact absurd (by rw[List.getElem_map,List.getElem_map];exact e.symm) (hp j i (by simpa using hj) (by simpa using hi) ao)
theorem LJ {l:List Task} (h:cX l=true) {i:Nat} (hi:i<l.length):pl l l[i].name=(i:Int):=by
 obtain⟨j,hj,e,hn⟩:=oy (Bi.2 ⟨i,hi,rfl⟩);rw[e,sB h hj hi hn]
theorem qv1 {l:List Task} {s s':ByteArray} (h:s∈dK l) (h':s'∈dK l) (e:pl l s=pl l s'):s=s':=by
 obtain⟨i,hi,e1,rfl⟩:=oy h;obtain⟨j,hj,e2,rfl⟩:=oy h'
 have:i=j:=by omega
 subst this;rfl
def Zw (n lo hi:Int):Bool:=decide (lo≤n∧n≤hi)
open Go.RowKit Go.Shelf Go.WideMaps Go.Maps
def tm (s:ByteArray):Lit:=.string s.data.toList
theorem xH {a b:ByteArray} (h:tm a=tm b):a=b:=by
 unfold tm at h;injection h with h;cases a;cases b;simp at h;rw[h]
theorem xG (s:ByteArray):WideAt.IsKeyLit (tm s):=trivial
theorem qC:Keyed Tryz.prog 9:=string_keyed Tryz.underlying9
theorem vI {s:ByteArray} (h:s.size≤maxLen):keyOf Tryz.prog 9 (.string s)=some (tm s):=keyOf_string_mk Tryz.underlying9 h
theorem Xw (w:World):(zeroValue 3).run Tryz.prog w=.ok (.int .i64 0) w:=by kernel_rfl
structure NamesD (l:List Task) (j:Nat) (D:DataW Unit):Prop where
 has:∀s,Maps.has D (tm s)=decide (s∈dK (l.take j))
 at_:(dK (l.take j)).Nodup→∀i (hi:i<l.length),i<j→∀z,D.atKey (tm l[i].name) z=.lit (.int .i64 i)
 size:Maps.size D=j↔(dK (l.take j)).Nodup
 le:Maps.size D≤j
def NamesMap (w:World) (b:Nat) (l:List Task) (j:Nat):Prop:=∃D,w.ownsMap Tryz.prog 9 (plainElem Tryz.prog 3) b j D∧NamesD l j D
theorem NamesD.start (l:List Task):NamesD l 0 (.map []) :=
 ⟨fun s=>by simp[Maps.has,dK],fun _ i _ hi=>absurd hi (Nat.not_lt_zero i),by simp[Maps.size,dK],yA _⟩
theorem Kc (l:List Task) {j:Nat} (hj:j<l.length):dK (l.take (j+1))=dK (l.take j)++[l[j].name]:=by
 unfold dK;rw[aY l j hj,List.map_append];rfl
theorem mP {α:Type} {x:α} {l:List α}:(l++[x]).Nodup↔l.Nodup∧x∉l:=by
 rw[List.nodup_append];constructor
 ·rintro⟨h1,-,h3⟩;exact⟨h1,fun hx=>h3 x hx x (by simp) rfl⟩
 rintro⟨h1,h2⟩;refine⟨h1,by simp,fun a ha b hb=>?_⟩;simp only[List.mem_singleton] at hb;subst hb;exact fun e=>h2 (e▸ha)
theorem NamesD.step {l:List Task} {j:Nat} {D:DataW Unit} (h:NamesD l j D) (hj:j<l.length) (hm:IsMap D) (ht:Tidy D):NamesD l (j+1) (D.put (tm l[j].name) (.lit (.int .i64 j))):=by
 have hn:=Kc l hj;refine⟨fun s=>?_,fun hnd i hi hij z=>?_,?_,?_⟩
 ·rw[hn];by_cases e:s=l[j].name
  ·subst e;rw[Maps.has_put_same hm (xG _)];simp
  rw[Maps.has_put_other (fun e'=>e (xH e')),h.has,Bool.eq_iff_iff];simp[e]
 ·rw[hn,mP] at hnd;by_cases e:i=j
  ·subst e;rw[Maps.atKey_put_same hm (xG _)]
  have ao:i<j:=by omega
  rw[Maps.atKey_put_other,h.at_ hnd.1 i hi ao];intro e';apply hnd.2;have e2:=xH e';rw[←e2];exact List.mem_map.2 ⟨l[i],by rw[List.mem_take_iff_getElem];exact⟨i,by omega,rfl⟩,rfl⟩
 ·have ko:=h.le;have hs:=h.size;rw[Maps.size_put ht,h.has,hn,mP,←hs];by_cases e:l[j].name∈dK (l.take j)
  ·simp[e];omega
  simp[e]
 have ko:=h.le;rw[Maps.size_put ht];split
 ·omega
 omega
theorem NamesD.all {l:List Task} {D:DataW Unit} (h:NamesD l l.length D):(((Maps.size D:Nat):Int)==(l.length:Int))=cX l:=by
 have:=h.size;rw[yT] at this;unfold cX;rw[Bool.eq_iff_iff,beq_iff_eq,yO,←this];omega
theorem NamesMap.look {w:World} {b:Nat} {l:List Task} (h:NamesMap w b l l.length) (hd:cX l=true) {s:ByteArray} (hs:s.size≤maxLen) :
  (Instr.lookup 217 (.map (some b)) (.string s) true).run Tryz.prog w=.ok (.tuple #[.int .i64 (if s∈dK l then pl l s else 0),.bool (decide (s∈dK l))]) w:=by
 obtain⟨D,aK,hD⟩:=h;obtain⟨v,ps,kA,hR⟩:=aK.look_ok qC Tryz.underlying217 (Xw w) (plainElem_int Tryz.underlying3 (by decide)) (vI hs);obtain⟨a,rfl,hz,hw⟩:=plainElem_int_inv Tryz.underlying3 hR;have hn:(dK l).Nodup:=by simpa[cX] using hd
 have hh:=hD.has s;have ha:=hD.at_;rw[yT] at hh ha;rw[kA,hh];simp only[Prod.mk.injEq] at hz;obtain⟨hz,-⟩:=hz;by_cases hm:s∈dK l
 ·rw[if_pos hm];obtain⟨i,hi,e,rfl⟩:=oy hm;rw[ha hn i hi hi] at hz;simp only[DataW.lit.injEq,Lit.int.injEq,true_and] at hz;rw[e,←hz]
 rw[if_neg hm];rw[Maps.atKey_of_not_has (by rw[hh];simpa using hm)] at hz;simp only[DataW.lit.injEq,Lit.int.injEq,true_and] at hz;rw[←hz]
theorem NamesMap.kept {w w':World} {b:Nat} {l:List Task} {j:Nat} (h:NamesMap w b l j) {row:Option Nat} (hg:w.grownBy w' row) (dL:some b≠row):NamesMap w' b l j:=by
 obtain⟨D,aK,hD⟩:=h;exact⟨D,aK.kept hg dL,hD⟩
theorem NamesMap.lt {w:World} {b:Nat} {l:List Task} {j:Nat} (h:NamesMap w b l j):b<w.heap.size:=by
 obtain⟨D,aK,-⟩:=h;exact aK.lt
theorem I1 (v:Value) (l:List Task) (w:World) (hl:TasksAt w w.heap.size v l) :
  Calls Tryz.prog 165 #[v] w fun e w'=>∃b,e=.returned (.tuple #[.map (some b),.bool (cX l)])∧w.heap.size≤b∧NamesMap w' b l l.length∧Below w.heap.size w w':=by
 have bL:=fun k (hk:k<l.length)=>(hl.ok hk).name;have qY:=zh bL;obtain⟨A,c,rfl,fU,cM,aj⟩:=hl.open_;clear hl bL;have Xb:=@run_makeMap Tryz.prog;go_enter Tryz.func165,Tryz.ntmps165;go_wp2;go_loopw [10] (fun x wr=>∃j:Nat,j≤l.length∧x=.int .i64 j∧NamesMap wr w.heap.size l j∧Below w.heap.size w wr) (fun x _=>l.length-(intOf x).toNat)
 case atStart=>exact⟨0,yI _,rfl,⟨_,World.ownsMap_made _ _ _ _,NamesD.start l⟩,(yB _ _).alloc (yA _) _⟩
 obtain⟨j,hj,rfl,⟨D,aK,hD⟩,ai⟩:=hrel;by_cases ao:j<l.length
 ·obtain⟨b,off,rfl,hb,aj⟩:=aj j ao;obtain⟨h0,h1,h2,h3,h4⟩:=(aj j ao).below ai hb;clear aj;have U3:=vI (qY.o j ao);have YN:=cM;unfold maxLen at YN;have HS:=zh (hD.step ao aK.isMap (aK.tidy qC));clear hD;go_wp2_with (at_mapUpdate;refine wpList_mapUpdate_own _ rfl _ _ _ 217 rfl 9 3 qC Tryz.underlying217 _ w.heap.size j _ rfl (aK.alloc _) (by omega) _ _ _ rfl rfl U3 _ [] (plainElem_int Tryz.underlying3 (WalkArith.wf_i64 (by omega))) ?_;intro w1 Bq qjk)
  go_roundw
  case rel=>exact⟨j+1,by omega,by go_num,⟨_,Bq,HS.o⟩,(ai.alloc ai.size _).grown qjk (by simp;have:=ai.size;omega) (fun k hk=>by cases hk;exact yA _)⟩
  simp[intOf];omega
 have oD:j=l.length:=by omega
 subst oD;have cI:=aK.len Tryz.underlying217 3;have HA:=zh hD.all;generalize ((Maps.size D:Nat):Int)=z at*;go_wp2;go_ret2;exact⟨w.heap.size,qqq HA.o,yA _,⟨D,aK,hD⟩,ai⟩
def Good (l:List Task) (t:Task) (L:List ByteArray):Prop:=L.Nodup∧∀s∈L,s∈dK l∧s≠t.name
noncomputable def nC (l:List Task):Bool:=@decide (∀t∈l,Good l t t.bef) (Classical.propDecidable _)
theorem fR (l:List Task):nC l=true ↔ ∀t∈l,Good l t t.bef:=by unfold nC;simp
theorem Good.nil (l:List Task) (t:Task):Good l t []:=⟨List.nodup_nil,by simp⟩
theorem Good.snoc {l:List Task} {t:Task} {L:List ByteArray} {s:ByteArray} (h:Good l t L) (h1:s∈dK l) (h2:s≠t.name) (h3:s∉L):Good l t (L++[s]):=by
 refine⟨mP.2 ⟨h.1,h3⟩,fun x hx=>?_⟩;rw[List.mem_append,List.mem_singleton] at hx;rcases hx with hx|rfl
 ·exact h.2 x hx
 exact⟨h1,h2⟩
def ow (l:List Task) (L:List ByteArray):List Int:=L.map (pl l)
def cL (l:List Task):List (List Int):=l.map fun t=>ow l t.bef
theorem T9 (l:List Task) (L:List ByteArray) (s:ByteArray):ow l (L++[s])=ow l L++[pl l s]:=by simp[ow]
theorem Yk {l:List Task} {t:Task} {L:List ByteArray} {s:ByteArray} (h:Good l t L) (hs:s∈dK l):decide (pl l s∈ow l L)=decide (s∈L):=by
 rw[Bool.eq_iff_iff,yO,yO];unfold ow;rw[List.mem_map];constructor
 ·rintro⟨s',h',e⟩;rw[←qv1 (h.2 s' h').1 hs e];exact h'
 exact fun h'=>⟨s,h',rfl⟩
theorem Kj:(Tryz.prog.info? 22).map (fun i=>(i.zero,i.size,i.bytes))=some (some (.slice none 0 0),1,24):=by kernel_rfl
theorem rR:(Tryz.prog.info? 3).map (fun i=>(i.zero,i.size,i.bytes))=some (some (.int .i64 0),1,8):=by kernel_rfl
theorem Good.le {l:List Task} {t:Task} {L:List ByteArray} (h:Good l t L):L.length≤l.length:=by
 have:=List.Nodup.length_le_of_subset h.1 (fun s hs=>(h.2 s hs).1);simpa[dK] using this
structure BefRows (w:World) (base O:Nat) (l:List Task) (i:Nat) (cs:List Value):Prop where
 own:w.ownsRow base 22 1 (.slice (some ⟨O,0,none⟩) l.length l.length) l.length cs
 rows:∀j (hj:j<l.length) (hc:j<cs.length),j<i→w.ownsRow base 3 1 cs[j] l[j].bef.length ((ow l l[j].bef).map (Value.int .i64))
 rest:∀j (hc:j<cs.length),i≤j→cs[j]=.slice none 0 0
theorem Bj (n:Nat):(madeCells (Value.cells (.int .i64 0)) (n*1)).toList=(List.replicate n 0).map (Value.int .i64):=by
 apply List.ext_getElem
 ·simp[size_madeCells]
 intro i h1 h2;simp[madeCells,Value.cells,Nat.mod_one]
theorem Fx (n:Nat):(madeCells (Value.cells (.slice none 0 0)) (n*1)).toList=List.replicate n (.slice none 0 0):=by
 apply List.ext_getElem
 ·simp[size_madeCells]
 intro i h1 h2;simp[madeCells,Value.cells,Nat.mod_one]
theorem Dg {l:List Task} {i k:Nat} (hi:i<l.length) (_hk:k<l[i].bef.length) (h:¬Good l l[i] (l[i].bef.take (k+1))):nC l=false:=by
 cases hb:nC l
 ·rfl
 exfalso
 obtain⟨h1,h2⟩:=(fR l).1 hb l[i] (yV hi);exact h ⟨h1.sublist (List.take_sublist _ _),fun s hs=>h2 s (List.mem_of_mem_take hs)⟩
theorem tB {l:List Task} {i k:Nat} (hi:i<l.length) (hk:k<l[i].bef.length) (h:Good l l[i] (l[i].bef.take (k+1))) :
  l[i].bef[k]∈dK l∧l[i].bef[k]≠l[i].name∧l[i].bef[k]∉l[i].bef.take k:=by
 rw[aY _ _ hk] at h;obtain⟨h1,h2⟩:=h
 have:=h2 l[i].bef[k] (List.mem_append_right _ (List.mem_singleton.2 rfl));exact⟨this.1,this.2,(mP.1 h1).2⟩
def BefPost (l:List Task) (w:World) (e:Ending) (w':World):Prop :=
 Below w.heap.size w w' ∧
   ((cX l&&nC l)=false∧e=.returned (.tuple #[.slice none 0 0,.bool false]) ∨
    (cX l&&nC l)=true∧∃O cs,e=.returned (.tuple #[.slice (some ⟨O,0,none⟩) l.length l.length,.bool true])∧BefRows w' w.heap.size O l l.length cs)
theorem BefPost.no {l:List Task} {w w':World} (hb:Below w.heap.size w w') (h:nC l=false):BefPost l w (.returned (.tuple #[.slice none 0 0,.bool false])) w':=⟨hb,.inl ⟨by simp[h],rfl⟩⟩
theorem tZ (v:Value) (l:List Task) (w:World) (hl:TasksAt w w.heap.size v l) (h8:l.length≤8) :
  Calls Tryz.prog 124 #[v] w (BefPost l w):=by
 have hI:=I1 v l w hl;obtain⟨A,c,rfl,fU,cM,aj⟩:=hl.open_;cases hd:cX l
 ·rw[hd] at hI;clear aj hl;go_enter Tryz.func124,Tryz.ntmps124;go_wp2_with (go_at_call 165;refine hI.mono ?_;rintro e w1 ⟨bm,rfl,hbm,Km,ak⟩);go_ret2;exact⟨ak,.inl ⟨by rw[hd];rfl,rfl⟩⟩
 rw[hd] at hI;have HL:=zh hl;clear hl;have Hd:=zh hd;clear hd;obtain⟨i0,jB,hH,jb,km⟩:=info_parts Kj;have aZ:i0.bytes*l.length≤281474976710656:=by rw[km];omega
 go_enter Tryz.func124,Tryz.ntmps124;go_wp2_with (first
  | (go_at_call 165;refine hI.mono ?_;rintro e w1 ⟨bm,rfl,hbm,Km,ak⟩)
  | (at_make;refine wpList_make_full _ rfl _ _ 117 rfl w.heap.size 22 i0 (.slice none 0 0) 1 Tryz.underlying117 jB hH jb .i64 .i64 _ _ l.length rfl rfl rfl rfl aZ (by unfold maxLen;omega) ak.size ?_;intro w2 ia fW))
 have xL:BefRows w2 w.heap.size w1.heap.size l 0 (List.replicate l.length (.slice none 0 0)) :=
  ⟨by rw[Fx] at ia;exact ia,fun j _ _ hj=>absurd hj (Nat.not_lt_zero j),fun j hc _=>by simp⟩
 have qjh:=Km.kept fW (by simp);have aU:=ak.grown fW ak.size (fun k hk=>by cases hk);have hO:w.heap.size≤w1.heap.size:=ak.size;have vv3:bm<w1.heap.size:=Km.lt;clear ia fW Km hI ak aZ hH jb km jB;generalize w1.heap.size=O at*;go_loopw [25] (fun x wr=>∃(i:Nat) (cs:List Value),i≤l.length∧x=.int .i64 i∧BefRows wr w.heap.size O l i cs∧NamesMap wr bm l l.length∧Y0 (∀j (hj:j<l.length),j<i→Good l l[j] l[j].bef)∧Below w.heap.size w wr) (fun x _=>l.length-(intOf x).toNat)
 case atStart=>exact⟨0,_,yI _,rfl,xL,qjh,fun j _ hj=>absurd hj (Nat.not_lt_zero j),aU⟩
 clear xL qjh aU;obtain⟨i,cs,hi,rfl,hR,hM,Hg,ai⟩:=hrel;by_cases ao:i<l.length
 ·obtain⟨b,off,rfl,hb,aj⟩:=aj i ao;obtain⟨h0,h1,h2,h3,h4⟩:=(aj i ao).below ai hb;clear aj;obtain⟨Mf,Yy,vwg⟩:=HL.o.open_bef ao;have bL:=HL.o.ok ao;have qY:=zh bL.bef;clear bL;have BV:=zh (rfl:l[i]=l[i]);unfold maxLen at Yy;go_wp2;have jJ:=vE hR.own;have hci:cs[i]?=some (.slice none 0 0):=by rw[yM (by omega)];exact congrArg some (hR.rest i (by omega) (yA _))
  have hU:cs.set i (.slice none 0 0)=cs:=by
   apply List.ext_getElem?;intro j;rw[List.getElem?_set];split
   ·rename_i e;subst e;rw[if_pos (by omega),hci]
   rfl
  have Hcs:=zh jJ;have vvx:=zh hU;clear jJ hci hU;obtain⟨wo,rfl⟩:∃wo:World,wo=wr:=⟨_,rfl⟩;go_loopw [33] (fun x wi=>∃(k:Nat) (v:Value),k≤l[i].bef.length∧x=.int .i64 k∧wi.ownsRow w.heap.size 22 1 (.slice (some ⟨O,0,none⟩) l.length l.length) l.length (cs.set i v) ∧
    wi.ownsRow wo.heap.size 3 1 v k ((ow l (l[i].bef.take k)).map (Value.int .i64))∧Y0 (Good l l[i] (l[i].bef.take k))∧wo.grownBy wi (some O)) (fun x _=>l[i].bef.length-(intOf x).toNat)
  case atStart=>exact⟨0,.slice none 0 0,yI _,rfl,by rw[vvx.o];exact hR.own.alloc _,by simpa[ow] using yJ _ _ _ _,by rw[List.take_zero];exact Good.nil l _,World.grownBy_alloc _ _ _⟩
  obtain⟨k,v,hk,rfl,hOw,hv,Hgk,kB⟩:=hrel;have nK:Below w.heap.size w wr:=ai.grown kB ai.size (fun k hk=>by cases hk;exact hO);have hMi:=hM.kept kB (by simp;omega);clear h0 h1 h2 h3 h4;by_cases U0:k<l[i].bef.length
  ·obtain⟨b',TH,lE,ev,hs⟩:=vwg k U0;have hsk:=(nK.cell (p:=⟨b',TH+k,none⟩) ev).trans (hs k U0);clear hs vwg;have Uz:=hMi.look Hd.o (qY.o l[i].bef[k] (yV U0));have hcO:=hOw.cellAt i (by omega);rw[List.getElem?_set_self (by have:=Hcs.o;omega)] at hcO;have hfO:=hOw.frozenAt i;rw[lE] at*;generalize hs:l[i].bef[k]=s at*;have Hs:=zh hs;clear hs;by_cases hm:s∈dK l
   ·rw[if_pos hm,yD hm] at Uz;obtain⟨p,hp,e,hpn⟩:=oy hm;have He:=zh e;rw[e] at Uz;clear e;by_cases uu:s=l[i].name
    ·have hpi:p=i:=sB Hd.o hp ao (hpn.trans uu);have vwU:Y0 (l[i].bef[k]=l[i].name):=Hs.o.trans uu;subst hpi;clear uu hpn;go_wp2;refine YF (results_tmp2 rfl _ _ _) (by rfl) ?_;exact BefPost.no nK (Dg ao U0 (fun h=>(tB ao U0 h).2.1 vwU.o))
    have hpi:((p:Int)==(i:Int))=false:=zb (fun e=>uu (hpn.symm.trans (by congr 2;omega)));have kn:bg wr wr.heap.size v (ow l (l[i].bef.take k)):=RowAt.of_own hv;have pS:=Gs v (ow l (l[i].bef.take k)) p wr.heap.size wr kn;rw[show decide ((p:Int)∈ow l (l[i].bef.take k))=decide (s∈l[i].bef.take k) by rw[←He.o];exact Yk Hgk.o hm] at pS;clear kn;by_cases Ag:s∈l[i].bef.take k
    ·rw[yD Ag] at pS;have Hin:=zh Ag;clear Ag;go_wp2_with (go_at_call 166;refine pS.mono ?_;rintro e w' ⟨rfl,rfl⟩);refine YF (results_tmp2 rfl _ _ _) (by rfl) ?_;exact BefPost.no nK (Dg ao U0 (fun h=>(tB ao U0 h).2.2 (Hs.o.symm▸Hin.o)))
    rw[yC Ag] at pS;have HG:Y0 (Good l l[i] (l[i].bef.take (k+1))):=by unfold Y0;rw[aY _ _ U0,Hs.o];exact Hgk.o.snoc hm uu Ag
    have hk8:k+1≤l.length:=by have:=HG.o.le;rw[YA] at this;omega
    clear Ag;go_wp2_with (first
     | (go_at_call 166;refine pS.mono ?_;rintro e w' ⟨rfl,rfl⟩)
     | (at_builtin;refine dQ _ rfl (.tmp 63) (.tmp 65) 22 rfl wo.heap.size 3 rR Tryz.underlying22 rfl v k _ rfl hv (.int .i64 p) rfl rfl (by unfold maxLen;omega) (by omega) kB.size ?_;intro g cap w3 lU fD xW vi;have CI:=hOw.kept fD (xt hOw hv (by decide));have vzH:=CI.cellAt i (by omega);rw[List.getElem?_set_self (by have:=Hcs.o;omega)] at vzH;have vv1:=CI.frozenAt i))
    obtain⟨hO4,hg4⟩:=CI.stored i (.slice (some ⟨g,0,none⟩) (k+1) cap);rw[List.set_set] at hO4;have hv4:=lU.kept hg4 (xt lU CI (by decide));have HG4:=qK (qK kB fD (fun g hg=>.inl (hv.lt g hg).1)) hg4 (fun g hg=>.inr hg);go_roundw
    case rel=>
     refine⟨k+1,_,by omega,by go_num,hO4,?_,HG.o,HG4⟩;rw[aY _ _ U0,Hs.o,T9,He.o,yS];exact hv4
    simp[intOf];omega
   rw[if_neg hm,yC hm] at Uz;go_wp2;refine YF (results_tmp2 rfl _ _ _) (by rfl) ?_;exact BefPost.no nK (Dg ao U0 (fun h=>hm (Hs.o▸(tB ao U0 h).1)))
  have FG:k=l[i].bef.length:=by omega
  subst FG;clear vwg;rw[yT] at hv Hgk;have HR:Y0 (BefRows wr w.heap.size O l (i+1) (cs.set i v)):=by
   refine⟨hOw,fun j hj hc xP=>?_,fun j hc hij=>?_⟩
   ·by_cases e:j=i
    ·subst e;rw[List.getElem_set_self];exact jg hv ai.size
    rw[List.getElem_set_ne (fun e'=>e e'.symm)];have kn:=hR.rows j hj (by rw[List.length_set] at hc;exact hc) (by omega);exact kn.kept kB (xt kn hR.own (by decide))
   rw[List.getElem_set_ne (by omega)];exact hR.rest j (by rw[List.length_set] at hc;exact hc) (by omega)
  have HG2:Y0 (∀j (hj:j<l.length),j<i+1→Good l l[j] l[j].bef):=by
   intro j hj xP;by_cases e:j=i
   ·subst e;exact Hgk.o
   exact Hg.o j hj (by omega)
  clear hOw hv Hgk kB hR;go_wp2;go_roundw
  case rel=>exact⟨i+1,_,by omega,by go_num,HR.o,hMi,HG2,nK⟩
  simp[intOf];omega
 have xQ:i=l.length:=by omega
 subst xQ;clear aj;go_wp2;refine YF (results_tmp2 rfl _ _ _) (by rfl) ?_;refine⟨ai,.inr ⟨?_,O,cs,rfl,hR⟩⟩;rw[Hd.o,Bool.true_and,fR];intro t ht;obtain⟨j,hj,rfl⟩:=List.getElem_of_mem ht;exact Hg.o j hj hj
open Go.RowKit Go.Shelf
theorem TasksAt.cells {w:World} {B:Nat} {A:Option Addr} {c:Nat} {l:List Task} (h:TasksAt w B (.slice A l.length c) l) {k:Nat} (hk:k<l.length) :
  ∃b off,A=some ⟨b,off,none⟩∧b<B∧∀j (hj:j<l.length),TaskCells w b (off+j*5) l[j]:=by
 obtain⟨A',c',e,_,_,h'⟩:=h.open_;injection e with e1 _ e3;subst e1 e3;exact h' k hk
theorem Yc {w:World} {base e size n cap:Nat} {a:Option Addr} {xs:List Value} (h:w.ownsRow base e size (.slice a n cap) n xs):n≤cap∧cap≤9223372036854775807:=by
 rcases h.2 with⟨e',rfl⟩|⟨g',tL,cur,hv,_,_,h1,h2,_⟩
 ·injection e' with _ _ e3;omega
 injection hv with _ _ e3;subst e3;unfold maxLen at h2;exact⟨h1,by omega⟩
theorem add_lit (b off j:Nat):(⟨b,off,none⟩:Addr).add j=⟨b,off+j,none⟩:=by
 unfold Addr.add;split
 ·rename_i h;subst h;rfl
 rfl
theorem qj {P:Program} (w:World) (base:Nat) (t ty e:TypeId) (i:TypeInfo) (size:Nat) (ht:P.underlying t=some (.slice e)) (hi:P.info? e=some i)
  (v:Value) (n:Nat) (xs:List Value) (aK:w.ownsRow base e size v n xs) (c:Nat):(Builtin.append_ #[t,t] ty #[v,.slice none 0 c]).run P w=.ok v w:=by
 rcases aK.2 with⟨rfl,rfl⟩|⟨g,cap,cur,rfl,_,_,hnc,_⟩
 ·simp[Builtin.append_,run_underlying ht,sizeOf,typeInfo,hi,Builtin.lenOf,Builtin.firstCells]
 simp[Builtin.append_,run_underlying ht,sizeOf,typeInfo,hi,Builtin.lenOf,Builtin.firstCells,hnc,storeCells]
theorem sT {P:Program} (w:World) {ops:Array Oper} {rest:List Oper} {o:Oper} {a:Act} {Q:Exit→Act→World→Prop} (sP:o.guard=none) (s x:Operand) (t:TypeId)
  (ho:o.op=.call { callee:=.builtin .append,args:=#[s,x],argTypes:=#[t,t] })
  (base:Nat) (e:TypeId) {z:Value} {size bytes:Nat} (FH:(P.info? e).map (fun i=>(i.zero,i.size,i.bytes))=some (some z,size,bytes)) (ht:P.underlying t=some (.slice e)) (hzs:z.cells.size=size) (de:0<size)
  (v:Value) (n:Nat) (xs:List Value) (hs:a.eval s=v) (aK:w.ownsRow base e size v n xs)
  (B m:Nat) (sv:Value) (news:List Value) (hx:a.eval x=sv) (hsv:Flat w B sv m news) (hl:news.length=m*size) (h1:∀u∈news,u.oneCell'=true)
  (UX:n+m≤maxLen) (aZ:(n+m)*bytes≤140737488355328) (Mq:base≤w.heap.size)
  (h:∀v' w',w'.ownsRow base e size v' (n+m) (xs++news)→w.grownBy w' v.ownBlock→(v'.ownBlock=v.ownBlock∨v'.ownBlock=some w.heap.size)→wpList P ops Q rest (a.put o.dst v') w') :
  wpList P ops Q (o::rest) a w:=by
 obtain⟨i,hi,hz,vxh,hby⟩:=info_parts FH;obtain⟨A,c,rfl,hmc,YM,aj⟩:=hsv;suffices H:∃v' w',(Builtin.append_ #[t,t] o.type #[v,.slice A m c]).run P w=.ok v' w'∧w'.ownsRow base e size v' (n+m) (xs++news)∧w.grownBy w' v.ownBlock∧(v'.ownBlock=v.ownBlock∨v'.ownBlock=some w.heap.size) by
  refine wpList_plain sP fun K hK=>?_;obtain⟨v',w',kA,h2,h3,h4⟩:=H;unfold Oper.wp execOp;simp only[ho,resolve,invoke,builtin,Sem.run_bind,Sem.run_pure,Result.andThen_ok,List.map_toArray,List.map_cons,List.map_nil,hs,hx,kA];exact hK _ _ (h v' w' h2 h3 h4)
 rcases A with _|ad
 ·have hm:m=0:=by
   rcases Nat.eq_zero_or_pos m with h0|h0
   ·exact h0
   obtain⟨b,off,e,_⟩:=aj h0;cases e
  subst hm;have hn:news=[]:=List.eq_nil_of_length_eq_zero (by simpa using hl);subst hn;exact⟨v,w,qj w base t o.type e i size ht hi v n xs aK c,by simpa using aK,World.grownBy.refl w _,.inl rfl⟩
 have qjl:∀j u,news[j]?=some u→w.cell? (ad.add j)=some u:=by
  intro j u hu;rcases Nat.eq_zero_or_pos m with h0|h0
  ·subst h0;have hn:news=[]:=List.eq_nil_of_length_eq_zero (by simpa using hl);subst hn;simp at hu
  obtain⟨b,off,e,_,hc⟩:=aj h0;injection e with e;subst e;rw[add_lit];exact hc j u hu
 obtain⟨v',w',kA,h2,h3,_,h5⟩:=run_append_own_at (P:=P) w base t o.type e i z size bytes ht hi hz vxh hby hzs de v n xs aK ad m c news hl qjl h1 UX aZ Mq;exact⟨v',w',kA,h2,h3,h5⟩
theorem rk {P:Program} (w:World) {ops:Array Oper} {rest:List Oper} {o:Oper} {a:Act} {Q:Exit→Act→World→Prop} (sP:o.guard=none) (s x:Operand) (t:TypeId)
  (ho:o.op=.call { callee:=.builtin .append,args:=#[s,x],argTypes:=#[t,t] })
  (base:Nat) (e:TypeId) {z:Value} {bytes:Nat} (FH:(P.info? e).map (fun i=>(i.zero,i.size,i.bytes))=some (some z,1,bytes)) (ht:P.underlying t=some (.slice e)) (jb:z.cells.size=1)
  (v:Value) (n:Nat) (xs:List Value) (hs:a.eval s=v) (aK:w.ownsRow base e 1 v n xs) (u:Value) (hu:u.oneCell'=true)
  (N:Nat) (hN:w.heap.size=N) (hx:a.eval x=.slice (some ⟨N,0,none⟩) 1 1) (UX:n+1≤maxLen) (aZ:(n+1)*bytes≤140737488355328) (Mq:base≤w.heap.size)
  (h:∀g cap w',w'.ownsRow base e 1 (.slice (some ⟨g,0,none⟩) (n+1) cap) (n+1) (xs++[u])→w.grownBy w' v.ownBlock→base≤g→(v.ownBlock=some g∨w.heap.size≤g) →
   wpList P ops Q rest (a.put o.dst (.slice (some ⟨g,0,none⟩) (n+1) cap)) w') :
  wpList P ops Q (o::rest) a (w.alloc (.cells #[u] e)):=by
 subst hN;exact dQ w sP s x t ho base e FH ht jb v n xs hs aK u hu hx UX aZ Mq h
theorem Gv (v:Value) (l:List Int) (w:World) (hl:bg w w.heap.size v l) (cI:l.length≤1000000) :
  Calls Tryz.prog 132 #[v] w fun e w'=>∃v',e=.returned v'∧w'.ownsRow w.heap.size 3 1 v' l.length (l.map (Value.int .i64))∧Below w.heap.size w w':=by
 have HL:=zh hl;obtain⟨A,c,rfl,fU,cM,aj⟩:=hl.open_;clear hl
 cases A with
 | none=>
  have FF:l=[]:=by
   cases l with
   | nil=>rfl
   | cons x r=>obtain⟨b,off,e,_⟩:=aj 0 (by simp);cases e
  subst FF;have heq:=fun W=>Lib.run_eql_slice_nil (P:=Tryz.prog) W 22 3 none 0 c 0 0 Tryz.underlying22;clear aj;go_enter Tryz.func132,Tryz.ntmps132;go_wp2;go_ret;exact⟨_,rfl,yJ _ _ _ _,yB _ _⟩
 | some ad=>
  have heq:=fun W=>Lib.run_eql_slice_nil (P:=Tryz.prog) W 22 3 (some ad) l.length c 0 0 Tryz.underlying22;clear aj;go_enter Tryz.func132,Tryz.ntmps132;go_wp2_with (at_builtin;refine sT _ rfl (.tmp 5) (.tmp 6) 22 rfl w.heap.size 3 rR Tryz.underlying22 rfl (by decide) (.slice (some ⟨w.heap.size,0,none⟩) 0 0) 0 [] rfl (World.ownsRow_made w #[] 0 (yA _) (yI _) rfl) w.heap.size l.length (.slice (some ad) l.length c) (l.map (Value.int .i64)) rfl (HL.o.below ((yB _ _).alloc (yA _) _) (yA _)) (by simp) (by simp[Value.oneCell']) (by unfold maxLen;omega) (by omega) (by simp) ?_;intro v1 w1 Bq hg1 vv4)
  go_ret;refine⟨_,rfl,by simpa using Bq,?_⟩;exact ((yB w.heap.size w).alloc (yA _) _).grown hg1 (by simp) (fun k hk=>by simp[Value.ownBlock] at hk;omega)
