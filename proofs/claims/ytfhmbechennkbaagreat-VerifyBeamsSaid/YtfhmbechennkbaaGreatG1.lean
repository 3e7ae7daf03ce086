/- Parts of the proof, laid into one text: Base, Sl, Names, Find, Index, Before, Fields, Right, Chains, RefRight, Acyc, Lex, Clone, Valid. -/
import Derived.BigQuiet
import Derived.Deep.AppendLies
import Derived.Deep.LoopGhost
import Derived.Lib.Hide
import Derived.PlainAid
import Derived.Shelf.Abstract
import Derived.StillTailTactics
import Derived.Test.YtfhmbechennkbaaGreatProg
import Derived.WalkLawsBesides
import Derived.WalkSpells
namespace Go.Proofs.YtfhmbechennkbaaGreat
open Go.RowKit Go.Shelf
instance:BEq ByteArray:=⟨fun a b => decide (a=b)⟩
instance:LawfulBEq ByteArray where
 eq_of_beq {a b} h:=by simpa using of_decide_eq_true h
 rfl {a}:=decide_eq_true rfl
theorem str_beq (a b:ByteArray):(a.toList == b.toList)=decide (a=b):=by
 rw [Go.ByteArray.toList_eq,Go.ByteArray.toList_eq,Bool.eq_iff_iff]
 cases a;cases b;simp
theorem below_drewN {B:Nat} {a w:World} (h:Below B a w) (n:Nat):Below B a (w.drewN n):=⟨h.os,h.tape,h.output,h.size,h.block⟩
theorem q1 {w:World} {n:Nat}:∃ k,w.drewN k=w.drewN n:=⟨_,rfl⟩
theorem q2 {w:World} {n m:Nat}:∃ k,w.drewN k=(w.drewN n).drewN m:=⟨n+m,(World.drewN_drewN ..).symm⟩
theorem quiet_left {P : Program} {f : FuncId} {args : Array Value} {w : World} {n : Nat} {v : Value}
  (h:Calls P f args (w.drewN n) fun e w' => e = .returned v∧w.drewN n=w'):Calls P f args (w.drewN n) fun e w'' => e = .returned v∧∃ m,w''=w.drewN m :=
 h.mono fun _ _ ⟨he,hm⟩ => ⟨he,n,hm.symm⟩
theorem quiet_left' {P : Program} {f : FuncId} {args : Array Value} {w : World} {n : Nat} {v : Value}
  (h:Calls P f args (w.drewN n) fun e w' => e = .returned v∧∃ m,(w.drewN n).drewN m=w'):Calls P f args (w.drewN n) fun e w'' => e = .returned v∧∃ m,w''=w.drewN m :=
 h.mono fun _ _ ⟨he,m,hm⟩ => ⟨he,n+m,by rw [← hm,World.drewN_drewN]⟩
theorem grown_drew {a w:World} {row:Option Nat} (h:a.grownBy w row):a.grownBy w.drew row:=⟨h.os,h.tape,h.output,h.size,h.block⟩
theorem still_of_quiet {P : Program} {ops : Array Oper} {W : World} {Q : Act → Prop} : ∀ (l : List Oper) (a : Act),wpQuiet P ops (fun w' => w' = W) Q l a → wpStill P ops W Q l a
 | [],_,h => h
 | o :: rest,a,h => by
  unfold wpQuiet at h
  unfold wpStill
  split
  ·rename_i hw
   rw [if_pos hw] at h
   obtain ⟨v,h1,h2⟩:=h
   have h3:=h1 W rfl
   have h4:=still_of_quiet rest _ h2
   unfold Oper.quietAt at h3
   unfold Oper.still
   generalize (execOp a.eval o).run P W=r at *
   cases r with
   | ok n w' =>
    cases n <;> simp only [Oper.quietUpon] at h3 <;> simp only [Oper.stillUpon]
    case value u => obtain ⟨rfl,rfl⟩:=h3;exact ⟨rfl,h4⟩
    case skip => obtain ⟨rfl,rfl⟩:=h3;exact ⟨rfl,h4⟩
    case enter f args => obtain ⟨rfl,hc⟩:=h3;exact ⟨rfl,_,hc,h4⟩
   | halt x w' => simp only [Oper.quietUpon] at h3
  ·rename_i hw
   rw [if_neg hw] at h
   exact still_of_quiet rest _ h
theorem wp_region_tail {P : Program} {id : Nat} {Q : Exit → Act → World → Prop} {a : Act} {w : World} {l : List Oper} (n : Nat) (hm : P.follows .mixedOrders = true) (hB : Region.lexTailB .any l.toArray n = true)
  (h:wpQuiet P l.toArray (fun w' => w'=w.drew) (fun a' => wpList P l.toArray Q (l.drop n) a' w.drew) (l.take n) a):(Code.region id l.toArray true).wp P Q a w :=
 wp_region_still_tail n hm hB (still_of_quiet _ _ h)
def Flat (w:World) (B:Nat) (v:Value) (n:Nat) (xs:List Value):Prop :=
 ∃ A c,v = .slice A n c∧n≤c∧c≤maxLen∧(0<n→∃ b off,A=some ⟨b,off,none⟩∧b<B∧∀ (j:Nat) u,xs[j]? = some u→w.cell? ⟨b,off+j,none⟩=some u)
theorem Flat.below {w w':World} {B B' n:Nat} {v:Value} {xs:List Value} (h:Flat w B v n xs) (hb:Below B' w w') (hB:B≤B'):Flat w' B v n xs:=by
 obtain ⟨A,c,h1,h2,h3,h4⟩:=h
 refine ⟨A,c,h1,h2,h3,fun hn => ?_⟩
 obtain ⟨b,off,e,hlt,hc⟩:=h4 hn
 exact ⟨b,off,e,hlt,fun j u hu => (hb.cell (p:=⟨b,off+j,none⟩) (Nat.lt_of_lt_of_le hlt hB)).trans (hc j u hu)⟩
theorem Flat.mono {w:World} {B B' n:Nat} {v:Value} {xs:List Value} (h:Flat w B v n xs) (hB:B≤B'):Flat w B' v n xs:=by
 obtain ⟨A,c,h1,h2,h3,h4⟩:=h
 refine ⟨A,c,h1,h2,h3,fun hn => ?_⟩
 obtain ⟨b,off,e,hlt,hc⟩:=h4 hn
 exact ⟨b,off,e,Nat.lt_of_lt_of_le hlt hB,hc⟩
theorem Flat.of_own {w:World} {base e size n:Nat} {v:Value} {xs:List Value} (h:w.ownsRow base e size v n xs):Flat w w.heap.size v n xs:=by
 obtain ⟨hl,⟨rfl,rfl⟩ | ⟨g,cap,cur,rfl,hb,hg,hnc,hcm,hcs,ht⟩⟩:=h
 ·exact ⟨none,0,rfl,Nat.le_refl _,Nat.zero_le _,fun h => absurd h (by omega)⟩
 ·refine ⟨_,_,rfl,hnc,hcm,fun _ => ⟨g,0,rfl,(Array.getElem?_eq_some_iff.1 hg).1,fun j u hu => ?_⟩⟩
  rw [Nat.zero_add,cell_of_row w g j cur e (0,0) hg]
  rw [← ht,List.getElem?_take] at hu
  split at hu
  ·simpa using hu
  ·cases hu
def RowAt {α:Type} (enc:α→Value) (w:World) (B:Nat) (v:Value) (l:List α):Prop:=Flat w B v l.length (l.map enc)
abbrev StrsAt:=@RowAt ByteArray Value.string
abbrev IntsAt:=@RowAt Int (Value.int .i64)
abbrev BoolsAt:=@RowAt Bool Value.bool
section
variable {α:Type} {enc:α→Value} {w w':World} {B B':Nat} {v:Value} {l:List α}
theorem RowAt.below (h:RowAt enc w B v l) (hb:Below B' w w') (hB:B≤B'):RowAt enc w' B v l:=Flat.below h hb hB
theorem RowAt.mono (h:RowAt enc w B v l) (hB:B≤B'):RowAt enc w B' v l:=Flat.mono h hB
theorem RowAt.of_own {base e n:Nat} (h:w.ownsRow base e 1 v n (l.map enc)):RowAt enc w w.heap.size v l:=by
 have hn:n=l.length:=by have:=h.1;simp at this;omega
 subst hn
 exact Flat.of_own h
theorem RowAt.open_ (h:RowAt enc w B v l) :
  ∃ A c,v = .slice A l.length c∧l.length≤c∧c≤maxLen∧∀ k (_:k<l.length),∃ b off,A=some ⟨b,off,none⟩∧b<B∧∀ j (hj:j<l.length),w.cell? ⟨b,off+j,none⟩=some (enc l[j]):=by
 obtain ⟨A,c,h1,h2,h3,h4⟩:=h
 refine ⟨A,c,h1,h2,h3,fun k hk => ?_⟩
 obtain ⟨b,off,e,hlt,hc⟩:=h4 (by omega)
 exact ⟨b,off,e,hlt,fun j hj => hc j (enc l[j]) (by simp [hj])⟩
end
structure Task where
 name:ByteArray
 len:Int
 crew:Int
 pow:Int
 ba:Option Addr
 bc:Nat
 bef:List ByteArray
abbrev Task.bv (t:Task):Value:=.slice t.ba t.bef.length t.bc
def Task.cells (t:Task):List Value:=[.string t.name,.int .i64 t.len,.int .i64 t.crew,.int .i64 t.pow,.slice t.ba t.bef.length t.bc]
def Task.val (t:Task):Value:=.agg #[.string t.name,.int .i64 t.len,.int .i64 t.crew,.int .i64 t.pow,.slice t.ba t.bef.length t.bc]
structure Task.ok (t:Task):Prop where
 name:t.name.size≤maxLen
 bef:∀ s ∈ t.bef,s.size≤maxLen
 len : -9223372036854775808≤t.len∧t.len≤9223372036854775807
 crew : -9223372036854775808≤t.crew∧t.crew≤9223372036854775807
 pow : -9223372036854775808≤t.pow∧t.pow≤9223372036854775807
def TasksAt (w:World) (B:Nat) (v:Value) (l:List Task):Prop:=Flat w B v l.length (l.flatMap Task.cells)∧(∀ t ∈ l,StrsAt w B t.bv t.bef)∧∀ t ∈ l,t.ok
theorem TasksAt.below {w w':World} {B B':Nat} {v:Value} {l:List Task} (h:TasksAt w B v l) (hb:Below B' w w') (hB:B≤B'):TasksAt w' B v l :=
 ⟨h.1.below hb hB,fun t ht => (h.2.1 t ht).below hb hB,h.2.2⟩
theorem TasksAt.mono {w:World} {B B':Nat} {v:Value} {l:List Task} (h:TasksAt w B v l) (hB:B≤B'):TasksAt w B' v l :=
 ⟨h.1.mono hB,fun t ht => (h.2.1 t ht).mono hB,h.2.2⟩
theorem TasksAt.drewN {w:World} {B:Nat} {v:Value} {l:List Task} (h:TasksAt w B v l) (n:Nat):TasksAt (w.drewN n) B v l:=h.below (below_drewN (Below.refl _ _) n) (Nat.le_refl _)
theorem flat_get (l:List Task) (j i:Nat) (hj:j<l.length) (hi:i<5):(l.flatMap Task.cells)[j*5+i]? = l[j].cells[i]?:=by
 induction l generalizing j with
 | nil => simp at hj
 | cons t l ih =>
  have h5:t.cells.length=5:=rfl
  rw [List.flatMap_cons]
  cases j with
  | zero => rw [List.getElem?_append_left (by rw [h5];omega)];simp
  | succ j =>
   rw [List.getElem?_append_right (by rw [h5];omega),h5]
   have:=ih j (by simpa using hj)
   rw [show (j+1)*5+i-5=j*5+i by omega,this]
   rfl
def TaskCells (w:World) (b off:Nat) (t:Task):Prop :=
 w.cell? ⟨b,off,none⟩=some (.string t.name)∧w.cell? ⟨b,off+1,none⟩=some (.int .i64 t.len)∧w.cell? ⟨b,off+2,none⟩=some (.int .i64 t.crew) ∧
  w.cell? ⟨b,off+3,none⟩=some (.int .i64 t.pow)∧w.cell? ⟨b,off+4,none⟩=some (.slice t.ba t.bef.length t.bc)
theorem TaskCells.below {w w':World} {B b off:Nat} {t:Task} (h:TaskCells w b off t) (hb:Below B w w') (hB:b<B):TaskCells w' b off t :=
 ⟨(hb.cell (p:=⟨b,off,none⟩) hB).trans h.1,(hb.cell (p:=⟨b,off+1,none⟩) hB).trans h.2.1,(hb.cell (p:=⟨b,off+2,none⟩) hB).trans h.2.2.1,
  (hb.cell (p:=⟨b,off+3,none⟩) hB).trans h.2.2.2.1,(hb.cell (p:=⟨b,off+4,none⟩) hB).trans h.2.2.2.2⟩
theorem TasksAt.open_ {w:World} {B:Nat} {v:Value} {l:List Task} (h:TasksAt w B v l) :
  ∃ A c,v = .slice A l.length c∧l.length≤c∧c≤maxLen∧∀ k (_:k<l.length),∃ b off,A=some ⟨b,off,none⟩∧b<B∧∀ j (hj:j<l.length),TaskCells w b (off+j*5) l[j]:=by
 obtain ⟨⟨A,c,h1,h2,h3,h4⟩,_⟩:=h
 refine ⟨A,c,h1,h2,h3,fun k hk => ?_⟩
 obtain ⟨b,off,e,hlt,hc⟩:=h4 (by omega)
 refine ⟨b,off,e,hlt,fun j hj => ?_⟩
 have f:=fun (i:Nat) (hi:i<5) u (hu:l[j].cells[i]? = some u) => hc (j*5+i) u ((flat_get l j i hj hi).trans hu)
 have g:=fun (i:Nat) (hi:i<5) u (hu:l[j].cells[i]? = some u) => (congrArg (fun o => w.cell? ⟨b,o,none⟩) (Nat.add_assoc off (j*5) i)).trans (f i hi u hu)
 exact ⟨g 0 (by omega) _ rfl,g 1 (by omega) _ rfl,g 2 (by omega) _ rfl,g 3 (by omega) _ rfl,g 4 (by omega) _ rfl⟩
theorem TasksAt.bef {w:World} {B:Nat} {v:Value} {l:List Task} (h:TasksAt w B v l) {k:Nat} (hk:k<l.length):StrsAt w B l[k].bv l[k].bef:=h.2.1 _ (List.getElem_mem hk)
theorem TasksAt.ok {w:World} {B:Nat} {v:Value} {l:List Task} (h:TasksAt w B v l) {k:Nat} (hk:k<l.length):l[k].ok:=h.2.2 _ (List.getElem_mem hk)
theorem TasksAt.open_bef {w:World} {B:Nat} {v:Value} {l:List Task} (h:TasksAt w B v l) {k:Nat} (hk:k<l.length) :
  l[k].bef.length≤l[k].bc∧l[k].bc≤maxLen∧∀ i (_:i<l[k].bef.length),∃ b off,l[k].ba=some ⟨b,off,none⟩∧b<B∧∀ j (hj:j<l[k].bef.length),w.cell? ⟨b,off+j,none⟩=some (.string l[k].bef[j]):=by
 obtain ⟨A,c,hv,h1,h2,h3⟩:=(h.bef hk).open_
 injection hv with e1 _ e3
 subst e1 e3
 exact ⟨h1,h2,h3⟩
theorem own_mono {w:World} {B B':Nat} {e size n:Nat} {v:Value} {xs:List Value} (h:w.ownsRow B e size v n xs) (hB:B'≤B):w.ownsRow B' e size v n xs:=by
 refine ⟨h.1,?_⟩
 rcases h.2 with h' | ⟨g,cap,cur,h1,h2,r⟩
 ·exact .inl h'
 ·exact .inr ⟨g,cap,cur,h1,Nat.le_trans hB h2,r⟩
theorem own_len {w:World} {base e n:Nat} {v:Value} {xs:List Value} (h:w.ownsRow base e 1 v n xs):xs.length=n:=by have:=h.1;omega
theorem own_ne {w:World} {b1 b2 e1 e2 s1 s2 n1 n2:Nat} {v1 v2:Value} {xs1 xs2:List Value} (h1:w.ownsRow b1 e1 s1 v1 n1 xs1) (h2:w.ownsRow b2 e2 s2 v2 n2 xs2) (hne:e1≠e2):v1.ownBlock=none∨v1.ownBlock≠v2.ownBlock:=by
 rcases h1.2 with ⟨rfl,_⟩ | ⟨g1,c1,u1,rfl,_,hg1,_⟩
 ·exact .inl rfl
 ·right
  rcases h2.2 with ⟨rfl,_⟩ | ⟨g2,c2,u2,rfl,_,hg2,_⟩
  ·simp [Value.ownBlock]
  ·intro he
   have:g1=g2:=by simpa [Value.ownBlock] using he
   subst this
   rw [hg1] at hg2
   injection hg2 with hg2
   injection hg2 with _ h3
   exact hne h3
theorem grown_trans {a b c:World} {row:Option Nat} (h:a.grownBy b row) (k:b.grownBy c row):a.grownBy c row :=
 ⟨k.os.trans h.os,k.tape.trans h.tape,k.output.trans h.output,Nat.le_trans h.size k.size,fun i hi hne => (k.block i (Nat.lt_of_lt_of_le hi h.size) hne).trans (h.block i hi hne)⟩
theorem grown_past {a b c:World} {row row':Option Nat} (h:a.grownBy b row) (k:b.grownBy c row') (hr:∀ g,row'=some g→a.heap.size≤g∨row=some g):a.grownBy c row :=
 ⟨k.os.trans h.os,k.tape.trans h.tape,k.output.trans h.output,Nat.le_trans h.size k.size,fun i hi hne => (k.block i (Nat.lt_of_lt_of_le hi h.size) (fun e => by
  rcases hr i e.symm with h' | h'
  ·omega
  ·exact hne h'.symm)).trans (h.block i hi hne)⟩
theorem grown_below {a b:World} {row:Option Nat} (h:Below a.heap.size a b):a.grownBy b row:=⟨h.os,h.tape,h.output,h.size,fun i hi _ => h.block i hi⟩
theorem below_grown {a b:World} (h:a.grownBy b none):Below a.heap.size a b:=⟨h.os,h.tape,h.output,h.size,fun i hi => h.block i hi (by simp)⟩
def Blk (w:World) (g:Nat) (t:TypeId) (cs:Array Value):Prop:=w.heap[g]? = some (.cells cs t (0,0))
section
variable {w w':World} {g:Nat} {t:TypeId} {cs:Array Value}
theorem Blk.lt (h:Blk w g t cs):g<w.heap.size:=(Array.getElem?_eq_some_iff.1 h).1
theorem Blk.cell (h:Blk w g t cs) (i:Nat):w.cell? ⟨g,i,none⟩=cs[i]?:=cell_of_row w g i cs t (0,0) h
theorem Blk.frozen (h:Blk w g t cs) (i:Nat):w.frozen? ⟨g,i,none⟩=false:=by
 unfold Blk at h
 simp [World.frozen?,h]
theorem Blk.new (w:World) (t:TypeId) (cs:Array Value):Blk (w.alloc (.cells cs t)) w.heap.size t cs:=heap_alloc_new w _
theorem Blk.alloc (h:Blk w g t cs) (o:Obj):Blk (w.alloc o) g t cs:=(Below.heap_alloc w o g h.lt).trans h
theorem Blk.drewN (h:Blk w g t cs) (n:Nat):Blk (w.drewN n) g t cs:=h
theorem Blk.set_ (h:Blk w g t cs) (i:Nat) (u:Value):Blk (w.setCell ⟨g,i,none⟩ u) g t (cs.setIfInBounds i u):=by
 unfold Blk at h ⊢
 simp [World.setCell,Array.getElem?_modify,h]
theorem Blk.far (h:Blk w g t cs) {p:Addr} (hp:g≠p.block) (u:Value):Blk (w.setCell p u) g t cs:=(Below.heap_setCell w p u g hp).trans h
theorem Blk.kept (h:Blk w g t cs) {row:Option Nat} (hb:w.grownBy w' row) (hg:some g≠row):Blk w' g t cs:=(hb.block g h.lt hg).trans h
theorem Blk.below {B:Nat} (h:Blk w g t cs) (hb:Below B w w') (hg:g<B):Blk w' g t cs:=(hb.block g hg).trans h
theorem Blk.ne_own {b e s n:Nat} {v:Value} {xs:List Value} (h:Blk w g t cs) (ho:w.ownsRow b e s v n xs) (hne:e≠t):some g≠v.ownBlock:=by
 rcases ho.2 with ⟨rfl,_⟩ | ⟨g',cap,cur,rfl,_,hh,_⟩
 ·simp [Value.ownBlock]
 ·intro he
  have:g=g':=by simpa [Value.ownBlock] using he
  subst this
  unfold Blk at h
  rw [h] at hh
  injection hh with hh
  injection hh with _ h3
  exact hne h3.symm
theorem Blk.setGrown (_h:Blk w g t cs) (i:Nat) (u:Value):w.grownBy (w.setCell ⟨g,i,none⟩ u) (some g) :=
 ⟨rfl,rfl,rfl,by simp [World.setCell],fun k _ hk => Below.heap_setCell w _ u k (fun e => hk (by rw [e]))⟩
end
theorem own_drewN {w:World} {B e size n:Nat} {v:Value} {xs:List Value} (h:w.ownsRow B e size v n xs) (k:Nat):(w.drewN k).ownsRow B e size v n xs:=h
theorem own_pop {w:World} {base e g cap n:Nat} {xs:List Value} {u:Value} (hn:xs.length=n) (h:w.ownsRow base e 1 (.slice (some ⟨g,0,none⟩) (n+1) cap) (n+1) (xs ++ [u])):w.ownsRow base e 1 (.slice (some ⟨g,0,none⟩) n cap) n xs :=
 ownsRow_pop (by omega) h
theorem wpList_push {P : Program} (w : World) {ops : Array Oper} {rest : List Oper} {o : Oper} {a : Act} {Q : Exit → Act → World → Prop} (hgd : o.guard = none) (s x : Operand) (t : TypeId)
  (ho:o.op = .call { callee:=.builtin .append,args:=#[s,x],argTypes:=#[t,t] })
  (base:Nat) (e:TypeId) {z:Value} {bytes:Nat} (hinfo:(P.info? e).map (fun i => (i.zero,i.size,i.bytes))=some (some z,1,bytes)) (ht:P.underlying t=some (.slice e)) (hz1:z.cells.size=1)
  (v:Value) (n:Nat) (xs:List Value) (hs:a.eval s=v) (hown:w.ownsRow base e 1 v n xs) (u:Value) (hu:u.oneCell'=true)
  (hx:a.eval x = .slice (some ⟨w.heap.size,0,none⟩) 1 1) (h63:n+1≤maxLen) (hbytes:(n+1)*bytes≤140737488355328) (hbase:base≤w.heap.size)
  (h:∀ g cap w',w'.ownsRow base e 1 (.slice (some ⟨g,0,none⟩) (n+1) cap) (n+1) (xs ++ [u])→w.grownBy w' v.ownBlock→base≤g→(v.ownBlock=some g∨w.heap.size≤g) →
   wpList P ops Q rest (a.put o.dst (.slice (some ⟨g,0,none⟩) (n+1) cap)) w') :
  wpList P ops Q (o :: rest) a (w.alloc (.cells #[u] e)):=by
 obtain ⟨i,hi,hz,hsz,hby⟩:=info_parts hinfo
 refine wpList_append_own_at _ hgd s x t ho base e i z 1 bytes ht hi hz hsz hby hz1 (by decide) v n xs hs (hown.alloc _) ⟨w.heap.size,0,none⟩ 1 1 [u] hx rfl (cell_one_new _ _ _)
  (fun y hy => by simp only [List.mem_singleton] at hy;subst hy;exact hu) h63 hbytes (by simp;omega) ?_
 intro v' w' h2 h3 _ h5
 have hl:=h2.1
 rcases h2.2 with ⟨rfl,h0⟩ | ⟨g,cap,cur,rfl,hbg,r⟩
 ·exact absurd h0 (by omega)
 ·refine h g cap w' h2 (grown_trans (World.grownBy_alloc w _ _) h3) hbg ?_
  rcases h5 with h5 | h5
  ·exact .inl (by simpa [Value.ownBlock] using h5.symm)
  ·right
   have:g=w.heap.size+1:=by simpa [Value.ownBlock] using h5
   omega
theorem heap_kept {w w':World} {row:Option Nat} (hg:w.grownBy w' row) {D:Nat} {o:Obj} (h:w.heap[D]? = some o) (hne:some D≠row):w'.heap[D]? = some o :=
 (hg.block D (Array.getElem?_eq_some_iff.1 h).1 hne).trans h
theorem take_snoc {α:Type} (l:List α) (k:Nat) (h:k<l.length):l.take (k+1)=l.take k ++ [l[k]]:=List.take_succ_eq_append_getElem h
theorem find_hit {α:Type} {p:α→Bool} {l:List α} {j:Nat} (h:(l.take j).findIdx? p=none) (hj:j<l.length) (hp:p l[j]=true):l.findIdx? p=some j:=by
 rw [List.findIdx?_eq_some_iff_getElem]
 refine ⟨hj,hp,fun i hi => ?_⟩
 rw [List.findIdx?_eq_none_iff] at h
 have:=h l[i] (by rw [List.mem_take_iff_getElem];exact ⟨i,by omega,rfl⟩)
 simp [this]
theorem find_miss {α:Type} {p:α→Bool} {l:List α} {j:Nat} (h:(l.take j).findIdx? p=none) (hj:j<l.length) (hp:p l[j]=false):(l.take (j+1)).findIdx? p=none:=by
 rw [List.findIdx?_eq_none_iff] at h ⊢
 intro x hx
 rw [List.take_succ_eq_append_getElem hj,List.mem_append,List.mem_singleton] at hx
 rcases hx with hx | rfl
 ·exact h x hx
 ·exact hp
def idxOf (o:Option Nat):Int:=match o with | some i => i | none => -1
theorem idxOf_ge (o:Option Nat):decide (0≤idxOf o)=o.isSome:=by
 cases o with
 | none => rfl
 | some i => simp [idxOf]
theorem find_some_any {α:Type} (p:α→Bool) (l:List α):(l.findIdx? p).isSome=l.any p:=by
 rw [List.findIdx?_isSome]
theorem idx_any {α:Type} (p:α→Bool) (l:List α):decide (0≤idxOf (l.findIdx? p))=l.any p:=by rw [idxOf_ge,find_some_any]
theorem idx_bd {α:Type} (p:α→Bool) (l:List α) : -1≤idxOf (l.findIdx? p):=by
 cases l.findIdx? p with
 | none => exact Int.le_refl _
 | some i => simp only [idxOf];omega
theorem ret_bool {a b:Bool} (h:a=b):Ending.returned (.bool a) = .returned (.bool b):=by rw [h]
theorem ret_xb {v:Value} {a b:Bool} (h:a=b):Ending.returned (.tuple #[v,.bool a]) = .returned (.tuple #[v,.bool b]):=by rw [h]
theorem ret_int {k:IntKind} {a b:Int} (h:a=b):Ending.returned (.int k a) = .returned (.int k b):=by rw [h]
set_option maxRecDepth 100000 in
set_option maxHeartbeats 400000 in
theorem indexFuncTask (v : Value) (l : List Task) (K : Nat) (C : Array Value) (p : Task → Bool) (eg : ∀ args w,(callFunc K args).run Tryz.prog w = .ok (.enter K args) w) (w : World) (hl : TasksAt w w.heap.size v l)
  (hf:∀ t ∈ l,∀ w',Below w.heap.size w w'→Calls Tryz.prog K (#[t.val] ++ C) w' fun e w'' => e = .returned (.bool (p t))∧Below w'.heap.size w' w'') :
  Calls Tryz.prog 139 #[v,.func (.func K) #[] C] w fun e w' => e = .returned (.int .i64 (idxOf (l.findIdx? p)))∧Below w.heap.size w w':=by
 obtain ⟨A,c,rfl,hc1,hc2,hcell⟩:=hl.open_
 unfold maxLen at hc2
 have HF:=Lib.hid hf
 clear hf
 go_enter Tryz.func139,Tryz.ntmps139
 go_wp2
 go_loopw [8] (fun x wr => ∃ j:Nat,j≤l.length∧x = .int .i64 j∧(l.take j).findIdx? p=none∧Below w.heap.size w wr) (fun x _ => l.length-(intOf x).toNat)
 case atStart => exact ⟨0,Nat.zero_le _,rfl,by simp,Below.refl _ _⟩
 case round =>
  obtain ⟨j,hj,rfl,hnm,hbel⟩:=hrel
  have Hnm:=Lib.hid hnm
  clear hnm
  by_cases hlt:j<l.length
  ·obtain ⟨b,off,rfl,hb,hcell⟩:=hcell j hlt
   obtain ⟨h0,h1,h2,h3,h4⟩:=(hcell j hlt).below hbel hb
   clear hcell
   have hcall:=HF.out l[j] (List.getElem_mem hlt)
   unfold Task.val at hcall
   cases hq:p l[j] with
   | true =>
    rw [hq] at hcall
    go_wp2_with (go_at_fn K;refine (hcall _ hbel).mono ?_;rintro e w' ⟨rfl,hb'⟩)
    go_ret
    exact ⟨by rw [find_hit Hnm.out hlt hq];rfl,hbel.trans (hb'.mono hbel.size)⟩
   | false =>
    rw [hq] at hcall
    go_wp2_with (go_at_fn K;refine (hcall _ hbel).mono ?_;rintro e w' ⟨rfl,hb'⟩)
    go_roundw
    case rel => exact ⟨j+1,by omega,by go_num,find_miss Hnm.out hlt hq,hbel.trans (hb'.mono hbel.size)⟩
    case measure => simp [intOf];omega
  ·have hje:j=l.length:=by omega
   subst hje
   go_wp2
   go_ret
   exact ⟨by rw [← List.take_length (l:=l),Hnm.out];rfl,hbel⟩
set_option maxHeartbeats 400000 in
theorem containsFuncTask (v : Value) (l : List Task) (K : Nat) (C : Array Value) (p : Task → Bool) (eg : ∀ args w,(callFunc K args).run Tryz.prog w = .ok (.enter K args) w) (w : World) (hl : TasksAt w w.heap.size v l)
  (hf:∀ t ∈ l,∀ w',Below w.heap.size w w'→Calls Tryz.prog K (#[t.val] ++ C) w' fun e w'' => e = .returned (.bool (p t))∧Below w'.heap.size w' w'') :
  Calls Tryz.prog 124 #[v,.func (.func K) #[] C] w fun e w' => e = .returned (.bool (l.any p))∧Below w.heap.size w w':=by
 have hc:=indexFuncTask v l K C p eg w hl hf
 have hbd:=idx_bd p l
 have HA:=Lib.hid (idx_any p l)
 generalize idxOf (l.findIdx? p)=x at *
 clear hf hl
 go_enter Tryz.func124,Tryz.ntmps124
 go_wp2_with (go_at_call 139;refine hc.mono ?_;rintro e w' ⟨rfl,hb'⟩)
 go_ret
 exact ⟨ret_bool HA.out,hb'⟩
set_option maxHeartbeats 400000 in
theorem indexFuncInt (v : Value) (l : List Int) (K : Nat) (C : Array Value) (p : Int → Bool) (eg : ∀ args w,(callFunc K args).run Tryz.prog w = .ok (.enter K args) w) (w : World) (hl : RowAt (Value.int .i64) w w.heap.size v l)
  (hf:∀ t ∈ l,∀ w',Below w.heap.size w w'→Calls Tryz.prog K (#[(Value.int .i64) t] ++ C) w' fun e w'' => e = .returned (.bool (p t))∧Below w'.heap.size w' w'') :
  Calls Tryz.prog 102 #[v,.func (.func K) #[] C] w fun e w' => e = .returned (.int .i64 (idxOf (l.findIdx? p)))∧Below w.heap.size w w':=by
 obtain ⟨A,c,rfl,hc1,hc2,hcell⟩:=hl.open_
 unfold maxLen at hc2
 have HF:=Lib.hid hf
 clear hf
 go_enter Tryz.func102,Tryz.ntmps102
 go_wp2
 go_loopw [8] (fun x wr => ∃ j:Nat,j≤l.length∧x = .int .i64 j∧(l.take j).findIdx? p=none∧Below w.heap.size w wr) (fun x _ => l.length-(intOf x).toNat)
 case atStart => exact ⟨0,Nat.zero_le _,rfl,by simp,Below.refl _ _⟩
 case round =>
  obtain ⟨j,hj,rfl,hnm,hbel⟩:=hrel
  have Hnm:=Lib.hid hnm
  clear hnm
  by_cases hlt:j<l.length
  ·obtain ⟨b,off,rfl,hb,hcell⟩:=hcell j hlt
   have h0:=(hbel.cell (p:=⟨b,off+j,none⟩) hb).trans (hcell j hlt)
   clear hcell
   have hcall:=HF.out l[j] (List.getElem_mem hlt)
   cases hq:p l[j] with
   | true =>
    rw [hq] at hcall
    go_wp2_with (go_at_fn K;refine (hcall _ hbel).mono ?_;rintro e w' ⟨rfl,hb'⟩)
    go_ret
    exact ⟨by rw [find_hit Hnm.out hlt hq];rfl,hbel.trans (hb'.mono hbel.size)⟩
   | false =>
    rw [hq] at hcall
    go_wp2_with (go_at_fn K;refine (hcall _ hbel).mono ?_;rintro e w' ⟨rfl,hb'⟩)
    go_roundw
    case rel => exact ⟨j+1,by omega,by go_num,find_miss Hnm.out hlt hq,hbel.trans (hb'.mono hbel.size)⟩
    case measure => simp [intOf];omega
  ·have hje:j=l.length:=by omega
   subst hje
   go_wp2
   go_ret
   exact ⟨by rw [← List.take_length (l:=l),Hnm.out];rfl,hbel⟩
set_option maxHeartbeats 400000 in
theorem containsFuncInt (v : Value) (l : List Int) (K : Nat) (C : Array Value) (p : Int → Bool) (eg : ∀ args w,(callFunc K args).run Tryz.prog w = .ok (.enter K args) w) (w : World) (hl : RowAt (Value.int .i64) w w.heap.size v l)
  (hf:∀ t ∈ l,∀ w',Below w.heap.size w w'→Calls Tryz.prog K (#[(Value.int .i64) t] ++ C) w' fun e w'' => e = .returned (.bool (p t))∧Below w'.heap.size w' w'') :
  Calls Tryz.prog 59 #[v,.func (.func K) #[] C] w fun e w' => e = .returned (.bool (l.any p))∧Below w.heap.size w w':=by
 have hc:=indexFuncInt v l K C p eg w hl hf
 have hbd:=idx_bd p l
 have HA:=Lib.hid (idx_any p l)
 generalize idxOf (l.findIdx? p)=x at *
 clear hf hl
 go_enter Tryz.func59,Tryz.ntmps59
 go_wp2_with (go_at_call 102;refine hc.mono ?_;rintro e w' ⟨rfl,hb'⟩)
 go_ret
 exact ⟨ret_bool HA.out,hb'⟩
set_option maxRecDepth 100000 in
set_option maxHeartbeats 400000 in
theorem indexFuncSInt (v : Value) (l : List Int) (K : Nat) (C : Array Value) (p : Int → Bool) (eg : ∀ args w,(callFunc K args).run Tryz.prog w = .ok (.enter K args) w) (B : Nat) (w : World) (hl : RowAt (Value.int .i64) w B v l)
  (hf:∀ t ∈ l,Calls Tryz.prog K (#[(Value.int .i64) t] ++ C) w fun e w'' => e = .returned (.bool (p t))∧w=w'') :
  Calls Tryz.prog 102 #[v,.func (.func K) #[] C] w fun e w' => e = .returned (.int .i64 (idxOf (l.findIdx? p)))∧w=w':=by
 obtain ⟨A,c,rfl,hc1,hc2,hcell⟩:=hl.open_
 unfold maxLen at hc2
 have HF:=Lib.hid hf
 clear hf
 go_enter Tryz.func102,Tryz.ntmps102
 go_wp2
 go_loopw [8] (fun x wr => ∃ j:Nat,j≤l.length∧x = .int .i64 j∧(l.take j).findIdx? p=none∧w=wr) (fun x _ => l.length-(intOf x).toNat)
 case atStart => exact ⟨0,Nat.zero_le _,rfl,by simp,rfl⟩
 case round =>
  obtain ⟨j,hj,rfl,hnm,rfl⟩:=hrel
  have Hnm:=Lib.hid hnm
  clear hnm
  by_cases hlt:j<l.length
  ·obtain ⟨b,off,rfl,hb,hcell⟩:=hcell j hlt
   have h0:=hcell j hlt
   clear hcell
   have hcall:=HF.out l[j] (List.getElem_mem hlt)
   cases hq:p l[j] with
   | true =>
    rw [hq] at hcall
    go_wp2_with (go_at_fn K;refine hcall.mono ?_;rintro e w' ⟨rfl,rfl⟩)
    go_ret
    exact ⟨by rw [find_hit Hnm.out hlt hq];rfl,rfl⟩
   | false =>
    rw [hq] at hcall
    go_wp2_with (go_at_fn K;refine hcall.mono ?_;rintro e w' ⟨rfl,rfl⟩)
    go_roundw
    case rel => exact ⟨j+1,by omega,by go_num,find_miss Hnm.out hlt hq,by trivial⟩
    case measure => simp [intOf];omega
  ·have hje:j=l.length:=by omega
   subst hje
   go_wp2
   go_ret
   exact ⟨by rw [← List.take_length (l:=l),Hnm.out];rfl,rfl⟩
set_option maxHeartbeats 400000 in
theorem containsFuncSInt (v : Value) (l : List Int) (K : Nat) (C : Array Value) (p : Int → Bool) (eg : ∀ args w,(callFunc K args).run Tryz.prog w = .ok (.enter K args) w) (B : Nat) (w : World) (hl : RowAt (Value.int .i64) w B v l)
  (hf:∀ t ∈ l,Calls Tryz.prog K (#[(Value.int .i64) t] ++ C) w fun e w'' => e = .returned (.bool (p t))∧w=w'') :
  Calls Tryz.prog 59 #[v,.func (.func K) #[] C] w fun e w' => e = .returned (.bool (l.any p))∧w=w':=by
 have hc:=indexFuncSInt v l K C p eg B w hl hf
 have hbd:=idx_bd p l
 have HA:=Lib.hid (idx_any p l)
 generalize idxOf (l.findIdx? p)=x at *
 clear hf hl
 go_enter Tryz.func59,Tryz.ntmps59
 go_wp2_with (go_at_call 102;refine hc.mono ?_;rintro e w' ⟨rfl,rfl⟩)
 go_ret
 exact ⟨ret_bool HA.out,rfl⟩
set_option maxRecDepth 100000 in
set_option maxHeartbeats 400000 in
theorem indexStr (v:Value) (l:List ByteArray) (x:ByteArray) (B:Nat) (w:World) (hl:RowAt (Value.string) w B v l) :
  Calls Tryz.prog 140 #[v,(Value.string) x] w fun e w' => e = .returned (.int .i64 (idxOf (l.findIdx? fun y => decide (x=y))))∧w=w':=by
 obtain ⟨A,c,rfl,hc1,hc2,hcell⟩:=hl.open_
 unfold maxLen at hc2
 go_enter Tryz.func140,Tryz.ntmps140
 go_wp2
 go_loopw [8] (fun s wr => ∃ j:Nat,j≤l.length∧s = .int .i64 j∧((l.take j).findIdx? fun y => decide (x=y))=none∧w=wr) (fun x _ => l.length-(intOf x).toNat)
 case atStart => exact ⟨0,Nat.zero_le _,rfl,by simp,rfl⟩
 case round =>
  obtain ⟨j,hj,rfl,hnm,rfl⟩:=hrel
  have Hnm:=Lib.hid hnm
  clear hnm
  by_cases hlt:j<l.length
  ·obtain ⟨b,off,rfl,hb,hcell⟩:=hcell j hlt
   have h0:=hcell j hlt
   clear hcell
   by_cases hq:x=l[j]
   ·have ht:(x.toList == l[j].toList)=true:=by rw [str_beq];simpa using hq
    go_wp2
    go_ret
    exact ⟨by rw [find_hit Hnm.out hlt (by simpa using hq)];rfl,rfl⟩
   ·have ht:(x.toList == l[j].toList)=false:=by rw [str_beq];simpa using hq
    go_wp2
    go_roundw
    case rel => exact ⟨j+1,by omega,by go_num,find_miss Hnm.out hlt (by simpa using hq),by trivial⟩
    case measure => simp [intOf];omega
  ·have hje:j=l.length:=by omega
   subst hje
   go_wp2
   go_ret
   exact ⟨by rw [← List.take_length (l:=l),Hnm.out];rfl,rfl⟩
set_option maxHeartbeats 400000 in
theorem containsStr (v:Value) (l:List ByteArray) (x:ByteArray) (B:Nat) (w:World) (hl:RowAt (Value.string) w B v l) :
  Calls Tryz.prog 127 #[v,(Value.string) x] w fun e w' => e = .returned (.bool (decide (x ∈ l)))∧w=w':=by
 have hc:=indexStr v l x B w hl
 have hbd:=idx_bd (fun y => decide (x=y)) l
 have HA:=Lib.hid ((idx_any (fun y => decide (x=y)) l).trans (show _=decide (x ∈ l) by rw [Bool.eq_iff_iff];simp))
 generalize idxOf (l.findIdx? fun y => decide (x=y))=i at *
 clear hl
 go_enter Tryz.func127,Tryz.ntmps127
 go_wp2_with (go_at_call 140;refine hc.mono ?_;rintro e w' ⟨rfl,rfl⟩)
 go_ret
 exact ⟨ret_bool HA.out,rfl⟩
set_option maxRecDepth 100000 in
set_option maxHeartbeats 400000 in
theorem indexInt (v:Value) (l:List Int) (x:Int) (B:Nat) (w:World) (hl:RowAt (Value.int .i64) w B v l) :
  Calls Tryz.prog 141 #[v,(Value.int .i64) x] w fun e w' => e = .returned (.int .i64 (idxOf (l.findIdx? fun y => decide (x=y))))∧w=w':=by
 obtain ⟨A,c,rfl,hc1,hc2,hcell⟩:=hl.open_
 unfold maxLen at hc2
 go_enter Tryz.func141,Tryz.ntmps141
 go_wp2
 go_loopw [8] (fun s wr => ∃ j:Nat,j≤l.length∧s = .int .i64 j∧((l.take j).findIdx? fun y => decide (x=y))=none∧w=wr) (fun x _ => l.length-(intOf x).toNat)
 case atStart => exact ⟨0,Nat.zero_le _,rfl,by simp,rfl⟩
 case round =>
  obtain ⟨j,hj,rfl,hnm,rfl⟩:=hrel
  have Hnm:=Lib.hid hnm
  clear hnm
  by_cases hlt:j<l.length
  ·obtain ⟨b,off,rfl,hb,hcell⟩:=hcell j hlt
   have h0:=hcell j hlt
   clear hcell
   by_cases hq:x=l[j]
   ·have ht:(x == l[j])=true:=by simpa using hq
    go_wp2
    go_ret
    exact ⟨by rw [find_hit Hnm.out hlt (by simpa using hq)];rfl,rfl⟩
   ·have ht:(x == l[j])=false:=by simpa using hq
    go_wp2
    go_roundw
    case rel => exact ⟨j+1,by omega,by go_num,find_miss Hnm.out hlt (by simpa using hq),by trivial⟩
    case measure => simp [intOf];omega
  ·have hje:j=l.length:=by omega
   subst hje
   go_wp2
   go_ret
   exact ⟨by rw [← List.take_length (l:=l),Hnm.out];rfl,rfl⟩
set_option maxHeartbeats 400000 in
theorem containsInt (v:Value) (l:List Int) (x:Int) (B:Nat) (w:World) (hl:RowAt (Value.int .i64) w B v l) :
  Calls Tryz.prog 129 #[v,(Value.int .i64) x] w fun e w' => e = .returned (.bool (decide (x ∈ l)))∧w=w':=by
 have hc:=indexInt v l x B w hl
 have hbd:=idx_bd (fun y => decide (x=y)) l
 have HA:=Lib.hid ((idx_any (fun y => decide (x=y)) l).trans (show _=decide (x ∈ l) by rw [Bool.eq_iff_iff];simp))
 generalize idxOf (l.findIdx? fun y => decide (x=y))=i at *
 clear hl
 go_enter Tryz.func129,Tryz.ntmps129
 go_wp2_with (go_at_call 141;refine hc.mono ?_;rintro e w' ⟨rfl,rfl⟩)
 go_ret
 exact ⟨ret_bool HA.out,rfl⟩
set_option maxRecDepth 100000 in
set_option maxHeartbeats 400000 in
theorem indexBool (v:Value) (l:List Bool) (x:Bool) (B:Nat) (w:World) (hl:RowAt (Value.bool) w B v l) :
  Calls Tryz.prog 131 #[v,(Value.bool) x] w fun e w' => e = .returned (.int .i64 (idxOf (l.findIdx? fun y => decide (x=y))))∧w=w':=by
 obtain ⟨A,c,rfl,hc1,hc2,hcell⟩:=hl.open_
 unfold maxLen at hc2
 go_enter Tryz.func131,Tryz.ntmps131
 go_wp2
 go_loopw [8] (fun s wr => ∃ j:Nat,j≤l.length∧s = .int .i64 j∧((l.take j).findIdx? fun y => decide (x=y))=none∧w=wr) (fun x _ => l.length-(intOf x).toNat)
 case atStart => exact ⟨0,Nat.zero_le _,rfl,by simp,rfl⟩
 case round =>
  obtain ⟨j,hj,rfl,hnm,rfl⟩:=hrel
  have Hnm:=Lib.hid hnm
  clear hnm
  by_cases hlt:j<l.length
  ·obtain ⟨b,off,rfl,hb,hcell⟩:=hcell j hlt
   have h0:=hcell j hlt
   clear hcell
   by_cases hq:x=l[j]
   ·have ht:(x == l[j])=true:=by simpa using hq
    go_wp2
    go_ret
    exact ⟨by rw [find_hit Hnm.out hlt (by simpa using hq)];rfl,rfl⟩
   ·have ht:(x == l[j])=false:=by simpa using hq
    go_wp2
    go_roundw
    case rel => exact ⟨j+1,by omega,by go_num,find_miss Hnm.out hlt (by simpa using hq),by trivial⟩
    case measure => simp [intOf];omega
  ·have hje:j=l.length:=by omega
   subst hje
   go_wp2
   go_ret
   exact ⟨by rw [← List.take_length (l:=l),Hnm.out];rfl,rfl⟩
set_option maxHeartbeats 400000 in
theorem containsBool (v:Value) (l:List Bool) (x:Bool) (B:Nat) (w:World) (hl:RowAt (Value.bool) w B v l) :
  Calls Tryz.prog 104 #[v,(Value.bool) x] w fun e w' => e = .returned (.bool (decide (x ∈ l)))∧w=w':=by
 have hc:=indexBool v l x B w hl
 have hbd:=idx_bd (fun y => decide (x=y)) l
 have HA:=Lib.hid ((idx_any (fun y => decide (x=y)) l).trans (show _=decide (x ∈ l) by rw [Bool.eq_iff_iff];simp))
 generalize idxOf (l.findIdx? fun y => decide (x=y))=i at *
 clear hl
 go_enter Tryz.func104,Tryz.ntmps104
 go_wp2_with (go_at_call 131;refine hc.mono ?_;rintro e w' ⟨rfl,rfl⟩)
 go_ret
 exact ⟨ret_bool HA.out,rfl⟩
end Go.Proofs.YtfhmbechennkbaaGreat
namespace Go.Proofs.YtfhmbechennkbaaGreat
open Go.RowKit Go.Shelf Go.PlainAid
def letterB (n:Int):Bool:=decide ((97≤n∧n≤122)∨(65≤n∧n≤90))
def digitB (n:Int):Bool:=decide (48≤n∧n≤57)
def wordB (n:Int):Bool:=letterB n || digitB n || decide (n=95)
def WordTo (s:ByteArray) (k:Nat):Prop:=k≤s.size∧(∀ i,i<k→wordB (bt s i)=true)∧(k<s.size→wordB (bt s k)=false)
def nameB (s:ByteArray):Bool:=decide (0<s.size∧s.size≤20∧letterB (bt s 0)=true∧∀ i,i<s.size→wordB (bt s i)=true)
theorem WordTo.start (s:ByteArray):∀ i,i<0→wordB (bt s i)=true:=fun i h => absurd h (Nat.not_lt_zero i)
theorem word_more {s:ByteArray} {k:Nat} (h:∀ i,i<k→wordB (bt s i)=true) (hk:wordB (bt s k)=true):∀ i,i<k+1→wordB (bt s i)=true:=by
 intro i hi
 by_cases e:i=k
 ·subst e;exact hk
 ·exact h i (by omega)
theorem name_of_word {s:ByteArray} {k:Nat} (h:WordTo s k) (h0:0<s.size) (h20:s.size≤20) (hl:letterB (bt s 0)=true):decide ((k:Int)=(s.size:Int))=nameB s:=by
 unfold nameB
 rw [Bool.eq_iff_iff,decide_eq_true_iff,decide_eq_true_iff]
 constructor
 ·intro e
  have:k=s.size:=by omega
  subst this
  exact ⟨h0,h20,hl,h.2.1⟩
 ·intro ⟨_,_,_,ha⟩
  rcases Nat.lt_or_ge k s.size with hlt | hge
  ·have:=h.2.2 hlt
   rw [ha k hlt] at this
   cases this
  ·have:=h.1;omega
theorem name_no {s:ByteArray} (h:¬ (0<s.size∧s.size≤20∧letterB (bt s 0)=true)):nameB s=false:=by
 unfold nameB
 rw [decide_eq_false_iff_not]
 exact fun ⟨a,b,c,_⟩ => h ⟨a,b,c⟩
set_option maxHeartbeats 400000 in
theorem refLetter (n:Int) (w:World):Calls Tryz.prog 36 #[.int .u8 n] w fun e w' => e = .returned (.bool (letterB n))∧w=w':=by
  by_cases h1 : 97 ≤ n <;> by_cases h2 : n ≤ 122 <;> by_cases h3 : 65 ≤ n <;> by_cases h4 : n ≤ 90 <;> first
    | (exfalso;omega)
    | (have h1b : decide (97 ≤ n) = true := by simpa using h1
       have h2b:decide (n≤122)=true:=by simpa using h2
       go_enter Tryz.func36,Tryz.ntmps36
       go_wp2
       go_ret
       exact ⟨ret_bool (by unfold letterB;symm;simp;omega),rfl⟩)
    | (have h1b : decide (97 ≤ n) = true := by simpa using h1
       have h2b:decide (n≤122)=false:=by simpa using h2
       have h3b:decide (65≤n)=true:=by simpa using h3
       have h4b:decide (n≤90)=false:=by simpa using h4
       go_enter Tryz.func36,Tryz.ntmps36
       go_wp2
       go_ret
       exact ⟨ret_bool (by unfold letterB;symm;simp;omega),rfl⟩)
    | (have h1b : decide (97 ≤ n) = false := by simpa using h1
       have h3b:decide (65≤n)=true:=by simpa using h3
       have h4b:decide (n≤90)=true:=by simpa using h4
       go_enter Tryz.func36,Tryz.ntmps36
       go_wp2
       go_ret
       exact ⟨ret_bool (by unfold letterB;symm;simp;omega),rfl⟩)
    | (have h1b : decide (97 ≤ n) = false := by simpa using h1
       have h3b:decide (65≤n)=true:=by simpa using h3
       have h4b:decide (n≤90)=false:=by simpa using h4
       go_enter Tryz.func36,Tryz.ntmps36
       go_wp2
       go_ret
       exact ⟨ret_bool (by unfold letterB;symm;simp;omega),rfl⟩)
    | (have h1b : decide (97 ≤ n) = false := by simpa using h1
       have h3b:decide (65≤n)=false:=by simpa using h3
       go_enter Tryz.func36,Tryz.ntmps36
       go_wp2
       go_ret
       exact ⟨ret_bool (by unfold letterB;symm;simp;omega),rfl⟩)
set_option maxHeartbeats 400000 in
theorem refDigit (n:Int) (w:World):Calls Tryz.prog 78 #[.int .u8 n] w fun e w' => e = .returned (.bool (digitB n))∧w=w':=by
 by_cases h1:48≤n
 ·by_cases h2:n≤57
  all_goals
   go_enter Tryz.func78,Tryz.ntmps78
   go_wp2
   go_ret
   exact ⟨ret_bool (by unfold digitB;symm;simp;omega),rfl⟩
 ·have h1b:decide (48≤n)=false:=by simpa using h1
  go_enter Tryz.func78,Tryz.ntmps78
  go_wp2
  go_ret
  exact ⟨ret_bool (by unfold digitB;symm;simp;omega),rfl⟩
set_option maxHeartbeats 400000 in
theorem decLetter (n:Int) (w:World):Calls Tryz.prog 63 #[.int .u8 n] w fun e w' => e = .returned (.bool (letterB n))∧w=w':=by
  by_cases h1 : 97 ≤ n <;> by_cases h2 : n ≤ 122 <;> by_cases h3 : 65 ≤ n <;> by_cases h4 : n ≤ 90 <;> first
    | (exfalso;omega)
    | (have h1b : decide (97 ≤ n) = true := by simpa using h1
       have h2b:decide (n≤122)=true:=by simpa using h2
       go_enter Tryz.func63,Tryz.ntmps63
       go_wp2
       go_ret
       exact ⟨ret_bool (by unfold letterB;symm;simp;omega),rfl⟩)
    | (have h1b : decide (97 ≤ n) = true := by simpa using h1
       have h2b:decide (n≤122)=false:=by simpa using h2
       have h3b:decide (65≤n)=true:=by simpa using h3
       have h4b:decide (n≤90)=false:=by simpa using h4
       go_enter Tryz.func63,Tryz.ntmps63
       go_wp2
       go_ret
       exact ⟨ret_bool (by unfold letterB;symm;simp;omega),rfl⟩)
    | (have h1b : decide (97 ≤ n) = false := by simpa using h1
       have h3b:decide (65≤n)=true:=by simpa using h3
       have h4b:decide (n≤90)=true:=by simpa using h4
       go_enter Tryz.func63,Tryz.ntmps63
       go_wp2
       go_ret
       exact ⟨ret_bool (by unfold letterB;symm;simp;omega),rfl⟩)
    | (have h1b : decide (97 ≤ n) = false := by simpa using h1
       have h3b:decide (65≤n)=true:=by simpa using h3
       have h4b:decide (n≤90)=false:=by simpa using h4
       go_enter Tryz.func63,Tryz.ntmps63
       go_wp2
       go_ret
       exact ⟨ret_bool (by unfold letterB;symm;simp;omega),rfl⟩)
    | (have h1b : decide (97 ≤ n) = false := by simpa using h1
       have h3b:decide (65≤n)=false:=by simpa using h3
       go_enter Tryz.func63,Tryz.ntmps63
       go_wp2
       go_ret
       exact ⟨ret_bool (by unfold letterB;symm;simp;omega),rfl⟩)
set_option maxHeartbeats 400000 in
theorem decDigit (n:Int) (w:World):Calls Tryz.prog 105 #[.int .u8 n] w fun e w' => e = .returned (.bool (digitB n))∧w=w':=by
 by_cases h1:48≤n
 ·by_cases h2:n≤57
  all_goals
   go_enter Tryz.func105,Tryz.ntmps105
   go_wp2
   go_ret
   exact ⟨ret_bool (by unfold digitB;symm;simp;omega),rfl⟩
 ·have h1b:decide (48≤n)=false:=by simpa using h1
  go_enter Tryz.func105,Tryz.ntmps105
  go_wp2
  go_ret
  exact ⟨ret_bool (by unfold digitB;symm;simp;omega),rfl⟩
set_option maxHeartbeats 1000000 in
theorem refWord (s:ByteArray) (hs:s.size≤maxLen) (w:World):Calls Tryz.prog 37 #[.string s,.int .i64 0] w fun e w' => (∃ k:Nat,e = .returned (.int .i64 k)∧WordTo s k)∧w=w':=by
 unfold maxLen at hs
 have hbt:=get_bt s
 go_enter Tryz.func37,Tryz.ntmps37
 go_wp2
 go_loopw [1] (fun x wr => ∃ j:Nat,j≤s.size∧x = .int .i64 j∧Hid (∀ i,i<j→wordB (bt s i)=true)∧w=wr) (fun x _ => s.size-(intOf x).toNat)
 case atStart => exact ⟨0,Nat.zero_le _,rfl,WordTo.start s,rfl⟩
 case round =>
  obtain ⟨j,hj,rfl,Hw,rfl⟩:=hrel
  by_cases hlt:j<s.size
  ·have hL:=refLetter (bt s j) w
   have hD:=refDigit (bt s j) w
   cases h1:letterB (bt s j) with
   | true =>
    rw [h1] at hL
    have HK:Hid (wordB (bt s j)=true):=by unfold Hid wordB;simp [h1]
    clear h1
    go_wp2_with (go_at_call 36;refine hL.mono ?_;rintro e w' ⟨rfl,rfl⟩)
    go_roundw
    case rel => exact ⟨j+1,by omega,by go_num,word_more Hw.out HK.out,by trivial⟩
    case measure => simp [intOf];omega
   | false =>
    rw [h1] at hL
    cases h2:digitB (bt s j) with
    | true =>
     rw [h2] at hD
     have HK:Hid (wordB (bt s j)=true):=by unfold Hid wordB;simp [h2]
     clear h1 h2
     go_wp2_with (first | (go_at_call 36;refine hL.mono ?_;rintro e w' ⟨rfl,rfl⟩) | (go_at_call 78;refine hD.mono ?_;rintro e w' ⟨rfl,rfl⟩))
     go_roundw
     case rel => exact ⟨j+1,by omega,by go_num,word_more Hw.out HK.out,by trivial⟩
     case measure => simp [intOf];omega
    | false =>
     rw [h2] at hD
     by_cases h3:bt s j=95
     ·have HK:Hid (wordB (bt s j)=true):=by unfold Hid wordB;simp [h3]
      have h3b:(bt s j == 95)=true:=by simpa using h3
      clear h1 h2 h3
      go_wp2_with (first | (go_at_call 36;refine hL.mono ?_;rintro e w' ⟨rfl,rfl⟩) | (go_at_call 78;refine hD.mono ?_;rintro e w' ⟨rfl,rfl⟩))
      go_roundw
      case rel => exact ⟨j+1,by omega,by go_num,word_more Hw.out HK.out,by trivial⟩
      case measure => simp [intOf];omega
     ·have HK:Hid (wordB (bt s j)=false):=by unfold Hid wordB;simp [h1,h2,h3]
      have h3b:(bt s j == 95)=false:=by simpa using h3
      clear h1 h2 h3
      go_wp2_with (first | (go_at_call 36;refine hL.mono ?_;rintro e w' ⟨rfl,rfl⟩) | (go_at_call 78;refine hD.mono ?_;rintro e w' ⟨rfl,rfl⟩))
      go_ret
      exact ⟨⟨j,rfl,hj,Hw.out,fun _ => HK.out⟩,rfl⟩
  ·go_wp2
   go_ret
   exact ⟨⟨j,rfl,hj,Hw.out,fun h => absurd h hlt⟩,rfl⟩
set_option maxHeartbeats 1000000 in
theorem decWord (s:ByteArray) (hs:s.size≤maxLen) (w:World):Calls Tryz.prog 64 #[.string s] w fun e w' => (∃ k:Nat,e = .returned (.int .i64 k)∧WordTo s k)∧w=w':=by
 unfold maxLen at hs
 have hbt:=get_bt s
 go_enter Tryz.func64,Tryz.ntmps64
 go_wp2
 go_loopw [3] (fun x wr => ∃ j:Nat,j≤s.size∧x = .int .i64 j∧Hid (∀ i,i<j→wordB (bt s i)=true)∧w=wr) (fun x _ => s.size-(intOf x).toNat)
 case atStart => exact ⟨0,Nat.zero_le _,rfl,WordTo.start s,rfl⟩
 case round =>
  obtain ⟨j,hj,rfl,Hw,rfl⟩:=hrel
  by_cases hlt:j<s.size
  ·have hL:=decLetter (bt s j) w
   have hD:=decDigit (bt s j) w
   cases h1:letterB (bt s j) with
   | true =>
    rw [h1] at hL
    have HK:Hid (wordB (bt s j)=true):=by unfold Hid wordB;simp [h1]
    clear h1
    go_wp2_with (go_at_call 63;refine hL.mono ?_;rintro e w' ⟨rfl,rfl⟩)
    go_roundw
    case rel => exact ⟨j+1,by omega,by go_num,word_more Hw.out HK.out,by trivial⟩
    case measure => simp [intOf];omega
   | false =>
    rw [h1] at hL
    cases h2:digitB (bt s j) with
    | true =>
     rw [h2] at hD
     have HK:Hid (wordB (bt s j)=true):=by unfold Hid wordB;simp [h2]
     clear h1 h2
     go_wp2_with (first | (go_at_call 63;refine hL.mono ?_;rintro e w' ⟨rfl,rfl⟩) | (go_at_call 105;refine hD.mono ?_;rintro e w' ⟨rfl,rfl⟩))
     go_roundw
     case rel => exact ⟨j+1,by omega,by go_num,word_more Hw.out HK.out,by trivial⟩
     case measure => simp [intOf];omega
    | false =>
     rw [h2] at hD
     by_cases h3:bt s j=95
     ·have HK:Hid (wordB (bt s j)=true):=by unfold Hid wordB;simp [h3]
      have h3b:(bt s j == 95)=true:=by simpa using h3
      clear h1 h2 h3
      go_wp2_with (first | (go_at_call 63;refine hL.mono ?_;rintro e w' ⟨rfl,rfl⟩) | (go_at_call 105;refine hD.mono ?_;rintro e w' ⟨rfl,rfl⟩))
      go_roundw
      case rel => exact ⟨j+1,by omega,by go_num,word_more Hw.out HK.out,by trivial⟩
      case measure => simp [intOf];omega
     ·have HK:Hid (wordB (bt s j)=false):=by unfold Hid wordB;simp [h1,h2,h3]
      have h3b:(bt s j == 95)=false:=by simpa using h3
      clear h1 h2 h3
      go_wp2_with (first | (go_at_call 63;refine hL.mono ?_;rintro e w' ⟨rfl,rfl⟩) | (go_at_call 105;refine hD.mono ?_;rintro e w' ⟨rfl,rfl⟩))
      go_ret
      exact ⟨⟨j,rfl,hj,Hw.out,fun _ => HK.out⟩,rfl⟩
  ·go_wp2
   go_ret
   exact ⟨⟨j,rfl,hj,Hw.out,fun h => absurd h hlt⟩,rfl⟩
set_option maxHeartbeats 1000000 in
theorem refIsName (s:ByteArray) (hs:s.size≤maxLen) (w:World):Calls Tryz.prog 16 #[.string s] w fun e w' => e = .returned (.bool (nameB s))∧w=w':=by
 have hW:=refWord s hs w
 unfold maxLen at hs
 by_cases h0:s.size=0
 ·have HN:=Lib.hid (name_no (s:=s) (by omega))
  have he0:((s.size:Int) == 0)=true:=beq_iff_eq.2 (by omega)
  clear h0
  go_enter Tryz.func16,Tryz.ntmps16
  go_wp2
  go_ret
  exact ⟨ret_bool HN.out.symm,rfl⟩
 ·have he0:((s.size:Int) == 0)=false:=beq_eq_false_iff_ne.2 (by omega)
  have hpos:0<s.size:=by omega
  clear h0
  by_cases h20:s.size≤20
  ·have hbt:=get_bt s
   have hL:=refLetter (bt s 0) w
   cases h1:letterB (bt s 0) with
   | false =>
    rw [h1] at hL
    have HN:=Lib.hid (name_no (s:=s) (by simp [h1]))
    clear h1
    go_enter Tryz.func16,Tryz.ntmps16
    go_wp2_with (go_at_call 36;refine hL.mono ?_;rintro e w' ⟨rfl,rfl⟩)
    go_ret
    exact ⟨ret_bool HN.out.symm,rfl⟩
   | true =>
    rw [h1] at hL
    have HN:=fun k (h:WordTo s k) => name_of_word h hpos h20 h1
    have HN:=Lib.hid HN
    clear h1
    go_enter Tryz.func16,Tryz.ntmps16
    go_wp2_with (first | (go_at_call 36;refine hL.mono ?_;rintro e w' ⟨rfl,rfl⟩) | (go_at_call 37;refine hW.mono ?_;rintro e w' ⟨⟨k,rfl,hk⟩,rfl⟩))
    go_ret
    exact ⟨ret_bool (by rw [← HN.out k hk];rfl),rfl⟩
  ·have HN:=Lib.hid (name_no (s:=s) (by omega))
   go_enter Tryz.func16,Tryz.ntmps16
   go_wp2
   go_ret
   exact ⟨ret_bool HN.out.symm,rfl⟩
set_option maxHeartbeats 1000000 in
theorem decIsName (s:ByteArray) (hs:s.size≤maxLen) (w:World):Calls Tryz.prog 26 #[.string s] w fun e w' => e = .returned (.bool (nameB s))∧w=w':=by
 have hW:=decWord s hs w
 unfold maxLen at hs
 by_cases h0:s.size=0
 ·have HN:=Lib.hid (name_no (s:=s) (by omega))
  have he:s.toList.isEmpty=true:=by rw [Go.ByteArray.toList_eq];simpa [← ByteArray.size_data] using h0
  clear h0
  go_enter Tryz.func26,Tryz.ntmps26
  go_wp2
  go_ret
  exact ⟨ret_bool HN.out.symm,rfl⟩
 ·have he:s.toList.isEmpty=false:=by rw [Go.ByteArray.toList_eq];simpa [← ByteArray.size_data] using h0
  have hpos:0<s.size:=by omega
  clear h0
  by_cases h20:s.size≤20
  ·have hbt:=get_bt s
   have hL:=decLetter (bt s 0) w
   cases h1:letterB (bt s 0) with
   | false =>
    rw [h1] at hL
    have HN:=Lib.hid (name_no (s:=s) (by simp [h1]))
    clear h1
    go_enter Tryz.func26,Tryz.ntmps26
    go_wp2_with (go_at_call 63;refine hL.mono ?_;rintro e w' ⟨rfl,rfl⟩)
    go_ret
    exact ⟨ret_bool HN.out.symm,rfl⟩
   | true =>
    rw [h1] at hL
    have HN:=fun k (h:WordTo s k) => name_of_word h hpos h20 h1
    have HN:=Lib.hid HN
    clear h1
    go_enter Tryz.func26,Tryz.ntmps26
    go_wp2_with (first | (go_at_call 63;refine hL.mono ?_;rintro e w' ⟨rfl,rfl⟩) | (go_at_call 64;refine hW.mono ?_;rintro e w' ⟨⟨k,rfl,hk⟩,rfl⟩))
    go_ret
    exact ⟨ret_bool (by rw [← HN.out k hk];rfl),rfl⟩
  ·have HN:=Lib.hid (name_no (s:=s) (by omega))
   go_enter Tryz.func26,Tryz.ntmps26
   go_wp2
   go_ret
   exact ⟨ret_bool HN.out.symm,rfl⟩
end Go.Proofs.YtfhmbechennkbaaGreat
namespace Go.Proofs.YtfhmbechennkbaaGreat
open Go.RowKit Go.Shelf
def place (l:List Task) (s:ByteArray):Option Nat:=l.findIdx? fun t => decide (t.name=s)
def pl (l:List Task) (s:ByteArray):Int:=idxOf (place l s)
def names (l:List Task):List ByteArray:=l.map Task.name
def distinct (l:List Task):Bool:=decide (names l).Nodup
theorem mem_names {l:List Task} {s:ByteArray}:s ∈ names l ↔ ∃ i,∃ h:i<l.length,l[i].name=s:=by
 unfold names
 rw [List.mem_map]
 constructor
 ·rintro ⟨t,ht,rfl⟩
  obtain ⟨i,hi,rfl⟩:=List.getElem_of_mem ht
  exact ⟨i,hi,rfl⟩
 ·rintro ⟨i,hi,rfl⟩
  exact ⟨l[i],List.getElem_mem hi,rfl⟩
theorem pl_mem {l:List Task} {s:ByteArray} (h:s ∈ names l):∃ i,∃ hi:i<l.length,pl l s=(i:Int)∧l[i].name=s:=by
 unfold pl place
 cases hf:l.findIdx? (fun t => decide (t.name=s)) with
 | none =>
  exfalso
  rw [List.findIdx?_eq_none_iff] at hf
  obtain ⟨i,hi,rfl⟩:=mem_names.1 h
  have:=hf l[i] (List.getElem_mem hi)
  simp at this
 | some i =>
  rw [List.findIdx?_eq_some_iff_getElem] at hf
  obtain ⟨hi,hp,-⟩:=hf
  exact ⟨i,hi,rfl,by simpa using hp⟩
theorem distinct_inj {l:List Task} (h:distinct l=true) {i j:Nat} (hi:i<l.length) (hj:j<l.length) (e:l[i].name=l[j].name):i=j:=by
 have hn:(names l).Nodup:=by simpa [distinct] using h
 unfold names at hn
 have hp:=List.pairwise_iff_getElem.1 hn
 rcases Nat.lt_trichotomy i j with hlt | rfl | hlt
 ·exact absurd (by rw [List.getElem_map,List.getElem_map];exact e) (hp i j (by simpa using hi) (by simpa using hj) hlt)
 ·rfl
 ·exact absurd (by rw [List.getElem_map,List.getElem_map];exact e.symm) (hp j i (by simpa using hj) (by simpa using hi) hlt)
theorem pl_name {l:List Task} (h:distinct l=true) {i:Nat} (hi:i<l.length):pl l l[i].name=(i:Int):=by
 obtain ⟨j,hj,e,hn⟩:=pl_mem (mem_names.2 ⟨i,hi,rfl⟩)
 rw [e,distinct_inj h hj hi hn]
theorem pl_inj {l:List Task} {s s':ByteArray} (h:s ∈ names l) (h':s' ∈ names l) (e:pl l s=pl l s'):s=s':=by
 obtain ⟨i,hi,e1,rfl⟩:=pl_mem h
 obtain ⟨j,hj,e2,rfl⟩:=pl_mem h'
 have:i=j:=by omega
 subst this
 rfl
def betweenB (n lo hi:Int):Bool:=decide (lo≤n∧n≤hi)
end Go.Proofs.YtfhmbechennkbaaGreat
namespace Go.Proofs.YtfhmbechennkbaaGreat
open Go.RowKit Go.Shelf Go.WideMaps Go.Maps
def keyS (s:ByteArray):Lit:=.string s.data.toList
theorem keyS_inj {a b:ByteArray} (h:keyS a=keyS b):a=b:=by
 unfold keyS at h
 injection h with h
 cases a;cases b
 simp at h
 rw [h]
theorem keyS_key (s:ByteArray):WideAt.IsKeyLit (keyS s):=trivial
theorem keyLaw:Keyed Tryz.prog 9:=string_keyed Tryz.underlying9
theorem keyOf_s {s:ByteArray} (h:s.size≤maxLen):keyOf Tryz.prog 9 (.string s)=some (keyS s):=keyOf_string_mk Tryz.underlying9 h
theorem zeroInt (w:World):(zeroValue 3).run Tryz.prog w = .ok (.int .i64 0) w:=by kernel_rfl
structure NamesD (l:List Task) (j:Nat) (D:DataW Unit):Prop where
 has:∀ s,Maps.has D (keyS s)=decide (s ∈ names (l.take j))
 at_:(names (l.take j)).Nodup→∀ i (hi:i<l.length),i<j→∀ z,D.atKey (keyS l[i].name) z = .lit (.int .i64 i)
 size:Maps.size D=j ↔ (names (l.take j)).Nodup
 le:Maps.size D≤j
def NamesMap (w:World) (b:Nat) (l:List Task) (j:Nat):Prop:=∃ D,w.ownsMap Tryz.prog 9 (plainElem Tryz.prog 3) b j D∧NamesD l j D
theorem NamesD.start (l:List Task):NamesD l 0 (.map []) :=
 ⟨fun s => by simp [Maps.has,names],fun _ i _ hi => absurd hi (Nat.not_lt_zero i),by simp [Maps.size,names],Nat.le_refl _⟩
theorem names_snoc (l:List Task) {j:Nat} (hj:j<l.length):names (l.take (j+1))=names (l.take j) ++ [l[j].name]:=by
 unfold names;rw [take_snoc l j hj,List.map_append];rfl
theorem nodup_snoc {α:Type} {x:α} {l:List α}:(l ++ [x]).Nodup ↔ l.Nodup∧x ∉ l:=by
 rw [List.nodup_append]
 constructor
 ·rintro ⟨h1,-,h3⟩
  exact ⟨h1,fun hx => h3 x hx x (by simp) rfl⟩
 ·rintro ⟨h1,h2⟩
  refine ⟨h1,by simp,fun a ha b hb => ?_⟩
  simp only [List.mem_singleton] at hb
  subst hb
  exact fun e => h2 (e ▸ ha)
theorem NamesD.step {l:List Task} {j:Nat} {D:DataW Unit} (h:NamesD l j D) (hj:j<l.length) (hm:IsMap D) (ht:Tidy D):NamesD l (j+1) (D.put (keyS l[j].name) (.lit (.int .i64 j))):=by
 have hn:=names_snoc l hj
 refine ⟨fun s => ?_,fun hnd i hi hij z => ?_,?_,?_⟩
 ·rw [hn]
  by_cases e:s=l[j].name
  ·subst e
   rw [Maps.has_put_same hm (keyS_key _)]
   simp
  ·rw [Maps.has_put_other (fun e' => e (keyS_inj e')),h.has,Bool.eq_iff_iff]
   simp [e]
 ·rw [hn,nodup_snoc] at hnd
  by_cases e:i=j
  ·subst e
   rw [Maps.atKey_put_same hm (keyS_key _)]
  ·have hlt:i<j:=by omega
   rw [Maps.atKey_put_other,h.at_ hnd.1 i hi hlt]
   intro e'
   apply hnd.2
   have e2:=keyS_inj e'
   rw [← e2]
   exact List.mem_map.2 ⟨l[i],by rw [List.mem_take_iff_getElem];exact ⟨i,by omega,rfl⟩,rfl⟩
 ·have hle:=h.le
  have hs:=h.size
  rw [Maps.size_put ht,h.has,hn,nodup_snoc,← hs]
  by_cases e:l[j].name ∈ names (l.take j)
  ·simp [e];omega
  ·simp [e]
 ·have hle:=h.le
  rw [Maps.size_put ht]
  split
  ·omega
  ·omega
theorem NamesD.all {l:List Task} {D:DataW Unit} (h:NamesD l l.length D):(((Maps.size D:Nat):Int) == (l.length:Int))=distinct l:=by
 have:=h.size
 rw [List.take_length] at this
 unfold distinct
 rw [Bool.eq_iff_iff,beq_iff_eq,decide_eq_true_iff,← this]
 omega
theorem NamesMap.look {w:World} {b:Nat} {l:List Task} (h:NamesMap w b l l.length) (hd:distinct l=true) {s:ByteArray} (hs:s.size≤maxLen) :
  (Instr.lookup 165 (.map (some b)) (.string s) true).run Tryz.prog w = .ok (.tuple #[.int .i64 (if s ∈ names l then pl l s else 0),.bool (decide (s ∈ names l))]) w:=by
 obtain ⟨D,hown,hD⟩:=h
 obtain ⟨v,ps,hrun,hR⟩:=hown.look_ok keyLaw Tryz.underlying165 (zeroInt w) (plainElem_int Tryz.underlying3 (by decide)) (keyOf_s hs)
 obtain ⟨a,rfl,hz,hw⟩:=plainElem_int_inv Tryz.underlying3 hR
 have hn:(names l).Nodup:=by simpa [distinct] using hd
 have hh:=hD.has s
 have ha:=hD.at_
 rw [List.take_length] at hh ha
 rw [hrun,hh]
 simp only [Prod.mk.injEq] at hz
 obtain ⟨hz,-⟩:=hz
 by_cases hm:s ∈ names l
 ·rw [if_pos hm]
  obtain ⟨i,hi,e,rfl⟩:=pl_mem hm
  rw [ha hn i hi hi] at hz
  simp only [DataW.lit.injEq,Lit.int.injEq,true_and] at hz
  rw [e,← hz]
 ·rw [if_neg hm]
  rw [Maps.atKey_of_not_has (by rw [hh];simpa using hm)] at hz
  simp only [DataW.lit.injEq,Lit.int.injEq,true_and] at hz
  rw [← hz]
theorem NamesMap.kept {w w':World} {b:Nat} {l:List Task} {j:Nat} (h:NamesMap w b l j) {row:Option Nat} (hg:w.grownBy w' row) (hne:some b≠row):NamesMap w' b l j:=by
 obtain ⟨D,hown,hD⟩:=h
 exact ⟨D,hown.kept hg hne,hD⟩
theorem NamesMap.lt {w:World} {b:Nat} {l:List Task} {j:Nat} (h:NamesMap w b l j):b<w.heap.size:=by
 obtain ⟨D,hown,-⟩:=h
 exact hown.lt
set_option maxRecDepth 100000 in
set_option maxHeartbeats 1000000 in
theorem schedIndex (v:Value) (l:List Task) (w:World) (hl:TasksAt w w.heap.size v l) :
  Calls Tryz.prog 128 #[v] w fun e w' => ∃ b,e = .returned (.tuple #[.map (some b),.bool (distinct l)])∧w.heap.size≤b∧NamesMap w' b l l.length∧Below w.heap.size w w':=by
 have hok:=fun k (hk:k<l.length) => (hl.ok hk).name
 have Hok:=Lib.hid hok
 obtain ⟨A,c,rfl,hc1,hc2,hcell⟩:=hl.open_
 clear hl hok
 have hmm:=@run_makeMap Tryz.prog
 go_enter Tryz.func128,Tryz.ntmps128
 go_wp2
 go_loopw [10] (fun x wr => ∃ j:Nat,j≤l.length∧x = .int .i64 j∧NamesMap wr w.heap.size l j∧Below w.heap.size w wr) (fun x _ => l.length-(intOf x).toNat)
 case atStart => exact ⟨0,Nat.zero_le _,rfl,⟨_,World.ownsMap_made _ _ _ _,NamesD.start l⟩,(Below.refl _ _).alloc (Nat.le_refl _) _⟩
 case round =>
  obtain ⟨j,hj,rfl,⟨D,hown,hD⟩,hbel⟩:=hrel
  by_cases hlt:j<l.length
  ·obtain ⟨b,off,rfl,hb,hcell⟩:=hcell j hlt
   obtain ⟨h0,h1,h2,h3,h4⟩:=(hcell j hlt).below hbel hb
   clear hcell
   have hkey:=keyOf_s (Hok.out j hlt)
   have hc2':=hc2
   unfold maxLen at hc2'
   have HS:=Lib.hid (hD.step hlt hown.isMap (hown.tidy keyLaw))
   clear hD
   go_wp2_with (at_mapUpdate;refine wpList_mapUpdate_own _ rfl _ _ _ 165 rfl 9 3 keyLaw Tryz.underlying165 _ w.heap.size j _ rfl (hown.alloc _) (by omega) _ _ _ rfl rfl hkey _ [] (plainElem_int Tryz.underlying3 (WalkArith.wf_i64 (by omega))) ?_;intro w1 hown1 hgrow1)
   go_roundw
   case rel => exact ⟨j+1,by omega,by go_num,⟨_,hown1,HS.out⟩,(hbel.alloc hbel.size _).grown hgrow1 (by simp;have:=hbel.size;omega) (fun k hk => by cases hk;exact Nat.le_refl _)⟩
   case measure => simp [intOf];omega
  ·have hje:j=l.length:=by omega
   subst hje
   have hlen:=hown.len Tryz.underlying165 3
   have HA:=Lib.hid hD.all
   generalize ((Maps.size D:Nat):Int)=z at *
   go_wp2
   go_ret2
   exact ⟨w.heap.size,ret_xb HA.out,Nat.le_refl _,⟨D,hown,hD⟩,hbel⟩
def Good (l:List Task) (t:Task) (L:List ByteArray):Prop:=L.Nodup∧∀ s ∈ L,s ∈ names l∧s≠t.name
noncomputable def befOK (l:List Task):Bool:=@decide (∀ t ∈ l,Good l t t.bef) (Classical.propDecidable _)
theorem befOK_iff (l:List Task):befOK l=true ↔ ∀ t ∈ l,Good l t t.bef:=by unfold befOK;simp
theorem Good.nil (l:List Task) (t:Task):Good l t []:=⟨List.nodup_nil,by simp⟩
theorem Good.snoc {l:List Task} {t:Task} {L:List ByteArray} {s:ByteArray} (h:Good l t L) (h1:s ∈ names l) (h2:s≠t.name) (h3:s ∉ L):Good l t (L ++ [s]):=by
 refine ⟨nodup_snoc.2 ⟨h.1,h3⟩,fun x hx => ?_⟩
 rw [List.mem_append,List.mem_singleton] at hx
 rcases hx with hx | rfl
 ·exact h.2 x hx
 ·exact ⟨h1,h2⟩
def pls (l:List Task) (L:List ByteArray):List Int:=L.map (pl l)
def rowsOf (l:List Task):List (List Int):=l.map fun t => pls l t.bef
theorem pls_snoc (l:List Task) (L:List ByteArray) (s:ByteArray):pls l (L ++ [s])=pls l L ++ [pl l s]:=by simp [pls]
theorem mem_pls {l:List Task} {t:Task} {L:List ByteArray} {s:ByteArray} (h:Good l t L) (hs:s ∈ names l):decide (pl l s ∈ pls l L)=decide (s ∈ L):=by
 rw [Bool.eq_iff_iff,decide_eq_true_iff,decide_eq_true_iff]
 unfold pls
 rw [List.mem_map]
 constructor
 ·rintro ⟨s',h',e⟩
  rw [← pl_inj (h.2 s' h').1 hs e]
  exact h'
 ·exact fun h' => ⟨s,h',rfl⟩
theorem info_slice:(Tryz.prog.info? 22).map (fun i => (i.zero,i.size,i.bytes))=some (some (.slice none 0 0),1,24):=by kernel_rfl
theorem info_int:(Tryz.prog.info? 3).map (fun i => (i.zero,i.size,i.bytes))=some (some (.int .i64 0),1,8):=by kernel_rfl
theorem Good.le {l:List Task} {t:Task} {L:List ByteArray} (h:Good l t L):L.length≤l.length:=by
 have:=List.Nodup.length_le_of_subset h.1 (fun s hs => (h.2 s hs).1)
 simpa [names] using this
structure BefRows (w:World) (base O:Nat) (l:List Task) (i:Nat) (cs:List Value):Prop where
 own:w.ownsRow base 22 1 (.slice (some ⟨O,0,none⟩) l.length l.length) l.length cs
 rows:∀ j (hj:j<l.length) (hc:j<cs.length),j<i→w.ownsRow base 3 1 cs[j] l[j].bef.length ((pls l l[j].bef).map (Value.int .i64))
 rest:∀ j (hc:j<cs.length),i≤j→cs[j] = .slice none 0 0
theorem made_zero (n:Nat):(madeCells (Value.cells (.int .i64 0)) (n*1)).toList=(List.replicate n 0).map (Value.int .i64):=by
 apply List.ext_getElem
 ·simp [size_madeCells]
 ·intro i h1 h2
  simp [madeCells,Value.cells,Nat.mod_one]
theorem made_nil (n:Nat):(madeCells (Value.cells (.slice none 0 0)) (n*1)).toList=List.replicate n (.slice none 0 0):=by
 apply List.ext_getElem
 ·simp [size_madeCells]
 ·intro i h1 h2
  simp [madeCells,Value.cells,Nat.mod_one]
theorem bef_bad {l:List Task} {i k:Nat} (hi:i<l.length) (_hk:k<l[i].bef.length) (h:¬ Good l l[i] (l[i].bef.take (k+1))):befOK l=false:=by
 cases hb:befOK l with
 | false => rfl
 | true =>
  exfalso
  obtain ⟨h1,h2⟩:=(befOK_iff l).1 hb l[i] (List.getElem_mem hi)
  exact h ⟨h1.sublist (List.take_sublist _ _),fun s hs => h2 s (List.mem_of_mem_take hs)⟩
theorem good_next {l:List Task} {i k:Nat} (hi:i<l.length) (hk:k<l[i].bef.length) (h:Good l l[i] (l[i].bef.take (k+1))) :
  l[i].bef[k] ∈ names l∧l[i].bef[k]≠l[i].name∧l[i].bef[k] ∉ l[i].bef.take k:=by
 rw [take_snoc _ _ hk] at h
 obtain ⟨h1,h2⟩:=h
 have:=h2 l[i].bef[k] (List.mem_append_right _ (List.mem_singleton.2 rfl))
 exact ⟨this.1,this.2,(nodup_snoc.1 h1).2⟩
def BefPost (l:List Task) (w:World) (e:Ending) (w':World):Prop :=
 Below w.heap.size w w' ∧
   ((distinct l && befOK l)=false∧e = .returned (.tuple #[.slice none 0 0,.bool false]) ∨
    (distinct l && befOK l)=true∧∃ O cs,e = .returned (.tuple #[.slice (some ⟨O,0,none⟩) l.length l.length,.bool true])∧BefRows w' w.heap.size O l l.length cs)
theorem BefPost.no {l:List Task} {w w':World} (hb:Below w.heap.size w w') (h:befOK l=false):BefPost l w (.returned (.tuple #[.slice none 0 0,.bool false])) w':=⟨hb,.inl ⟨by simp [h],rfl⟩⟩
set_option maxRecDepth 100000 in
set_option maxHeartbeats 4000000 in
theorem schedBefore (v:Value) (l:List Task) (w:World) (hl:TasksAt w w.heap.size v l) (h8:l.length≤8) :
  Calls Tryz.prog 99 #[v] w (BefPost l w):=by
 have hI:=schedIndex v l w hl
 obtain ⟨A,c,rfl,hc1,hc2,hcell⟩:=hl.open_
 cases hd:distinct l with
 | false =>
  rw [hd] at hI
  clear hcell hl
  go_enter Tryz.func99,Tryz.ntmps99
  go_wp2_with (go_at_call 128;refine hI.mono ?_;rintro e w1 ⟨bm,rfl,hbm,hmap,hb1⟩)
  go_ret2
  exact ⟨hb1,.inl ⟨by rw [hd];rfl,rfl⟩⟩
 | true =>
  rw [hd] at hI
  have HL:=Lib.hid hl
  clear hl
  have Hd:=Lib.hid hd
  clear hd
  obtain ⟨i0,hi0,hz0,hz1,hz2⟩:=info_parts info_slice
  have hbytes:i0.bytes*l.length≤281474976710656:=by rw [hz2];omega
  go_enter Tryz.func99,Tryz.ntmps99
  go_wp2_with (first
   | (go_at_call 128;refine hI.mono ?_;rintro e w1 ⟨bm,rfl,hbm,hmap,hb1⟩)
   | (at_make;refine wpList_make_full _ rfl _ _ 94 rfl w.heap.size 22 i0 (.slice none 0 0) 1 Tryz.underlying94 hi0 hz0 hz1 .i64 .i64 _ _ l.length rfl rfl rfl rfl hbytes (by unfold maxLen;omega) hb1.size ?_;intro w2 hown2 hgrow2))
  have hrows:BefRows w2 w.heap.size w1.heap.size l 0 (List.replicate l.length (.slice none 0 0)) :=
   ⟨by rw [made_nil] at hown2;exact hown2,fun j _ _ hj => absurd hj (Nat.not_lt_zero j),fun j hc _ => by simp⟩
  have hmap2:=hmap.kept hgrow2 (by simp)
  have hb2:=hb1.grown hgrow2 hb1.size (fun k hk => by cases hk)
  have hO:w.heap.size≤w1.heap.size:=hb1.size
  have hbmO:bm<w1.heap.size:=hmap.lt
  clear hown2 hgrow2 hmap hI hb1 hbytes hz0 hz1 hz2 hi0
  generalize w1.heap.size=O at *
  go_loopw [25] (fun x wr => ∃ (i:Nat) (cs:List Value),i≤l.length∧x = .int .i64 i∧BefRows wr w.heap.size O l i cs∧NamesMap wr bm l l.length∧Hid (∀ j (hj:j<l.length),j<i→Good l l[j] l[j].bef)∧Below w.heap.size w wr) (fun x _ => l.length-(intOf x).toNat)
  case atStart => exact ⟨0,_,Nat.zero_le _,rfl,hrows,hmap2,fun j _ hj => absurd hj (Nat.not_lt_zero j),hb2⟩
  case round =>
   clear hrows hmap2 hb2
   obtain ⟨i,cs,hi,rfl,hR,hM,Hg,hbel⟩:=hrel
   by_cases hlt:i<l.length
   ·obtain ⟨b,off,rfl,hb,hcell⟩:=hcell i hlt
    obtain ⟨h0,h1,h2,h3,h4⟩:=(hcell i hlt).below hbel hb
    clear hcell
    obtain ⟨hm1,hm2,hbef⟩:=HL.out.open_bef hlt
    have hok:=HL.out.ok hlt
    have Hok:=Lib.hid hok.bef
    clear hok
    have HLi:=Lib.hid (rfl:l[i]=l[i])
    unfold maxLen at hm2
    go_wp2
    have hcs:=own_len hR.own
    have hci:cs[i]? = some (.slice none 0 0):=by rw [List.getElem?_eq_getElem (by omega)];exact congrArg some (hR.rest i (by omega) (Nat.le_refl _))
    have hset:cs.set i (.slice none 0 0)=cs:=by
     apply List.ext_getElem?
     intro j
     rw [List.getElem?_set]
     split
     ·rename_i e;subst e;rw [if_pos (by omega),hci]
     ·rfl
    have Hcs:=Lib.hid hcs
    have Hset:=Lib.hid hset
    clear hcs hci hset
    obtain ⟨wo,rfl⟩:∃ wo:World,wo=wr:=⟨_,rfl⟩
    go_loopw [33] (fun x wi => ∃ (k:Nat) (v:Value),k≤l[i].bef.length∧x = .int .i64 k∧wi.ownsRow w.heap.size 22 1 (.slice (some ⟨O,0,none⟩) l.length l.length) l.length (cs.set i v) ∧
      wi.ownsRow wo.heap.size 3 1 v k ((pls l (l[i].bef.take k)).map (Value.int .i64))∧Hid (Good l l[i] (l[i].bef.take k))∧wo.grownBy wi (some O)) (fun x _ => l[i].bef.length-(intOf x).toNat)
    case atStart => exact ⟨0,.slice none 0 0,Nat.zero_le _,rfl,by rw [Hset.out];exact hR.own.alloc _,by simpa [pls] using World.ownsRow_nil _ _ _ _,by rw [List.take_zero];exact Good.nil l _,World.grownBy_alloc _ _ _⟩
    case round =>
     obtain ⟨k,v,hk,rfl,hOw,hv,Hgk,hgr⟩:=hrel
     have hbi:Below w.heap.size w wr:=hbel.grown hgr hbel.size (fun k hk => by cases hk;exact hO)
     have hMi:=hM.kept hgr (by simp;omega)
     clear h0 h1 h2 h3 h4
     by_cases hlk:k<l[i].bef.length
     ·obtain ⟨b',off',hba,hb',hs⟩:=hbef k hlk
      have hsk:=(hbi.cell (p:=⟨b',off'+k,none⟩) hb').trans (hs k hlk)
      clear hs hbef
      have hlook:=hMi.look Hd.out (Hok.out l[i].bef[k] (List.getElem_mem hlk))
      have hcO:=hOw.cellAt i (by omega)
      rw [List.getElem?_set_self (by have:=Hcs.out;omega)] at hcO
      have hfO:=hOw.frozenAt i
      rw [hba] at *
      generalize hs:l[i].bef[k]=s at *
      have Hs:=Lib.hid hs
      clear hs
      by_cases hm:s ∈ names l
      ·rw [if_pos hm,decide_eq_true hm] at hlook
       obtain ⟨p,hp,e,hpn⟩:=pl_mem hm
       have He:=Lib.hid e
       rw [e] at hlook
       clear e
       by_cases hself:s=l[i].name
       ·have hpi:p=i:=distinct_inj Hd.out hp hlt (hpn.trans hself)
        have HSelf:Hid (l[i].bef[k]=l[i].name):=Hs.out.trans hself
        subst hpi
        clear hself hpn
        go_wp2
        refine bodyPost_ret (results_tmp2 rfl _ _ _) (by rfl) ?_
        exact BefPost.no hbi (bef_bad hlt hlk (fun h => (good_next hlt hlk h).2.1 HSelf.out))
       ·have hpi:((p:Int) == (i:Int))=false:=beq_eq_false_iff_ne.2 (fun e => hself (hpn.symm.trans (by congr 2;omega)))
        have hrow:IntsAt wr wr.heap.size v (pls l (l[i].bef.take k)):=RowAt.of_own hv
        have hcon:=containsInt v (pls l (l[i].bef.take k)) p wr.heap.size wr hrow
        rw [show decide ((p:Int) ∈ pls l (l[i].bef.take k))=decide (s ∈ l[i].bef.take k) by rw [← He.out];exact mem_pls Hgk.out hm] at hcon
        clear hrow
        by_cases hin:s ∈ l[i].bef.take k
        ·rw [decide_eq_true hin] at hcon
         have Hin:=Lib.hid hin
         clear hin
         go_wp2_with (go_at_call 129;refine hcon.mono ?_;rintro e w' ⟨rfl,rfl⟩)
         refine bodyPost_ret (results_tmp2 rfl _ _ _) (by rfl) ?_
         exact BefPost.no hbi (bef_bad hlt hlk (fun h => (good_next hlt hlk h).2.2 (Hs.out.symm ▸ Hin.out)))
        ·rw [decide_eq_false hin] at hcon
         have HG:Hid (Good l l[i] (l[i].bef.take (k+1))):=by unfold Hid;rw [take_snoc _ _ hlk,Hs.out];exact Hgk.out.snoc hm hself hin
         have hk8:k+1≤l.length:=by have:=HG.out.le;rw [List.length_take] at this;omega
         clear hin
         go_wp2_with (first
          | (go_at_call 129;refine hcon.mono ?_;rintro e w' ⟨rfl,rfl⟩)
          | (at_builtin;refine wpList_push _ rfl (.tmp 63) (.tmp 65) 22 rfl wo.heap.size 3 info_int Tryz.underlying22 rfl v k _ rfl hv (.int .i64 p) rfl rfl (by unfold maxLen;omega) (by omega) hgr.size ?_;intro g cap w3 hown3 hgrow3 hbg hgg;have hO3:=hOw.kept hgrow3 (own_ne hOw hv (by decide));have hcO3:=hO3.cellAt i (by omega);rw [List.getElem?_set_self (by have:=Hcs.out;omega)] at hcO3;have hfO3:=hO3.frozenAt i))
         obtain ⟨hO4,hg4⟩:=hO3.stored i (.slice (some ⟨g,0,none⟩) (k+1) cap)
         rw [List.set_set] at hO4
         have hv4:=hown3.kept hg4 (own_ne hown3 hO3 (by decide))
         have HG4:=grown_past (grown_past hgr hgrow3 (fun g hg => .inl (hv.lt g hg).1)) hg4 (fun g hg => .inr hg)
         go_roundw
         case rel =>
          refine ⟨k+1,_,by omega,by go_num,hO4,?_,HG.out,HG4⟩
          rw [take_snoc _ _ hlk,Hs.out,pls_snoc,He.out,List.map_append]
          exact hv4
         case measure => simp [intOf];omega
      ·rw [if_neg hm,decide_eq_false hm] at hlook
       go_wp2
       refine bodyPost_ret (results_tmp2 rfl _ _ _) (by rfl) ?_
       exact BefPost.no hbi (bef_bad hlt hlk (fun h => hm (Hs.out ▸ (good_next hlt hlk h).1)))
     ·have hke:k=l[i].bef.length:=by omega
      subst hke
      clear hbef
      rw [List.take_length] at hv Hgk
      have HR:Hid (BefRows wr w.heap.size O l (i+1) (cs.set i v)):=by
       refine ⟨hOw,fun j hj hc hji => ?_,fun j hc hij => ?_⟩
       ·by_cases e:j=i
        ·subst e
         rw [List.getElem_set_self]
         exact own_mono hv hbel.size
        ·rw [List.getElem_set_ne (fun e' => e e'.symm)]
         have hrow:=hR.rows j hj (by rw [List.length_set] at hc;exact hc) (by omega)
         exact hrow.kept hgr (own_ne hrow hR.own (by decide))
       ·rw [List.getElem_set_ne (by omega)]
        exact hR.rest j (by rw [List.length_set] at hc;exact hc) (by omega)
      have HG2:Hid (∀ j (hj:j<l.length),j<i+1→Good l l[j] l[j].bef):=by
       intro j hj hji
       by_cases e:j=i
       ·subst e;exact Hgk.out
       ·exact Hg.out j hj (by omega)
      clear hOw hv Hgk hgr hR
      go_wp2
      go_roundw
      case rel => exact ⟨i+1,_,by omega,by go_num,HR.out,hMi,HG2,hbi⟩
      case measure => simp [intOf];omega
   ·have hie:i=l.length:=by omega
    subst hie
    clear hcell
    go_wp2
    refine bodyPost_ret (results_tmp2 rfl _ _ _) (by rfl) ?_
    refine ⟨hbel,.inr ⟨?_,O,cs,rfl,hR⟩⟩
    rw [Hd.out,Bool.true_and,befOK_iff]
    intro t ht
    obtain ⟨j,hj,rfl⟩:=List.getElem_of_mem ht
    exact Hg.out j hj hj
def fieldB (t:Task):Bool:=nameB t.name && betweenB t.len 1 10000 && betweenB t.crew 0 100 && betweenB t.pow 0 100
theorem fieldB_len {t:Task} (h:fieldB t=true):1≤t.len∧t.len≤10000:=by
 unfold fieldB betweenB at h
 simp only [Bool.and_eq_true,decide_eq_true_eq] at h
 exact h.1.1.2
def dStep (rows:List (List Int)) (ds:List Bool) (i:Nat):List Bool:=ds.set i (ds.getD i false || (rows.getD i []).all fun k => ds.getD k.toNat false)
def dFrom (rows : List (List Int)) : Nat → Nat → List Bool → List Bool
 | _,0,ds => ds
 | i,m+1,ds => dFrom rows (i+1) m (dStep rows ds i)
def dIter (rows : List (List Int)) (n : Nat) : Nat → List Bool → List Bool
 | 0,ds => ds
 | f+1,ds => dIter rows n f (dFrom rows 0 n ds)
def doneAll (l:List Task):Bool:=(dIter (rowsOf l) l.length l.length (List.replicate l.length false)).all id
noncomputable def rightW (l:List Task):Bool:=decide (l.length≤8) && l.all fieldB && (distinct l && befOK l) && doneAll l
theorem length_dStep (rows:List (List Int)) (ds:List Bool) (i:Nat):(dStep rows ds i).length=ds.length:=by simp [dStep]
theorem BefRows.kept {w w' : World} {base O : Nat} {l : List Task} {i : Nat} {cs : List Value} (h : BefRows w base O l i cs) {b e n : Nat} {vM : Value} {xs : List Value} (hM : w.ownsRow b e 1 vM n xs)
  (h1:3≠e) (h2:22≠e) (hg:w.grownBy w' vM.ownBlock):BefRows w' base O l i cs :=
 ⟨h.own.kept hg (own_ne h.own hM h2),fun j hj hc hji => (h.rows j hj hc hji).kept hg (own_ne (h.rows j hj hc hji) hM h1),h.rest⟩
theorem BefRows.alloc {w:World} {base O:Nat} {l:List Task} {i:Nat} {cs:List Value} (h:BefRows w base O l i cs) (o:Obj):BefRows (w.alloc o) base O l i cs :=
 ⟨h.own.alloc o,fun j hj hc hji => (h.rows j hj hc hji).alloc o,h.rest⟩
theorem BefRows.past {w w':World} {base O:Nat} {l:List Task} {i:Nat} {cs:List Value} (h:BefRows w base O l i cs) (hg:w.grownBy w' none):BefRows w' base O l i cs :=
 ⟨h.own.kept hg (.inr (by simp [Value.ownBlock])),fun j hj hc hji => (h.rows j hj hc hji).kept hg (by cases hv:cs[j].ownBlock <;> simp),h.rest⟩
theorem made_false (n:Nat):(madeCells (Value.cells (.bool false)) (n*1)).toList=(List.replicate n false).map Value.bool:=by
 apply List.ext_getElem
 ·simp [size_madeCells]
 ·intro i h1 h2
  simp [madeCells,Value.cells,Nat.mod_one]
theorem own_mono_rows {w:World} {B B' O:Nat} {l:List Task} {i:Nat} {cs:List Value} (h:BefRows w B O l i cs) (hB:B'≤B):BefRows w B' O l i cs :=
 ⟨own_mono h.own hB,fun j hj hc hji => own_mono (h.rows j hj hc hji) hB,h.rest⟩
theorem info_bool:(Tryz.prog.info? 4).map (fun i => (i.zero,i.size,i.bytes))=some (some (.bool false),1,1):=by kernel_rfl
theorem enters121:∀ args w,(callFunc 103 args).run Tryz.prog w = .ok (.enter 103 args) w:=enters_of Tryz.func103 (by kernel_rfl) rfl
set_option maxHeartbeats 400000 in
theorem rightClosure (k : Nat) (D M n : Nat) (ds : List Bool) (w : World) (hk : k < n) (_h8 : n ≤ 8) (hn : ds.length = n)
  (hD:w.cell? ⟨D,0,none⟩=some (.slice (some ⟨M,0,none⟩) n n)) (hM:∀ j (hj:j<ds.length),w.cell? ⟨M,j,none⟩=some (.bool ds[j])) :
  Calls Tryz.prog 103 #[.int .i64 k,.pointer (some ⟨D,0,none⟩)] w fun e w' => e = .returned (.bool (!ds.getD k false))∧w=w':=by
 have hMk:=hM k (by omega)
 have he:ds.getD k false=ds[k]:=by rw [List.getD_eq_getElem?_getD,List.getElem?_eq_getElem (by omega)];rfl
 have He:=Lib.hid he
 clear hM he
 generalize ds[k]=d at *
 clear hn
 go_enter Tryz.func103,Tryz.ntmps103
 go_wp2
 go_ret
 exact ⟨ret_bool (by rw [He.out]),rfl⟩
theorem right_facts {l : List Task} {w3 wr : World} {base O M D r i : Nat} {ds : List Bool} {cs : List Value} (hil : i < l.length) (_hrl : r < l.length) (hds : ds.length = l.length)
  (hM:wr.ownsRow base 4 1 (.slice (some ⟨M,0,none⟩) l.length l.length) l.length (ds.map Value.bool)) (hgr:w3.grownBy wr (some M))
  (HI:dIter (rowsOf l) l.length (l.length-r-1) (dFrom (rowsOf l) i (l.length-i) ds)=dIter (rowsOf l) l.length l.length (List.replicate l.length false))
  (hM3:w3.ownsRow base 4 1 (.slice (some ⟨M,0,none⟩) l.length l.length) l.length ((List.replicate l.length false).map Value.bool)) (hR3:BefRows w3 base O l l.length cs)
  (hD3:w3.heap[D]? = some (.cells #[.slice (some ⟨M,0,none⟩) l.length l.length] 137)) (hne:M<D) :
  ∃ di,ds.getD i false=di∧∃ ci,wr.cell? ⟨D,0,none⟩=some (.slice (some ⟨M,0,none⟩) l.length l.length)∧wr.cell? ⟨M,i,none⟩=some (.bool di)∧wr.frozen? ⟨M,i,none⟩=false ∧
   wr.cell? ⟨O,i,none⟩=some ci∧IntsAt wr wr.heap.size ci (pls l l[i].bef)∧(∀ j (hj:j<ds.length),wr.cell? ⟨M,j,none⟩=some (.bool ds[j])) ∧
   Hid (∀ wq:World,wq.heap=wr.heap→(wq.setCell ⟨M,i,none⟩ (.bool (di || (pls l l[i].bef).all fun k => ds.getD k.toNat false))).ownsRow base 4 1 (.slice (some ⟨M,0,none⟩) l.length l.length) l.length ((dStep (rowsOf l) ds i).map Value.bool)) ∧
   Hid (∀ x,w3.grownBy (wr.setCell ⟨M,i,none⟩ x) (some M))∧Hid ((dStep (rowsOf l) ds i).length=l.length) ∧
   Hid (dIter (rowsOf l) l.length (l.length-r-1) (dFrom (rowsOf l) (i+1) (l.length-(i+1)) (dStep (rowsOf l) ds i))=dIter (rowsOf l) l.length l.length (List.replicate l.length false)):=by
 have hRr:=hR3.kept hM3 (by decide) (by decide) hgr
 have hcs:=own_len hRr.own
 have hgetI:(rowsOf l).getD i []=pls l l[i].bef:=by unfold rowsOf;rw [List.getD_eq_getElem?_getD,List.getElem?_map,List.getElem?_eq_getElem hil];rfl
 have hgetD:ds.getD i false=ds[i]'(by omega):=by rw [List.getD_eq_getElem?_getD,List.getElem?_eq_getElem (by omega)];rfl
 have hall:∀ j (hj:j<ds.length),wr.cell? ⟨M,j,none⟩=some (.bool ds[j]):=fun j hj => by
  have:=hM.cellAt j (by omega)
  rw [List.getElem?_map,List.getElem?_eq_getElem hj] at this
  exact this
 refine ⟨_,rfl,cs[i]'(by omega),?_,?_,hM.frozenAt i,?_,RowAt.of_own (hRr.rows i hil (by omega) hil),hall,fun wq hq => ?_,fun x => ?_,?_,?_⟩
 ·rw [cell_of_row _ _ 0 _ _ _ (heap_kept hgr hD3 (by simp;omega))];rfl
 ·rw [hgetD];exact hall i (by omega)
 ·have:=hRr.own.cellAt i (by omega)
  rw [List.getElem?_eq_getElem (by omega)] at this
  exact this
 ·have hMq:wq.ownsRow base 4 1 (.slice (some ⟨M,0,none⟩) l.length l.length) l.length (ds.map Value.bool):=by
   unfold World.ownsRow at hM ⊢
   rw [hq]
   exact hM
  unfold dStep
  rw [List.map_set,hgetI]
  exact (hMq.stored i _).1
 ·exact grown_past hgr (hM.stored i x).2 (fun g hg => .inr hg)
 ·unfold Hid;rw [length_dStep,hds]
 ·unfold Hid
  rw [← HI,show l.length-i=(l.length-(i+1))+1 by omega]
  rfl
theorem right_call {l : List Task} {wq : World} {M D i : Nat} {ci : Value} {ds : List Bool} (hil : i < l.length) (h8 : l.length ≤ 8) (hds : ds.length = l.length)
  (hk:∀ t ∈ pls l l[i].bef,∃ m,m<l.length∧t=(m:Int)) (hrow:IntsAt wq wq.heap.size ci (pls l l[i].bef)) (hD:wq.cell? ⟨D,0,none⟩=some (.slice (some ⟨M,0,none⟩) l.length l.length))
  (hM:∀ j (hj:j<ds.length),wq.cell? ⟨M,j,none⟩=some (.bool ds[j])) :
  Calls Tryz.prog 59 #[ci,.func (.func 103) #[] #[.pointer (some ⟨D,0,none⟩)]] wq fun e w' => e = .returned (.bool (!((pls l l[i].bef).all fun k => ds.getD k.toNat false)))∧w'=wq:=by
 refine (containsFuncSInt ci (pls l l[i].bef) 103 #[.pointer (some ⟨D,0,none⟩)] (fun k => !ds.getD k.toNat false) enters121 wq.heap.size wq hrow ?_).mono ?_
 ·intro t ht
  obtain ⟨m,hm,rfl⟩:=hk t ht
  have:=rightClosure m D M l.length ds wq hm h8 hds hD hM
  simpa using this
 ·rintro e w' ⟨rfl,rfl⟩
  refine ⟨ret_bool ?_,rfl⟩
  rw [Bool.eq_iff_iff]
  simp
set_option maxRecDepth 100000 in
set_option maxHeartbeats 4000000 in
theorem schedRight (v:Value) (l:List Task) (w:World) (hl:TasksAt w w.heap.size v l) :
  Calls Tryz.prog 62 #[v] w fun e w' => e = .returned (.bool (rightW l))∧Below w.heap.size w w':=by
 have HL:=Lib.hid hl
 obtain ⟨A,c,rfl,hc1,hc2,hcell⟩:=hl.open_
 unfold maxLen at hc2
 clear hl
 by_cases h8:l.length≤8
 ·go_enter Tryz.func62,Tryz.ntmps62
  go_wp2
  go_loopw [14] (fun x wr => ∃ j:Nat,j≤l.length∧x = .int .i64 j∧Hid (∀ i (hi:i<l.length),i<j→fieldB l[i]=true)∧Below w.heap.size w wr) (fun x _ => l.length-(intOf x).toNat)
  case atStart => exact ⟨0,Nat.zero_le _,rfl,fun i _ hi => absurd hi (Nat.not_lt_zero i),Below.refl _ _⟩
  case round =>
   obtain ⟨j,hj,rfl,Hf,hbel⟩:=hrel
   by_cases hlt:j<l.length
   ·obtain ⟨b,off,rfl,hb,hcell⟩:=hcell j hlt
    obtain ⟨h0,h1,h2,h3,h4⟩:=(hcell j hlt).below hbel hb
    clear hcell
    have hok:=HL.out.ok hlt
    have hN:=fun W => decIsName l[j].name hok.name W
    have hbx:∀ o,Below w.heap.size w (wr.alloc o):=fun o => hbel.alloc hbel.size o
    have HJ:fieldB l[j]=false→Hid (rightW l=false):=by
     intro h
     unfold Hid rightW
     have:l.all fieldB=false:=by rw [List.all_eq_false];exact ⟨l[j],List.getElem_mem hlt,by simp [h]⟩
     simp [this]
    have Hok:=Lib.hid hok
    clear hok
    have HT:fieldB l[j]=true→Hid (∀ i (hi:i<l.length),i<j+1→fieldB l[i]=true):=by
     intro h i hi hij
     by_cases e:i=j
     ·subst e;exact h
     ·exact Hf.out i hi (by omega)
    unfold fieldB betweenB at HJ HT
    generalize l[j].name=nm at *
    generalize l[j].len=a1 at *
    generalize l[j].crew=a2 at *
    generalize l[j].pow=a3 at *
    generalize l[j].bef.length=a4 at *
    generalize l[j].ba=a5 at *
    generalize l[j].bc=a6 at *
    cases hn:nameB nm with
    | false =>
     have HR:=HJ (by simp [hn])
     clear HJ HT
     have hN:=fun W => by have:=hN W;rw [hn] at this;exact this
     go_wp2_with (go_at_call 26;refine (hN _).mono ?_;rintro e w' ⟨rfl,rfl⟩)
     go_ret
     exact ⟨ret_bool HR.out.symm,hbx _⟩
    | true =>
     have hN:=fun W => by have:=hN W;rw [hn] at this;exact this
     by_cases c1:1≤a1
     rotate_left
     ·have HR:=HJ (by simp [hn];omega)
      clear HJ HT hn
      go_wp2_with (go_at_call 26;refine (hN _).mono ?_;rintro e w' ⟨rfl,rfl⟩)
      go_ret
      exact ⟨ret_bool HR.out.symm,hbx _⟩
     by_cases c2:a1≤10000
     rotate_left
     ·have HR:=HJ (by simp [hn];omega)
      clear HJ HT hn
      go_wp2_with (go_at_call 26;refine (hN _).mono ?_;rintro e w' ⟨rfl,rfl⟩)
      go_ret
      exact ⟨ret_bool HR.out.symm,hbx _⟩
     by_cases c3:0≤a2
     rotate_left
     ·have HR:=HJ (by simp [hn];omega)
      clear HJ HT hn
      go_wp2_with (go_at_call 26;refine (hN _).mono ?_;rintro e w' ⟨rfl,rfl⟩)
      go_ret
      exact ⟨ret_bool HR.out.symm,hbx _⟩
     by_cases c4:a2≤100
     rotate_left
     ·have HR:=HJ (by simp [hn];omega)
      clear HJ HT hn
      go_wp2_with (go_at_call 26;refine (hN _).mono ?_;rintro e w' ⟨rfl,rfl⟩)
      go_ret
      exact ⟨ret_bool HR.out.symm,hbx _⟩
     by_cases c5:0≤a3
     rotate_left
     ·have HR:=HJ (by simp [hn];omega)
      clear HJ HT hn
      go_wp2_with (go_at_call 26;refine (hN _).mono ?_;rintro e w' ⟨rfl,rfl⟩)
      go_ret
      exact ⟨ret_bool HR.out.symm,hbx _⟩
     by_cases c6:a3≤100
     rotate_left
     ·have HR:=HJ (by simp [hn];omega)
      clear HJ HT hn
      go_wp2_with (go_at_call 26;refine (hN _).mono ?_;rintro e w' ⟨rfl,rfl⟩)
      go_ret
      exact ⟨ret_bool HR.out.symm,hbx _⟩
     have HS:=HT (by simp [hn];omega)
     clear HJ HT hn
     go_wp2_with (go_at_call 26;refine (hN _).mono ?_;rintro e w' ⟨rfl,rfl⟩)
     go_roundw
     case rel => exact ⟨j+1,by omega,by go_num,HS,hbx _⟩
     case measure => simp [intOf];omega
   ·have hje:j=l.length:=by omega
    subst hje
    clear hcell
    have HA:Hid (l.all fieldB=true):=by
     unfold Hid
     rw [List.all_eq_true]
     intro t ht
     obtain ⟨i,hi,rfl⟩:=List.getElem_of_mem ht
     exact Hf.out i hi hi
    clear Hf
    have hB:=schedBefore _ l wr ((HL.out.below hbel (Nat.le_refl _)).mono hbel.size) h8
    obtain ⟨i0,hi0,hz0,hz1,hz2⟩:=info_parts info_bool
    have hbytes:i0.bytes*l.length≤281474976710656:=by rw [hz2];omega
    go_wp2_with (first
     | (go_at_call 99;refine hB.mono ?_;rintro e w1 ⟨hb1,⟨hno,rfl⟩ | ⟨hyes,O,cs,rfl,hR⟩⟩)
     | (at_make;refine wpList_make_full _ rfl _ _ 137 rfl w.heap.size 4 i0 (.bool false) 1 Tryz.underlying137 hi0 hz0 hz1 .i64 .i64 _ _ l.length rfl rfl rfl rfl hbytes (by unfold maxLen;omega) (hbel.trans (hb1.mono hbel.size)).size ?_;intro w2 hown2 hgrow2))
    ·have HR:Hid (rightW l=false):=by unfold Hid rightW;simp only [hno,Bool.and_false,Bool.false_and]
     clear HA
     go_ret
     exact ⟨ret_bool HR.out.symm,hbel.trans (hb1.mono hbel.size)⟩
    ·have HK:Hid (∀ i (hi:i<l.length),∀ t ∈ pls l l[i].bef,∃ m,m<l.length∧t=(m:Int)):=by
      intro i hi t ht
      unfold pls at ht
      rw [List.mem_map] at ht
      obtain ⟨s,hs,rfl⟩:=ht
      rw [Bool.and_eq_true] at hyes
      obtain ⟨m,hm,e,-⟩:=pl_mem (((befOK_iff l).1 hyes.2 l[i] (List.getElem_mem hi)).2 s hs).1
      exact ⟨m,hm,e⟩
     have HW:Hid (rightW l=doneAll l):=by unfold Hid rightW;simp only [hyes,h8,HA.out,decide_true,Bool.true_and,Bool.and_true]
     have hbel3:=((hbel.trans (hb1.mono hbel.size)).grown hgrow2 (hbel.trans (hb1.mono hbel.size)).size (fun k hk => by cases hk)).alloc ((hbel.trans (hb1.mono hbel.size)).grown hgrow2 (hbel.trans (hb1.mono hbel.size)).size (fun k hk => by cases hk)).size (.cells #[.slice (some ⟨w1.heap.size,0,none⟩) l.length l.length] 137)
     have hR3:=((own_mono_rows hR hbel.size).past hgrow2).alloc (.cells #[.slice (some ⟨w1.heap.size,0,none⟩) l.length l.length] 137)
     have hM3:=hown2.alloc (.cells #[.slice (some ⟨w1.heap.size,0,none⟩) l.length l.length] 137)
     rw [made_false] at hM3
     have hD3:=heap_alloc_new w2 (.cells #[.slice (some ⟨w1.heap.size,0,none⟩) l.length l.length] 137)
     have hne:w1.heap.size<w2.heap.size:=by
      have:=hown2.lt w1.heap.size rfl
      exact this.2
     clear hown2 hgrow2 hB hyes HA hi0 hz0 hz1 hz2 hbytes hb1 hbel hR
     generalize w2.alloc (.cells #[.slice (some ⟨w1.heap.size,0,none⟩) l.length l.length] 137)=w3 at *
     generalize w1.heap.size=M at *
     generalize w2.heap.size=D at *
     go_loopw [65] (fun x wr => ∃ (r:Nat) (ds:List Bool),r≤l.length∧x = .int .i64 r∧ds.length=l.length∧wr.ownsRow w.heap.size 4 1 (.slice (some ⟨M,0,none⟩) l.length l.length) l.length (ds.map Value.bool) ∧
       w3.grownBy wr (some M)∧Hid (dIter (rowsOf l) l.length (l.length-r) ds=dIter (rowsOf l) l.length l.length (List.replicate l.length false))) (fun x _ => l.length-(intOf x).toNat)
     case atStart => exact ⟨0,_,Nat.zero_le _,rfl,by simp,hM3,World.grownBy.refl _ _,rfl⟩
     case round =>
      obtain ⟨r,ds,hr,rfl,hds,hM,hgr,HI⟩:=hrel
      by_cases hrl:r<l.length
      ·obtain ⟨wo,rfl⟩:∃ wo:World,wo=wr:=⟨_,rfl⟩
       have HDS:=Lib.hid hds
       clear hds
       go_wp2
       go_loopw [69] (fun x wr => ∃ (i:Nat) (ds:List Bool),i≤l.length∧x = .int .i64 i∧Hid (ds.length=l.length)∧wr.ownsRow w.heap.size 4 1 (.slice (some ⟨M,0,none⟩) l.length l.length) l.length (ds.map Value.bool) ∧
         w3.grownBy wr (some M)∧Hid (dIter (rowsOf l) l.length (l.length-r-1) (dFrom (rowsOf l) i (l.length-i) ds)=dIter (rowsOf l) l.length l.length (List.replicate l.length false))) (fun x _ => l.length-(intOf x).toNat)
       case atStart => exact ⟨0,ds,Nat.zero_le _,rfl,HDS.out,hM,hgr,by unfold Hid;rw [← HI.out,show l.length-r=(l.length-r-1)+1 by omega];rfl⟩
       case round =>
        clear hM hgr HI HDS
        obtain ⟨i,ds,hi,rfl,HDS,hM,hgr,HI⟩:=hrel
        by_cases hil:i<l.length
        ·obtain ⟨di,hdi,ci,hcD,hcM,hfM,hcO,hRow,hMall,HST,HGST,HLEN,HI2⟩:=right_facts hil hrl HDS.out hM hgr HI.out hM3 hR3 hD3 hne
         clear hM hgr HI hM3 hR3 hD3
         have HDI:=Lib.hid hdi
         have HMall:=Lib.hid hMall
         clear hdi hMall
         go_wp2
         cases di with
         | true =>
          refine wp_region_tail 16 (by kernel_rfl) (by kernel_rfl) ?_
          simp only [List.take_succ_cons,List.take_zero,List.drop_succ_cons,List.drop_zero]
          repeat (go_big_quiet_step (fail))
          refine wpQuiet_nil ?_
          go_wp2
          go_roundw
          case rel => exact ⟨i+1,_,by omega,by go_num,HLEN,HST.out wr rfl,grown_drew (HGST.out _),HI2⟩
          case measure => simp [intOf];omega
         | false =>
          have hcall:=right_call (ci:=ci) (M:=M) (D:=D) (wq:=wr.drew) hil h8 HDS.out (HK.out i hil) hRow hcD HMall.out
          have HDS2:=HDS
          clear HDS
          generalize hav:((pls l l[i].bef).all fun k => ds.getD k.toNat false)=av at *
          have Hav:=Lib.hid hav
          clear hav
          refine wp_region_tail 16 (by kernel_rfl) (by kernel_rfl) ?_
          simp only [List.take_succ_cons,List.take_zero,List.drop_succ_cons,List.drop_zero]
          repeat (first | go_big_quiet_skip | (go_big_quiet_want;go_big_quiet_op;first | go_big_quiet_on | (apply Exists.intro;refine ⟨?_,?_⟩;(go_at_call 59;exact hcall);go_big_quiet_on)))
          refine wpQuiet_nil ?_
          go_wp2
          go_roundw
          case rel => exact ⟨i+1,_,by omega,by go_num,HLEN,HST.out wr rfl,grown_drew (HGST.out _),HI2⟩
          case measure => simp [intOf];omega
        ·have hie:i=l.length:=by omega
         subst hie
         have HI3:Hid (dIter (rowsOf l) l.length (l.length-(r+1)) ds=dIter (rowsOf l) l.length l.length (List.replicate l.length false)):=by
          unfold Hid
          rw [← HI.out,Nat.sub_self]
          rfl
         clear HI
         go_wp2
         go_roundw
         case rel => exact ⟨r+1,_,by omega,by go_num,HDS.out,hM,hgr,HI3⟩
         case measure => simp [intOf];omega
      ·have hre:r=l.length:=by omega
       subst hre
       have HDA:Hid ((!decide (false ∈ ds))=rightW l):=by
        unfold Hid
        rw [HW.out]
        unfold doneAll
        rw [← HI.out,Nat.sub_self]
        show _=ds.all id
        rw [Bool.eq_iff_iff]
        simp only [Bool.not_eq_true',decide_eq_false_iff_not,List.all_eq_true,id]
        constructor
        ·intro h x hx
         cases x with
         | true => rfl
         | false => exact absurd hx h
        ·intro h hx
         exact absurd (h _ hx) (by decide)
       have hrow:BoolsAt wr wr.heap.size (.slice (some ⟨M,0,none⟩) l.length l.length) ds:=RowAt.of_own hM
       have hcon:=containsBool _ ds false wr.heap.size wr hrow
       have hcD:wr.cell? ⟨D,0,none⟩=some (.slice (some ⟨M,0,none⟩) l.length l.length):=by
        rw [cell_of_row _ _ 0 _ _ _ (heap_kept hgr hD3 (by simp;omega))];rfl
       have hbel4:=hbel3.grown hgr hbel3.size (fun k hk => by cases hk;exact (hM.lt M rfl).1)
       clear hrow HI hM hgr hR3 hM3 hD3 hds HK
       generalize decide (false ∈ ds)=z at *
       go_wp2_with (go_at_call 104;refine hcon.mono ?_;rintro e w' ⟨rfl,rfl⟩)
       go_ret
       exact ⟨ret_bool HDA.out,hbel4⟩
 ·have hF:Hid (rightW l=false):=by unfold Hid rightW;simp [h8]
  clear hcell
  go_enter Tryz.func62,Tryz.ntmps62
  go_wp2
  go_ret
  exact ⟨ret_bool hF.out.symm,Below.refl _ _⟩
def cVal (len:Int) (x:List Int) (js:List Int):Int:=js.foldl (fun n j => max n (len+x.getD j.toNat 0)) len
def lens (l:List Task):List Int:=l.map Task.len
def cStep (ls:List Int) (rows:List (List Int)) (x:List Int) (i:Nat):List Int:=x.set i (cVal (ls.getD i 0) x (rows.getD i []))
def cFrom (ls : List Int) (rows : List (List Int)) : Nat → Nat → List Int → List Int
 | _,0,x => x
 | i,m+1,x => cFrom ls rows (i+1) m (cStep ls rows x i)
def cIter (ls : List Int) (rows : List (List Int)) (n : Nat) : Nat → List Int → Option (List Int)
 | 0,_ => none
 | f+1,x => if cFrom ls rows 0 n x=x then some x else cIter ls rows n f (cFrom ls rows 0 n x)
def chainsF (l:List Task):Option (List Int):=cIter (lens l) (rowsOf l) l.length (l.length+1) (List.replicate l.length 0)
theorem getD_lens {l:List Task} {i:Nat} (h:i<l.length):(lens l).getD i 0=l[i].len:=by unfold lens;rw [List.getD_eq_getElem?_getD,List.getElem?_map,List.getElem?_eq_getElem h];rfl
theorem getD_rows {l:List Task} {i:Nat} (h:i<l.length):(rowsOf l).getD i []=pls l l[i].bef:=by unfold rowsOf;rw [List.getD_eq_getElem?_getD,List.getElem?_map,List.getElem?_eq_getElem h];rfl
theorem getD_get (x:List Int) (i:Nat) (h:i<x.length):x.getD i 0=x[i]:=by rw [List.getD_eq_getElem?_getD,List.getElem?_eq_getElem h];rfl
theorem set_same (x:List Int) (i:Nat) (h:i<x.length):x.set i x[i]=x:=by
 apply List.ext_getElem?
 intro j
 rw [List.getElem?_set]
 split
 ·rename_i e;subst e;simp
 ·rfl
theorem getD_set_int (x:List Int) (i j:Nat) (v:Int) (hi:i<x.length):(x.set i v).getD j 0=if j=i then v else x.getD j 0:=by
 rw [List.getD_eq_getElem?_getD,List.getElem?_set,List.getD_eq_getElem?_getD]
 by_cases e:i=j
 ·subst e;simp [hi]
 ·rw [if_neg e,if_neg (fun h => e h.symm)]
theorem length_cStep (ls:List Int) (rows:List (List Int)) (x:List Int) (i:Nat):(cStep ls rows x i).length=x.length:=by simp [cStep]
theorem length_cFrom (ls : List Int) (rows : List (List Int)) : ∀ (m i : Nat) (x : List Int),(cFrom ls rows i m x).length = x.length
 | 0,_,_ => rfl
 | m+1,i,x => by unfold cFrom;rw [length_cFrom ls rows m,length_cStep]
theorem cFrom_old (ls : List Int) (rows : List (List Int)) : ∀ (m i : Nat) (x : List Int) (j : Nat),j < i → (cFrom ls rows i m x).getD j 0 = x.getD j 0
 | 0,_,_,_,_ => rfl
 | m+1,i,x,j,hj => by
  unfold cFrom
  rw [cFrom_old ls rows m (i+1) _ j (by omega)]
  unfold cStep
  rw [List.getD_eq_getElem?_getD,List.getElem?_set_ne (by omega),← List.getD_eq_getElem?_getD]
def ChainsPost (l:List Task) (w:World) (e:Ending) (w':World):Prop :=
 Below w.heap.size w w'∧match chainsF l with
   | none => e = .returned (.tuple #[.slice none 0 0,.bool false])
   | some x => ∃ O,e = .returned (.tuple #[.slice (some ⟨O,0,none⟩) l.length l.length,.bool true])∧x.length=l.length∧w'.ownsRow w.heap.size 3 1 (.slice (some ⟨O,0,none⟩) l.length l.length) l.length (x.map (Value.int .i64))
theorem ChainsPost.no {l:List Task} {w w':World} {O:Nat} (hO:w.heap.size=O) (h:chainsF l=none) (hb:Below O w w'):ChainsPost l w (.returned (.tuple #[.slice none 0 0,.bool false])) w':=by
 subst hO
 refine ⟨hb,?_⟩
 rw [h]
theorem ChainsPost.yes {l : List Task} {w w' : World} {O : Nat} {x : List Int} (hO : w.heap.size = O) (h : chainsF l = some x) (hb : Below O w w') (hx : x.length = l.length)
  (hM:w'.ownsRow O 3 1 (.slice (some ⟨O,0,none⟩) l.length l.length) l.length (x.map (Value.int .i64))):ChainsPost l w (.returned (.tuple #[.slice (some ⟨O,0,none⟩) l.length l.length,.bool true])) w':=by
 subst hO
 refine ⟨hb,?_⟩
 rw [h]
 exact ⟨_,rfl,hx,hM⟩
def OneR (l:List Task) (i:Nat) (t:Task):Prop:=fieldB t=true∧pl l t.name=(i:Int)∧t.bef.length≤l.length∧Good l t t.bef
noncomputable def rightR (l:List Task):Bool:=@decide (l.length≤8∧∀ i (hi:i<l.length),OneR l i l[i]) (Classical.propDecidable _) && (chainsF l).isSome
theorem rightR_yes {l:List Task} (h8:l.length≤8) (h:∀ i (hi:i<l.length),OneR l i l[i]):rightR l=(chainsF l).isSome:=by
 unfold rightR
 rw [show @decide (l.length≤8∧∀ i (hi:i<l.length),OneR l i l[i]) (Classical.propDecidable _)=true by simp only [decide_eq_true_eq];exact ⟨h8,h⟩,Bool.true_and]
end Go.Proofs.YtfhmbechennkbaaGreat
namespace Go.Proofs.YtfhmbechennkbaaGreat
open Go.RowKit
def Acyc (rows:List (List Int)) (n:Nat):Prop:=∃ rank:Nat→Nat,∀ k,k<n→∀ j ∈ rows.getD k [],rank j.toNat<rank k
theorem dGet (ds:List Bool) (i j:Nat) (v:Bool) (hi:i<ds.length):(ds.set i v).getD j false=if j=i then v else ds.getD j false:=by
 rw [List.getD_eq_getElem?_getD,List.getElem?_set,List.getD_eq_getElem?_getD]
 by_cases e:i=j
 ·subst e;simp [hi]
 ·rw [if_neg e,if_neg (fun h => e h.symm)]
theorem dStep_mono (rows:List (List Int)) (ds:List Bool) (i j:Nat) (h:ds.getD j false=true):(dStep rows ds i).getD j false=true:=by
 unfold dStep
 by_cases hi:i<ds.length
 ·rw [dGet _ _ _ _ hi]
  split
  ·rename_i e;subst e;rw [h];rfl
  ·exact h
 ·rw [List.set_eq_of_length_le (by omega)];exact h
theorem dFrom_mono (rows : List (List Int)) : ∀ (m i : Nat) (ds : List Bool) (j : Nat),ds.getD j false = true → (dFrom rows i m ds).getD j false = true
 | 0,_,_,_,h => h
 | m+1,i,ds,j,h => dFrom_mono rows m (i+1) _ j (dStep_mono rows ds i j h)
theorem length_dFrom (rows : List (List Int)) : ∀ (m i : Nat) (ds : List Bool),(dFrom rows i m ds).length = ds.length
 | 0,_,_ => rfl
 | m+1,i,ds => by unfold dFrom;rw [length_dFrom rows m,length_dStep]
theorem dFrom_gets (rows : List (List Int)) : ∀ (m i : Nat) (ds : List Bool) (k : Nat),i ≤ k → k < i + m → k < ds.length → (∀ j ∈ rows.getD k [],ds.getD j.toNat false = true) → (dFrom rows i m ds).getD k false = true
 | 0,i,ds,k,h1,h2,_,_ => by omega
 | m+1,i,ds,k,h1,h2,hk,hj => by
  unfold dFrom
  by_cases e:i=k
  ·subst e
   apply dFrom_mono
   unfold dStep
   rw [dGet _ _ _ _ hk,if_pos rfl]
   have:((rows.getD i []).all fun k => ds.getD k.toNat false)=true:=List.all_eq_true.2 hj
   rw [this,Bool.or_true]
  ·exact dFrom_gets rows m (i+1) _ k (by omega) (by omega) (by rw [length_dStep];exact hk) (fun j h => dStep_mono rows ds i _ (hj j h))
theorem count_le : ∀ (a b : List Bool),a.length = b.length → (∀ j,a.getD j false = true → b.getD j false = true) → a.count true ≤ b.count true
 | [],[],_,_ => Nat.le_refl _
 | [],_ :: _,h,_ => by simp at h
 | _ :: _,[],h,_ => by simp at h
 | x :: a,y :: b,hl,h => by
  have h0:=h 0
  have ih:=count_le a b (by simpa using hl) (fun j => by simpa using h (j+1))
  simp only [List.getD_cons_zero] at h0
  cases x <;> cases y <;> simp at h0 ⊢ <;> omega
theorem count_lt : ∀ (a b : List Bool) (k : Nat),a.length = b.length → (∀ j,a.getD j false = true → b.getD j false = true) → a.getD k false = false → b.getD k false = true → a.count true < b.count true
 | [],[],_,_,_,_,h2 => by simp at h2
 | [],_ :: _,_,h,_,_,_ => by simp at h
 | _ :: _,[],_,h,_,_,_ => by simp at h
 | x :: a,y :: b,k,hl,h,h1,h2 => by
  have h0:=h 0
  have hl':a.length=b.length:=by simpa using hl
  have ht:∀ j,a.getD j false=true→b.getD j false=true:=fun j => by simpa using h (j+1)
  have hle:=count_le a b hl' ht
  simp only [List.getD_cons_zero] at h0
  cases k with
  | zero =>
   simp only [List.getD_cons_zero] at h1 h2
   subst h1 h2
   simp;omega
  | succ k =>
   have ih:=count_lt a b k hl' ht (by simpa using h1) (by simpa using h2)
   cases x <;> cases y <;> simp at h0 ⊢ <;> omega
theorem least_undone {rows:List (List Int)} {n:Nat} {ds:List Bool} (hA:Acyc rows n) (hlt:∀ k,k<n→∀ j ∈ rows.getD k [],j.toNat<n) (h:∃ k,k<n∧ds.getD k false=false) :
  ∃ k,k<n∧ds.getD k false=false∧∀ j ∈ rows.getD k [],ds.getD j.toNat false=true:=by
 obtain ⟨rank,hr⟩:=hA
 suffices H:∀ (m:Nat) (k:Nat),rank k≤m→k<n→ds.getD k false=false→∃ k,k<n∧ds.getD k false=false∧∀ j ∈ rows.getD k [],ds.getD j.toNat false=true by
  obtain ⟨k,hk,hd⟩:=h
  exact H _ k (Nat.le_refl _) hk hd
 intro m
 induction m with
 | zero =>
  intro k h0 hk hd
  refine ⟨k,hk,hd,fun j hj => ?_⟩
  have:=hr k hk j hj
  omega
 | succ m ih =>
  intro k hm hk hd
  by_cases hall:∀ j ∈ rows.getD k [],ds.getD j.toNat false=true
  ·exact ⟨k,hk,hd,hall⟩
  ·obtain ⟨j,hj⟩:=Classical.not_forall.1 hall
   obtain ⟨hj1,hj2⟩:=Classical.not_imp.1 hj
   have:=hr k hk j hj1
   exact ih j.toNat (by omega) (hlt k hk j hj1) (by simpa using hj2)
theorem count_full {ds:List Bool} (h:ds.length≤ds.count true):ds.all id=true:=by
 rw [List.all_eq_true]
 intro x hx
 have:=List.count_le_length (a:=true) (l:=ds)
 have he:ds.count true=ds.length:=by omega
 rw [List.count_eq_length] at he
 exact (he x hx) ▸ rfl
theorem all_getD {ds:List Bool} (h:ds.all id=false):∃ k,k<ds.length∧ds.getD k false=false:=by
 rw [List.all_eq_false] at h
 obtain ⟨x,hx,hf⟩:=h
 obtain ⟨k,hk,rfl⟩:=List.getElem_of_mem hx
 exact ⟨k,hk,by rw [List.getD_eq_getElem?_getD,List.getElem?_eq_getElem hk];simpa using hf⟩
theorem dIter_all {rows:List (List Int)} {n:Nat} (hA:Acyc rows n) (hlt:∀ k,k<n→∀ j ∈ rows.getD k [],j.toNat<n) :
  ∀ (f:Nat) (ds:List Bool),ds.length=n→(dIter rows n f ds).length=n∧((dIter rows n f ds).all id=true∨ds.count true+f≤(dIter rows n f ds).count true)
 | 0,ds,hl => ⟨hl,.inr (Nat.le_refl _)⟩
 | f+1,ds,hl => by
  unfold dIter
  have hl':(dFrom rows 0 n ds).length=n:=by rw [length_dFrom,hl]
  obtain ⟨h1,h2⟩:=dIter_all hA hlt f (dFrom rows 0 n ds) hl'
  refine ⟨h1,?_⟩
  rcases h2 with h2 | h2
  ·exact .inl h2
  ·cases hall:ds.all id with
   | true =>
    left
    apply count_full
    have hc:ds.count true=ds.length:=List.count_eq_length.2 fun b hb => by
     have:=List.all_eq_true.1 hall b hb
     simpa using this.symm
    have hm:=count_le ds (dFrom rows 0 n ds) (by omega) (fun j => dFrom_mono rows n 0 ds j)
    rw [h1]
    omega
   | false =>
    right
    obtain ⟨k,hk,hd⟩:=all_getD hall
    obtain ⟨k,hk,hd,hj⟩:=least_undone hA hlt ⟨k,by omega,hd⟩
    have:=count_lt ds (dFrom rows 0 n ds) k (by omega) (fun j => dFrom_mono rows n 0 ds j) hd (dFrom_gets rows n 0 ds k (Nat.zero_le _) (by omega) (by omega) hj)
    omega
theorem done_of_acyc {rows:List (List Int)} {n:Nat} (hA:Acyc rows n) (hlt:∀ k,k<n→∀ j ∈ rows.getD k [],j.toNat<n):(dIter rows n n (List.replicate n false)).all id=true:=by
 obtain ⟨h1,h2⟩:=dIter_all hA hlt n (List.replicate n false) (by simp)
 rcases h2 with h2 | h2
 ·exact h2
 ·apply count_full
  rw [h1]
  omega
def Fixed (ls:List Int) (rows:List (List Int)) (n:Nat) (x:List Int):Prop:=∀ i,i<n→x.getD i 0=cVal (ls.getD i 0) x (rows.getD i [])
theorem cFrom_fixed (ls : List Int) (rows : List (List Int)) : ∀ (m i : Nat) (x : List Int),x.length = i + m → cFrom ls rows i m x = x → ∀ k,i ≤ k → k < i + m → x.getD k 0 = cVal (ls.getD k 0) x (rows.getD k [])
 | 0,i,x,_,_,k,h1,h2 => by omega
 | m+1,i,x,hl,h,k,h1,h2 => by
  unfold cFrom at h
  have hi:i<x.length:=by omega
  have hstep:cStep ls rows x i=x:=by
   have:=cFrom_old ls rows m (i+1) (cStep ls rows x i) i (by omega)
   rw [h] at this
   unfold cStep at this ⊢
   rw [getD_set_int _ _ _ _ hi,if_pos rfl] at this
   rw [← this,getD_get x i hi,set_same]
  rw [hstep] at h
  by_cases e:k=i
  ·subst e
   have:=congrArg (fun y => y.getD k 0) hstep
   simp only [cStep] at this
   rw [getD_set_int _ _ _ _ hi,if_pos rfl] at this
   exact this.symm
  ·exact cFrom_fixed ls rows m (i+1) x (by omega) h k (by omega) (by omega)
theorem fixed_cFrom (ls : List Int) (rows : List (List Int)) {n : Nat} {x : List Int} (hl : x.length = n) (h : Fixed ls rows n x) : ∀ (m i : Nat),i + m ≤ n → cFrom ls rows i m x = x
 | 0,_,_ => rfl
 | m+1,i,hi => by
  unfold cFrom
  have:cStep ls rows x i=x:=by
   unfold cStep
   rw [← h i (by omega),getD_get x i (by omega),set_same]
  rw [this]
  exact fixed_cFrom ls rows hl h m (i+1) (by omega)
theorem cVal_ge (len:Int) (x js:List Int):len≤cVal len x js∧∀ j ∈ js,len+x.getD j.toNat 0≤cVal len x js:=by
 unfold cVal
 suffices H:∀ (js:List Int) (n:Int),n≤js.foldl (fun n j => max n (len+x.getD j.toNat 0)) n∧∀ j ∈ js,len+x.getD j.toNat 0≤js.foldl (fun n j => max n (len+x.getD j.toNat 0)) n from H js len
 intro js
 induction js with
 | nil => exact fun n => ⟨Int.le_refl _,by simp⟩
 | cons a js ih =>
  intro n
  obtain ⟨h1,h2⟩:=ih (max n (len+x.getD a.toNat 0))
  simp only [List.foldl_cons]
  refine ⟨by omega,fun j hj => ?_⟩
  rw [List.mem_cons] at hj
  rcases hj with rfl | hj
  ·omega
  ·exact h2 j hj
theorem acyc_of_fixed {ls:List Int} {rows:List (List Int)} {n:Nat} {x:List Int} (h:Fixed ls rows n x) (hl:∀ i,i<n→1≤ls.getD i 0) (hlt:∀ k,k<n→∀ j ∈ rows.getD k [],j.toNat<n):Acyc rows n:=by
 refine ⟨fun k => (x.getD k 0).toNat,fun k hk j hj => ?_⟩
 have h1:=(cVal_ge (ls.getD k 0) x (rows.getD k [])).2 j hj
 have h2:=h k hk
 have h3:=hl k hk
 have hj':=hlt k hk j hj
 have h4:=h j.toNat hj'
 have h5:=(cVal_ge (ls.getD j.toNat 0) x (rows.getD j.toNat [])).1
 have h6:=hl _ hj'
 show (x.getD j.toNat 0).toNat<(x.getD k 0).toNat
 omega
theorem cVal_congr {len:Int} {x y js:List Int} (h:∀ j ∈ js,x.getD j.toNat 0=y.getD j.toNat 0):cVal len x js=cVal len y js:=by
 unfold cVal
 suffices H:∀ (n:Int),js.foldl (fun n j => max n (len+x.getD j.toNat 0)) n=js.foldl (fun n j => max n (len+y.getD j.toNat 0)) n from H len
 induction js with
 | nil => exact fun _ => rfl
 | cons a js ih =>
  intro n
  simp only [List.foldl_cons]
  rw [h a (by simp),ih (fun j hj => h j (by simp [hj]))]
def Settled (ls:List Int) (rows:List (List Int)) (n:Nat) (x:List Int) (ds:List Bool):Prop :=
 ∀ k,k<n→ds.getD k false=true→(∀ j ∈ rows.getD k [],ds.getD j.toNat false=true)∧x.getD k 0=cVal (ls.getD k 0) x (rows.getD k [])
theorem Settled.step {ls:List Int} {rows:List (List Int)} {n i:Nat} {x:List Int} {ds:List Bool} (h:Settled ls rows n x ds) (hi:i<n) (hx:x.length=n) (hd:ds.length=n) (hlt:∀ k,k<n→∀ j ∈ rows.getD k [],j.toNat<n) :
  Settled ls rows n (cStep ls rows x i) (dStep rows ds i):=by
 -- the value of a settled task does not change
 have hsame:∀ k,k<n→ds.getD k false=true→(cStep ls rows x i).getD k 0=x.getD k 0:=by
  intro k hk hkd
  unfold cStep
  rw [getD_set_int _ _ _ _ (by omega)]
  split
  ·rename_i e;subst e;exact ((h k hk hkd).2).symm
  ·rfl
 intro k hk hkd
 have hold:(∀ j ∈ rows.getD k [],ds.getD j.toNat false=true):=by
  by_cases hkd0:ds.getD k false=true
  ·exact (h k hk hkd0).1
  ·unfold dStep at hkd
   rw [dGet _ _ _ _ (by omega)] at hkd
   by_cases e:k=i
   ·subst e
    rw [if_pos rfl] at hkd
    have h0:ds.getD k false=false:=by simpa using hkd0
    rw [h0,Bool.false_or,List.all_eq_true] at hkd
    exact hkd
   ·rw [if_neg e] at hkd
    exact absurd hkd hkd0
 have hcong:cVal (ls.getD k 0) (cStep ls rows x i) (rows.getD k [])=cVal (ls.getD k 0) x (rows.getD k []) :=
  cVal_congr fun j hj => hsame _ (hlt k hk j hj) (hold j hj)
 refine ⟨fun j hj => dStep_mono rows ds i _ (hold j hj),?_⟩
 rw [hcong]
 by_cases e:k=i
 ·subst e
  unfold cStep
  rw [getD_set_int _ _ _ _ (by omega),if_pos rfl]
 ·have hkd0:ds.getD k false=true:=by
   unfold dStep at hkd
   rw [dGet _ _ _ _ (by omega),if_neg e] at hkd
   exact hkd
  rw [hsame k hk hkd0]
  exact (h k hk hkd0).2
theorem Settled.from_ {ls:List Int} {rows:List (List Int)} {n:Nat} (hlt:∀ k,k<n→∀ j ∈ rows.getD k [],j.toNat<n) :
  ∀ (m i:Nat) (x:List Int) (ds:List Bool),i+m≤n→x.length=n→ds.length=n→Settled ls rows n x ds→Settled ls rows n (cFrom ls rows i m x) (dFrom rows i m ds)
 | 0,_,_,_,_,_,_,h => h
 | m+1,i,x,ds,hi,hx,hd,h => by
  unfold cFrom dFrom
  exact Settled.from_ hlt m (i+1) _ _ (by omega) (by rw [length_cStep];exact hx) (by rw [length_dStep];exact hd) (h.step (by omega) hx hd hlt)
theorem some_of_done {ls:List Int} {rows:List (List Int)} {n:Nat} (hlt:∀ k,k<n→∀ j ∈ rows.getD k [],j.toNat<n) :
  ∀ (f:Nat) (x:List Int) (ds:List Bool),x.length=n→ds.length=n→Settled ls rows n x ds→(dIter rows n f ds).all id=true→(cIter ls rows n (f+1) x).isSome=true
 | 0,x,ds,hx,hd,h,hall => by
  have hf:Fixed ls rows n x:=fun i hi => (h i hi (by
   have hall':ds.all id=true:=hall
   rw [List.getD_eq_getElem?_getD,List.getElem?_eq_getElem (by omega)]
   exact List.all_eq_true.1 hall' _ (List.getElem_mem (by omega)))).2
  unfold cIter
  rw [if_pos (fixed_cFrom ls rows hx hf n 0 (by omega))]
  rfl
 | f+1,x,ds,hx,hd,h,hall => by
  unfold cIter
  split
  ·rfl
  ·exact some_of_done hlt f _ (dFrom rows 0 n ds) (by rw [length_cFrom];exact hx) (by rw [length_dFrom];exact hd) (Settled.from_ hlt n 0 x ds (by omega) hx hd h) hall
theorem cIter_fixed {ls : List Int} {rows : List (List Int)} {n : Nat} : ∀ (f : Nat) (x y : List Int),x.length = n → cIter ls rows n f x = some y → y.length = n ∧ Fixed ls rows n y
 | 0,_,_,_,h => by cases h
 | f+1,x,y,hx,h => by
  unfold cIter at h
  split at h
  ·rename_i e
   injection h with h
   subst h
   exact ⟨hx,fun i hi => cFrom_fixed ls rows n 0 x (by omega) e i (Nat.zero_le _) (by omega)⟩
  ·exact cIter_fixed f _ y (by rw [length_cFrom];exact hx) h
structure Sane (l:List Task):Prop where
 len:l.length≤8
 field:∀ i (hi:i<l.length),fieldB l[i]=true
 dist:distinct l=true
 bef:befOK l=true
theorem Sane.rows {l:List Task} (h:Sane l):∀ k,k<l.length→∀ j ∈ (rowsOf l).getD k [],j.toNat<l.length:=by
 intro k hk j hj
 rw [getD_rows hk] at hj
 unfold pls at hj
 rw [List.mem_map] at hj
 obtain ⟨s,hs,rfl⟩:=hj
 obtain ⟨m,hm,e,-⟩:=pl_mem (((befOK_iff l).1 h.bef l[k] (List.getElem_mem hk)).2 s hs).1
 rw [e]
 omega
theorem Sane.lens {l:List Task} (h:Sane l):∀ i,i<l.length→1≤(lens l).getD i 0:=by
 intro i hi
 rw [getD_lens hi]
 exact (fieldB_len (h.field i hi)).1
theorem done_chains {l:List Task} (h:Sane l):doneAll l=(chainsF l).isSome:=by
 rw [Bool.eq_iff_iff]
 constructor
 ·intro hd
  exact some_of_done h.rows l.length _ (List.replicate l.length false) (by simp) (by simp) (fun k hk hkd => by
   rw [List.getD_eq_getElem?_getD,List.getElem?_replicate] at hkd
   split at hkd <;> simp at hkd) hd
 ·intro hs
  obtain ⟨x,hx⟩:=Option.isSome_iff_exists.1 hs
  obtain ⟨-,hf⟩:=cIter_fixed _ _ _ (by simp) hx
  exact done_of_acyc (acyc_of_fixed hf h.lens h.rows) h.rows
theorem sane_iff {l:List Task}:Sane l ↔ l.length≤8∧∀ i (hi:i<l.length),OneR l i l[i]:=by
 constructor
 ·intro h
  refine ⟨h.len,fun i hi => ⟨h.field i hi,pl_name h.dist hi,?_,(befOK_iff l).1 h.bef _ (List.getElem_mem hi)⟩⟩
  exact ((befOK_iff l).1 h.bef _ (List.getElem_mem hi)).le
 ·rintro ⟨h8,h⟩
  refine ⟨h8,fun i hi => (h i hi).1,?_,(befOK_iff l).2 fun t ht => ?_⟩
  ·unfold distinct
   rw [decide_eq_true_iff]
   unfold names
   rw [List.Nodup,List.pairwise_iff_getElem]
   intro i j hi hj hij e
   rw [List.length_map] at hi hj
   rw [List.getElem_map,List.getElem_map] at e
   have h1:=(h i hi).2.1
   have h2:=(h j hj).2.1
   rw [e,h2] at h1
   omega
  ·obtain ⟨i,hi,rfl⟩:=List.getElem_of_mem ht
   exact (h i hi).2.2.2
theorem rightW_eq (l:List Task):rightW l=rightR l:=by
 by_cases h:Sane l
 ·obtain ⟨h8,hone⟩:=sane_iff.1 h
  rw [rightR_yes h8 hone,← done_chains h]
  unfold rightW
  have hf:l.all fieldB=true:=by
   rw [List.all_eq_true]
   intro t ht
   obtain ⟨i,hi,rfl⟩:=List.getElem_of_mem ht
   exact h.field i hi
  rw [hf,h.dist,h.bef]
  simp [h8]
 ·have h1:rightR l=false:=by
   unfold rightR
   rw [Bool.and_eq_false_iff]
   left
   simp only [decide_eq_false_iff_not]
   exact fun hh => h (sane_iff.2 hh)
  rw [h1]
  unfold rightW
  by_cases h8:l.length≤8
  ·by_cases hf:l.all fieldB=true
   ·by_cases hd:distinct l=true
    ·have hb:befOK l=false:=by
      cases hb:befOK l with
      | false => rfl
      | true =>
       exact absurd ⟨h8,fun i hi => List.all_eq_true.1 hf _ (List.getElem_mem hi),hd,hb⟩ h
     simp [hb]
    ·simp [hd]
   ·simp [hf]
  ·simp [h8]
structure RightT (l:List Task):Prop extends Sane l where
 acyc:Acyc (rowsOf l) l.length
theorem right_iff (l:List Task):rightR l=true ↔ RightT l:=by
 constructor
 ·intro h
  have h':=h
  unfold rightR at h
  rw [Bool.and_eq_true] at h
  have hs:=sane_iff.2 (@of_decide_eq_true _ (Classical.propDecidable _) h.1)
  obtain ⟨x,hx⟩:=Option.isSome_iff_exists.1 h.2
  obtain ⟨-,hf⟩:=cIter_fixed _ _ _ (by simp) hx
  exact ⟨hs,acyc_of_fixed hf hs.lens hs.rows⟩
 ·intro h
  obtain ⟨h8,hone⟩:=sane_iff.1 h.toSane
  rw [rightR_yes h8 hone,← done_chains h.toSane]
  exact done_of_acyc h.acyc h.rows
end Go.Proofs.YtfhmbechennkbaaGreat
namespace Go.Proofs.YtfhmbechennkbaaGreat
def lex : List Nat → List Nat → Prop
 | _,[] => False
 | [],_ :: _ => True
 | a :: x,b :: y => a<b∨a=b∧lex x y
theorem lex_nil_iff (x:List Nat):¬ lex x []:=by cases x <;> exact id
theorem lex_irrefl : ∀ x,¬ lex x x
 | [],h => h
 | a :: x,h => by
  rcases h with h | ⟨_,h⟩
  ·omega
  ·exact lex_irrefl x h
theorem lex_trans : ∀ {x y z : List Nat},lex x y → lex y z → lex x z
 | _,[],_,h,_ => absurd h (lex_nil_iff _)
 | _,_ :: _,[],_,h => absurd h (lex_nil_iff _)
 | [],_ :: _,_ :: _,_,_ => trivial
 | a :: x,b :: y,c :: z,h,k => by
  rcases h with h | ⟨rfl,h⟩
  ·rcases k with k | ⟨rfl,_⟩
   ·exact .inl (by omega)
   ·exact .inl h
  ·rcases k with k | ⟨rfl,k⟩
   ·exact .inl k
   ·exact .inr ⟨rfl,lex_trans h k⟩
theorem lex_snoc (x:List Nat) (a:Nat):lex x (x ++ [a]):=by
 induction x with
 | nil => trivial
 | cons b x ih => exact .inr ⟨rfl,ih⟩
theorem lex_zero : ∀ (z x : List Nat),lex z (x ++ [0]) ↔ lex z x ∨ z = x
 | [],[] => by simp [lex]
 | a :: z,[] => by simp [lex,lex_nil_iff]
 | [],b :: x => by simp [lex]
 | a :: z,b :: x => by
  have ih:=lex_zero z x
  simp only [List.cons_append,lex,List.cons.injEq,ih]
  constructor
  ·rintro (h | ⟨h,h' | h'⟩)
   ·exact .inl (.inl h)
   ·exact .inl (.inr ⟨h,h'⟩)
   ·exact .inr ⟨h,h'⟩
  ·rintro ((h | ⟨h,h'⟩) | ⟨h,h'⟩)
   ·exact .inl h
   ·exact .inr ⟨h,.inl h'⟩
   ·exact .inr ⟨h,.inr h'⟩
theorem lex_succ : ∀ (z x : List Nat) (a : Nat),lex z (x ++ [a + 1]) ↔ lex z (x ++ [a]) ∨ (x ++ [a]) <+: z
 | [],[],a => by simp [lex]
 | b :: z,[],a => by
  simp only [List.nil_append,lex,lex_nil_iff,and_false,or_false,List.cons_prefix_cons,List.nil_prefix,and_true]
  omega
 | [],c :: x,a => by simp [lex]
 | b :: z,c :: x,a => by
  have ih:=lex_succ z x a
  simp only [List.cons_append,lex,ih,List.cons_prefix_cons]
  constructor
  ·rintro (h | ⟨h,h' | h'⟩)
   ·exact .inl (.inl h)
   ·exact .inl (.inr ⟨h,h'⟩)
   ·exact .inr ⟨h.symm,h'⟩
  ·rintro ((h | ⟨h,h'⟩) | ⟨h,h'⟩)
   ·exact .inl h
   ·exact .inr ⟨h,.inl h'⟩
   ·exact .inr ⟨h.symm,.inr h'⟩
theorem lex_top : ∀ (z x : List Nat) (N : Nat),(∀ i ∈ z,i < N) → (lex z (x ++ [N]) ↔ lex z x ∨ x <+: z)
 | [],[],N,_ => by simp [lex]
 | b :: z,[],N,h => by
  have:=h b (by simp)
  simp [lex,this,lex_nil_iff]
 | [],c :: x,N,_ => by simp [lex]
 | b :: z,c :: x,N,h => by
  have ih:=lex_top z x N (fun i hi => h i (by simp [hi]))
  simp only [List.cons_append,lex,ih,List.cons_prefix_cons]
  constructor
  ·rintro (h | ⟨h,h' | h'⟩)
   ·exact .inl (.inl h)
   ·exact .inl (.inr ⟨h,h'⟩)
   ·exact .inr ⟨h.symm,h'⟩
  ·rintro ((h | ⟨h,h'⟩) | ⟨h,h'⟩)
   ·exact .inl h
   ·exact .inr ⟨h,.inl h'⟩
   ·exact .inr ⟨h.symm,.inr h'⟩
def edge (l:List Task) (i k:Nat):Prop:=∃ (hi:i<l.length) (hk:k<l.length),l[i].name ∈ l[k].bef
def Chain (l:List Task) (x:List Nat):Prop:=(∀ i ∈ x,i<l.length)∧∀ j (h:j+1<x.length),edge l (x[j]'(by omega)) x[j+1]
def lenAt (l:List Task) (i:Nat):Int:=(lens l).getD i 0
def sumAt (l:List Task) (x:List Nat):Int:=(x.map (lenAt l)).sum
theorem Chain.nil (l:List Task):Chain l []:=⟨by simp,fun j h => by simp at h⟩
theorem Chain.one {l:List Task} {i:Nat} (h:i<l.length):Chain l [i]:=⟨by simpa using h,fun j h => by simp at h⟩
theorem Chain.snoc {l:List Task} {x:List Nat} {i:Nat} (h:Chain l x) (hi:i<l.length) (he:∀ hx:x≠[],edge l (x.getLast hx) i):Chain l (x ++ [i]):=by
 refine ⟨fun j hj => ?_,fun j hj => ?_⟩
 ·rw [List.mem_append,List.mem_singleton] at hj
  rcases hj with hj | rfl
  ·exact h.1 j hj
  ·exact hi
 ·rw [List.length_append,List.length_singleton] at hj
  by_cases hlt:j+1<x.length
  ·have:=h.2 j hlt
   rw [List.getElem_append_left (by omega),List.getElem_append_left hlt]
   exact this
  ·have hx:x≠[]:=by rintro rfl;simp at hj
   have:=he hx
   rw [List.getElem_append_left (by omega),List.getElem_append_right (by omega)]
   simp only [List.getElem_singleton]
   rw [List.getLast_eq_getElem] at this
   have e:x.length-1=j:=by omega
   simp only [e] at this
   exact this
theorem Chain.front {l:List Task} {x y:List Nat} (h:Chain l (x ++ y)):Chain l x:=by
 refine ⟨fun i hi => h.1 i (List.mem_append_left _ hi),fun j hj => ?_⟩
 have:=h.2 j (by rw [List.length_append];omega)
 rw [List.getElem_append_left (by omega),List.getElem_append_left hj] at this
 exact this
theorem Chain.last_edge {l:List Task} {x:List Nat} {i:Nat} (h:Chain l (x ++ [i])) (hx:x≠[]):edge l (x.getLast hx) i:=by
 have hl:0<x.length:=List.length_pos_iff.2 hx
 have:=h.2 (x.length-1) (by rw [List.length_append,List.length_singleton];omega)
 rw [List.getElem_append_left (by omega),List.getElem_append_right (by omega)] at this
 simp only [List.getElem_singleton] at this
 rw [List.getLast_eq_getElem]
 exact this
theorem sumAt_snoc (l:List Task) (x:List Nat) (i:Nat):sumAt l (x ++ [i])=sumAt l x+lenAt l i:=by simp [sumAt]
theorem sumAt_nil (l:List Task):sumAt l []=0:=rfl
theorem lenAt_eq {l:List Task} {i:Nat} (h:i<l.length):lenAt l i=l[i].len:=getD_lens h
structure Covers (l:List Task) (b:List Nat) (L:Int) (y:List Nat):Prop where
 chain:Chain l y
 below:lex y b
 sum:sumAt l y=L
 most:∀ z,Chain l z→lex z b→sumAt l z≤L
 least:∀ z,Chain l z→lex z b→sumAt l z=L→y=z∨lex y z
theorem Covers.start (l:List Task):Covers l [0] 0 []:=by
 have h0:∀ z,lex z [0]→z=[]:=fun z h => by
  have:=(lex_zero z []).1 h
  rcases this with h | h
  ·exact absurd h (lex_nil_iff z)
  ·exact h
 exact ⟨Chain.nil l,trivial,rfl,fun z _ h => by rw [h0 z h];exact Int.le_refl _,fun z _ h _ => .inl (h0 z h).symm⟩
theorem Covers.visit {l:List Task} {x y:List Nat} {L:Int} (h:Covers l x L y) (hx:Chain l x):Covers l (x ++ [0]) (if L<sumAt l x then sumAt l x else L) (if L<sumAt l x then x else y):=by
 by_cases hlt:L<sumAt l x
 ·rw [if_pos hlt,if_pos hlt]
  refine ⟨hx,lex_snoc x 0,rfl,fun z hz hb => ?_,fun z hz hb hs => ?_⟩
  ·rcases (lex_zero z x).1 hb with hb | rfl
   ·have:=h.most z hz hb;omega
   ·exact Int.le_refl _
  ·rcases (lex_zero z x).1 hb with hb | rfl
   ·have:=h.most z hz hb;omega
   ·exact .inl rfl
 ·rw [if_neg hlt,if_neg hlt]
  refine ⟨h.chain,(lex_zero y x).2 (.inl h.below),h.sum,fun z hz hb => ?_,fun z hz hb hs => ?_⟩
  ·rcases (lex_zero z x).1 hb with hb | rfl
   ·exact h.most z hz hb
   ·omega
  ·rcases (lex_zero z x).1 hb with hb | rfl
   ·exact h.least z hz hb hs
   ·exact .inr h.below
theorem Covers.same {l:List Task} {b b' y:List Nat} {L:Int} (h:Covers l b L y) (hb:∀ z,Chain l z→(lex z b' ↔ lex z b)):Covers l b' L y :=
 ⟨h.chain,(hb y h.chain).2 h.below,h.sum,fun z hz hl => h.most z hz ((hb z hz).1 hl),fun z hz hl hs => h.least z hz ((hb z hz).1 hl) hs⟩
theorem Covers.next_no {l:List Task} {x y:List Nat} {i:Nat} {L:Int} (h:Covers l (x ++ [i]) L y) (hno:¬ Chain l (x ++ [i])):Covers l (x ++ [i+1]) L y :=
 h.same fun z hz => by
  rw [lex_succ]
  constructor
  ·rintro (h | ⟨t,rfl⟩)
   ·exact h
   ·exact absurd hz.front hno
  ·exact .inl
theorem Covers.next_yes {l:List Task} {x y:List Nat} {i:Nat} {L:Int} (h:Covers l (x ++ [i] ++ [l.length]) L y):Covers l (x ++ [i+1]) L y :=
 h.same fun z hz => by rw [lex_succ,lex_top z (x ++ [i]) l.length hz.1]
theorem Covers.uniq {l:List Task} {b y y':List Nat} {L L':Int} (h:Covers l b L y) (h':Covers l b L' y'):L=L'∧y=y':=by
 have e:L=L':=by
  have h1:=h.most y' h'.chain h'.below
  have h2:=h'.most y h.chain h.below
  have h3:=h.sum
  have h4:=h'.sum
  omega
 subst e
 refine ⟨rfl,?_⟩
 rcases h.least y' h'.chain h'.below h'.sum with e | e
 ·exact e
 ·rcases h'.least y h.chain h.below h.sum with e' | e'
  ·exact e'.symm
  ·exact absurd (lex_trans e e') (lex_irrefl _)
theorem edge_row {l:List Task} (hd:distinct l=true) {i k:Nat} (h:edge l i k):(i:Int) ∈ (rowsOf l).getD k []:=by
 obtain ⟨hi,hk,hm⟩:=h
 rw [getD_rows hk]
 unfold pls
 rw [List.mem_map]
 exact ⟨_,hm,pl_name hd hi⟩
theorem Chain.rank {l:List Task} (hR:RightT l) {x:List Nat} (h:Chain l x):∃ rank:Nat→Nat,∀ a b (hb:b<x.length) (hab:a<b),rank (x[a]'(by omega))<rank x[b]:=by
 obtain ⟨rank,hr⟩:=hR.acyc
 refine ⟨rank,fun a b hb hab => ?_⟩
 induction b with
 | zero => omega
 | succ b ih =>
  have he:=h.2 b hb
  have h1:=hr _ he.2.1 _ (edge_row hR.dist he)
  rw [Int.toNat_natCast] at h1
  by_cases e:a=b
  ·subst e;exact h1
  ·have:=ih (by omega) (by omega)
   omega
theorem Chain.nodup {l:List Task} (hR:RightT l) {x:List Nat} (h:Chain l x):x.Nodup:=by
 obtain ⟨rank,hr⟩:=h.rank hR
 rw [List.Nodup,List.pairwise_iff_getElem]
 intro i j hi hj hij e
 have:=hr i j hj hij
 rw [e] at this
 omega
theorem Chain.short {l:List Task} (hR:RightT l) {x:List Nat} (h:Chain l x):x.length≤l.length:=by
 have:=List.Nodup.length_le_of_subset (h.nodup hR) (l₂:=List.range l.length) (fun i hi => List.mem_range.2 (h.1 i hi))
 simpa using this
theorem lenAt_bd {l:List Task} (hR:RightT l) (i:Nat):0≤lenAt l i∧lenAt l i≤10000:=by
 by_cases hi:i<l.length
 ·rw [lenAt_eq hi]
  have:=fieldB_len (hR.field i hi)
  omega
 ·unfold lenAt
  rw [List.getD_eq_getElem?_getD,List.getElem?_eq_none (by unfold lens;rw [List.length_map];omega)]
  simp
theorem sumAt_bd {l:List Task} (hR:RightT l) (x:List Nat):0≤sumAt l x∧sumAt l x≤10000*x.length:=by
 induction x with
 | nil => simp [sumAt]
 | cons i x ih =>
  have:=lenAt_bd hR i
  simp only [sumAt,List.map_cons,List.sum_cons,List.length_cons] at ih ⊢
  omega
end Go.Proofs.YtfhmbechennkbaaGreat
namespace Go.Proofs.YtfhmbechennkbaaGreat
open Go.RowKit Go.Shelf
theorem TasksAt.cells {w:World} {B:Nat} {A:Option Addr} {c:Nat} {l:List Task} (h:TasksAt w B (.slice A l.length c) l) {k:Nat} (hk:k<l.length) :
  ∃ b off,A=some ⟨b,off,none⟩∧b<B∧∀ j (hj:j<l.length),TaskCells w b (off+j*5) l[j]:=by
 obtain ⟨A',c',e,_,_,h'⟩:=h.open_
 injection e with e1 _ e3
 subst e1 e3
 exact h' k hk
theorem own_cap {w:World} {base e size n cap:Nat} {a:Option Addr} {xs:List Value} (h:w.ownsRow base e size (.slice a n cap) n xs):n≤cap∧cap≤9223372036854775807:=by
 rcases h.2 with ⟨e',rfl⟩ | ⟨g',cap',cur,hv,_,_,h1,h2,_⟩
 ·injection e' with _ _ e3
  omega
 ·injection hv with _ _ e3
  subst e3
  unfold maxLen at h2
  exact ⟨h1,by omega⟩
theorem add_lit (b off j:Nat):(⟨b,off,none⟩:Addr).add j=⟨b,off+j,none⟩:=by
 unfold Addr.add;split
 ·rename_i h;subst h;rfl
 ·rfl
theorem run_append_nil_src {P : Program} (w : World) (base : Nat) (t ty e : TypeId) (i : TypeInfo) (size : Nat) (ht : P.underlying t = some (.slice e)) (hi : P.info? e = some i)
  (v:Value) (n:Nat) (xs:List Value) (hown:w.ownsRow base e size v n xs) (c:Nat):(Builtin.append_ #[t,t] ty #[v,.slice none 0 c]).run P w = .ok v w:=by
 rcases hown.2 with ⟨rfl,rfl⟩ | ⟨g,cap,cur,rfl,_,_,hnc,_⟩
 ·simp [Builtin.append_,run_underlying ht,sizeOf,typeInfo,hi,Builtin.lenOf,Builtin.firstCells]
 ·simp [Builtin.append_,run_underlying ht,sizeOf,typeInfo,hi,Builtin.lenOf,Builtin.firstCells,hnc,storeCells]
theorem wpList_appendAll {P : Program} (w : World) {ops : Array Oper} {rest : List Oper} {o : Oper} {a : Act} {Q : Exit → Act → World → Prop} (hgd : o.guard = none) (s x : Operand) (t : TypeId)
  (ho:o.op = .call { callee:=.builtin .append,args:=#[s,x],argTypes:=#[t,t] })
  (base:Nat) (e:TypeId) {z:Value} {size bytes:Nat} (hinfo:(P.info? e).map (fun i => (i.zero,i.size,i.bytes))=some (some z,size,bytes)) (ht:P.underlying t=some (.slice e)) (hzs:z.cells.size=size) (hsz:0<size)
  (v:Value) (n:Nat) (xs:List Value) (hs:a.eval s=v) (hown:w.ownsRow base e size v n xs)
  (B m:Nat) (sv:Value) (news:List Value) (hx:a.eval x=sv) (hsv:Flat w B sv m news) (hl:news.length=m*size) (h1:∀ u ∈ news,u.oneCell'=true)
  (h63:n+m≤maxLen) (hbytes:(n+m)*bytes≤140737488355328) (hbase:base≤w.heap.size)
  (h:∀ v' w',w'.ownsRow base e size v' (n+m) (xs ++ news)→w.grownBy w' v.ownBlock→(v'.ownBlock=v.ownBlock∨v'.ownBlock=some w.heap.size)→wpList P ops Q rest (a.put o.dst v') w') :
  wpList P ops Q (o :: rest) a w:=by
 obtain ⟨i,hi,hz,hsz',hby⟩:=info_parts hinfo
 obtain ⟨A,c,rfl,hmc,hcm,hcell⟩:=hsv
 suffices H:∃ v' w',(Builtin.append_ #[t,t] o.type #[v,.slice A m c]).run P w = .ok v' w'∧w'.ownsRow base e size v' (n+m) (xs ++ news)∧w.grownBy w' v.ownBlock∧(v'.ownBlock=v.ownBlock∨v'.ownBlock=some w.heap.size) by
  refine wpList_plain hgd fun K hK => ?_
  obtain ⟨v',w',hrun,h2,h3,h4⟩:=H
  unfold Oper.wp execOp
  simp only [ho,resolve,invoke,builtin,Sem.run_bind,Sem.run_pure,Result.andThen_ok,List.map_toArray,List.map_cons,List.map_nil,hs,hx,hrun]
  exact hK _ _ (h v' w' h2 h3 h4)
 rcases A with _ | ad
 ·have hm:m=0:=by
   rcases Nat.eq_zero_or_pos m with h0 | h0
   ·exact h0
   ·obtain ⟨b,off,e,_⟩:=hcell h0
    cases e
  subst hm
  have hn:news=[]:=List.eq_nil_of_length_eq_zero (by simpa using hl)
  subst hn
  exact ⟨v,w,run_append_nil_src w base t o.type e i size ht hi v n xs hown c,by simpa using hown,World.grownBy.refl w _,.inl rfl⟩
 ·have hcells:∀ j u,news[j]? = some u→w.cell? (ad.add j)=some u:=by
   intro j u hu
   rcases Nat.eq_zero_or_pos m with h0 | h0
   ·subst h0
    have hn:news=[]:=List.eq_nil_of_length_eq_zero (by simpa using hl)
    subst hn
    simp at hu
   ·obtain ⟨b,off,e,_,hc⟩:=hcell h0
    injection e with e
    subst e
    rw [add_lit]
    exact hc j u hu
  obtain ⟨v',w',hrun,h2,h3,_,h5⟩:=run_append_own_at (P:=P) w base t o.type e i z size bytes ht hi hz hsz' hby hzs hsz v n xs hown ad m c news hl hcells h1 h63 hbytes hbase
  exact ⟨v',w',hrun,h2,h3,h5⟩
theorem wpList_pushN {P : Program} (w : World) {ops : Array Oper} {rest : List Oper} {o : Oper} {a : Act} {Q : Exit → Act → World → Prop} (hgd : o.guard = none) (s x : Operand) (t : TypeId)
  (ho:o.op = .call { callee:=.builtin .append,args:=#[s,x],argTypes:=#[t,t] })
  (base:Nat) (e:TypeId) {z:Value} {bytes:Nat} (hinfo:(P.info? e).map (fun i => (i.zero,i.size,i.bytes))=some (some z,1,bytes)) (ht:P.underlying t=some (.slice e)) (hz1:z.cells.size=1)
  (v:Value) (n:Nat) (xs:List Value) (hs:a.eval s=v) (hown:w.ownsRow base e 1 v n xs) (u:Value) (hu:u.oneCell'=true)
  (N:Nat) (hN:w.heap.size=N) (hx:a.eval x = .slice (some ⟨N,0,none⟩) 1 1) (h63:n+1≤maxLen) (hbytes:(n+1)*bytes≤140737488355328) (hbase:base≤w.heap.size)
  (h:∀ g cap w',w'.ownsRow base e 1 (.slice (some ⟨g,0,none⟩) (n+1) cap) (n+1) (xs ++ [u])→w.grownBy w' v.ownBlock→base≤g→(v.ownBlock=some g∨w.heap.size≤g) →
   wpList P ops Q rest (a.put o.dst (.slice (some ⟨g,0,none⟩) (n+1) cap)) w') :
  wpList P ops Q (o :: rest) a (w.alloc (.cells #[u] e)):=by
 subst hN
 exact wpList_push w hgd s x t ho base e hinfo ht hz1 v n xs hs hown u hu hx h63 hbytes hbase h
set_option maxHeartbeats 1000000 in
theorem cloneInt (v:Value) (l:List Int) (w:World) (hl:IntsAt w w.heap.size v l) (hlen:l.length≤1000000) :
  Calls Tryz.prog 126 #[v] w fun e w' => ∃ v',e = .returned v'∧w'.ownsRow w.heap.size 3 1 v' l.length (l.map (Value.int .i64))∧Below w.heap.size w w':=by
 have HL:=Lib.hid hl
 obtain ⟨A,c,rfl,hc1,hc2,hcell⟩:=hl.open_
 clear hl
 cases A with
 | none =>
  have hl0:l=[]:=by
   cases l with
   | nil => rfl
   | cons x r => obtain ⟨b,off,e,_⟩:=hcell 0 (by simp);cases e
  subst hl0
  have heq:=fun W => Lib.run_eql_slice_nil (P:=Tryz.prog) W 22 3 none 0 c 0 0 Tryz.underlying22
  clear hcell
  go_enter Tryz.func126,Tryz.ntmps126
  go_wp2
  go_ret
  exact ⟨_,rfl,World.ownsRow_nil _ _ _ _,Below.refl _ _⟩
 | some ad =>
  have heq:=fun W => Lib.run_eql_slice_nil (P:=Tryz.prog) W 22 3 (some ad) l.length c 0 0 Tryz.underlying22
  clear hcell
  go_enter Tryz.func126,Tryz.ntmps126
  go_wp2_with (at_builtin;refine wpList_appendAll _ rfl (.tmp 5) (.tmp 6) 22 rfl w.heap.size 3 info_int Tryz.underlying22 rfl (by decide) (.slice (some ⟨w.heap.size,0,none⟩) 0 0) 0 [] rfl (World.ownsRow_made w #[] 0 (Nat.le_refl _) (Nat.zero_le _) rfl) w.heap.size l.length (.slice (some ad) l.length c) (l.map (Value.int .i64)) rfl (HL.out.below ((Below.refl _ _).alloc (Nat.le_refl _) _) (Nat.le_refl _)) (by simp) (by simp [Value.oneCell']) (by unfold maxLen;omega) (by omega) (by simp) ?_;intro v1 w1 hown1 hg1 hat1)
  go_ret
  refine ⟨_,rfl,by simpa using hown1,?_⟩
  exact ((Below.refl w.heap.size w).alloc (Nat.le_refl _) _).grown hg1 (by simp) (fun k hk => by simp [Value.ownBlock] at hk;omega)
noncomputable def validB (l:List Task) (c p:Int):Bool:=rightR l && betweenB c 0 1000 && betweenB p 0 1000
theorem valid_00 (l:List Task):validB l 0 0=rightR l:=by unfold validB betweenB;simp
set_option maxHeartbeats 2000000 in
theorem schedValid (v:Value) (l:List Task) (c p:Int) (w:World) (hl:TasksAt w w.heap.size v l) :
  Calls Tryz.prog 55 #[v,.int .i64 c,.int .i64 p] w fun e w' => e = .returned (.bool (validB l c p))∧Below w.heap.size w w':=by
 have hr:=schedRight v l w hl
 rw [rightW_eq] at hr
 clear hl
 cases hb:rightR l with
 | false =>
  rw [hb] at hr
  have HV:Hid (validB l c p=false):=by unfold Hid validB;rw [hb];rfl
  clear hb
  go_enter Tryz.func55,Tryz.ntmps55
  go_wp2_with (go_at_call 62;refine hr.mono ?_;rintro e w' ⟨rfl,hb'⟩)
  go_ret
  exact ⟨ret_bool HV.out.symm,hb'⟩
 | true =>
  rw [hb] at hr
  by_cases h1:0≤c
  rotate_left
  ·have HV:Hid (validB l c p=false):=by unfold Hid validB betweenB;simp [h1]
   have h1b:decide (0≤c)=false:=by simpa using h1
   clear hb
   go_enter Tryz.func55,Tryz.ntmps55
   go_wp2_with (go_at_call 62;refine hr.mono ?_;rintro e w' ⟨rfl,hb'⟩)
   go_ret
   exact ⟨ret_bool HV.out.symm,hb'⟩
  by_cases h2:c≤1000
  rotate_left
  ·have HV:Hid (validB l c p=false):=by unfold Hid validB betweenB;simp [h2]
   have h2b:decide (c≤1000)=false:=by simpa using h2
   clear hb
   go_enter Tryz.func55,Tryz.ntmps55
   go_wp2_with (go_at_call 62;refine hr.mono ?_;rintro e w' ⟨rfl,hb'⟩)
   go_ret
   exact ⟨ret_bool HV.out.symm,hb'⟩
  by_cases h3:0≤p
  rotate_left
  ·have HV:Hid (validB l c p=false):=by unfold Hid validB betweenB;simp [h3]
   have h3b:decide (0≤p)=false:=by simpa using h3
   clear hb
   go_enter Tryz.func55,Tryz.ntmps55
   go_wp2_with (go_at_call 62;refine hr.mono ?_;rintro e w' ⟨rfl,hb'⟩)
   go_ret
   exact ⟨ret_bool HV.out.symm,hb'⟩
  have HV:Hid (validB l c p=decide (p≤1000)):=by unfold Hid validB betweenB;simp [hb,h1,h2,h3]
  clear hb
  go_enter Tryz.func55,Tryz.ntmps55
  go_wp2_with (go_at_call 62;refine hr.mono ?_;rintro e w' ⟨rfl,hb'⟩)
  go_ret
  exact ⟨ret_bool HV.out.symm,hb'⟩
end Go.Proofs.YtfhmbechennkbaaGreat
