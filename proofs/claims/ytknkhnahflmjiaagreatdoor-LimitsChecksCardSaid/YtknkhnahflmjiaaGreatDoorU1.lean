/- Lemmas. -/
import Derived.Test.YtknkhnahflmjiaaGreatDoorA1
namespace Go.Proofs.YtknkhnahflmjiaaGreatDoor
set_option maxRecDepth 100000
set_option maxHeartbeats 40000000
open Go.RowKit Go.Shelf
structure ItemT where
 name:ByteArray
 pos:Int
 width:Int
 wt:Int
 hang:Int
 front:Int
 back:Int
deriving DecidableEq
structure BrickT where
 name:ByteArray
 wt:Int
 cnt:Int
deriving DecidableEq
structure SetT where
 name:ByteArray
 depth:Int
 low:Int
 high:Int
 len:Int
 lines:List Int
 pipe:Int
 arbor:Int
 purch:Int
 most:Int
 brake:Int
 items:List ItemT
 bricks:List BrickT
deriving DecidableEq
abbrev zA (x:SetT) (a:Option Addr) (b:Nat) (c:Option Addr) (d:Nat) (e:Option Addr) (f:Nat):Array Value:=#[.string x.name,.int .i64 x.depth,.int .i64 x.low,.int .i64 x.high,.int .i64 x.len,.slice a x.lines.length b,.int .i64 x.pipe,.int .i64 x.arbor,.int .i64 x.purch,.int .i64 x.most,.int .i64 x.brake,.slice c x.items.length d,.slice e x.bricks.length f]
abbrev zB (x:SetT) (a:Option Addr) (b:Nat) (c:Option Addr) (d:Nat) (e:Option Addr) (f:Nat):List Value:=[.string x.name,.int .i64 x.depth,.int .i64 x.low,.int .i64 x.high,.int .i64 x.len,.slice a x.lines.length b,.int .i64 x.pipe,.int .i64 x.arbor,.int .i64 x.purch,.int .i64 x.most,.int .i64 x.brake,.slice c x.items.length d,.slice e x.bricks.length f]
def ItemT.cells (x:ItemT):List Value:=[.string x.name,.int .i64 x.pos,.int .i64 x.width,.int .i64 x.wt,.int .i64 x.hang,.int .i64 x.front,.int .i64 x.back]
abbrev ItemT.val (x:ItemT):Value:=.agg #[.string x.name,.int .i64 x.pos,.int .i64 x.width,.int .i64 x.wt,.int .i64 x.hang,.int .i64 x.front,.int .i64 x.back]
def BrickT.cells (x:BrickT):List Value:=[.string x.name,.int .i64 x.wt,.int .i64 x.cnt]
abbrev BrickT.val (x:BrickT):Value:=.agg #[.string x.name,.int .i64 x.wt,.int .i64 x.cnt]
theorem uk {α:Type} (f:α→List Value) (k:Nat) (hf:∀x,(f x).length=k) (l:List α) (j i:Nat) (hj:j<l.length) (hi:i<k):(l.flatMap f)[j*k+i]?=(f l[j])[i]?:=by
 induction l generalizing j with
 | nil=>simp at hj
 | cons t l ih=>
  rw[List.flatMap_cons]
  cases j with
  | zero=>rw[List.getElem?_append_left (by rw[hf];omega)];simp
  | succ j=>
   rw[List.getElem?_append_right (by rw[hf,Nat.succ_mul];omega),hf]
   have:=ih j (by simpa using hj);rw[show (j+1)*k+i-k=j*k+i by rw[Nat.succ_mul];omega,this];rfl
def ItemsAt (w:World) (B:Nat) (v:Value) (l:List ItemT):Prop:=Flat w B v l.length (l.flatMap ItemT.cells)
def BricksAt (w:World) (B:Nat) (v:Value) (l:List BrickT):Prop:=Flat w B v l.length (l.flatMap BrickT.cells)
theorem ItemsAt.below {w w':World} {B B':Nat} {v:Value} {l:List ItemT} (h:ItemsAt w B v l) (hb:Below B' w w') (hB:B≤B'):ItemsAt w' B v l:=Flat.below h hb hB
theorem ItemsAt.mono {w:World} {B B':Nat} {v:Value} {l:List ItemT} (h:ItemsAt w B v l) (hB:B≤B'):ItemsAt w B' v l:=Flat.mono h hB
theorem BricksAt.below {w w':World} {B B':Nat} {v:Value} {l:List BrickT} (h:BricksAt w B v l) (hb:Below B' w w') (hB:B≤B'):BricksAt w' B v l:=Flat.below h hb hB
theorem BricksAt.mono {w:World} {B B':Nat} {v:Value} {l:List BrickT} (h:BricksAt w B v l) (hB:B≤B'):BricksAt w B' v l:=Flat.mono h hB
theorem ItemsAt.open_ {w:World} {B:Nat} {v:Value} {l:List ItemT} (h:ItemsAt w B v l) :
  ∃A c,v=.slice A l.length c∧l.length≤c∧c≤maxLen∧∀k (_:k<l.length),∃b off,A=some ⟨b,off,none⟩∧b<B∧∀j (hj:j<l.length),
   w.cell? ⟨b,off+j*7,none⟩=some (.string l[j].name)∧w.cell? ⟨b,off+j*7+1,none⟩=some (.int .i64 l[j].pos)∧w.cell? ⟨b,off+j*7+2,none⟩=some (.int .i64 l[j].width)∧w.cell? ⟨b,off+j*7+3,none⟩=some (.int .i64 l[j].wt)∧w.cell? ⟨b,off+j*7+4,none⟩=some (.int .i64 l[j].hang)∧w.cell? ⟨b,off+j*7+5,none⟩=some (.int .i64 l[j].front)∧w.cell? ⟨b,off+j*7+6,none⟩=some (.int .i64 l[j].back):=by
 obtain⟨A,c,h1,h2,h3,h4⟩:=h;refine⟨A,c,h1,h2,h3,fun k hk=>?_⟩;obtain⟨b,off,e,aI,hc⟩:=h4 (by omega);refine⟨b,off,e,aI,fun j hj=>?_⟩;have f:=fun (i:Nat) (hi:i<7) u (hu:l[j].cells[i]?=some u)=>hc (j*7+i) u ((uk ItemT.cells 7 (fun _=>rfl) l j i hj hi).trans hu);have g:=fun (i:Nat) (hi:i<7) u (hu:l[j].cells[i]?=some u)=>(congrArg (fun o=>w.cell? ⟨b,o,none⟩) (Nat.add_assoc off (j*7) i)).trans (f i hi u hu)
 exact⟨g 0 (by omega) _ rfl,g 1 (by omega) _ rfl,g 2 (by omega) _ rfl,g 3 (by omega) _ rfl,g 4 (by omega) _ rfl,g 5 (by omega) _ rfl,g 6 (by omega) _ rfl⟩
theorem BricksAt.open_ {w:World} {B:Nat} {v:Value} {l:List BrickT} (h:BricksAt w B v l) :
  ∃A c,v=.slice A l.length c∧l.length≤c∧c≤maxLen∧∀k (_:k<l.length),∃b off,A=some ⟨b,off,none⟩∧b<B∧∀j (hj:j<l.length),
   w.cell? ⟨b,off+j*3,none⟩=some (.string l[j].name)∧w.cell? ⟨b,off+j*3+1,none⟩=some (.int .i64 l[j].wt)∧w.cell? ⟨b,off+j*3+2,none⟩=some (.int .i64 l[j].cnt):=by
 obtain⟨A,c,h1,h2,h3,h4⟩:=h;refine⟨A,c,h1,h2,h3,fun k hk=>?_⟩;obtain⟨b,off,e,aI,hc⟩:=h4 (by omega);refine⟨b,off,e,aI,fun j hj=>?_⟩;have f:=fun (i:Nat) (hi:i<3) u (hu:l[j].cells[i]?=some u)=>hc (j*3+i) u ((uk BrickT.cells 3 (fun _=>rfl) l j i hj hi).trans hu);have g:=fun (i:Nat) (hi:i<3) u (hu:l[j].cells[i]?=some u)=>(congrArg (fun o=>w.cell? ⟨b,o,none⟩) (Nat.add_assoc off (j*3) i)).trans (f i hi u hu)
 exact⟨g 0 (by omega) _ rfl,g 1 (by omega) _ rfl,g 2 (by omega) _ rfl⟩
def dO (s:SetT) (Al:Option Addr) (cl:Nat) (Ai:Option Addr) (ci:Nat) (Ab:Option Addr) (cb:Nat):Value :=
 .agg (zA s Al cl Ai ci Ab cb)
def SetAt (w:World) (B:Nat) (v:Value) (s:SetT):Prop :=
 ∃Al cl Ai ci Ab cb,v=dO s Al cl Ai ci Ab cb∧ct w B (.slice Al s.lines.length cl) s.lines∧ItemsAt w B (.slice Ai s.items.length ci) s.items∧BricksAt w B (.slice Ab s.bricks.length cb) s.bricks
theorem SetAt.below {w w':World} {B B':Nat} {v:Value} {s:SetT} (h:SetAt w B v s) (hb:Below B' w w') (hB:B≤B'):SetAt w' B v s:=by
 obtain⟨Al,cl,Ai,ci,Ab,cb,h1,h2,h3,h4⟩:=h;exact⟨Al,cl,Ai,ci,Ab,cb,h1,h2.below hb hB,h3.below hb hB,h4.below hb hB⟩
theorem SetAt.mono {w:World} {B B':Nat} {v:Value} {s:SetT} (h:SetAt w B v s) (hB:B≤B'):SetAt w B' v s:=by
 obtain⟨Al,cl,Ai,ci,Ab,cb,h1,h2,h3,h4⟩:=h;exact⟨Al,cl,Ai,ci,Ab,cb,h1,h2.mono hB,h3.mono hB,h4.mono hB⟩
theorem SetAt.grow {w w':World} {v:Value} {s:SetT} (h:SetAt w w.heap.size v s) (hb:Below w.heap.size w w'):SetAt w' w'.heap.size v s:=(h.below hb (yA _)).mono hb.size
def eV (a b:ItemT):Bool:=decide (a.pos+a.width≤b.pos)||decide (b.pos+b.width≤a.pos)
theorem Zn (n lo hi:Int) (w:World):Calls Tryz.prog 127 #[.int .i64 n,.int .i64 lo,.int .i64 hi] w fun e w'=>e=.returned (.bool (Zw n lo hi))∧w=w':=by
 by_cases h1:lo≤n
 ·by_cases h2:n≤hi
  all_goals
   go_enter Tryz.func127,Tryz.ntmps127;go_wp2;go_ret;exact⟨Ze (by unfold Zw;symm;simp;omega),rfl⟩
 have Lp:decide (lo≤n)=false:=by simpa using h1
 go_enter Tryz.func127,Tryz.ntmps127;go_wp2;go_ret;exact⟨Ze (by unfold Zw;symm;simp;omega),rfl⟩
def fW (x:ItemT):Bool:=dW x.name&&(Zw x.wt 0 1048576&&(Zw x.hang 0 1048576&&(Zw x.front 0 1048576&&Zw x.back 0 1048576)))
def d9 (x:ItemT) (len:Int):Bool:=decide (0≤x.pos)&&(Zw x.width 1 1048576&&decide (x.pos≤len-x.width))
theorem Zh {n lo hi:Int} (h:Zw n lo hi=true):lo≤n∧n≤hi:=yG h
theorem SC (x y:ItemT) (w:World) (hx:0≤x.pos∧x.pos≤1048576∧1≤x.width∧x.width≤1048576) (hy:0≤y.pos∧y.pos≤1048576∧1≤y.width∧y.width≤1048576) :
  Calls Tryz.prog 184 #[x.val,y.val] w fun e w'=>e=.returned (.bool (eV x y))∧Below w.heap.size w w':=by
 have HB:Y0 (Below w.heap.size w ((w.alloc (.cells #[.string x.name,.int .i64 x.pos,.int .i64 x.width,.int .i64 x.wt,.int .i64 x.hang,.int .i64 x.front,.int .i64 x.back] 125)).alloc (.cells #[.string y.name,.int .i64 y.pos,.int .i64 y.width,.int .i64 y.wt,.int .i64 y.hang,.int .i64 y.front,.int .i64 y.back] 125))):=((yB _ _).alloc (yA _) _).alloc (by simp) _;have HV:Y0 (eV x y=(decide (x.pos+x.width≤y.pos)||decide (y.pos+y.width≤x.pos))):=rfl
 obtain⟨xn,xp,xw,x3,x4,x5,x6⟩:=x;obtain⟨yn,yp,yw,y3,y4,y5,y6⟩:=y;simp only at*;have v1:IntKind.i64.wrap (xp+xw)=xp+xw:=yF _ (by omega);have v2:IntKind.i64.wrap (yp+yw)=yp+yw:=yF _ (by omega);clear hx hy;by_cases h1:xp+xw≤yp
 ·have d1:decide (xp+xw≤yp)=true:=yD h1;go_enter Tryz.func184,Tryz.ntmps184;go_wp2_with fail;go_ret;exact⟨Ze (by rw[HV.o,d1];rfl),HB.o⟩
 have d1:decide (xp+xw≤yp)=false:=yC h1;go_enter Tryz.func184,Tryz.ntmps184;go_wp2_with fail;go_ret;exact⟨Ze (by rw[HV.o,d1];rfl),HB.o⟩
theorem LH (x:ItemT) (len:Int) (w:World) (hl:1000≤len∧len≤1048576) :
  Calls Tryz.prog 181 #[x.val,.int .i64 len] w fun e w'=>e=.returned (.bool (d9 x len))∧Below w.heap.size w w':=by
 have HB:Y0 (Below w.heap.size w (w.alloc (.cells #[.string x.name,.int .i64 x.pos,.int .i64 x.width,.int .i64 x.wt,.int .i64 x.hang,.int .i64 x.front,.int .i64 x.back] 125))):=(yB _ _).alloc (yA _) _;have HV:Y0 (d9 x len=(decide (0≤x.pos)&&(Zw x.width 1 1048576&&decide (x.pos≤len-x.width)))):=rfl;obtain⟨xn,xp,xw,x3,x4,x5,x6⟩:=x;simp only at*;have ub:=fun W=>Zn xw 1 1048576 W;by_cases h1:0≤xp
 ·have d1:decide (0≤xp)=true:=yD h1;rcases yM (Zw xw 1 1048576) with h2|h2
  ·have hw:=Zh h2;have v1:IntKind.i64.wrap (len-xw)=len-xw:=yF _ (by omega);rw[h2] at ub HV;clear hl hw h2;go_enter Tryz.func181,Tryz.ntmps181;go_wp2_with (go_at_call 127;refine (ub _).mono ?_;rintro e w' ⟨rfl,rfl⟩);go_ret;exact⟨Ze (by rw[HV.o,d1];rfl),HB.o⟩
  rw[h2] at ub HV;clear hl h2;go_enter Tryz.func181,Tryz.ntmps181;go_wp2_with (go_at_call 127;refine (ub _).mono ?_;rintro e w' ⟨rfl,rfl⟩);go_ret;exact⟨Ze (by rw[HV.o,d1];rfl),HB.o⟩
 have d1:decide (0≤xp)=false:=yC h1;clear hl ub;go_enter Tryz.func181,Tryz.ntmps181;go_wp2_with fail;go_ret;exact⟨Ze (by rw[HV.o,d1];rfl),HB.o⟩
theorem SD (x:ItemT) (w:World) (hn:x.name.size≤maxLen) :
  Calls Tryz.prog 180 #[x.val] w fun e w'=>e=.returned (.bool (fW x))∧Below w.heap.size w w':=by
 have HB:Y0 (Below w.heap.size w (w.alloc (.cells #[.string x.name,.int .i64 x.pos,.int .i64 x.width,.int .i64 x.wt,.int .i64 x.hang,.int .i64 x.front,.int .i64 x.back] 125))):=(yB _ _).alloc (yA _) _;have lR:=fun W=>oG x.name hn W;have HV:Y0 (fW x=(dW x.name&&(Zw x.wt 0 1048576&&(Zw x.hang 0 1048576&&(Zw x.front 0 1048576&&Zw x.back 0 1048576))))):=rfl;obtain⟨xn,xp,xw,x3,x4,x5,x6⟩:=x;simp only at*
 clear hn;rcases yM (dW xn) with h0|h0;rotate_left
 ·go_enter Tryz.func180,Tryz.ntmps180;go_wp2_with (first|(go_at_call 126;refine (lR _).mono ?_;rintro e w' ⟨rfl,rfl⟩;rw[h0])|(go_at_call 127;refine (Zn _ _ _ _).mono ?_;rintro e w' ⟨rfl,rfl⟩;skip));go_ret;exact⟨Ze (by rw[HV.o,h0];rfl),HB.o⟩
 rcases yM (Zw x3 0 1048576) with h1|h1;rotate_left
 ·go_enter Tryz.func180,Tryz.ntmps180;go_wp2_with (first|(go_at_call 126;refine (lR _).mono ?_;rintro e w' ⟨rfl,rfl⟩;rw[h0])|(go_at_call 127;refine (Zn _ _ _ _).mono ?_;rintro e w' ⟨rfl,rfl⟩;try rw[h1]));go_ret;exact⟨Ze (by rw[HV.o,h0,h1];rfl),HB.o⟩
 rcases yM (Zw x4 0 1048576) with h2|h2;rotate_left
 ·go_enter Tryz.func180,Tryz.ntmps180;go_wp2_with (first|(go_at_call 126;refine (lR _).mono ?_;rintro e w' ⟨rfl,rfl⟩;rw[h0])|(go_at_call 127;refine (Zn _ _ _ _).mono ?_;rintro e w' ⟨rfl,rfl⟩;try rw[h1];try rw[h2]));go_ret;exact⟨Ze (by rw[HV.o,h0,h1,h2];rfl),HB.o⟩
 rcases yM (Zw x5 0 1048576) with h3|h3;rotate_left
 ·go_enter Tryz.func180,Tryz.ntmps180;go_wp2_with (first|(go_at_call 126;refine (lR _).mono ?_;rintro e w' ⟨rfl,rfl⟩;rw[h0])|(go_at_call 127;refine (Zn _ _ _ _).mono ?_;rintro e w' ⟨rfl,rfl⟩;try rw[h1];try rw[h2];try rw[h3]));go_ret;exact⟨Ze (by rw[HV.o,h0,h1,h2,h3];rfl),HB.o⟩
 rcases yM (Zw x6 0 1048576) with h4|h4;rotate_left
 ·go_enter Tryz.func180,Tryz.ntmps180;go_wp2_with (first|(go_at_call 126;refine (lR _).mono ?_;rintro e w' ⟨rfl,rfl⟩;rw[h0])|(go_at_call 127;refine (Zn _ _ _ _).mono ?_;rintro e w' ⟨rfl,rfl⟩;try rw[h1];try rw[h2];try rw[h3];try rw[h4]));go_ret;exact⟨Ze (by rw[HV.o,h0,h1,h2,h3,h4];rfl),HB.o⟩
 go_enter Tryz.func180,Tryz.ntmps180;go_wp2_with (first|(go_at_call 126;refine (lR _).mono ?_;rintro e w' ⟨rfl,rfl⟩;rw[h0])|(go_at_call 127;refine (Zn _ _ _ _).mono ?_;rintro e w' ⟨rfl,rfl⟩;try rw[h1];try rw[h2];try rw[h3];try rw[h4]));go_ret;exact⟨Ze (by rw[HV.o,h0,h1,h2,h3,h4];rfl),HB.o⟩
theorem RY:∀args w,(callFunc 179 args).run Tryz.prog w=.ok (.enter 179 args) w:=enters_of Tryz.func179 (by kernel_rfl) rfl
theorem DW (x:ItemT) (w:World):Calls Tryz.prog 179 #[x.val] w fun e w'=>e=.returned (.string x.name)∧w'=w.alloc (.cells #[.string x.name,.int .i64 x.pos,.int .i64 x.width,.int .i64 x.wt,.int .i64 x.hang,.int .i64 x.front,.int .i64 x.back] 125):=by
 obtain⟨xn,xp,xw,x3,x4,x5,x6⟩:=x;simp only at*;go_enter Tryz.func179,Tryz.ntmps179;go_wp2_with fail;go_ret;exact⟨rfl,rfl⟩
theorem Sb:∀args w,(callFunc 186 args).run Tryz.prog w=.ok (.enter 186 args) w:=enters_of Tryz.func186 (by kernel_rfl) rfl
theorem AH (x:BrickT) (w:World):Calls Tryz.prog 186 #[x.val] w fun e w'=>e=.returned (.string x.name)∧w'=w.alloc (.cells #[.string x.name,.int .i64 x.wt,.int .i64 x.cnt] 127):=by
 obtain⟨xn,x1,x2⟩:=x;simp only at*;go_enter Tryz.func186,Tryz.ntmps186;go_wp2_with fail;go_ret;exact⟨rfl,rfl⟩
open Go.RowKit Go.Shelf Go.WideMaps Go.Maps
def rk (L:List ByteArray):Nat→Nat
 | 0=>0
 | j+1=>if L.getD j default∈L.take j then rk L j else rk L j+1
theorem Ax (L:List ByteArray):∀j,rk L j ≤ j
 | 0=>yA _
 | j+1=>by
  have:=Ax L j;unfold rk;split <;> omega
def iN (L:List ByteArray):Bool:=decide (rk L L.length<L.length)
def NameMap (w:World) (b:Nat) (L:List ByteArray) (j:Nat):Prop :=
 ∃D,w.ownsMap Tryz.prog 9 (unitElem (H:=Unit)) b j D∧(∀s,Maps.has D (rZ s)=decide (s∈L.take j))∧Maps.size D=rk L j
theorem NameMap.step {L:List ByteArray} {j:Nat} {D:DataW Unit} (h1:∀s,Maps.has D (rZ s)=decide (s∈L.take j)) (h2:Maps.size D=rk L j) (hj:j<L.length) (hm:IsMap D) (ht:Tidy D) :
  (∀s,Maps.has (D.put (rZ L[j]) (.agg [])) (rZ s)=decide (s∈L.take (j+1)))∧Maps.size (D.put (rZ L[j]) (.agg []))=rk L (j+1):=by
 constructor
 ·intro s;rw[bF L j hj];by_cases e:s=L[j]
  ·subst e;rw[Maps.has_put_same hm (vG _)];exact (yD (List.mem_append_right _ (List.mem_singleton.2 rfl))).symm
  rw[Maps.has_put_other (fun e'=>e (vH e')),h1];exact decide_eq_decide.2 ⟨fun h=>List.mem_append_left _ h,fun h=>(List.mem_append.1 h).resolve_right fun h=>e (List.mem_singleton.1 h)⟩
 have hg:L.getD j default=L[j]:=by rw[yO,yN hj];rfl
 rw[Maps.size_put ht,h1,h2,rk,hg];by_cases e:L[j]∈L.take j
 ·rw[yD e,if_pos rfl,if_pos e]
 rw[yC e,if_neg (by simp),if_neg e]
theorem AG (v:Value) (l:List ItemT) (w:World) (hl:ItemsAt w w.heap.size v l) (hn:∀x∈l,x.name.size≤maxLen) (_h40:l.length≤100) :
  Calls Tryz.prog 178 #[v,.func (.func 179) #[] #[]] w fun e w'=>e=.returned (.bool (iN (l.map ItemT.name)))∧Below w.heap.size w w':=by
 obtain⟨A,c,rfl,kG,eH,aL⟩:=hl.open_;unfold maxLen at eH;have HC:=zh aL;have HN:=zh hn;clear hl aL hn;have hmm:=@run_makeMap Tryz.prog;have eg:=RY;go_enter Tryz.func178,Tryz.ntmps178;go_wp2_with fail;have HM0:Y0 (NameMap (w.alloc (.map #[] 0)) w.heap.size (l.map ItemT.name) 0):=⟨_,World.ownsMap_made w _ _ _,fun s=>by simp[Maps.has],rfl⟩;have Hbm:Below w.heap.size w (w.alloc (.map #[] 0)):=(yB _ _).alloc (yA _) _
 generalize w.alloc (.map #[] 0)=w2 at*;go_loopw [11] (fun ix wr=>∃k:Nat,k≤l.length∧ix=.int .i64 k∧Y0 (NameMap wr w.heap.size (l.map ItemT.name) k)∧Below w.heap.size w wr) (fun ix _=>l.length-(intOf ix).toNat)
 case atStart=>exact⟨0,yI _,rfl,HM0,Hbm⟩
 clear HM0 Hbm;obtain⟨k,hk,rfl,HM,aG⟩:=hrel;by_cases aK:k<l.length
 ·obtain⟨b1,cQ,rfl,ak,hc⟩:=HC.o k aK;have y0:=(aG.cell (p:=⟨b1,cQ+k*7,none⟩) ak).trans (hc k aK).1;have y1:=(aG.cell (p:=⟨b1,cQ+k*7+1,none⟩) ak).trans (hc k aK).2.1;have y2:=(aG.cell (p:=⟨b1,cQ+k*7+2,none⟩) ak).trans (hc k aK).2.2.1;have y3:=(aG.cell (p:=⟨b1,cQ+k*7+3,none⟩) ak).trans (hc k aK).2.2.2.1;have y4:=(aG.cell (p:=⟨b1,cQ+k*7+4,none⟩) ak).trans (hc k aK).2.2.2.2.1;have y5:=(aG.cell (p:=⟨b1,cQ+k*7+5,none⟩) ak).trans (hc k aK).2.2.2.2.2.1
  have y6:=(aG.cell (p:=⟨b1,cQ+k*7+6,none⟩) ak).trans (hc k aK).2.2.2.2.2.2;obtain⟨D,bO,lF,ye⟩:=HM.o;have hkm:k<(l.map ItemT.name).length:=by rw[yQ];exact aK
  have qjx:=Jo (HN.o _ (yV aK));have my:=NameMap.step lF ye hkm bO.isMap (bO.tidy zZ);rw[List.getElem_map] at my;have aW:=zh my;have HNm:=zh (fun W=>DW l[k] W);have lS:Below w.heap.size w (wr.alloc (.cells #[.string l[k].name,.int .i64 l[k].pos,.int .i64 l[k].width,.int .i64 l[k].wt,.int .i64 l[k].hang,.int .i64 l[k].front,.int .i64 l[k].back] 125)):=aG.alloc aG.size _;have Rq:=lS.alloc lS.size (.cells #[.string l[k].name,.int .i64 l[k].pos,.int .i64 l[k].width,.int .i64 l[k].wt,.int .i64 l[k].hang,.int .i64 l[k].front,.int .i64 l[k].back] 125)
  have bK:=(bO.alloc (.cells #[.string l[k].name,.int .i64 l[k].pos,.int .i64 l[k].width,.int .i64 l[k].wt,.int .i64 l[k].hang,.int .i64 l[k].front,.int .i64 l[k].back] 125)).alloc (.cells #[.string l[k].name,.int .i64 l[k].pos,.int .i64 l[k].width,.int .i64 l[k].wt,.int .i64 l[k].hang,.int .i64 l[k].front,.int .i64 l[k].back] 125);have i1:(0:Int)≤(k:Int):=yE _;have i2:(k:Int)<(l.length:Int):=by omega
  clear hc lF ye my bO HM;go_wp2_with (first|(go_at_fn 179;refine (HNm.o _).mono ?_;rintro e w' ⟨rfl,rfl⟩)|(at_mapUpdate;refine wpList_mapUpdate_own _ rfl _ _ _ 264 rfl 9 265 zZ Tryz.underlying264 _ w.heap.size k _ rfl bK (by unfold maxLen;omega) _ _ _ rfl rfl qjx (.agg []) [] unitElem_mk ?_;intro w5 CS vJ;have bf:=Rq.grown vJ Rq.size (fun k hk=>by cases hk;exact yA _);have JZ:Y0 (NameMap w5 w.heap.size (l.map ItemT.name) (k+1)):=⟨_,CS,aW.o.1,aW.o.2⟩;clear CS vJ bK))
  go_roundw
  case rel=>exact⟨k+1,by omega,by go_num,JZ,bf⟩
  simp[intOf];omega
 obtain rfl:k=l.length:=by omega
 obtain⟨D,bO,lF,ye⟩:=HM.o;have HV:Y0 (iN (l.map ItemT.name)=decide (rk (l.map ItemT.name) l.length<l.length)):=by unfold Y0 iN;rw[List.length_map]
 rw[←ye] at HV;clear lF ye;go_wp2_with (at_len;refine wpList_len_own _ rfl _ 264 rfl 9 265 Tryz.underlying264 _ w.heap.size l.length D rfl bO ?_);go_ret;exact⟨Ze HV.o.symm,aG⟩
theorem xv (v:Value) (l:List BrickT) (w:World) (hl:BricksAt w w.heap.size v l) (hn:∀x∈l,x.name.size≤maxLen) (_h40:l.length≤100) :
  Calls Tryz.prog 185 #[v,.func (.func 186) #[] #[]] w fun e w'=>e=.returned (.bool (iN (l.map BrickT.name)))∧Below w.heap.size w w':=by
 obtain⟨A,c,rfl,kG,eH,aL⟩:=hl.open_;unfold maxLen at eH;have HC:=zh aL;have HN:=zh hn;clear hl aL hn;have hmm:=@run_makeMap Tryz.prog;have eg:=Sb;go_enter Tryz.func185,Tryz.ntmps185;go_wp2_with fail;have HM0:Y0 (NameMap (w.alloc (.map #[] 0)) w.heap.size (l.map BrickT.name) 0):=⟨_,World.ownsMap_made w _ _ _,fun s=>by simp[Maps.has],rfl⟩;have Hbm:Below w.heap.size w (w.alloc (.map #[] 0)):=(yB _ _).alloc (yA _) _
 generalize w.alloc (.map #[] 0)=w2 at*;go_loopw [11] (fun ix wr=>∃k:Nat,k≤l.length∧ix=.int .i64 k∧Y0 (NameMap wr w.heap.size (l.map BrickT.name) k)∧Below w.heap.size w wr) (fun ix _=>l.length-(intOf ix).toNat)
 case atStart=>exact⟨0,yI _,rfl,HM0,Hbm⟩
 clear HM0 Hbm;obtain⟨k,hk,rfl,HM,aG⟩:=hrel;by_cases aK:k<l.length
 ·obtain⟨b1,cQ,rfl,ak,hc⟩:=HC.o k aK;have y0:=(aG.cell (p:=⟨b1,cQ+k*3,none⟩) ak).trans (hc k aK).1;have y1:=(aG.cell (p:=⟨b1,cQ+k*3+1,none⟩) ak).trans (hc k aK).2.1;have y2:=(aG.cell (p:=⟨b1,cQ+k*3+2,none⟩) ak).trans (hc k aK).2.2;obtain⟨D,bO,lF,ye⟩:=HM.o;have hkm:k<(l.map BrickT.name).length:=by rw[yQ];exact aK
  have qjx:=Jo (HN.o _ (yV aK));have my:=NameMap.step lF ye hkm bO.isMap (bO.tidy zZ);rw[List.getElem_map] at my;have aW:=zh my;have HNm:=zh (fun W=>AH l[k] W);have lS:Below w.heap.size w (wr.alloc (.cells #[.string l[k].name,.int .i64 l[k].wt,.int .i64 l[k].cnt] 127)):=aG.alloc aG.size _;have Rq:=lS.alloc lS.size (.cells #[.string l[k].name,.int .i64 l[k].wt,.int .i64 l[k].cnt] 127);have bK:=(bO.alloc (.cells #[.string l[k].name,.int .i64 l[k].wt,.int .i64 l[k].cnt] 127)).alloc (.cells #[.string l[k].name,.int .i64 l[k].wt,.int .i64 l[k].cnt] 127)
  have i1:(0:Int)≤(k:Int):=yE _;have i2:(k:Int)<(l.length:Int):=by omega
  clear hc lF ye my bO HM;go_wp2_with (first|(go_at_fn 186;refine (HNm.o _).mono ?_;rintro e w' ⟨rfl,rfl⟩)|(at_mapUpdate;refine wpList_mapUpdate_own _ rfl _ _ _ 264 rfl 9 265 zZ Tryz.underlying264 _ w.heap.size k _ rfl bK (by unfold maxLen;omega) _ _ _ rfl rfl qjx (.agg []) [] unitElem_mk ?_;intro w5 CS vJ;have bf:=Rq.grown vJ Rq.size (fun k hk=>by cases hk;exact yA _);have JZ:Y0 (NameMap w5 w.heap.size (l.map BrickT.name) (k+1)):=⟨_,CS,aW.o.1,aW.o.2⟩;clear CS vJ bK))
  go_roundw
  case rel=>exact⟨k+1,by omega,by go_num,JZ,bf⟩
  simp[intOf];omega
 obtain rfl:k=l.length:=by omega
 obtain⟨D,bO,lF,ye⟩:=HM.o;have HV:Y0 (iN (l.map BrickT.name)=decide (rk (l.map BrickT.name) l.length<l.length)):=by unfold Y0 iN;rw[List.length_map]
 rw[←ye] at HV;clear lF ye;go_wp2_with (at_len;refine wpList_len_own _ rfl _ 264 rfl 9 265 Tryz.underlying264 _ w.heap.size l.length D rfl bO ?_);go_ret;exact⟨Ze HV.o.symm,aG⟩
open Go.RowKit Go.Shelf
def js (l:List Int) (i:Nat):Int:=l.getD i 0
def iK (l:List Int) (k:Nat):Bool:=decide (∀i,i<k→1≤i→js l (i-1)<js l i)
def fH (l:List Int) (len:Int):Bool:=Zw (l.length:Int) 2 10&&(!decide (js l 0<0)&&(!decide (len<js l (l.length-1))&&iK l l.length))
theorem KX (l:List Int):iK l 1=true:=by unfold iK;rw[decide_eq_true_iff];intro i h1 h2;omega
theorem GK {l:List Int} {k:Nat} (h:iK l k=true) (h1:js l (k-1)<js l k):iK l (k+1)=true:=by
 unfold iK at*;rw[yP] at*;intro i hi h2;rcases Nat.lt_succ_iff_lt_or_eq.1 hi with h3|rfl
 ·exact h i h3 h2
 exact h1
theorem QN {l:List Int} {k n:Nat} (hk:k<n) (h0:1≤k) (h1:¬js l (k-1)<js l k):iK l n=false:=by
 unfold iK;rw[YD];exact fun h=>h1 (h k hk h0)
theorem SA (v:Value) (l:List Int) (len:Int) (B:Nat) (w:World) (hl:ct w B v l) :
  Calls Tryz.prog 128 #[v,.int .i64 len] w fun e w'=>e=.returned (.bool (fH l len))∧∃n,w.drewN n=w':=by
 obtain⟨A,c,rfl,kG,eH,aL⟩:=hl.open_;unfold maxLen at eH;have ub:=fun W=>Zn (l.length:Int) 2 10 W;rcases yM (Zw (l.length:Int) 2 10) with h0|h0;rotate_left
 ·have HV:Y0 (fH l len=false):=by unfold Y0 fH;rw[h0];rfl
  rw[h0] at ub;clear hl aL h0;go_enter Tryz.func128,Tryz.ntmps128;go_wp2_with (go_at_call 127;refine (ub _).mono ?_;rintro e w' ⟨rfl,rfl⟩);go_ret;exact⟨Ze HV.o.symm,0,rfl⟩
 obtain⟨n2,n10⟩:=Zh h0;obtain⟨b,off,rfl,-,hx⟩:=aL 0 (by omega);have HX:Y0 (∀j,j<l.length→w.cell? ⟨b,off+j,none⟩=some (.int .i64 (js l j))):=fun j hj=>by
  have h:=hx j hj;unfold js;rw[yO,yN hj];exact h
 have hV0:fH l len=(!decide (js l 0<0)&&(!decide (len<js l (l.length-1))&&iK l l.length)):=by unfold fH;rw[h0];rfl
 rw[h0] at ub;clear hl aL hx h0;have z0:=HX.o 0 (by omega);have z1:=HX.o (l.length-1) (by omega);rw[Nat.add_zero] at z0;have v1:IntKind.i64.wrap ((l.length:Int)-1)=(l.length:Int)-1:=yF _ (by omega);have i1:((l.length:Int)-1).toNat=l.length-1:=by omega
 have i2:(0:Int)≤(l.length:Int)-1:=by omega
 have i3:(l.length:Int)-1<(l.length:Int):=by omega
 have i4:(0:Int)<(l.length:Int):=by omega
 by_cases c1:js l 0<0
 ·have d1:decide (js l 0<0)=true:=yD c1;have HV:Y0 (fH l len=false):=by unfold Y0;rw[hV0,d1];rfl
  clear hV0;go_enter Tryz.func128,Tryz.ntmps128;go_wp2_with (go_at_call 127;refine (ub _).mono ?_;rintro e w' ⟨rfl,rfl⟩);go_ret;exact⟨Ze HV.o.symm,0,rfl⟩
 have d1:decide (js l 0<0)=false:=yC c1;by_cases c2:len<js l (l.length-1)
 ·have d2:decide (len<js l (l.length-1))=true:=yD c2;have HV:Y0 (fH l len=false):=by unfold Y0;rw[hV0,d1,d2];rfl
  clear hV0;go_enter Tryz.func128,Tryz.ntmps128;go_wp2_with (go_at_call 127;refine (ub _).mono ?_;rintro e w' ⟨rfl,rfl⟩);go_ret;exact⟨Ze HV.o.symm,0,rfl⟩
 have d2:decide (len<js l (l.length-1))=false:=yC c2;have HV:Y0 (fH l len=iK l l.length):=by unfold Y0;rw[hV0,d1,d2];rfl
 clear hV0;go_enter Tryz.func128,Tryz.ntmps128;go_wp2_with (go_at_call 127;refine (ub _).mono ?_;rintro e w' ⟨rfl,rfl⟩);clear z0 z1 v1 i1 i2 i3 d1 d2 c1 c2 ub;go_loopw [5] (fun x wr=>∃k:Nat,1≤k∧k≤l.length∧x=.int .i64 k∧Y0 (iK l k=true)∧∃n,wr=w.drewN n) (fun x _=>l.length-(intOf x).toNat)
 case atStart=>exact⟨1,yA _,by omega,rfl,KX l,0,rfl⟩
 obtain⟨k,UE,hk,rfl,HI,n,rfl⟩:=hrel;by_cases aI:k<l.length
 ·have z0:=HX.o k aI;have z1:=HX.o (k-1) (by omega);have v1:IntKind.i64.wrap ((k:Int)-1)=(k:Int)-1:=yF _ (by omega);have i1:((k:Int)-1).toNat=k-1:=by omega
  have i2:(0:Int)≤(k:Int)-1:=by omega
  have i3:(k:Int)-1<(l.length:Int):=by omega
  have i5:(0:Int)≤(k:Int):=by omega
  have i6:(k:Int)<(l.length:Int):=by omega
  by_cases c1:js l k≤js l (k-1)
  ·have d1:decide (js l k≤js l (k-1))=true:=yD c1;have cH:Y0 (fH l len=false):=by unfold Y0;rw[HV.o];exact QN aI UE (by omega)
   go_wp2;go_quiet (fail);go_wp2;go_ret;exact⟨Ze cH.o.symm,q2⟩
  have d1:decide (js l k≤js l (k-1))=false:=yC c1;have oX:=zh (GK HI.o (by omega));go_wp2;go_quiet (fail);go_wp2;go_roundw
  case rel=>exact⟨k+1,by omega,by omega,by go_num,oX,_,rfl⟩
  simp[intOf];omega
 have GU:k=l.length:=by omega
 subst GU;go_wp2;go_ret;exact⟨Ze (by rw[HV.o];exact HI.o.symm),n,rfl⟩
theorem Dx:∀args w,(callFunc 183 args).run Tryz.prog w=.ok (.enter 183 args) w:=enters_of Tryz.func183 (by kernel_rfl) rfl
def zg (x:ItemT):Prop:=0≤x.pos∧x.pos≤1048576∧1≤x.width∧x.width≤1048576
theorem ze (x y:ItemT) (D:Nat) (w:World) (hD:Blk w D 125 #[.string x.name,.int .i64 x.pos,.int .i64 x.width,.int .i64 x.wt,.int .i64 x.hang,.int .i64 x.front,.int .i64 x.back]) (hx:zg x) (hy:zg y) :
  Calls Tryz.prog 183 #[y.val,.pointer (some ⟨D,0,none⟩)] w fun e w'=>e=.returned (.bool (!eV x y))∧Below w.heap.size w w':=by
 have HA:=zh fun W=>SC x y W hx hy;have HB:Y0 (Below w.heap.size w (w.alloc (.cells #[.string y.name,.int .i64 y.pos,.int .i64 y.width,.int .i64 y.wt,.int .i64 y.hang,.int .i64 y.front,.int .i64 y.back] 125))):=(yB _ _).alloc (yA _) _;have HY:=zh (Blk.new w 125 #[.string y.name,.int .i64 y.pos,.int .i64 y.width,.int .i64 y.wt,.int .i64 y.hang,.int .i64 y.front,.int .i64 y.back]);have HX:=zh (hD.below HB.o hD.lt)
 clear hD hx hy;go_enter Tryz.func183,Tryz.ntmps183;have x0:=HX.o.cell 0;have x1:=HX.o.cell 1;have x2:=HX.o.cell 2;have x3:=HX.o.cell 3;have x4:=HX.o.cell 4;have x5:=HX.o.cell 5;have x6:=HX.o.cell 6;have y0:=HY.o.cell 0;have y1:=HY.o.cell 1;have y2:=HY.o.cell 2;have y3:=HY.o.cell 3;have y4:=HY.o.cell 4;have y5:=HY.o.cell 5;have y6:=HY.o.cell 6;simp only[aB,aD,aA] at x0 x1 x2 x3 x4 x5 x6 y0 y1 y2 y3 y4 y5 y6
 go_wp2_with (go_at_call 184;refine (HA.o _).mono ?_;rintro e w' ⟨rfl,pd⟩);go_ret;exact⟨rfl,HB.o.trans (pd.mono HB.o.size)⟩
theorem xg (v:Value) (l:List ItemT) (K:Nat) (C:Array Value) (p:ItemT→Bool) (eg:∀args w,(callFunc K args).run Tryz.prog w=.ok (.enter K args) w) (w:World) (hl:ItemsAt w w.heap.size v l)
  (hf:∀t∈l,∀w',Below w.heap.size w w'→Calls Tryz.prog K (#[t.val]++C) w' fun e kS=>e=.returned (.bool (p t))∧Below w'.heap.size w' kS) :
  Calls Tryz.prog 233 #[v,.func (.func K) #[] C] w fun e w'=>e=.returned (.int .i64 (oZ (l.findIdx? p)))∧Below w.heap.size w w':=by
 obtain⟨A,c,rfl,kG,eH,aL⟩:=hl.open_;unfold maxLen at eH;have HF:=zh hf;clear hf;go_enter Tryz.func233,Tryz.ntmps233;go_wp2;go_loopw [8] (fun x wr=>∃j:Nat,j≤l.length∧x=.int .i64 j∧(l.take j).findIdx? p=none∧Below w.heap.size w wr) (fun x _=>l.length-(intOf x).toNat)
 case atStart=>exact⟨0,yI _,rfl,by simp,yB _ _⟩
 obtain⟨j,hj,rfl,lR,aG⟩:=hrel;have LR:=zh lR;clear lR;by_cases aI:j<l.length
 ·obtain⟨b,off,rfl,hb,aL⟩:=aL j aI;have h0:=(aG.cell (p:=⟨b,off+j*7,none⟩) hb).trans (aL j aI).1;have h1:=(aG.cell (p:=⟨b,off+j*7+1,none⟩) hb).trans (aL j aI).2.1;have h2:=(aG.cell (p:=⟨b,off+j*7+2,none⟩) hb).trans (aL j aI).2.2.1;have h3:=(aG.cell (p:=⟨b,off+j*7+3,none⟩) hb).trans (aL j aI).2.2.2.1;have h4:=(aG.cell (p:=⟨b,off+j*7+4,none⟩) hb).trans (aL j aI).2.2.2.2.1;have h5:=(aG.cell (p:=⟨b,off+j*7+5,none⟩) hb).trans (aL j aI).2.2.2.2.2.1
  have h6:=(aG.cell (p:=⟨b,off+j*7+6,none⟩) hb).trans (aL j aI).2.2.2.2.2.2;clear aL;have qU:=HF.o l[j] (yV aI);cases hq:p l[j]
  case true=>
   rw[hq] at qU;go_wp2_with (go_at_fn K;refine (qU _ aG).mono ?_;rintro e w' ⟨rfl,pd⟩);go_ret;exact⟨by rw[Dr LR.o aI hq];rfl,aG.trans (pd.mono aG.size)⟩
  rw[hq] at qU;go_wp2_with (go_at_fn K;refine (qU _ aG).mono ?_;rintro e w' ⟨rfl,pd⟩);go_roundw
  case rel=>exact⟨j+1,by omega,by go_num,yk LR.o aI hq,aG.trans (pd.mono aG.size)⟩
  simp[intOf];omega
 have GU:j=l.length:=by omega
 subst GU;go_wp2;go_ret;exact⟨by rw[←yT (l:=l),LR.o];rfl,aG⟩
theorem lK (v:Value) (l:List ItemT) (K:Nat) (C:Array Value) (p:ItemT→Bool) (eg:∀args w,(callFunc K args).run Tryz.prog w=.ok (.enter K args) w) (w:World) (hl:ItemsAt w w.heap.size v l)
  (hf:∀t∈l,∀w',Below w.heap.size w w'→Calls Tryz.prog K (#[t.val]++C) w' fun e kS=>e=.returned (.bool (p t))∧Below w'.heap.size w' kS) :
  Calls Tryz.prog 182 #[v,.func (.func K) #[] C] w fun e w'=>e=.returned (.bool (l.any p))∧Below w.heap.size w w':=by
 have hc:=xg v l K C p eg w hl hf;have jL:=QO p l;have HA:=zh (Jr p l);generalize oZ (l.findIdx? p)=x at*;clear hf hl;go_enter Tryz.func182,Tryz.ntmps182;go_wp2_with (go_at_call 233;refine hc.mono ?_;rintro e w' ⟨rfl,pd⟩);go_ret;exact⟨Ze HA.o,pd⟩
def fM (x:BrickT):Bool:=dW x.name&&(Zw x.wt 1 1048576&&Zw x.cnt 0 60)
def gP (l:List BrickT) (k:Nat):Int:=((l.take k).map BrickT.cnt).sum
def dL (l:List BrickT):Bool:=decide (l.length≤8)&&(!iN (l.map BrickT.name)&&(l.all fM&&decide (gP l l.length≤60)))
theorem qi (l:List BrickT) (k:Nat) (hk:k<l.length):gP l (k+1)=gP l k+l[k].cnt:=by
 unfold gP;rw[bF l k hk,List.map_append,List.sum_append];simp
theorem Ea {α:Type} {p:α→Bool} {l:List α} {k:Nat} (hk:k<l.length) (h:(l.take k).all p=true) (h1:p l[k]=true):(l.take (k+1)).all p=true:=by
 rw[bF l k hk,List.all_append,h];simp[h1]
theorem qzi {α:Type} {p:α→Bool} {l:List α} {k:Nat} (hk:k<l.length) (h1:p l[k]=false):l.all p=false:=by
 rw[List.all_eq_false];exact⟨l[k],yV hk,by simp[h1]⟩
theorem Sn {l:List BrickT} {k:Nat} (h:(l.take k).all fM=true) (hk:k≤l.length):0≤gP l k∧gP l k≤60*k:=by
 induction k with
 | zero=>simp[gP]
 | succ k ih=>
  rw[bF l k (by omega),List.all_append,Bool.and_eq_true] at h;have h1:=ih h.1 (by omega);have h2:=h.2;simp only[List.all_cons,List.all_nil,Bool.and_true] at h2;unfold fM at h2;simp only[Bool.and_eq_true] at h2;have h3:=Zh h2.2.2;rw[qi l k (by omega)];omega
theorem LI (v:Value) (l:List BrickT) (w:World) (hl:BricksAt w w.heap.size v l) (hn:∀x∈l,x.name.size≤maxLen) :
  Calls Tryz.prog 130 #[v] w fun e w'=>e=.returned (.bool (dL l))∧Below w.heap.size w w':=by
 have hT:=fun h=>xv v l w hl hn h;have HN:=zh hn;obtain⟨A,c,rfl,kG,eH,aL⟩:=hl.open_;unfold maxLen at eH;have HC:=zh aL;clear hl aL hn;by_cases h8:l.length≤8;rotate_left
 ·have HV:Y0 (dL l=false):=by unfold Y0 dL;rw[decide_eq_false h8];rfl
  have d8:decide (8<(l.length:Int))=true:=yD (by omega);clear hT;go_enter Tryz.func130,Tryz.ntmps130;go_wp2_with fail;go_ret;exact⟨Ze HV.o.symm,yB _ _⟩
 have d8:decide (8<(l.length:Int))=false:=yC (by omega);have hT:=hT (by omega);rcases yM (iN (l.map BrickT.name)) with ht|ht
 ·have HV:Y0 (dL l=false):=by unfold Y0 dL;rw[ht,Bool.not_true,Bool.false_and,Bool.and_false]
  rw[ht] at hT;clear ht;go_enter Tryz.func130,Tryz.ntmps130;go_wp2_with (go_at_call 185;refine hT.mono ?_;rintro e w' ⟨rfl,pd⟩);go_ret;exact⟨Ze HV.o.symm,pd⟩
 have HV:Y0 (dL l=(l.all fM&&decide (gP l l.length≤60))):=by unfold Y0 dL;rw[ht,decide_eq_true h8];rfl
 rw[ht] at hT;clear ht;go_enter Tryz.func130,Tryz.ntmps130;go_wp2_with (go_at_call 185;refine hT.mono ?_;rintro e w2 ⟨rfl,bg⟩);clear hT d8;go_loopw [15,3] (fun x s wr=>∃k:Nat,k≤l.length∧x=.int .i64 k∧s=.int .i64 (gP l k)∧Y0 ((l.take k).all fM=true)∧Below w.heap.size w wr) (fun x _ _=>l.length-(intOf x).toNat)
 case atStart=>exact⟨0,yI _,rfl,rfl,rfl,bg⟩
 clear bg;obtain⟨k,hk,rfl,rfl,HA,aG⟩:=hrel;by_cases aK:k<l.length
 ·obtain⟨b1,cQ,rfl,ak,hc⟩:=HC.o k aK;have y0:=(aG.cell (p:=⟨b1,cQ+k*3,none⟩) ak).trans (hc k aK).1;have y1:=(aG.cell (p:=⟨b1,cQ+k*3+1,none⟩) ak).trans (hc k aK).2.1;have y2:=(aG.cell (p:=⟨b1,cQ+k*3+2,none⟩) ak).trans (hc k aK).2.2;have hnk:=HN.o _ (yV aK);have lR:=fun W=>oG l[k].name hnk W;have jL:=Sn HA.o hk;have Bb:Y0 (fM l[k]=(dW l[k].name&&(Zw l[k].wt 1 1048576&&Zw l[k].cnt 0 60))):=rfl;have iM:=zh (fun h:fM l[k]=false=>qzi (p:=fM) aK h)
  have VG:=zh (fun h:fM l[k]=true=>Ea (p:=fM) aK HA.o h);have HCn:=zh (qi l k aK);have lS:Below w.heap.size w (wr.alloc (.cells #[.string l[k].name,.int .i64 l[k].wt,.int .i64 l[k].cnt] 127)):=aG.alloc aG.size _;have i1:(0:Int)≤(k:Int):=yE _;have i2:(k:Int)<(l.length:Int):=by omega
  clear hc hnk;rcases yM (dW l[k].name) with h0|h0;rotate_left
  ·have cH:Y0 (dL l=false):=by
    unfold Y0;rw[HV.o,iM.o (by rw[Bb.o,h0];rfl)];rfl
   go_wp2_with (first|(go_at_call 126;refine (lR _).mono ?_;rintro e w' ⟨rfl,rfl⟩;rw[h0])|(go_at_call 127;refine (Zn _ _ _ _).mono ?_;rintro e w' ⟨rfl,rfl⟩;skip));go_ret;exact⟨Ze cH.o.symm,lS⟩
  rcases yM (Zw l[k].wt 1 1048576) with h1|h1;rotate_left
  ·have cH:Y0 (dL l=false):=by
    unfold Y0;rw[HV.o,iM.o (by rw[Bb.o,h0,h1];rfl)];rfl
   go_wp2_with (first|(go_at_call 126;refine (lR _).mono ?_;rintro e w' ⟨rfl,rfl⟩;rw[h0])|(go_at_call 127;refine (Zn _ _ _ _).mono ?_;rintro e w' ⟨rfl,rfl⟩;try rw[h1]));go_ret;exact⟨Ze cH.o.symm,lS⟩
  rcases yM (Zw l[k].cnt 0 60) with h2|h2;rotate_left
  ·have cH:Y0 (dL l=false):=by
    unfold Y0;rw[HV.o,iM.o (by rw[Bb.o,h0,h1,h2];rfl)];rfl
   go_wp2_with (first|(go_at_call 126;refine (lR _).mono ?_;rintro e w' ⟨rfl,rfl⟩;rw[h0])|(go_at_call 127;refine (Zn _ _ _ _).mono ?_;rintro e w' ⟨rfl,rfl⟩;try rw[h1];try rw[h2]));go_ret;exact⟨Ze cH.o.symm,lS⟩
  have HA2:=zh (VG.o (by rw[Bb.o,h0,h1,h2];rfl));have hcb:=Zh h2;have v1:IntKind.i64.wrap (gP l k+l[k].cnt)=gP l k+l[k].cnt:=yF _ (by omega);clear VG iM;go_wp2_with (first|(go_at_call 126;refine (lR _).mono ?_;rintro e w' ⟨rfl,rfl⟩;rw[h0])|(go_at_call 127;refine (Zn _ _ _ _).mono ?_;rintro e w' ⟨rfl,rfl⟩;try rw[h1];try rw[h2]));go_roundw
  case rel=>exact⟨k+1,by omega,by go_num,by rw[HCn.o],HA2,lS⟩
  simp[intOf];omega
 obtain rfl:k=l.length:=by omega
 have cH:Y0 (dL l=decide (gP l l.length≤60)):=by
  have:=HA.o;rw[yT] at this;unfold Y0;rw[HV.o,this];rfl
 go_wp2;go_ret;exact⟨Ze cH.o.symm,aG⟩
theorem ItemsAt.take {w:World} {B:Nat} {A:Option Addr} {c:Nat} {l:List ItemT} (h:ItemsAt w B (.slice A l.length c) l) {k:Nat} (hk:k≤l.length):ItemsAt w B (.slice A k c) (l.take k):=by
 obtain⟨A',c',e,h1,h2,h3⟩:=h;injection e with e1 _ e2;subst e1 e2;have dD:(l.take k).length=k:=by rw[YA];omega
 refine⟨A,c,by rw[dD],by rw[dD];omega,h2,fun h0=>?_⟩;rw[dD] at h0;obtain⟨b,off,e,hb,hc⟩:=h3 (by omega);refine⟨b,off,e,hb,fun j u hu=>hc j u ?_⟩;have e:l.flatMap ItemT.cells=(l.take k).flatMap ItemT.cells++(l.drop k).flatMap ItemT.cells:=by rw[←List.flatMap_append,List.take_append_drop]
 rw[e,List.getElem?_append_left (List.getElem?_eq_some_iff.1 hu).1];exact hu
def pT (l:List ItemT) (len:Int) (k:Nat):Bool :=
 match l[k]? with
 | some x=>fW x&&(d9 x len && !((l.take k).any fun y=>!eV x y))
 | none=>true
def sh (l:List ItemT) (len:Int) (k:Nat):Bool:=decide (∀i,i<k→pT l len i=true)
def eR (l:List ItemT) (len:Int):Bool:=decide (l.length≤40)&&(!iN (l.map ItemT.name)&&sh l len l.length)
theorem lz {l:List ItemT} {len:Int} {k:Nat} (hk:k<l.length):pT l len k=(fW l[k]&&(d9 l[k] len && !((l.take k).any fun y=>!eV l[k] y))):=by
 unfold pT;rw[yN hk]
theorem U5 {l:List ItemT} {len:Int} {k:Nat} (hk:k<l.length) (h:pT l len k=false):sh l len l.length=false:=by
 unfold sh;rw[YD];intro hh;rw[hh k hk] at h;cases h
theorem KU {l:List ItemT} {len:Int} {k:Nat} (h:sh l len k=true) (h1:pT l len k=true):sh l len (k+1)=true:=by
 unfold sh at*;rw[yP] at*;intro i hi;rcases Nat.lt_succ_iff_lt_or_eq.1 hi with h2|rfl
 ·exact h i h2
 exact h1
theorem pU {x:ItemT} {len:Int} (h:d9 x len=true) (hl:len≤1048576):zg x:=by
 unfold d9 at h;simp only[Bool.and_eq_true,decide_eq_true_eq] at h
 have:=Zh h.2.1;exact⟨h.1,by omega,this.1,this.2⟩
theorem QK {l:List ItemT} {len:Int} {k:Nat} (h:sh l len k=true) (hk:k≤l.length) (hl:len≤1048576):∀y∈l.take k,zg y:=by
 intro y hy;obtain⟨i,hi,rfl⟩:=List.getElem_of_mem hy;rw[YA] at hi;have ta:i<l.length:=by omega
 unfold sh at h;rw[yP] at h;have h1:=h i (by omega);rw[lz ta,Bool.and_eq_true,Bool.and_eq_true] at h1;rw[List.getElem_take];exact pU h1.2.1 hl
theorem SB (v:Value) (l:List ItemT) (len:Int) (w:World) (hl:ItemsAt w w.heap.size v l) (hn:∀x∈l,x.name.size≤maxLen) (dD:1000≤len∧len≤1048576) :
  Calls Tryz.prog 129 #[v,.int .i64 len] w fun e w'=>e=.returned (.bool (eR l len))∧Below w.heap.size w w':=by
 have hT:=fun h=>AG v l w hl hn h;have HN:=zh hn;obtain⟨A,c,rfl,kG,eH,aL⟩:=hl.open_;have HL:=zh hl;unfold maxLen at eH;have HC:=zh aL;have sN:=zh dD;clear hl aL hn dD;by_cases h8:l.length≤40;rotate_left
 ·have HV:Y0 (eR l len=false):=by unfold Y0 eR;rw[decide_eq_false h8];rfl
  have d8:decide (40<(l.length:Int))=true:=yD (by omega);clear hT;go_enter Tryz.func129,Tryz.ntmps129;go_wp2_with fail;go_ret;exact⟨Ze HV.o.symm,yB _ _⟩
 have d8:decide (40<(l.length:Int))=false:=yC (by omega);have hT:=hT (by omega);rcases yM (iN (l.map ItemT.name)) with ht|ht
 ·have HV:Y0 (eR l len=false):=by unfold Y0 eR;rw[ht,Bool.not_true,Bool.false_and,Bool.and_false]
  rw[ht] at hT;clear ht;go_enter Tryz.func129,Tryz.ntmps129;go_wp2_with (go_at_call 178;refine hT.mono ?_;rintro e w' ⟨rfl,pd⟩);go_ret;exact⟨Ze HV.o.symm,pd⟩
 have HV:Y0 (eR l len=sh l len l.length):=by unfold Y0 eR;rw[ht,decide_eq_true h8];rfl
 rw[ht] at hT;clear ht;go_enter Tryz.func129,Tryz.ntmps129;go_wp2_with (go_at_call 178;refine hT.mono ?_;rintro e w2 ⟨rfl,bg⟩);clear hT d8;go_loopw [16] (fun x wr=>∃k:Nat,k≤l.length∧x=.int .i64 k∧Y0 (sh l len k=true)∧Below w.heap.size w wr) (fun x _=>l.length-(intOf x).toNat)
 case atStart=>exact⟨0,yI _,rfl,by unfold Y0 sh;simp,bg⟩
 clear bg;obtain⟨k,hk,rfl,HA,aG⟩:=hrel;by_cases aK:k<l.length
 ·obtain⟨b1,cQ,rfl,ak,hc⟩:=HC.o k aK;have y0:=(aG.cell (p:=⟨b1,cQ+k*7,none⟩) ak).trans (hc k aK).1;have y1:=(aG.cell (p:=⟨b1,cQ+k*7+1,none⟩) ak).trans (hc k aK).2.1;have y2:=(aG.cell (p:=⟨b1,cQ+k*7+2,none⟩) ak).trans (hc k aK).2.2.1;have y3:=(aG.cell (p:=⟨b1,cQ+k*7+3,none⟩) ak).trans (hc k aK).2.2.2.1;have y4:=(aG.cell (p:=⟨b1,cQ+k*7+4,none⟩) ak).trans (hc k aK).2.2.2.2.1;have y5:=(aG.cell (p:=⟨b1,cQ+k*7+5,none⟩) ak).trans (hc k aK).2.2.2.2.2.1
  have y6:=(aG.cell (p:=⟨b1,cQ+k*7+6,none⟩) ak).trans (hc k aK).2.2.2.2.2.2;have Mu:=fun W=>SD l[k] W (HN.o _ (yV aK));have Jy:=fun W=>LH l[k] len W sN.o;have HG:=zh (lz (len:=len) aK);have iM:=zh (fun h:pT l len k=false=>U5 aK h);have VG:=zh (fun h:pT l len k=true=>KU HA.o h);have lS:Below w.heap.size w (wr.alloc (.cells #[.string l[k].name,.int .i64 l[k].pos,.int .i64 l[k].width,.int .i64 l[k].wt,.int .i64 l[k].hang,.int .i64 l[k].front,.int .i64 l[k].back] 125)):=aG.alloc aG.size _
  have HD:=zh (Blk.new wr 125 #[.string l[k].name,.int .i64 l[k].pos,.int .i64 l[k].width,.int .i64 l[k].wt,.int .i64 l[k].hang,.int .i64 l[k].front,.int .i64 l[k].back]);have i1:(0:Int)≤(k:Int):=yE _;have i2:(k:Int)<(l.length:Int):=by omega
  have i3:(k:Int)≤(c:Int):=by omega
  clear hc;generalize hW:wr.alloc (.cells #[.string l[k].name,.int .i64 l[k].pos,.int .i64 l[k].width,.int .i64 l[k].wt,.int .i64 l[k].hang,.int .i64 l[k].front,.int .i64 l[k].back] 125)=W3 at*;rcases yM (fW l[k]) with h0|h0;rotate_left
  ·have cH:Y0 (eR l len=false):=by
    unfold Y0;rw[HV.o,iM.o (by rw[HG.o,h0];rfl)]
   rw[h0] at Mu;subst hW;go_wp2_with (go_at_call 180;refine (Mu _).mono ?_;rintro e w' ⟨rfl,pd⟩);go_ret;exact⟨Ze cH.o.symm,lS.trans (pd.mono lS.size)⟩
  rw[h0] at Mu;rcases yM (d9 l[k] len) with h1|h1;rotate_left
  ·have cH:Y0 (eR l len=false):=by
    unfold Y0;rw[HV.o,iM.o (by rw[HG.o,h0,h1];rfl)]
   rw[h1] at Jy;clear h0 h1;subst hW;go_wp2_with (first|(go_at_call 180;refine (Mu _).mono ?_;rintro e w4 ⟨rfl,bP⟩;have Da:=lS.trans (bP.mono lS.size);have ow:=zh (HD.o.below bP HD.o.lt);have z0:=ow.o.cell 0;have z1:=ow.o.cell 1;have z2:=ow.o.cell 2;have z3:=ow.o.cell 3;have z4:=ow.o.cell 4;have z5:=ow.o.cell 5;have z6:=ow.o.cell 6;simp only[aB,aD,aA] at z0 z1 z2 z3 z4 z5 z6)|(go_at_call 181;refine (Jy _).mono ?_;rintro e w5 ⟨rfl,bf⟩;have vN:=Da.trans (bf.mono Da.size)))
   go_ret;exact⟨Ze cH.o.symm,vN⟩
  rw[h1] at Jy;have HPx:=zh (pU h1 sN.o.2);have HPy:=zh (QK HA.o hk sN.o.2);rcases yM ((l.take k).any fun y=>!eV l[k] y) with h2|h2
  ·have cH:Y0 (eR l len=false):=by
    unfold Y0;rw[HV.o,iM.o (by rw[HG.o,h0,h1,h2];rfl)]
   have qkt:=zh h2;clear h0 h1 h2;subst hW;go_wp2_with (first|(go_at_call 180;refine (Mu _).mono ?_;rintro e w4 ⟨rfl,bP⟩;have Da:=lS.trans (bP.mono lS.size);have ow:=zh (HD.o.below bP HD.o.lt);have z0:=ow.o.cell 0;have z1:=ow.o.cell 1;have z2:=ow.o.cell 2;have z3:=ow.o.cell 3;have z4:=ow.o.cell 4;have z5:=ow.o.cell 5;have z6:=ow.o.cell 6;simp only[aB,aD,aA] at z0 z1 z2 z3 z4 z5 z6)|(go_at_call 181;refine (Jy _).mono ?_;rintro e w5 ⟨rfl,bf⟩;have vN:=Da.trans (bf.mono Da.size);have qq:=zh (ow.o.below bf ow.o.lt);have hct:=lK (.slice (some ⟨b1,cQ,none⟩) k c) (l.take k) 183 #[.pointer (some ⟨wr.heap.size,0,none⟩)] (fun y=>!eV l[k] y) Dx w5 (((HL.o.take hk).below vN (yA _)).mono vN.size) (fun t ht w' pd=>ze l[k] t _ w' (qq.o.below pd qq.o.lt) HPx.o (HPy.o t ht));rw[qkt.o] at hct)|(go_at_call 182;refine hct.mono ?_;rintro e w6 ⟨rfl,fk⟩;have qjB:=vN.trans (fk.mono vN.size)))
   go_ret;exact⟨Ze cH.o.symm,qjB⟩
  have HA2:=zh (VG.o (by rw[HG.o,h0,h1,h2];rfl));have qkt:=zh h2;clear h0 h1 h2;subst hW;go_wp2_with (first|(go_at_call 180;refine (Mu _).mono ?_;rintro e w4 ⟨rfl,bP⟩;have Da:=lS.trans (bP.mono lS.size);have ow:=zh (HD.o.below bP HD.o.lt);have z0:=ow.o.cell 0;have z1:=ow.o.cell 1;have z2:=ow.o.cell 2;have z3:=ow.o.cell 3;have z4:=ow.o.cell 4;have z5:=ow.o.cell 5;have z6:=ow.o.cell 6;simp only[aB,aD,aA] at z0 z1 z2 z3 z4 z5 z6)|(go_at_call 181;refine (Jy _).mono ?_;rintro e w5 ⟨rfl,bf⟩;have vN:=Da.trans (bf.mono Da.size);have qq:=zh (ow.o.below bf ow.o.lt);have hct:=lK (.slice (some ⟨b1,cQ,none⟩) k c) (l.take k) 183 #[.pointer (some ⟨wr.heap.size,0,none⟩)] (fun y=>!eV l[k] y) Dx w5 (((HL.o.take hk).below vN (yA _)).mono vN.size) (fun t ht w' pd=>ze l[k] t _ w' (qq.o.below pd qq.o.lt) HPx.o (HPy.o t ht));rw[qkt.o] at hct)|(go_at_call 182;refine hct.mono ?_;rintro e w6 ⟨rfl,fk⟩;have qjB:=vN.trans (fk.mono vN.size)))
  go_roundw
  case rel=>exact⟨k+1,by omega,by go_num,HA2,qjB⟩
  simp[intOf];omega
 obtain rfl:k=l.length:=by omega
 go_wp2;go_ret;exact⟨Ze (by rw[HV.o];exact HA.o.symm),aG⟩
