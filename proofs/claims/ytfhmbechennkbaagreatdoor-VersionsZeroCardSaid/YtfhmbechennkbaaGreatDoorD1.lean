/- Lemmas. -/
import Derived.Test.YtfhmbechennkbaaGreatDoorG1
namespace Go.Proofs.YtfhmbechennkbaaGreatDoor
set_option maxRecDepth 100000
set_option maxHeartbeats 40000000
open Go.RowKit Go.Shelf
structure ItemT where
 name:ByteArray
 pos:Int
 width:Int
 wt:Int
 hang:Int
 front:Int
 back:Int
deriving DecidableEq
structure BrickT where
 name:ByteArray
 wt:Int
 cnt:Int
deriving DecidableEq
structure SetT where
 name:ByteArray
 depth:Int
 low:Int
 high:Int
 len:Int
 lines:List Int
 pipe:Int
 arbor:Int
 purch:Int
 most:Int
 brake:Int
 items:List ItemT
 bricks:List BrickT
deriving DecidableEq
abbrev zA (x:SetT) (a:Option Addr) (b:Nat) (c:Option Addr) (d:Nat) (e:Option Addr) (f:Nat):Array Value:=#[.string x.name,.int .i64 x.depth,.int .i64 x.low,.int .i64 x.high,.int .i64 x.len,.slice a x.lines.length b,.int .i64 x.pipe,.int .i64 x.arbor,.int .i64 x.purch,.int .i64 x.most,.int .i64 x.brake,.slice c x.items.length d,.slice e x.bricks.length f]
abbrev zB (x:SetT) (a:Option Addr) (b:Nat) (c:Option Addr) (d:Nat) (e:Option Addr) (f:Nat):List Value:=[.string x.name,.int .i64 x.depth,.int .i64 x.low,.int .i64 x.high,.int .i64 x.len,.slice a x.lines.length b,.int .i64 x.pipe,.int .i64 x.arbor,.int .i64 x.purch,.int .i64 x.most,.int .i64 x.brake,.slice c x.items.length d,.slice e x.bricks.length f]
def ItemT.cells (x:ItemT):List Value:=[.string x.name,.int .i64 x.pos,.int .i64 x.width,.int .i64 x.wt,.int .i64 x.hang,.int .i64 x.front,.int .i64 x.back]
abbrev ItemT.val (x:ItemT):Value:=.agg #[.string x.name,.int .i64 x.pos,.int .i64 x.width,.int .i64 x.wt,.int .i64 x.hang,.int .i64 x.front,.int .i64 x.back]
def BrickT.cells (x:BrickT):List Value:=[.string x.name,.int .i64 x.wt,.int .i64 x.cnt]
abbrev BrickT.val (x:BrickT):Value:=.agg #[.string x.name,.int .i64 x.wt,.int .i64 x.cnt]
theorem fC {α:Type} (f:α→List Value) (k:Nat) (hf:∀ x,(f x).length=k) (l:List α) (j i:Nat) (hj:j<l.length) (hi:i<k):(l.flatMap f)[j*k+i]? = (f l[j])[i]?:=by
 induction l generalizing j with
 | nil=>simp at hj
 | cons t l ih=>
  rw[List.flatMap_cons]
  cases j with
  | zero=>rw[List.getElem?_append_left (by rw[hf];omega)];simp
  | succ j=>
   rw[List.getElem?_append_right (by rw[hf,Nat.succ_mul];omega),hf]
   have:=ih j (by simpa using hj)
   rw[show (j+1)*k+i-k=j*k+i by rw[Nat.succ_mul];omega,this]
   rfl
def ItemsAt (w:World) (B:Nat) (v:Value) (l:List ItemT):Prop:=Flat w B v l.length (l.flatMap ItemT.cells)
def BricksAt (w:World) (B:Nat) (v:Value) (l:List BrickT):Prop:=Flat w B v l.length (l.flatMap BrickT.cells)
theorem ItemsAt.below {w w':World} {B B':Nat} {v:Value} {l:List ItemT} (h:ItemsAt w B v l) (hb:Below B' w w') (hB:B≤B'):ItemsAt w' B v l:=Flat.below h hb hB
theorem ItemsAt.mono {w:World} {B B':Nat} {v:Value} {l:List ItemT} (h:ItemsAt w B v l) (hB:B≤B'):ItemsAt w B' v l:=Flat.mono h hB
theorem BricksAt.below {w w':World} {B B':Nat} {v:Value} {l:List BrickT} (h:BricksAt w B v l) (hb:Below B' w w') (hB:B≤B'):BricksAt w' B v l:=Flat.below h hb hB
theorem BricksAt.mono {w:World} {B B':Nat} {v:Value} {l:List BrickT} (h:BricksAt w B v l) (hB:B≤B'):BricksAt w B' v l:=Flat.mono h hB
theorem ItemsAt.open_ {w:World} {B:Nat} {v:Value} {l:List ItemT} (h:ItemsAt w B v l) :
  ∃ A c,v = .slice A l.length c∧l.length≤c∧c≤maxLen∧∀ k (_:k<l.length),∃ b off,A=some ⟨b,off,none⟩∧b<B∧∀ j (hj:j<l.length),
   w.cell? ⟨b,off+j*7,none⟩=some (.string l[j].name)∧w.cell? ⟨b,off+j*7+1,none⟩=some (.int .i64 l[j].pos)∧w.cell? ⟨b,off+j*7+2,none⟩=some (.int .i64 l[j].width)∧w.cell? ⟨b,off+j*7+3,none⟩=some (.int .i64 l[j].wt)∧w.cell? ⟨b,off+j*7+4,none⟩=some (.int .i64 l[j].hang)∧w.cell? ⟨b,off+j*7+5,none⟩=some (.int .i64 l[j].front)∧w.cell? ⟨b,off+j*7+6,none⟩=some (.int .i64 l[j].back):=by
 obtain⟨A,c,h1,h2,h3,h4⟩:=h
 refine⟨A,c,h1,h2,h3,fun k hk=>?_⟩
 obtain⟨b,off,e,aw,hc⟩:=h4 (by omega)
 refine⟨b,off,e,aw,fun j hj=>?_⟩
 have f:=fun (i:Nat) (hi:i<7) u (hu:l[j].cells[i]? = some u)=>hc (j*7+i) u ((fC ItemT.cells 7 (fun _=>rfl) l j i hj hi).trans hu)
 have g:=fun (i:Nat) (hi:i<7) u (hu:l[j].cells[i]? = some u)=>(congrArg (fun o=>w.cell? ⟨b,o,none⟩) (Nat.add_assoc off (j*7) i)).trans (f i hi u hu)
 exact⟨g 0 (by omega) _ rfl,g 1 (by omega) _ rfl,g 2 (by omega) _ rfl,g 3 (by omega) _ rfl,g 4 (by omega) _ rfl,g 5 (by omega) _ rfl,g 6 (by omega) _ rfl⟩
theorem BricksAt.open_ {w:World} {B:Nat} {v:Value} {l:List BrickT} (h:BricksAt w B v l) :
  ∃ A c,v = .slice A l.length c∧l.length≤c∧c≤maxLen∧∀ k (_:k<l.length),∃ b off,A=some ⟨b,off,none⟩∧b<B∧∀ j (hj:j<l.length),
   w.cell? ⟨b,off+j*3,none⟩=some (.string l[j].name)∧w.cell? ⟨b,off+j*3+1,none⟩=some (.int .i64 l[j].wt)∧w.cell? ⟨b,off+j*3+2,none⟩=some (.int .i64 l[j].cnt):=by
 obtain⟨A,c,h1,h2,h3,h4⟩:=h
 refine⟨A,c,h1,h2,h3,fun k hk=>?_⟩
 obtain⟨b,off,e,aw,hc⟩:=h4 (by omega)
 refine⟨b,off,e,aw,fun j hj=>?_⟩
 have f:=fun (i:Nat) (hi:i<3) u (hu:l[j].cells[i]? = some u)=>hc (j*3+i) u ((fC BrickT.cells 3 (fun _=>rfl) l j i hj hi).trans hu)
 have g:=fun (i:Nat) (hi:i<3) u (hu:l[j].cells[i]? = some u)=>(congrArg (fun o=>w.cell? ⟨b,o,none⟩) (Nat.add_assoc off (j*3) i)).trans (f i hi u hu)
 exact⟨g 0 (by omega) _ rfl,g 1 (by omega) _ rfl,g 2 (by omega) _ rfl⟩
def aL (s:SetT) (Al:Option Addr) (cl:Nat) (Ai:Option Addr) (ci:Nat) (Ab:Option Addr) (cb:Nat):Value :=
 .agg (zA s Al cl Ai ci Ab cb)
def SetAt (w:World) (B:Nat) (v:Value) (s:SetT):Prop :=
 ∃ Al cl Ai ci Ab cb,v=aL s Al cl Ai ci Ab cb∧bO w B (.slice Al s.lines.length cl) s.lines∧ItemsAt w B (.slice Ai s.items.length ci) s.items∧BricksAt w B (.slice Ab s.bricks.length cb) s.bricks
theorem SetAt.below {w w':World} {B B':Nat} {v:Value} {s:SetT} (h:SetAt w B v s) (hb:Below B' w w') (hB:B≤B'):SetAt w' B v s:=by
 obtain⟨Al,cl,Ai,ci,Ab,cb,h1,h2,h3,h4⟩:=h
 exact⟨Al,cl,Ai,ci,Ab,cb,h1,h2.below hb hB,h3.below hb hB,h4.below hb hB⟩
theorem SetAt.mono {w:World} {B B':Nat} {v:Value} {s:SetT} (h:SetAt w B v s) (hB:B≤B'):SetAt w B' v s:=by
 obtain⟨Al,cl,Ai,ci,Ab,cb,h1,h2,h3,h4⟩:=h
 exact⟨Al,cl,Ai,ci,Ab,cb,h1,h2.mono hB,h3.mono hB,h4.mono hB⟩
theorem SetAt.grow {w w':World} {v:Value} {s:SetT} (h:SetAt w w.heap.size v s) (hb:Below w.heap.size w w'):SetAt w' w'.heap.size v s:=(h.below hb (yA _)).mono hb.size
def eY (a b:ItemT):Bool:=decide (a.pos+a.width≤b.pos)||decide (b.pos+b.width≤a.pos)
theorem Zn (n lo hi:Int) (w:World):Calls Tryz.prog 108 #[.int .i64 n,.int .i64 lo,.int .i64 hi] w fun e w'=>e = .returned (.bool (Zw n lo hi))∧w=w':=by
 by_cases h1:lo≤n
 ·by_cases h2:n≤hi
  all_goals
   go_enter Tryz.func108,Tryz.ntmps108
   go_wp2
   go_ret
   exact⟨Ze (by unfold Zw;symm;simp;omega),rfl⟩
 have PP:decide (lo≤n)=false:=by simpa using h1
 go_enter Tryz.func108,Tryz.ntmps108
 go_wp2
 go_ret
 exact⟨Ze (by unfold Zw;symm;simp;omega),rfl⟩
def eZ (x:ItemT):Bool:=da x.name&&(Zw x.wt 0 1048576&&(Zw x.hang 0 1048576&&(Zw x.front 0 1048576&&Zw x.back 0 1048576)))
def dy (x:ItemT) (len:Int):Bool:=decide (0≤x.pos)&&(Zw x.width 1 1048576&&decide (x.pos≤len-x.width))
theorem Zh {n lo hi:Int} (h:Zw n lo hi=true):lo≤n∧n≤hi:=yG h
theorem XQ (x y:ItemT) (w:World) (hx:0≤x.pos∧x.pos≤1048576∧1≤x.width∧x.width≤1048576) (hy:0≤y.pos∧y.pos≤1048576∧1≤y.width∧y.width≤1048576) :
  Calls Tryz.prog 150 #[x.val,y.val] w fun e w'=>e = .returned (.bool (eY x y))∧Below w.heap.size w w':=by
 have HB:Y0 (Below w.heap.size w ((w.alloc (.cells #[.string x.name,.int .i64 x.pos,.int .i64 x.width,.int .i64 x.wt,.int .i64 x.hang,.int .i64 x.front,.int .i64 x.back] 118)).alloc (.cells #[.string y.name,.int .i64 y.pos,.int .i64 y.width,.int .i64 y.wt,.int .i64 y.hang,.int .i64 y.front,.int .i64 y.back] 118))):=((yB _ _).alloc (yA _) _).alloc (by simp) _
 have HV:Y0 (eY x y=(decide (x.pos+x.width≤y.pos)||decide (y.pos+y.width≤x.pos))):=rfl
 obtain⟨xn,xp,xw,x3,x4,x5,x6⟩:=x
 obtain⟨yn,yp,yw,y3,y4,y5,y6⟩:=y
 simp only at *
 have v1:IntKind.i64.wrap (xp+xw)=xp+xw:=yF _ (by omega)
 have v2:IntKind.i64.wrap (yp+yw)=yp+yw:=yF _ (by omega)
 clear hx hy
 by_cases h1:xp+xw≤yp
 ·have d1:decide (xp+xw≤yp)=true:=yD h1
  go_enter Tryz.func150,Tryz.ntmps150
  go_wp2_with fail
  go_ret
  exact⟨Ze (by rw[HV.o,d1];rfl),HB.o⟩
 have d1:decide (xp+xw≤yp)=false:=yC h1
 go_enter Tryz.func150,Tryz.ntmps150
 go_wp2_with fail
 go_ret
 exact⟨Ze (by rw[HV.o,d1];rfl),HB.o⟩
theorem Qo (x:ItemT) (len:Int) (w:World) (hl:1000≤len∧len≤1048576) :
  Calls Tryz.prog 147 #[x.val,.int .i64 len] w fun e w'=>e = .returned (.bool (dy x len))∧Below w.heap.size w w':=by
 have HB:Y0 (Below w.heap.size w (w.alloc (.cells #[.string x.name,.int .i64 x.pos,.int .i64 x.width,.int .i64 x.wt,.int .i64 x.hang,.int .i64 x.front,.int .i64 x.back] 118))):=(yB _ _).alloc (yA _) _
 have HV:Y0 (dy x len=(decide (0≤x.pos)&&(Zw x.width 1 1048576&&decide (x.pos≤len-x.width)))):=rfl
 obtain⟨xn,xp,xw,x3,x4,x5,x6⟩:=x
 simp only at *
 have vA:=fun W=>Zn xw 1 1048576 W
 by_cases h1:0≤xp
 ·have d1:decide (0≤xp)=true:=yD h1
  rcases yL (Zw xw 1 1048576) with h2 | h2
  ·have hw:=Zh h2
   have v1:IntKind.i64.wrap (len-xw)=len-xw:=yF _ (by omega)
   rw[h2] at vA HV
   clear hl hw h2
   go_enter Tryz.func147,Tryz.ntmps147
   go_wp2_with (go_at_call 108;refine (vA _).mono ?_;rintro e w' ⟨rfl,rfl⟩)
   go_ret
   exact⟨Ze (by rw[HV.o,d1];rfl),HB.o⟩
  rw[h2] at vA HV
  clear hl h2
  go_enter Tryz.func147,Tryz.ntmps147
  go_wp2_with (go_at_call 108;refine (vA _).mono ?_;rintro e w' ⟨rfl,rfl⟩)
  go_ret
  exact⟨Ze (by rw[HV.o,d1];rfl),HB.o⟩
 have d1:decide (0≤xp)=false:=yC h1
 clear hl vA
 go_enter Tryz.func147,Tryz.ntmps147
 go_wp2_with fail
 go_ret
 exact⟨Ze (by rw[HV.o,d1];rfl),HB.o⟩
theorem XR (x:ItemT) (w:World) (hn:x.name.size≤maxLen) :
  Calls Tryz.prog 146 #[x.val] w fun e w'=>e = .returned (.bool (eZ x))∧Below w.heap.size w w':=by
 have HB:Y0 (Below w.heap.size w (w.alloc (.cells #[.string x.name,.int .i64 x.pos,.int .i64 x.width,.int .i64 x.wt,.int .i64 x.hang,.int .i64 x.front,.int .i64 x.back] 118))):=(yB _ _).alloc (yA _) _
 have gg:=fun W=>pO x.name hn W
 have HV:Y0 (eZ x=(da x.name&&(Zw x.wt 0 1048576&&(Zw x.hang 0 1048576&&(Zw x.front 0 1048576&&Zw x.back 0 1048576))))):=rfl
 obtain⟨xn,xp,xw,x3,x4,x5,x6⟩:=x
 simp only at *
 clear hn
 rcases yL (da xn) with h0 | h0
 rotate_left
 ·go_enter Tryz.func146,Tryz.ntmps146
  go_wp2_with (first | (go_at_call 107;refine (gg _).mono ?_;rintro e w' ⟨rfl,rfl⟩;rw[h0]) | (go_at_call 108;refine (Zn _ _ _ _).mono ?_;rintro e w' ⟨rfl,rfl⟩;skip))
  go_ret
  exact⟨Ze (by rw[HV.o,h0];rfl),HB.o⟩
 rcases yL (Zw x3 0 1048576) with h1 | h1
 rotate_left
 ·go_enter Tryz.func146,Tryz.ntmps146
  go_wp2_with (first | (go_at_call 107;refine (gg _).mono ?_;rintro e w' ⟨rfl,rfl⟩;rw[h0]) | (go_at_call 108;refine (Zn _ _ _ _).mono ?_;rintro e w' ⟨rfl,rfl⟩;try rw[h1]))
  go_ret
  exact⟨Ze (by rw[HV.o,h0,h1];rfl),HB.o⟩
 rcases yL (Zw x4 0 1048576) with h2 | h2
 rotate_left
 ·go_enter Tryz.func146,Tryz.ntmps146
  go_wp2_with (first | (go_at_call 107;refine (gg _).mono ?_;rintro e w' ⟨rfl,rfl⟩;rw[h0]) | (go_at_call 108;refine (Zn _ _ _ _).mono ?_;rintro e w' ⟨rfl,rfl⟩;try rw[h1];try rw[h2]))
  go_ret
  exact⟨Ze (by rw[HV.o,h0,h1,h2];rfl),HB.o⟩
 rcases yL (Zw x5 0 1048576) with h3 | h3
 rotate_left
 ·go_enter Tryz.func146,Tryz.ntmps146
  go_wp2_with (first | (go_at_call 107;refine (gg _).mono ?_;rintro e w' ⟨rfl,rfl⟩;rw[h0]) | (go_at_call 108;refine (Zn _ _ _ _).mono ?_;rintro e w' ⟨rfl,rfl⟩;try rw[h1];try rw[h2];try rw[h3]))
  go_ret
  exact⟨Ze (by rw[HV.o,h0,h1,h2,h3];rfl),HB.o⟩
 rcases yL (Zw x6 0 1048576) with h4 | h4
 rotate_left
 ·go_enter Tryz.func146,Tryz.ntmps146
  go_wp2_with (first | (go_at_call 107;refine (gg _).mono ?_;rintro e w' ⟨rfl,rfl⟩;rw[h0]) | (go_at_call 108;refine (Zn _ _ _ _).mono ?_;rintro e w' ⟨rfl,rfl⟩;try rw[h1];try rw[h2];try rw[h3];try rw[h4]))
  go_ret
  exact⟨Ze (by rw[HV.o,h0,h1,h2,h3,h4];rfl),HB.o⟩
 go_enter Tryz.func146,Tryz.ntmps146
 go_wp2_with (first | (go_at_call 107;refine (gg _).mono ?_;rintro e w' ⟨rfl,rfl⟩;rw[h0]) | (go_at_call 108;refine (Zn _ _ _ _).mono ?_;rintro e w' ⟨rfl,rfl⟩;try rw[h1];try rw[h2];try rw[h3];try rw[h4]))
 go_ret
 exact⟨Ze (by rw[HV.o,h0,h1,h2,h3,h4];rfl),HB.o⟩
theorem Xq:∀ args w,(callFunc 145 args).run Tryz.prog w = .ok (.enter 145 args) w:=enters_of Tryz.func145 (by kernel_rfl) rfl
theorem JD (x:ItemT) (w:World):Calls Tryz.prog 145 #[x.val] w fun e w'=>e = .returned (.string x.name)∧w'=w.alloc (.cells #[.string x.name,.int .i64 x.pos,.int .i64 x.width,.int .i64 x.wt,.int .i64 x.hang,.int .i64 x.front,.int .i64 x.back] 118):=by
 obtain⟨xn,xp,xw,x3,x4,x5,x6⟩:=x
 simp only at *
 go_enter Tryz.func145,Tryz.ntmps145
 go_wp2_with fail
 go_ret
 exact⟨rfl,rfl⟩
theorem Xt:∀ args w,(callFunc 152 args).run Tryz.prog w = .ok (.enter 152 args) w:=enters_of Tryz.func152 (by kernel_rfl) rfl
theorem Fj (x:BrickT) (w:World):Calls Tryz.prog 152 #[x.val] w fun e w'=>e = .returned (.string x.name)∧w'=w.alloc (.cells #[.string x.name,.int .i64 x.wt,.int .i64 x.cnt] 87):=by
 obtain⟨xn,x1,x2⟩:=x
 simp only at *
 go_enter Tryz.func152,Tryz.ntmps152
 go_wp2_with fail
 go_ret
 exact⟨rfl,rfl⟩
open Go.RowKit Go.Shelf Go.WideMaps Go.Maps
def s7 (L:List ByteArray):Nat→Nat
 | 0=>0
 | j+1=>if L.getD j default∈L.take j then s7 L j else s7 L j+1
theorem Fc (L:List ByteArray):∀ j,s7 L j ≤ j
 | 0=>yA _
 | j+1=>by
  have:=Fc L j
  unfold s7
  split <;> omega
def ji (L:List ByteArray):Bool:=decide (s7 L L.length<L.length)
def NameMap (w:World) (b:Nat) (L:List ByteArray) (j:Nat):Prop :=
 ∃ D,w.ownsMap Tryz.prog 9 (unitElem (H:=Unit)) b j D∧(∀ s,Maps.has D (lk s)=decide (s∈L.take j))∧Maps.size D=s7 L j
theorem NameMap.step {L:List ByteArray} {j:Nat} {D:DataW Unit} (h1:∀ s,Maps.has D (lk s)=decide (s∈L.take j)) (h2:Maps.size D=s7 L j) (hj:j<L.length) (hm:IsMap D) (ht:Tidy D) :
  (∀ s,Maps.has (D.put (lk L[j]) (.agg [])) (lk s)=decide (s∈L.take (j+1)))∧Maps.size (D.put (lk L[j]) (.agg []))=s7 L (j+1):=by
 constructor
 ·intro s
  rw[aC L j hj]
  by_cases e:s=L[j]
  ·subst e
   rw[Maps.has_put_same hm (oD _)]
   exact (yD (List.mem_append_right _ (List.mem_singleton.2 rfl))).symm
  rw[Maps.has_put_other (fun e'=>e (oF e')),h1]
  exact decide_eq_decide.2 ⟨fun h=>List.mem_append_left _ h,fun h=>(List.mem_append.1 h).resolve_right fun h=>e (List.mem_singleton.1 h)⟩
 have hg:L.getD j default=L[j]:=by rw[yN,yM hj];rfl
 rw[Maps.size_put ht,h1,h2,s7,hg]
 by_cases e:L[j]∈L.take j
 ·rw[yD e,if_pos rfl,if_pos e]
 rw[yC e,if_neg (by simp),if_neg e]
theorem Fi (v:Value) (l:List ItemT) (w:World) (hl:ItemsAt w w.heap.size v l) (hn:∀ x∈l,x.name.size≤maxLen) (_h40:l.length≤100) :
  Calls Tryz.prog 144 #[v,.func (.func 145) #[] #[]] w fun e w'=>e = .returned (.bool (ji (l.map ItemT.name)))∧Below w.heap.size w w':=by
 obtain⟨A,c,rfl,gC,dr,ah⟩:=hl.open_
 unfold maxLen at dr
 have HC:=zh ah
 have HN:=zh hn
 clear hl ah hn
 have QF:=@run_makeMap Tryz.prog
 have eg:=Xq
 go_enter Tryz.func144,Tryz.ntmps144
 go_wp2_with fail
 have Yt:Y0 (NameMap (w.alloc (.map #[] 0)) w.heap.size (l.map ItemT.name) 0):=⟨_,World.ownsMap_made w _ _ _,fun s=>by simp[Maps.has],rfl⟩
 have Hbm:Below w.heap.size w (w.alloc (.map #[] 0)):=(yB _ _).alloc (yA _) _
 generalize w.alloc (.map #[] 0)=w2 at *
 go_loopw [11] (fun ix wr=>∃ k:Nat,k≤l.length∧ix = .int .i64 k∧Y0 (NameMap wr w.heap.size (l.map ItemT.name) k)∧Below w.heap.size w wr) (fun ix _=>l.length-(intOf ix).toNat)
 case atStart=>exact⟨0,yI _,rfl,Yt,Hbm⟩
 clear Yt Hbm
 obtain⟨k,hk,rfl,HM,av⟩:=hrel
 by_cases aB:k<l.length
 ·obtain⟨b1,ct,rfl,ao,hc⟩:=HC.o k aB
  have y0:=(av.cell (p:=⟨b1,ct+k*7,none⟩) ao).trans (hc k aB).1
  have y1:=(av.cell (p:=⟨b1,ct+k*7+1,none⟩) ao).trans (hc k aB).2.1
  have y2:=(av.cell (p:=⟨b1,ct+k*7+2,none⟩) ao).trans (hc k aB).2.2.1
  have y3:=(av.cell (p:=⟨b1,ct+k*7+3,none⟩) ao).trans (hc k aB).2.2.2.1
  have y4:=(av.cell (p:=⟨b1,ct+k*7+4,none⟩) ao).trans (hc k aB).2.2.2.2.1
  have y5:=(av.cell (p:=⟨b1,ct+k*7+5,none⟩) ao).trans (hc k aB).2.2.2.2.2.1
  have y6:=(av.cell (p:=⟨b1,ct+k*7+6,none⟩) ao).trans (hc k aB).2.2.2.2.2.2
  obtain⟨D,az,nh,Mb⟩:=HM.o
  have hkm:k<(l.map ItemT.name).length:=by rw[yP];exact aB
  have P4:=rU (HN.o _ (yV aB))
  have F7:=NameMap.step nh Mb hkm az.isMap (az.tidy qH)
  rw[List.getElem_map] at F7
  have aS:=zh F7
  have HNm:=zh (fun W=>JD l[k] W)
  have iP:Below w.heap.size w (wr.alloc (.cells #[.string l[k].name,.int .i64 l[k].pos,.int .i64 l[k].width,.int .i64 l[k].wt,.int .i64 l[k].hang,.int .i64 l[k].front,.int .i64 l[k].back] 118)):=av.alloc av.size _
  have WE:=iP.alloc iP.size (.cells #[.string l[k].name,.int .i64 l[k].pos,.int .i64 l[k].width,.int .i64 l[k].wt,.int .i64 l[k].hang,.int .i64 l[k].front,.int .i64 l[k].back] 118)
  have bh:=(az.alloc (.cells #[.string l[k].name,.int .i64 l[k].pos,.int .i64 l[k].width,.int .i64 l[k].wt,.int .i64 l[k].hang,.int .i64 l[k].front,.int .i64 l[k].back] 118)).alloc (.cells #[.string l[k].name,.int .i64 l[k].pos,.int .i64 l[k].width,.int .i64 l[k].wt,.int .i64 l[k].hang,.int .i64 l[k].front,.int .i64 l[k].back] 118)
  have i1:(0:Int)≤(k:Int):=yE _
  have i2:(k:Int)<(l.length:Int):=by omega
  clear hc nh Mb F7 az HM
  go_wp2_with (first | (go_at_fn 145;refine (HNm.o _).mono ?_;rintro e w' ⟨rfl,rfl⟩) | (at_mapUpdate;refine wpList_mapUpdate_own _ rfl _ _ _ 225 rfl 9 226 qH Tryz.underlying225 _ w.heap.size k _ rfl bh (by unfold maxLen;omega) _ _ _ rfl rfl P4 (.agg []) [] unitElem_mk ?_;intro w5 IU Bl;have bg:=WE.grown Bl WE.size (fun k hk=>by cases hk;exact yA _);have Oj:Y0 (NameMap w5 w.heap.size (l.map ItemT.name) (k+1)):=⟨_,IU,aS.o.1,aS.o.2⟩;clear IU Bl bh))
  go_roundw
  case rel=>exact⟨k+1,by omega,by go_num,Oj,bg⟩
  simp[intOf];omega
 obtain rfl:k=l.length:=by omega
 obtain⟨D,az,nh,Mb⟩:=HM.o
 have HV:Y0 (ji (l.map ItemT.name)=decide (s7 (l.map ItemT.name) l.length<l.length)):=by unfold Y0 ji;rw[List.length_map]
 rw[← Mb] at HV
 clear nh Mb
 go_wp2_with (at_len;refine wpList_len_own _ rfl _ 225 rfl 9 226 Tryz.underlying225 _ w.heap.size l.length D rfl az ?_)
 go_ret
 exact⟨Ze HV.o.symm,av⟩
theorem C5 (v:Value) (l:List BrickT) (w:World) (hl:BricksAt w w.heap.size v l) (hn:∀ x∈l,x.name.size≤maxLen) (_h40:l.length≤100) :
  Calls Tryz.prog 151 #[v,.func (.func 152) #[] #[]] w fun e w'=>e = .returned (.bool (ji (l.map BrickT.name)))∧Below w.heap.size w w':=by
 obtain⟨A,c,rfl,gC,dr,ah⟩:=hl.open_
 unfold maxLen at dr
 have HC:=zh ah
 have HN:=zh hn
 clear hl ah hn
 have QF:=@run_makeMap Tryz.prog
 have eg:=Xt
 go_enter Tryz.func151,Tryz.ntmps151
 go_wp2_with fail
 have Yt:Y0 (NameMap (w.alloc (.map #[] 0)) w.heap.size (l.map BrickT.name) 0):=⟨_,World.ownsMap_made w _ _ _,fun s=>by simp[Maps.has],rfl⟩
 have Hbm:Below w.heap.size w (w.alloc (.map #[] 0)):=(yB _ _).alloc (yA _) _
 generalize w.alloc (.map #[] 0)=w2 at *
 go_loopw [11] (fun ix wr=>∃ k:Nat,k≤l.length∧ix = .int .i64 k∧Y0 (NameMap wr w.heap.size (l.map BrickT.name) k)∧Below w.heap.size w wr) (fun ix _=>l.length-(intOf ix).toNat)
 case atStart=>exact⟨0,yI _,rfl,Yt,Hbm⟩
 clear Yt Hbm
 obtain⟨k,hk,rfl,HM,av⟩:=hrel
 by_cases aB:k<l.length
 ·obtain⟨b1,ct,rfl,ao,hc⟩:=HC.o k aB
  have y0:=(av.cell (p:=⟨b1,ct+k*3,none⟩) ao).trans (hc k aB).1
  have y1:=(av.cell (p:=⟨b1,ct+k*3+1,none⟩) ao).trans (hc k aB).2.1
  have y2:=(av.cell (p:=⟨b1,ct+k*3+2,none⟩) ao).trans (hc k aB).2.2
  obtain⟨D,az,nh,Mb⟩:=HM.o
  have hkm:k<(l.map BrickT.name).length:=by rw[yP];exact aB
  have P4:=rU (HN.o _ (yV aB))
  have F7:=NameMap.step nh Mb hkm az.isMap (az.tidy qH)
  rw[List.getElem_map] at F7
  have aS:=zh F7
  have HNm:=zh (fun W=>Fj l[k] W)
  have iP:Below w.heap.size w (wr.alloc (.cells #[.string l[k].name,.int .i64 l[k].wt,.int .i64 l[k].cnt] 87)):=av.alloc av.size _
  have WE:=iP.alloc iP.size (.cells #[.string l[k].name,.int .i64 l[k].wt,.int .i64 l[k].cnt] 87)
  have bh:=(az.alloc (.cells #[.string l[k].name,.int .i64 l[k].wt,.int .i64 l[k].cnt] 87)).alloc (.cells #[.string l[k].name,.int .i64 l[k].wt,.int .i64 l[k].cnt] 87)
  have i1:(0:Int)≤(k:Int):=yE _
  have i2:(k:Int)<(l.length:Int):=by omega
  clear hc nh Mb F7 az HM
  go_wp2_with (first | (go_at_fn 152;refine (HNm.o _).mono ?_;rintro e w' ⟨rfl,rfl⟩) | (at_mapUpdate;refine wpList_mapUpdate_own _ rfl _ _ _ 225 rfl 9 226 qH Tryz.underlying225 _ w.heap.size k _ rfl bh (by unfold maxLen;omega) _ _ _ rfl rfl P4 (.agg []) [] unitElem_mk ?_;intro w5 IU Bl;have bg:=WE.grown Bl WE.size (fun k hk=>by cases hk;exact yA _);have Oj:Y0 (NameMap w5 w.heap.size (l.map BrickT.name) (k+1)):=⟨_,IU,aS.o.1,aS.o.2⟩;clear IU Bl bh))
  go_roundw
  case rel=>exact⟨k+1,by omega,by go_num,Oj,bg⟩
  simp[intOf];omega
 obtain rfl:k=l.length:=by omega
 obtain⟨D,az,nh,Mb⟩:=HM.o
 have HV:Y0 (ji (l.map BrickT.name)=decide (s7 (l.map BrickT.name) l.length<l.length)):=by unfold Y0 ji;rw[List.length_map]
 rw[← Mb] at HV
 clear nh Mb
 go_wp2_with (at_len;refine wpList_len_own _ rfl _ 225 rfl 9 226 Tryz.underlying225 _ w.heap.size l.length D rfl az ?_)
 go_ret
 exact⟨Ze HV.o.symm,av⟩
open Go.RowKit Go.Shelf
def jQ (l:List Int) (i:Nat):Int:=l.getD i 0
def je (l:List Int) (k:Nat):Bool:=decide (∀ i,i<k→1≤i→jQ l (i-1)<jQ l i)
def fp (l:List Int) (len:Int):Bool:=Zw (l.length:Int) 2 10&&(!decide (jQ l 0<0)&&(!decide (len<jQ l (l.length-1))&&je l l.length))
theorem Pv (l:List Int):je l 1=true:=by unfold je;rw[decide_eq_true_iff];intro i h1 h2;omega
theorem LA {l:List Int} {k:Nat} (h:je l k=true) (h1:jQ l (k-1)<jQ l k):je l (k+1)=true:=by
 unfold je at *
 rw[yO] at *
 intro i hi h2
 rcases Nat.lt_succ_iff_lt_or_eq.1 hi with h3 | rfl
 ·exact h i h3 h2
 exact h1
theorem VS {l:List Int} {k n:Nat} (hk:k<n) (h0:1≤k) (h1:¬ jQ l (k-1)<jQ l k):je l n=false:=by
 unfold je
 rw[YE]
 exact fun h=>h1 (h k hk h0)
theorem XO (v:Value) (l:List Int) (len:Int) (B:Nat) (w:World) (hl:bO w B v l) :
  Calls Tryz.prog 109 #[v,.int .i64 len] w fun e w'=>e = .returned (.bool (fp l len))∧∃ n,w.drewN n=w':=by
 obtain⟨A,c,rfl,gC,dr,ah⟩:=hl.open_
 unfold maxLen at dr
 have vA:=fun W=>Zn (l.length:Int) 2 10 W
 rcases yL (Zw (l.length:Int) 2 10) with h0 | h0
 rotate_left
 ·have HV:Y0 (fp l len=false):=by unfold Y0 fp;rw[h0];rfl
  rw[h0] at vA
  clear hl ah h0
  go_enter Tryz.func109,Tryz.ntmps109
  go_wp2_with (go_at_call 108;refine (vA _).mono ?_;rintro e w' ⟨rfl,rfl⟩)
  go_ret
  exact⟨Ze HV.o.symm,0,rfl⟩
 obtain⟨n2,n10⟩:=Zh h0
 obtain⟨b,off,rfl,-,hx⟩:=ah 0 (by omega)
 have HX:Y0 (∀ j,j<l.length→w.cell? ⟨b,off+j,none⟩=some (.int .i64 (jQ l j))):=fun j hj=>by
  have h:=hx j hj
  unfold jQ
  rw[yN,yM hj]
  exact h
 have hV0:fp l len=(!decide (jQ l 0<0)&&(!decide (len<jQ l (l.length-1))&&je l l.length)):=by unfold fp;rw[h0];rfl
 rw[h0] at vA
 clear hl ah hx h0
 have z0:=HX.o 0 (by omega)
 have z1:=HX.o (l.length-1) (by omega)
 rw[Nat.add_zero] at z0
 have v1:IntKind.i64.wrap ((l.length:Int)-1)=(l.length:Int)-1:=yF _ (by omega)
 have i1:((l.length:Int)-1).toNat=l.length-1:=by omega
 have i2:(0:Int)≤(l.length:Int)-1:=by omega
 have i3:(l.length:Int)-1<(l.length:Int):=by omega
 have i4:(0:Int)<(l.length:Int):=by omega
 by_cases c1:jQ l 0<0
 ·have d1:decide (jQ l 0<0)=true:=yD c1
  have HV:Y0 (fp l len=false):=by unfold Y0;rw[hV0,d1];rfl
  clear hV0
  go_enter Tryz.func109,Tryz.ntmps109
  go_wp2_with (go_at_call 108;refine (vA _).mono ?_;rintro e w' ⟨rfl,rfl⟩)
  go_ret
  exact⟨Ze HV.o.symm,0,rfl⟩
 have d1:decide (jQ l 0<0)=false:=yC c1
 by_cases c2:len<jQ l (l.length-1)
 ·have d2:decide (len<jQ l (l.length-1))=true:=yD c2
  have HV:Y0 (fp l len=false):=by unfold Y0;rw[hV0,d1,d2];rfl
  clear hV0
  go_enter Tryz.func109,Tryz.ntmps109
  go_wp2_with (go_at_call 108;refine (vA _).mono ?_;rintro e w' ⟨rfl,rfl⟩)
  go_ret
  exact⟨Ze HV.o.symm,0,rfl⟩
 have d2:decide (len<jQ l (l.length-1))=false:=yC c2
 have HV:Y0 (fp l len=je l l.length):=by unfold Y0;rw[hV0,d1,d2];rfl
 clear hV0
 go_enter Tryz.func109,Tryz.ntmps109
 go_wp2_with (go_at_call 108;refine (vA _).mono ?_;rintro e w' ⟨rfl,rfl⟩)
 clear z0 z1 v1 i1 i2 i3 d1 d2 c1 c2 vA
 go_loopw [5] (fun x wr=>∃ k:Nat,1≤k∧k≤l.length∧x = .int .i64 k∧Y0 (je l k=true)∧∃ n,wr=w.drewN n) (fun x _=>l.length-(intOf x).toNat)
 case atStart=>exact⟨1,yA _,by omega,rfl,Pv l,0,rfl⟩
 obtain⟨k,YX,hk,rfl,HI,n,rfl⟩:=hrel
 by_cases aw:k<l.length
 ·have z0:=HX.o k aw
  have z1:=HX.o (k-1) (by omega)
  have v1:IntKind.i64.wrap ((k:Int)-1)=(k:Int)-1:=yF _ (by omega)
  have i1:((k:Int)-1).toNat=k-1:=by omega
  have i2:(0:Int)≤(k:Int)-1:=by omega
  have i3:(k:Int)-1<(l.length:Int):=by omega
  have i5:(0:Int)≤(k:Int):=by omega
  have i6:(k:Int)<(l.length:Int):=by omega
  by_cases c1:jQ l k≤jQ l (k-1)
  ·have d1:decide (jQ l k≤jQ l (k-1))=true:=yD c1
   have dH:Y0 (fp l len=false):=by unfold Y0;rw[HV.o];exact VS aw YX (by omega)
   go_wp2
   go_quiet (fail)
   go_wp2
   go_ret
   exact⟨Ze dH.o.symm,q2⟩
  have d1:decide (jQ l k≤jQ l (k-1))=false:=yC c1
  have lj:=zh (LA HI.o (by omega))
  go_wp2
  go_quiet (fail)
  go_wp2
  go_roundw
  case rel=>exact⟨k+1,by omega,by omega,by go_num,lj,_,rfl⟩
  simp[intOf];omega
 have mQ:k=l.length:=by omega
 subst mQ
 go_wp2
 go_ret
 exact⟨Ze (by rw[HV.o];exact HI.o.symm),n,rfl⟩
theorem Jt:∀ args w,(callFunc 149 args).run Tryz.prog w = .ok (.enter 149 args) w:=enters_of Tryz.func149 (by kernel_rfl) rfl
def DV (x:ItemT):Prop:=0≤x.pos∧x.pos≤1048576∧1≤x.width∧x.width≤1048576
theorem DR (x y:ItemT) (D:Nat) (w:World) (hD:Blk w D 118 #[.string x.name,.int .i64 x.pos,.int .i64 x.width,.int .i64 x.wt,.int .i64 x.hang,.int .i64 x.front,.int .i64 x.back]) (hx:DV x) (hy:DV y) :
  Calls Tryz.prog 149 #[y.val,.pointer (some ⟨D,0,none⟩)] w fun e w'=>e = .returned (.bool (!eY x y))∧Below w.heap.size w w':=by
 have HA:=zh fun W=>XQ x y W hx hy
 have HB:Y0 (Below w.heap.size w (w.alloc (.cells #[.string y.name,.int .i64 y.pos,.int .i64 y.width,.int .i64 y.wt,.int .i64 y.hang,.int .i64 y.front,.int .i64 y.back] 118))):=(yB _ _).alloc (yA _) _
 have HY:=zh (Blk.new w 118 #[.string y.name,.int .i64 y.pos,.int .i64 y.width,.int .i64 y.wt,.int .i64 y.hang,.int .i64 y.front,.int .i64 y.back])
 have HX:=zh (hD.below HB.o hD.lt)
 clear hD hx hy
 go_enter Tryz.func149,Tryz.ntmps149
 have x0:=HX.o.cell 0
 have x1:=HX.o.cell 1
 have x2:=HX.o.cell 2
 have x3:=HX.o.cell 3
 have x4:=HX.o.cell 4
 have x5:=HX.o.cell 5
 have x6:=HX.o.cell 6
 have y0:=HY.o.cell 0
 have y1:=HY.o.cell 1
 have y2:=HY.o.cell 2
 have y3:=HY.o.cell 3
 have y4:=HY.o.cell 4
 have y5:=HY.o.cell 5
 have y6:=HY.o.cell 6
 simp only[aP,aQ,aO] at x0 x1 x2 x3 x4 x5 x6 y0 y1 y2 y3 y4 y5 y6
 go_wp2_with (go_at_call 150;refine (HA.o _).mono ?_;rintro e w' ⟨rfl,gZ⟩)
 go_ret
 exact⟨rfl,HB.o.trans (gZ.mono HB.o.size)⟩
theorem Cw (v:Value) (l:List ItemT) (K:Nat) (C:Array Value) (p:ItemT→Bool) (eg:∀ args w,(callFunc K args).run Tryz.prog w = .ok (.enter K args) w) (w:World) (hl:ItemsAt w w.heap.size v l)
  (hf:∀ t∈l,∀ w',Below w.heap.size w w'→Calls Tryz.prog K (#[t.val]++C) w' fun e sN=>e = .returned (.bool (p t))∧Below w'.heap.size w' sN) :
  Calls Tryz.prog 184 #[v,.func (.func K) #[] C] w fun e w'=>e = .returned (.int .i64 (ff (l.findIdx? p)))∧Below w.heap.size w w':=by
 obtain⟨A,c,rfl,gC,dr,ah⟩:=hl.open_
 unfold maxLen at dr
 have HF:=zh hf
 clear hf
 go_enter Tryz.func184,Tryz.ntmps184
 go_wp2
 go_loopw [8] (fun x wr=>∃ j:Nat,j≤l.length∧x = .int .i64 j∧(l.take j).findIdx? p=none∧Below w.heap.size w wr) (fun x _=>l.length-(intOf x).toNat)
 case atStart=>exact⟨0,yI _,rfl,by simp,yB _ _⟩
 obtain⟨j,hj,rfl,gg,av⟩:=hrel
 have lp:=zh gg
 clear gg
 by_cases aw:j<l.length
 ·obtain⟨b,off,rfl,hb,ah⟩:=ah j aw
  have h0:=(av.cell (p:=⟨b,off+j*7,none⟩) hb).trans (ah j aw).1
  have h1:=(av.cell (p:=⟨b,off+j*7+1,none⟩) hb).trans (ah j aw).2.1
  have h2:=(av.cell (p:=⟨b,off+j*7+2,none⟩) hb).trans (ah j aw).2.2.1
  have h3:=(av.cell (p:=⟨b,off+j*7+3,none⟩) hb).trans (ah j aw).2.2.2.1
  have h4:=(av.cell (p:=⟨b,off+j*7+4,none⟩) hb).trans (ah j aw).2.2.2.2.1
  have h5:=(av.cell (p:=⟨b,off+j*7+5,none⟩) hb).trans (ah j aw).2.2.2.2.2.1
  have h6:=(av.cell (p:=⟨b,off+j*7+6,none⟩) hb).trans (ah j aw).2.2.2.2.2.2
  clear ah
  have eo:=HF.o l[j] (yV aw)
  cases hq:p l[j]
  case true=>
   rw[hq] at eo
   go_wp2_with (go_at_fn K;refine (eo _ av).mono ?_;rintro e w' ⟨rfl,gZ⟩)
   go_ret
   exact⟨by rw[su lp.o aw hq];rfl,av.trans (gZ.mono av.size)⟩
  rw[hq] at eo
  go_wp2_with (go_at_fn K;refine (eo _ av).mono ?_;rintro e w' ⟨rfl,gZ⟩)
  go_roundw
  case rel=>exact⟨j+1,by omega,by go_num,pN lp.o aw hq,av.trans (gZ.mono av.size)⟩
  simp[intOf];omega
 have mQ:j=l.length:=by omega
 subst mQ
 go_wp2
 go_ret
 exact⟨by rw[← yT (l:=l),lp.o];rfl,av⟩
theorem mo (v:Value) (l:List ItemT) (K:Nat) (C:Array Value) (p:ItemT→Bool) (eg:∀ args w,(callFunc K args).run Tryz.prog w = .ok (.enter K args) w) (w:World) (hl:ItemsAt w w.heap.size v l)
  (hf:∀ t∈l,∀ w',Below w.heap.size w w'→Calls Tryz.prog K (#[t.val]++C) w' fun e sN=>e = .returned (.bool (p t))∧Below w'.heap.size w' sN) :
  Calls Tryz.prog 148 #[v,.func (.func K) #[] C] w fun e w'=>e = .returned (.bool (l.any p))∧Below w.heap.size w w':=by
 have hc:=Cw v l K C p eg w hl hf
 have hbd:=VT p l
 have HA:=zh (N1 p l)
 generalize ff (l.findIdx? p)=x at *
 clear hf hl
 go_enter Tryz.func148,Tryz.ntmps148
 go_wp2_with (go_at_call 184;refine hc.mono ?_;rintro e w' ⟨rfl,gZ⟩)
 go_ret
 exact⟨Ze HA.o,gZ⟩
def eH (x:BrickT):Bool:=da x.name&&(Zw x.wt 1 1048576&&Zw x.cnt 0 60)
def iw (l:List BrickT) (k:Nat):Int:=((l.take k).map BrickT.cnt).sum
def dB (l:List BrickT):Bool:=decide (l.length≤8)&&(!ji (l.map BrickT.name)&&(l.all eH&&decide (iw l l.length≤60)))
theorem qU (l:List BrickT) (k:Nat) (hk:k<l.length):iw l (k+1)=iw l k+l[k].cnt:=by
 unfold iw
 rw[aC l k hk,yS,List.sum_append]
 simp
theorem JG {α:Type} {p:α→Bool} {l:List α} {k:Nat} (hk:k<l.length) (h:(l.take k).all p=true) (h1:p l[k]=true):(l.take (k+1)).all p=true:=by
 rw[aC l k hk,List.all_append,h]
 simp[h1]
theorem qx3 {α:Type} {p:α→Bool} {l:List α} {k:Nat} (hk:k<l.length) (h1:p l[k]=false):l.all p=false:=by
 rw[List.all_eq_false]
 exact⟨l[k],yV hk,by simp[h1]⟩
theorem X5 {l:List BrickT} {k:Nat} (h:(l.take k).all eH=true) (hk:k≤l.length):0≤iw l k∧iw l k≤60*k:=by
 induction k with
 | zero=>simp[iw]
 | succ k ih=>
  rw[aC l k (by omega),List.all_append,Bool.and_eq_true] at h
  have h1:=ih h.1 (by omega)
  have h2:=h.2
  simp only[List.all_cons,List.all_nil,Bool.and_true] at h2
  unfold eH at h2
  simp only[Bool.and_eq_true] at h2
  have h3:=Zh h2.2.2
  rw[qU l k (by omega)]
  omega
theorem Qp (v:Value) (l:List BrickT) (w:World) (hl:BricksAt w w.heap.size v l) (hn:∀ x∈l,x.name.size≤maxLen) :
  Calls Tryz.prog 111 #[v] w fun e w'=>e = .returned (.bool (dB l))∧Below w.heap.size w w':=by
 have hT:=fun h=>C5 v l w hl hn h
 have HN:=zh hn
 obtain⟨A,c,rfl,gC,dr,ah⟩:=hl.open_
 unfold maxLen at dr
 have HC:=zh ah
 clear hl ah hn
 by_cases h8:l.length≤8
 rotate_left
 ·have HV:Y0 (dB l=false):=by unfold Y0 dB;rw[decide_eq_false h8];rfl
  have d8:decide (8<(l.length:Int))=true:=yD (by omega)
  clear hT
  go_enter Tryz.func111,Tryz.ntmps111
  go_wp2_with fail
  go_ret
  exact⟨Ze HV.o.symm,yB _ _⟩
 have d8:decide (8<(l.length:Int))=false:=yC (by omega)
 have hT:=hT (by omega)
 rcases yL (ji (l.map BrickT.name)) with ht | ht
 ·have HV:Y0 (dB l=false):=by unfold Y0 dB;rw[ht,Bool.not_true,Bool.false_and,Bool.and_false]
  rw[ht] at hT
  clear ht
  go_enter Tryz.func111,Tryz.ntmps111
  go_wp2_with (go_at_call 151;refine hT.mono ?_;rintro e w' ⟨rfl,gZ⟩)
  go_ret
  exact⟨Ze HV.o.symm,gZ⟩
 have HV:Y0 (dB l=(l.all eH&&decide (iw l l.length≤60))):=by unfold Y0 dB;rw[ht,decide_eq_true h8];rfl
 rw[ht] at hT
 clear ht
 go_enter Tryz.func111,Tryz.ntmps111
 go_wp2_with (go_at_call 151;refine hT.mono ?_;rintro e w2 ⟨rfl,bE⟩)
 clear hT d8
 go_loopw [15,3] (fun x s wr=>∃ k:Nat,k≤l.length∧x = .int .i64 k∧s = .int .i64 (iw l k)∧Y0 ((l.take k).all eH=true)∧Below w.heap.size w wr) (fun x _ _=>l.length-(intOf x).toNat)
 case atStart=>exact⟨0,yI _,rfl,rfl,rfl,bE⟩
 clear bE
 obtain⟨k,hk,rfl,rfl,HA,av⟩:=hrel
 by_cases aB:k<l.length
 ·obtain⟨b1,ct,rfl,ao,hc⟩:=HC.o k aB
  have y0:=(av.cell (p:=⟨b1,ct+k*3,none⟩) ao).trans (hc k aB).1
  have y1:=(av.cell (p:=⟨b1,ct+k*3+1,none⟩) ao).trans (hc k aB).2.1
  have y2:=(av.cell (p:=⟨b1,ct+k*3+2,none⟩) ao).trans (hc k aB).2.2
  have hnk:=HN.o _ (yV aB)
  have gg:=fun W=>pO l[k].name hnk W
  have hbd:=X5 HA.o hk
  have rn:Y0 (eH l[k]=(da l[k].name&&(Zw l[k].wt 1 1048576&&Zw l[k].cnt 0 60))):=rfl
  have mw:=zh (fun h:eH l[k]=false=>qx3 (p:=eH) aB h)
  have qzt:=zh (fun h:eH l[k]=true=>JG (p:=eH) aB HA.o h)
  have HCn:=zh (qU l k aB)
  have iP:Below w.heap.size w (wr.alloc (.cells #[.string l[k].name,.int .i64 l[k].wt,.int .i64 l[k].cnt] 87)):=av.alloc av.size _
  have i1:(0:Int)≤(k:Int):=yE _
  have i2:(k:Int)<(l.length:Int):=by omega
  clear hc hnk
  rcases yL (da l[k].name) with h0 | h0
  rotate_left
  ·have dH:Y0 (dB l=false):=by
    unfold Y0
    rw[HV.o,mw.o (by rw[rn.o,h0];rfl)]
    rfl
   go_wp2_with (first | (go_at_call 107;refine (gg _).mono ?_;rintro e w' ⟨rfl,rfl⟩;rw[h0]) | (go_at_call 108;refine (Zn _ _ _ _).mono ?_;rintro e w' ⟨rfl,rfl⟩;skip))
   go_ret
   exact⟨Ze dH.o.symm,iP⟩
  rcases yL (Zw l[k].wt 1 1048576) with h1 | h1
  rotate_left
  ·have dH:Y0 (dB l=false):=by
    unfold Y0
    rw[HV.o,mw.o (by rw[rn.o,h0,h1];rfl)]
    rfl
   go_wp2_with (first | (go_at_call 107;refine (gg _).mono ?_;rintro e w' ⟨rfl,rfl⟩;rw[h0]) | (go_at_call 108;refine (Zn _ _ _ _).mono ?_;rintro e w' ⟨rfl,rfl⟩;try rw[h1]))
   go_ret
   exact⟨Ze dH.o.symm,iP⟩
  rcases yL (Zw l[k].cnt 0 60) with h2 | h2
  rotate_left
  ·have dH:Y0 (dB l=false):=by
    unfold Y0
    rw[HV.o,mw.o (by rw[rn.o,h0,h1,h2];rfl)]
    rfl
   go_wp2_with (first | (go_at_call 107;refine (gg _).mono ?_;rintro e w' ⟨rfl,rfl⟩;rw[h0]) | (go_at_call 108;refine (Zn _ _ _ _).mono ?_;rintro e w' ⟨rfl,rfl⟩;try rw[h1];try rw[h2]))
   go_ret
   exact⟨Ze dH.o.symm,iP⟩
  have HA2:=zh (qzt.o (by rw[rn.o,h0,h1,h2];rfl))
  have hcb:=Zh h2
  have v1:IntKind.i64.wrap (iw l k+l[k].cnt)=iw l k+l[k].cnt:=yF _ (by omega)
  clear qzt mw
  go_wp2_with (first | (go_at_call 107;refine (gg _).mono ?_;rintro e w' ⟨rfl,rfl⟩;rw[h0]) | (go_at_call 108;refine (Zn _ _ _ _).mono ?_;rintro e w' ⟨rfl,rfl⟩;try rw[h1];try rw[h2]))
  go_roundw
  case rel=>exact⟨k+1,by omega,by go_num,by rw[HCn.o],HA2,iP⟩
  simp[intOf];omega
 obtain rfl:k=l.length:=by omega
 have dH:Y0 (dB l=decide (iw l l.length≤60)):=by
  have:=HA.o
  rw[yT] at this
  unfold Y0
  rw[HV.o,this]
  rfl
 go_wp2
 go_ret
 exact⟨Ze dH.o.symm,av⟩
theorem ItemsAt.take {w:World} {B:Nat} {A:Option Addr} {c:Nat} {l:List ItemT} (h:ItemsAt w B (.slice A l.length c) l) {k:Nat} (hk:k≤l.length):ItemsAt w B (.slice A k c) (l.take k):=by
 obtain⟨A',c',e,h1,h2,h3⟩:=h
 injection e with e1 _ e2
 subst e1 e2
 have bL:(l.take k).length=k:=by rw[YA];omega
 refine⟨A,c,by rw[bL],by rw[bL];omega,h2,fun h0=>?_⟩
 rw[bL] at h0
 obtain⟨b,off,e,hb,hc⟩:=h3 (by omega)
 refine⟨b,off,e,hb,fun j u hu=>hc j u ?_⟩
 have e:l.flatMap ItemT.cells=(l.take k).flatMap ItemT.cells++(l.drop k).flatMap ItemT.cells:=by rw[← List.flatMap_append,List.take_append_drop]
 rw[e,List.getElem?_append_left (List.getElem?_eq_some_iff.1 hu).1]
 exact hu
def qI (l:List ItemT) (len:Int) (k:Nat):Bool :=
 match l[k]? with
 | some x=>eZ x&&(dy x len && !((l.take k).any fun y=>!eY x y))
 | none=>true
def tB (l:List ItemT) (len:Int) (k:Nat):Bool:=decide (∀ i,i<k→qI l len i=true)
def eT (l:List ItemT) (len:Int):Bool:=decide (l.length≤40)&&(!ji (l.map ItemT.name)&&tB l len l.length)
theorem mb {l:List ItemT} {len:Int} {k:Nat} (hk:k<l.length):qI l len k=(eZ l[k]&&(dy l[k] len && !((l.take k).any fun y=>!eY l[k] y))):=by
 unfold qI
 rw[yM hk]
theorem qqd {l:List ItemT} {len:Int} {k:Nat} (hk:k<l.length) (h:qI l len k=false):tB l len l.length=false:=by
 unfold tB
 rw[YE]
 intro hh
 rw[hh k hk] at h
 cases h
theorem Pt {l:List ItemT} {len:Int} {k:Nat} (h:tB l len k=true) (h1:qI l len k=true):tB l len (k+1)=true:=by
 unfold tB at *
 rw[yO] at *
 intro i hi
 rcases Nat.lt_succ_iff_lt_or_eq.1 hi with h2 | rfl
 ·exact h i h2
 exact h1
theorem qJ {x:ItemT} {len:Int} (h:dy x len=true) (hl:len≤1048576):DV x:=by
 unfold dy at h
 simp only[Bool.and_eq_true,decide_eq_true_eq] at h
 have:=Zh h.2.1
 exact⟨h.1,by omega,this.1,this.2⟩
theorem VQ {l:List ItemT} {len:Int} {k:Nat} (h:tB l len k=true) (hk:k≤l.length) (hl:len≤1048576):∀ y∈l.take k,DV y:=by
 intro y hy
 obtain⟨i,hi,rfl⟩:=List.getElem_of_mem hy
 rw[YA] at hi
 have rk:i<l.length:=by omega
 unfold tB at h
 rw[yO] at h
 have h1:=h i (by omega)
 rw[mb rk,Bool.and_eq_true,Bool.and_eq_true] at h1
 rw[List.getElem_take]
 exact qJ h1.2.1 hl
theorem XP (v:Value) (l:List ItemT) (len:Int) (w:World) (hl:ItemsAt w w.heap.size v l) (hn:∀ x∈l,x.name.size≤maxLen) (bL:1000≤len∧len≤1048576) :
  Calls Tryz.prog 110 #[v,.int .i64 len] w fun e w'=>e = .returned (.bool (eT l len))∧Below w.heap.size w w':=by
 have hT:=fun h=>Fi v l w hl hn h
 have HN:=zh hn
 obtain⟨A,c,rfl,gC,dr,ah⟩:=hl.open_
 have HL:=zh hl
 unfold maxLen at dr
 have HC:=zh ah
 have tU:=zh bL
 clear hl ah hn bL
 by_cases h8:l.length≤40
 rotate_left
 ·have HV:Y0 (eT l len=false):=by unfold Y0 eT;rw[decide_eq_false h8];rfl
  have d8:decide (40<(l.length:Int))=true:=yD (by omega)
  clear hT
  go_enter Tryz.func110,Tryz.ntmps110
  go_wp2_with fail
  go_ret
  exact⟨Ze HV.o.symm,yB _ _⟩
 have d8:decide (40<(l.length:Int))=false:=yC (by omega)
 have hT:=hT (by omega)
 rcases yL (ji (l.map ItemT.name)) with ht | ht
 ·have HV:Y0 (eT l len=false):=by unfold Y0 eT;rw[ht,Bool.not_true,Bool.false_and,Bool.and_false]
  rw[ht] at hT
  clear ht
  go_enter Tryz.func110,Tryz.ntmps110
  go_wp2_with (go_at_call 144;refine hT.mono ?_;rintro e w' ⟨rfl,gZ⟩)
  go_ret
  exact⟨Ze HV.o.symm,gZ⟩
 have HV:Y0 (eT l len=tB l len l.length):=by unfold Y0 eT;rw[ht,decide_eq_true h8];rfl
 rw[ht] at hT
 clear ht
 go_enter Tryz.func110,Tryz.ntmps110
 go_wp2_with (go_at_call 144;refine hT.mono ?_;rintro e w2 ⟨rfl,bE⟩)
 clear hT d8
 go_loopw [16] (fun x wr=>∃ k:Nat,k≤l.length∧x = .int .i64 k∧Y0 (tB l len k=true)∧Below w.heap.size w wr) (fun x _=>l.length-(intOf x).toNat)
 case atStart=>exact⟨0,yI _,rfl,by unfold Y0 tB;simp,bE⟩
 clear bE
 obtain⟨k,hk,rfl,HA,av⟩:=hrel
 by_cases aB:k<l.length
 ·obtain⟨b1,ct,rfl,ao,hc⟩:=HC.o k aB
  have y0:=(av.cell (p:=⟨b1,ct+k*7,none⟩) ao).trans (hc k aB).1
  have y1:=(av.cell (p:=⟨b1,ct+k*7+1,none⟩) ao).trans (hc k aB).2.1
  have y2:=(av.cell (p:=⟨b1,ct+k*7+2,none⟩) ao).trans (hc k aB).2.2.1
  have y3:=(av.cell (p:=⟨b1,ct+k*7+3,none⟩) ao).trans (hc k aB).2.2.2.1
  have y4:=(av.cell (p:=⟨b1,ct+k*7+4,none⟩) ao).trans (hc k aB).2.2.2.2.1
  have y5:=(av.cell (p:=⟨b1,ct+k*7+5,none⟩) ao).trans (hc k aB).2.2.2.2.2.1
  have y6:=(av.cell (p:=⟨b1,ct+k*7+6,none⟩) ao).trans (hc k aB).2.2.2.2.2.2
  have QJ:=fun W=>XR l[k] W (HN.o _ (yV aB))
  have IX:=fun W=>Qo l[k] len W tU.o
  have HG:=zh (mb (len:=len) aB)
  have mw:=zh (fun h:qI l len k=false=>qqd aB h)
  have qzt:=zh (fun h:qI l len k=true=>Pt HA.o h)
  have iP:Below w.heap.size w (wr.alloc (.cells #[.string l[k].name,.int .i64 l[k].pos,.int .i64 l[k].width,.int .i64 l[k].wt,.int .i64 l[k].hang,.int .i64 l[k].front,.int .i64 l[k].back] 118)):=av.alloc av.size _
  have HD:=zh (Blk.new wr 118 #[.string l[k].name,.int .i64 l[k].pos,.int .i64 l[k].width,.int .i64 l[k].wt,.int .i64 l[k].hang,.int .i64 l[k].front,.int .i64 l[k].back])
  have i1:(0:Int)≤(k:Int):=yE _
  have i2:(k:Int)<(l.length:Int):=by omega
  have i3:(k:Int)≤(c:Int):=by omega
  clear hc
  generalize hW:wr.alloc (.cells #[.string l[k].name,.int .i64 l[k].pos,.int .i64 l[k].width,.int .i64 l[k].wt,.int .i64 l[k].hang,.int .i64 l[k].front,.int .i64 l[k].back] 118)=W3 at *
  rcases yL (eZ l[k]) with h0 | h0
  rotate_left
  ·have dH:Y0 (eT l len=false):=by
    unfold Y0
    rw[HV.o,mw.o (by rw[HG.o,h0];rfl)]
   rw[h0] at QJ
   subst hW
   go_wp2_with (go_at_call 146;refine (QJ _).mono ?_;rintro e w' ⟨rfl,gZ⟩)
   go_ret
   exact⟨Ze dH.o.symm,iP.trans (gZ.mono iP.size)⟩
  rw[h0] at QJ
  rcases yL (dy l[k] len) with h1 | h1
  rotate_left
  ·have dH:Y0 (eT l len=false):=by
    unfold Y0
    rw[HV.o,mw.o (by rw[HG.o,h0,h1];rfl)]
   rw[h1] at IX
   clear h0 h1
   subst hW
   go_wp2_with (first | (go_at_call 146;refine (QJ _).mono ?_;rintro e w4 ⟨rfl,cD⟩;have Jc:=iP.trans (cD.mono iP.size);have lR:=zh (HD.o.below cD HD.o.lt);have z0:=lR.o.cell 0;have z1:=lR.o.cell 1;have z2:=lR.o.cell 2;have z3:=lR.o.cell 3;have z4:=lR.o.cell 4;have z5:=lR.o.cell 5;have z6:=lR.o.cell 6;simp only[aP,aQ,aO] at z0 z1 z2 z3 z4 z5 z6) | (go_at_call 147;refine (IX _).mono ?_;rintro e w5 ⟨rfl,bg⟩;have Bp:=Jc.trans (bg.mono Jc.size)))
   go_ret
   exact⟨Ze dH.o.symm,Bp⟩
  rw[h1] at IX
  have HPx:=zh (qJ h1 tU.o.2)
  have HPy:=zh (VQ HA.o hk tU.o.2)
  rcases yL ((l.take k).any fun y=>!eY l[k] y) with h2 | h2
  ·have dH:Y0 (eT l len=false):=by
    unfold Y0
    rw[HV.o,mw.o (by rw[HG.o,h0,h1,h2];rfl)]
   have qjr:=zh h2
   clear h0 h1 h2
   subst hW
   go_wp2_with (first | (go_at_call 146;refine (QJ _).mono ?_;rintro e w4 ⟨rfl,cD⟩;have Jc:=iP.trans (cD.mono iP.size);have lR:=zh (HD.o.below cD HD.o.lt);have z0:=lR.o.cell 0;have z1:=lR.o.cell 1;have z2:=lR.o.cell 2;have z3:=lR.o.cell 3;have z4:=lR.o.cell 4;have z5:=lR.o.cell 5;have z6:=lR.o.cell 6;simp only[aP,aQ,aO] at z0 z1 z2 z3 z4 z5 z6) | (go_at_call 147;refine (IX _).mono ?_;rintro e w5 ⟨rfl,bg⟩;have Bp:=Jc.trans (bg.mono Jc.size);have pS:=zh (lR.o.below bg lR.o.lt);have hct:=mo (.slice (some ⟨b1,ct,none⟩) k c) (l.take k) 149 #[.pointer (some ⟨wr.heap.size,0,none⟩)] (fun y=>!eY l[k] y) Jt w5 (((HL.o.take hk).below Bp (yA _)).mono Bp.size) (fun t ht w' gZ=>DR l[k] t _ w' (pS.o.below gZ pS.o.lt) HPx.o (HPy.o t ht));rw[qjr.o] at hct) | (go_at_call 148;refine hct.mono ?_;rintro e w6 ⟨rfl,iq⟩;have qvl:=Bp.trans (iq.mono Bp.size)))
   go_ret
   exact⟨Ze dH.o.symm,qvl⟩
  have HA2:=zh (qzt.o (by rw[HG.o,h0,h1,h2];rfl))
  have qjr:=zh h2
  clear h0 h1 h2
  subst hW
  go_wp2_with (first | (go_at_call 146;refine (QJ _).mono ?_;rintro e w4 ⟨rfl,cD⟩;have Jc:=iP.trans (cD.mono iP.size);have lR:=zh (HD.o.below cD HD.o.lt);have z0:=lR.o.cell 0;have z1:=lR.o.cell 1;have z2:=lR.o.cell 2;have z3:=lR.o.cell 3;have z4:=lR.o.cell 4;have z5:=lR.o.cell 5;have z6:=lR.o.cell 6;simp only[aP,aQ,aO] at z0 z1 z2 z3 z4 z5 z6) | (go_at_call 147;refine (IX _).mono ?_;rintro e w5 ⟨rfl,bg⟩;have Bp:=Jc.trans (bg.mono Jc.size);have pS:=zh (lR.o.below bg lR.o.lt);have hct:=mo (.slice (some ⟨b1,ct,none⟩) k c) (l.take k) 149 #[.pointer (some ⟨wr.heap.size,0,none⟩)] (fun y=>!eY l[k] y) Jt w5 (((HL.o.take hk).below Bp (yA _)).mono Bp.size) (fun t ht w' gZ=>DR l[k] t _ w' (pS.o.below gZ pS.o.lt) HPx.o (HPy.o t ht));rw[qjr.o] at hct) | (go_at_call 148;refine hct.mono ?_;rintro e w6 ⟨rfl,iq⟩;have qvl:=Bp.trans (iq.mono Bp.size)))
  go_roundw
  case rel=>exact⟨k+1,by omega,by go_num,HA2,qvl⟩
  simp[intOf];omega
 obtain rfl:k=l.length:=by omega
 go_wp2
 go_ret
 exact⟨Ze (by rw[HV.o];exact HA.o.symm),av⟩
end Go.Proofs.YtfhmbechennkbaaGreatDoor
