/- Lemmas. -/
import Derived.Test.YtfhmbechennkbaaGreatDoorC2
import Derived.Test.YtfhmbechennkbaaGreatDoorD2
import Derived.Test.YtfhmbechennkbaaGreatDoorR0
namespace Go.Proofs.YtfhmbechennkbaaGreatDoor
set_option maxRecDepth 100000
set_option maxHeartbeats 40000000
structure SetOk (s:SetT):Prop where
 len:1000≤s.len∧s.len≤1048576
 pipe:0≤s.pipe∧s.pipe≤1048576
 arbor:0≤s.arbor∧s.arbor≤1048576
 purch:1≤s.purch∧s.purch≤2
 most:1≤s.most∧s.most≤67108864
 brake:0≤s.brake∧s.brake≤67108864
 depth:0≤s.depth∧s.depth≤1048576
 low:0≤s.low∧s.low≤s.high∧s.high≤1048576
 lines:fp s.lines s.len=true
 items:eT s.items s.len=true
 bricks:dB s.bricks=true
theorem Zm {s:SetT} (h:bS s=true):SetOk s:=by
 unfold bS at h
 simp only[Bool.and_eq_true,decide_eq_true_eq] at h
 obtain⟨-,h1,h2,h3,h4,h5,-,h7,h8,h9,vC,Cz,m6,Ch,QN⟩:=h
 exact⟨Zh h5,Zh h8,Zh h9,Zh vC,Zh Cz,Zh m6,Zh h1,⟨h2,h3,h4⟩,h7,Ch,QN⟩
theorem SetOk.wts {s:SetT} (h:SetOk s):s.items.length≤40∧∀ x∈s.items,eZ x=true∧dy x s.len=true:=by
 have h1:=h.items
 unfold eT at h1
 simp only[Bool.and_eq_true,decide_eq_true_eq] at h1
 refine⟨h1.1,fun x hx=>?_⟩
 obtain⟨i,hi,rfl⟩:=List.getElem_of_mem hx
 have h2:=h1.2.2
 unfold tB at h2
 rw[yO] at h2
 have h3:=h2 i hi
 rw[mb hi] at h3
 simp only[Bool.and_eq_true] at h3
 exact⟨h3.1,h3.2.1⟩
open Go.RowKit Go.Shelf
def Pe (f:ItemT→Int) (l:List ItemT) (k:Nat):Int:=(l.take k).foldl (fun a x=>max a (f x)) 0
structure ExSt (w W:World) (bx:Array Value) (l:List ItemT) (D k:Nat):Prop where
 d0:Blk W w.heap.size 26 bx
 d1:Blk W (w.heap.size+1) 74 #[.int .i64 0,.int .i64 0]
 d2:Blk W (w.heap.size+1+1) 74 #[.int .i64 0,.int .i64 0]
 d3:Blk W D 118 #[.string ⟨#[]⟩,.int .i64 0,.int .i64 0,.int .i64 0,.int .i64 (Pe ItemT.hang l k),.int .i64 (Pe ItemT.front l k),.int .i64 (Pe ItemT.back l k)]
 bel:Below w.heap.size w W
 far:w.heap.size+1+1<D
section
variable {w W W':World} {bx:Array Value} {l:List ItemT} {D k:Nat}
theorem ExSt.below (h:ExSt w W bx l D k) (hb:Below W.heap.size W W'):ExSt w W' bx l D k :=
 ⟨h.d0.below hb h.d0.lt,h.d1.below hb h.d1.lt,h.d2.below hb h.d2.lt,h.d3.below hb h.d3.lt,h.bel.trans (hb.mono h.bel.size),h.far⟩
theorem ExSt.step (h:ExSt w W bx l D k) {a b c:Int} (ha:Pe ItemT.hang l (k+1)=a) (hb:Pe ItemT.front l (k+1)=b) (hc:Pe ItemT.back l (k+1)=c) :
  ExSt w (((W.setCell ⟨D,4,none⟩ (.int .i64 a)).setCell ⟨D,5,none⟩ (.int .i64 b)).setCell ⟨D,6,none⟩ (.int .i64 c)) bx l D (k+1):=by
 have hf:=h.far
 subst ha hb hc
 have k3:=fun {g:Nat} {t:TypeId} {c:Array Value} (hb:Blk W g t c) (hg:g≠D) (x0 x1 x2:Value)=>((hb.far (p:=⟨D,4,none⟩) hg x0).far (p:=⟨D,5,none⟩) hg x1).far (p:=⟨D,6,none⟩) hg x2
 refine⟨k3 h.d0 (by omega) _ _ _,k3 h.d1 (by omega) _ _ _,k3 h.d2 (by omega) _ _ _,((h.d3.set_ 4 _).set_ 5 _).set_ 6 _,((h.bel.setCell (by show w.heap.size≤D;omega) _).setCell (by show w.heap.size≤D;omega) _).setCell (by show w.heap.size≤D;omega) _,h.far⟩
end
def QD (w:World) (e:Ending) (w':World):Prop:=∃ q:Bool,e = .returned (.bool q)∧Below w.heap.size w w'
theorem R6 (v:Value) (s:SetT) (n:Int) (w:World) (hv:SetAt w w.heap.size v s) (_dK:s.name.size≤maxLen) (gg:∀ x∈s.items,x.name.size≤maxLen) (hbm:∀ x∈s.bricks,x.name.size≤maxLen) :
  Calls Tryz.prog 33 #[v,.int .i64 n] w (QD w):=by
 obtain⟨Al,cl,Ai,ci,Ab,cb,rfl,hL,hI,hB⟩:=hv
 obtain⟨_,_,e,pL,rW,-⟩:=hL.open_
 injection e with e1 _ e2
 subst e1 e2
 obtain⟨_,_,e,N9,Wu,QG⟩:=hI.open_
 injection e with e1 _ e2
 subst e1 e2
 obtain⟨_,_,e,YX,LO,hkc⟩:=hB.open_
 injection e with e1 _ e2
 subst e1 e2
 have HI:=zh QG
 have HK:=zh hkc
 have HN:=zh gg
 have HM:=zh hbm
 have HD:=zh (Blk.new w 26 (zA s Al cl Ai ci Ab cb))
 have bZ:=zh ((yB _ w).alloc (yA _) (.cells (zA s Al cl Ai ci Ab cb) 26))
 unfold maxLen at rW Wu LO
 unfold aL
 clear hL hI hB QG hkc gg hbm
 by_cases c0:60<(s.name.size:Int)
 ·have d0:decide (60<(s.name.size:Int))=true:=yD c0
  go_enter Tryz.func33,Tryz.ntmps33
  go_wp2
  go_ret
  exact⟨_,rfl,bZ.o⟩
 have d0:decide (60<(s.name.size:Int))=false:=yC c0
 by_cases c1:12<(s.lines.length:Int)
 ·have d1:decide (12<(s.lines.length:Int))=true:=yD c1
  go_enter Tryz.func33,Tryz.ntmps33
  go_wp2
  go_ret
  exact⟨_,rfl,bZ.o⟩
 have d1:decide (12<(s.lines.length:Int))=false:=yC c1
 by_cases c2:n<(s.items.length:Int)
 ·have d2:decide (n<(s.items.length:Int))=true:=yD c2
  by_cases c3:(s.items.length:Int)≤40
  ·have d3:decide ((s.items.length:Int)≤40)=true:=yD c3
   go_enter Tryz.func33,Tryz.ntmps33
   go_wp2
   go_ret
   exact⟨_,rfl,bZ.o⟩
  have d3:decide ((s.items.length:Int)≤40)=false:=yC c3
  by_cases c4:45<(s.items.length:Int)
  ·have d4:decide (45<(s.items.length:Int))=true:=yD c4
   go_enter Tryz.func33,Tryz.ntmps33
   go_wp2
   go_ret
   exact⟨_,rfl,bZ.o⟩
  have d4:decide (45<(s.items.length:Int))=false:=yC c4
  by_cases c5:10<(s.bricks.length:Int)
  ·have d5:decide (10<(s.bricks.length:Int))=true:=yD c5
   go_enter Tryz.func33,Tryz.ntmps33
   go_wp2
   go_ret
   exact⟨_,rfl,bZ.o⟩
  have d5:decide (10<(s.bricks.length:Int))=false:=yC c5
  go_enter Tryz.func33,Tryz.ntmps33
  go_wp2
  generalize w.alloc (.cells (zA s Al cl Ai ci Ab cb) 26)=W1 at *
  have fc:=HD.o.cell 11
  have gU:=HD.o.cell 12
  simp only[aP,aQ,aO] at fc gU
  go_loopw [5] (fun x wr=>∃ k:Nat,k≤s.items.length∧x = .int .i64 k∧W1=wr) (fun x _=>s.items.length-(intOf x).toNat)
  case atStart=>exact⟨0,yI _,rfl,rfl⟩
  obtain⟨k,hk,rfl,rfl⟩:=hrel
  by_cases aB:k<s.items.length
  ·obtain⟨b,off,rfl,hb,hc⟩:=HI.o k aB
   have y0:=(bZ.o.cell (p:=⟨b,off+k*7,none⟩) hb).trans (hc k aB).1
   have hz:=HN.o _ (yV aB)
   unfold maxLen at hz
   have i1:(0:Int)≤(k:Int):=yE _
   have i2:(k:Int)<(s.items.length:Int):=by omega
   clear hc
   by_cases g:60<(s.items[k].name.size:Int)
   ·have gd:=yD g
    go_wp2
    go_ret
    exact⟨_,rfl,bZ.o⟩
   have gd:=yC g
   go_wp2
   go_roundw
   case rel=>exact⟨k+1,by omega,by go_num,by trivial⟩
   simp[intOf];omega
  obtain rfl:k=s.items.length:=by omega
  go_wp2
  go_loopw [6] (fun x wr=>∃ k:Nat,k≤s.bricks.length∧x = .int .i64 k∧W1=wr) (fun x _=>s.bricks.length-(intOf x).toNat)
  case atStart=>exact⟨0,yI _,rfl,rfl⟩
  obtain⟨k,hk,rfl,rfl⟩:=hrel
  by_cases aB:k<s.bricks.length
  ·obtain⟨b,off,rfl,hb,hc⟩:=HK.o k aB
   have y0:=(bZ.o.cell (p:=⟨b,off+k*3,none⟩) hb).trans (hc k aB).1
   have hz:=HM.o _ (yV aB)
   unfold maxLen at hz
   have i1:(0:Int)≤(k:Int):=yE _
   have i2:(k:Int)<(s.bricks.length:Int):=by omega
   clear hc
   by_cases g:60<(s.bricks[k].name.size:Int)
   ·have gd:=yD g
    go_wp2
    go_ret
    exact⟨_,rfl,bZ.o⟩
   have gd:=yC g
   go_wp2
   go_roundw
   case rel=>exact⟨k+1,by omega,by go_num,by trivial⟩
   simp[intOf];omega
  obtain rfl:k=s.bricks.length:=by omega
  go_wp2
  go_ret
  exact⟨_,rfl,bZ.o⟩
 have d2:decide (n<(s.items.length:Int))=false:=yC c2
 by_cases c4:45<(s.items.length:Int)
 ·have d4:decide (45<(s.items.length:Int))=true:=yD c4
  go_enter Tryz.func33,Tryz.ntmps33
  go_wp2
  go_ret
  exact⟨_,rfl,bZ.o⟩
 have d4:decide (45<(s.items.length:Int))=false:=yC c4
 by_cases c5:10<(s.bricks.length:Int)
 ·have d5:decide (10<(s.bricks.length:Int))=true:=yD c5
  go_enter Tryz.func33,Tryz.ntmps33
  go_wp2
  go_ret
  exact⟨_,rfl,bZ.o⟩
 have d5:decide (10<(s.bricks.length:Int))=false:=yC c5
 go_enter Tryz.func33,Tryz.ntmps33
 go_wp2
 generalize w.alloc (.cells (zA s Al cl Ai ci Ab cb) 26)=W1 at *
 have fc:=HD.o.cell 11
 have gU:=HD.o.cell 12
 simp only[aP,aQ,aO] at fc gU
 go_loopw [5] (fun x wr=>∃ k:Nat,k≤s.items.length∧x = .int .i64 k∧W1=wr) (fun x _=>s.items.length-(intOf x).toNat)
 case atStart=>exact⟨0,yI _,rfl,rfl⟩
 obtain⟨k,hk,rfl,rfl⟩:=hrel
 by_cases aB:k<s.items.length
 ·obtain⟨b,off,rfl,hb,hc⟩:=HI.o k aB
  have y0:=(bZ.o.cell (p:=⟨b,off+k*7,none⟩) hb).trans (hc k aB).1
  have hz:=HN.o _ (yV aB)
  unfold maxLen at hz
  have i1:(0:Int)≤(k:Int):=yE _
  have i2:(k:Int)<(s.items.length:Int):=by omega
  clear hc
  by_cases g:60<(s.items[k].name.size:Int)
  ·have gd:=yD g
   go_wp2
   go_ret
   exact⟨_,rfl,bZ.o⟩
  have gd:=yC g
  go_wp2
  go_roundw
  case rel=>exact⟨k+1,by omega,by go_num,by trivial⟩
  simp[intOf];omega
 obtain rfl:k=s.items.length:=by omega
 go_wp2
 go_loopw [6] (fun x wr=>∃ k:Nat,k≤s.bricks.length∧x = .int .i64 k∧W1=wr) (fun x _=>s.bricks.length-(intOf x).toNat)
 case atStart=>exact⟨0,yI _,rfl,rfl⟩
 obtain⟨k,hk,rfl,rfl⟩:=hrel
 by_cases aB:k<s.bricks.length
 ·obtain⟨b,off,rfl,hb,hc⟩:=HK.o k aB
  have y0:=(bZ.o.cell (p:=⟨b,off+k*3,none⟩) hb).trans (hc k aB).1
  have hz:=HM.o _ (yV aB)
  unfold maxLen at hz
  have i1:(0:Int)≤(k:Int):=yE _
  have i2:(k:Int)<(s.bricks.length:Int):=by omega
  clear hc
  by_cases g:60<(s.bricks[k].name.size:Int)
  ·have gd:=yD g
   go_wp2
   go_ret
   exact⟨_,rfl,bZ.o⟩
  have gd:=yC g
  go_wp2
  go_roundw
  case rel=>exact⟨k+1,by omega,by go_num,by trivial⟩
  simp[intOf];omega
 obtain rfl:k=s.bricks.length:=by omega
 go_wp2
 go_ret
 exact⟨_,rfl,bZ.o⟩
end Go.Proofs.YtfhmbechennkbaaGreatDoor
