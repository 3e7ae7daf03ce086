/- Lemmas. -/
import Derived.Test.YtmmhehgajkaniaaGreatDoorZ17
namespace Go.Proofs.YtmmhehgajkaniaaGreatDoor
set_option maxRecDepth 100000
set_option maxHeartbeats 40000000
open Go.RowKit Go.Shelf
structure DW4 (w W:World) (x y q r:Nat):Prop where
 bx:Blk W (w.heap.size) 67 #[.int .u64 (hW x),.int .u64 (lW x)]
 by_:Blk W (w.heap.size+1) 67 #[.int .u64 (hW y),.int .u64 (lW y)]
 bq:Blk W (w.heap.size+1+1) 67 #[.int .u64 (hW q),.int .u64 (lW q)]
 br:Blk W (w.heap.size+1+1+1) 67 #[.int .u64 (hW r),.int .u64 (lW r)]
 bel:Below w.heap.size w W
structure DW6 (w W:World) (x y q r u v:Nat):Prop where
 four:DW4 w W x y u v
 cq:Blk W (w.heap.size+1+1+1+1) 67 #[.int .u64 (hW q),.int .u64 (lW q)]
 cr:Blk W (w.heap.size+1+1+1+1+1) 67 #[.int .u64 (hW r),.int .u64 (lW r)]
section
variable {w W W':World} {x y q r u v:Nat}
theorem DW4.putx (h:DW4 w W x y q r) (z:Nat):DW4 w ((W.setCell ⟨w.heap.size,0,none⟩ (.int .u64 (hW z))).setCell ⟨w.heap.size,1,none⟩ (.int .u64 (lW z))) z y q r :=
 ⟨((h.bx.set_ 0 _).set_ 1 _),((h.by_.far (p:=⟨w.heap.size,0,none⟩) (by show w.heap.size+1≠w.heap.size;omega) _).far (p:=⟨w.heap.size,1,none⟩) (by show w.heap.size+1≠w.heap.size;omega) _),((h.bq.far (p:=⟨w.heap.size,0,none⟩) (by show w.heap.size+1+1≠w.heap.size;omega) _).far (p:=⟨w.heap.size,1,none⟩) (by show w.heap.size+1+1≠w.heap.size;omega) _),((h.br.far (p:=⟨w.heap.size,0,none⟩) (by show w.heap.size+1+1+1≠w.heap.size;omega) _).far (p:=⟨w.heap.size,1,none⟩) (by show w.heap.size+1+1+1≠w.heap.size;omega) _),((h.bel.setCell (p:=⟨w.heap.size,0,none⟩) (by show w.heap.size≤w.heap.size;omega) _).setCell (p:=⟨w.heap.size,1,none⟩) (by show w.heap.size≤w.heap.size;omega) _)⟩
theorem DW4.putq (h:DW4 w W x y q r) (z:Nat):DW4 w ((W.setCell ⟨w.heap.size+1+1,0,none⟩ (.int .u64 (hW z))).setCell ⟨w.heap.size+1+1,1,none⟩ (.int .u64 (lW z))) x y z r :=
 ⟨((h.bx.far (p:=⟨w.heap.size+1+1,0,none⟩) (by show w.heap.size≠w.heap.size+1+1;omega) _).far (p:=⟨w.heap.size+1+1,1,none⟩) (by show w.heap.size≠w.heap.size+1+1;omega) _),((h.by_.far (p:=⟨w.heap.size+1+1,0,none⟩) (by show w.heap.size+1≠w.heap.size+1+1;omega) _).far (p:=⟨w.heap.size+1+1,1,none⟩) (by show w.heap.size+1≠w.heap.size+1+1;omega) _),((h.bq.set_ 0 _).set_ 1 _),((h.br.far (p:=⟨w.heap.size+1+1,0,none⟩) (by show w.heap.size+1+1+1≠w.heap.size+1+1;omega) _).far (p:=⟨w.heap.size+1+1,1,none⟩) (by show w.heap.size+1+1+1≠w.heap.size+1+1;omega) _),((h.bel.setCell (p:=⟨w.heap.size+1+1,0,none⟩) (by show w.heap.size≤w.heap.size+1+1;omega) _).setCell (p:=⟨w.heap.size+1+1,1,none⟩) (by show w.heap.size≤w.heap.size+1+1;omega) _)⟩
theorem DW4.putr (h:DW4 w W x y q r) (z:Nat):DW4 w ((W.setCell ⟨w.heap.size+1+1+1,0,none⟩ (.int .u64 (hW z))).setCell ⟨w.heap.size+1+1+1,1,none⟩ (.int .u64 (lW z))) x y q z :=
 ⟨((h.bx.far (p:=⟨w.heap.size+1+1+1,0,none⟩) (by show w.heap.size≠w.heap.size+1+1+1;omega) _).far (p:=⟨w.heap.size+1+1+1,1,none⟩) (by show w.heap.size≠w.heap.size+1+1+1;omega) _),((h.by_.far (p:=⟨w.heap.size+1+1+1,0,none⟩) (by show w.heap.size+1≠w.heap.size+1+1+1;omega) _).far (p:=⟨w.heap.size+1+1+1,1,none⟩) (by show w.heap.size+1≠w.heap.size+1+1+1;omega) _),((h.bq.far (p:=⟨w.heap.size+1+1+1,0,none⟩) (by show w.heap.size+1+1≠w.heap.size+1+1+1;omega) _).far (p:=⟨w.heap.size+1+1+1,1,none⟩) (by show w.heap.size+1+1≠w.heap.size+1+1+1;omega) _),((h.br.set_ 0 _).set_ 1 _),((h.bel.setCell (p:=⟨w.heap.size+1+1+1,0,none⟩) (by show w.heap.size≤w.heap.size+1+1+1;omega) _).setCell (p:=⟨w.heap.size+1+1+1,1,none⟩) (by show w.heap.size≤w.heap.size+1+1+1;omega) _)⟩
theorem DW6.putx (h:DW6 w W x y q r u v) (z:Nat):DW6 w ((W.setCell ⟨w.heap.size,0,none⟩ (.int .u64 (hW z))).setCell ⟨w.heap.size,1,none⟩ (.int .u64 (lW z))) z y q r u v :=
 ⟨h.four.putx z,((h.cq.far (p:=⟨w.heap.size,0,none⟩) (by show w.heap.size+1+1+1+1≠w.heap.size;omega) _).far (p:=⟨w.heap.size,1,none⟩) (by show w.heap.size+1+1+1+1≠w.heap.size;omega) _),((h.cr.far (p:=⟨w.heap.size,0,none⟩) (by show w.heap.size+1+1+1+1+1≠w.heap.size;omega) _).far (p:=⟨w.heap.size,1,none⟩) (by show w.heap.size+1+1+1+1+1≠w.heap.size;omega) _)⟩
theorem DW6.putu (h:DW6 w W x y q r u v) (z:Nat):DW6 w ((W.setCell ⟨w.heap.size+1+1,0,none⟩ (.int .u64 (hW z))).setCell ⟨w.heap.size+1+1,1,none⟩ (.int .u64 (lW z))) x y q r z v :=
 ⟨h.four.putq z,((h.cq.far (p:=⟨w.heap.size+1+1,0,none⟩) (by show w.heap.size+1+1+1+1≠w.heap.size+1+1;omega) _).far (p:=⟨w.heap.size+1+1,1,none⟩) (by show w.heap.size+1+1+1+1≠w.heap.size+1+1;omega) _),((h.cr.far (p:=⟨w.heap.size+1+1,0,none⟩) (by show w.heap.size+1+1+1+1+1≠w.heap.size+1+1;omega) _).far (p:=⟨w.heap.size+1+1,1,none⟩) (by show w.heap.size+1+1+1+1+1≠w.heap.size+1+1;omega) _)⟩
theorem DW6.putv (h:DW6 w W x y q r u v) (z:Nat):DW6 w ((W.setCell ⟨w.heap.size+1+1+1,0,none⟩ (.int .u64 (hW z))).setCell ⟨w.heap.size+1+1+1,1,none⟩ (.int .u64 (lW z))) x y q r u z :=
 ⟨h.four.putr z,((h.cq.far (p:=⟨w.heap.size+1+1+1,0,none⟩) (by show w.heap.size+1+1+1+1≠w.heap.size+1+1+1;omega) _).far (p:=⟨w.heap.size+1+1+1,1,none⟩) (by show w.heap.size+1+1+1+1≠w.heap.size+1+1+1;omega) _),((h.cr.far (p:=⟨w.heap.size+1+1+1,0,none⟩) (by show w.heap.size+1+1+1+1+1≠w.heap.size+1+1+1;omega) _).far (p:=⟨w.heap.size+1+1+1,1,none⟩) (by show w.heap.size+1+1+1+1+1≠w.heap.size+1+1+1;omega) _)⟩
theorem DW6.putq (h:DW6 w W x y q r u v) (z:Nat):DW6 w ((W.setCell ⟨w.heap.size+1+1+1+1,0,none⟩ (.int .u64 (hW z))).setCell ⟨w.heap.size+1+1+1+1,1,none⟩ (.int .u64 (lW z))) x y z r u v :=
 ⟨⟨((h.four.bx.far (p:=⟨w.heap.size+1+1+1+1,0,none⟩) (by show w.heap.size≠w.heap.size+1+1+1+1;omega) _).far (p:=⟨w.heap.size+1+1+1+1,1,none⟩) (by show w.heap.size≠w.heap.size+1+1+1+1;omega) _),((h.four.by_.far (p:=⟨w.heap.size+1+1+1+1,0,none⟩) (by show w.heap.size+1≠w.heap.size+1+1+1+1;omega) _).far (p:=⟨w.heap.size+1+1+1+1,1,none⟩) (by show w.heap.size+1≠w.heap.size+1+1+1+1;omega) _),((h.four.bq.far (p:=⟨w.heap.size+1+1+1+1,0,none⟩) (by show w.heap.size+1+1≠w.heap.size+1+1+1+1;omega) _).far (p:=⟨w.heap.size+1+1+1+1,1,none⟩) (by show w.heap.size+1+1≠w.heap.size+1+1+1+1;omega) _),((h.four.br.far (p:=⟨w.heap.size+1+1+1+1,0,none⟩) (by show w.heap.size+1+1+1≠w.heap.size+1+1+1+1;omega) _).far (p:=⟨w.heap.size+1+1+1+1,1,none⟩) (by show w.heap.size+1+1+1≠w.heap.size+1+1+1+1;omega) _),((h.four.bel.setCell (p:=⟨w.heap.size+1+1+1+1,0,none⟩) (by show w.heap.size≤w.heap.size+1+1+1+1;omega) _).setCell (p:=⟨w.heap.size+1+1+1+1,1,none⟩) (by show w.heap.size≤w.heap.size+1+1+1+1;omega) _)⟩,((h.cq.set_ 0 _).set_ 1 _),((h.cr.far (p:=⟨w.heap.size+1+1+1+1,0,none⟩) (by show w.heap.size+1+1+1+1+1≠w.heap.size+1+1+1+1;omega) _).far (p:=⟨w.heap.size+1+1+1+1,1,none⟩) (by show w.heap.size+1+1+1+1+1≠w.heap.size+1+1+1+1;omega) _)⟩
theorem DW6.putr (h:DW6 w W x y q r u v) (z:Nat):DW6 w ((W.setCell ⟨w.heap.size+1+1+1+1+1,0,none⟩ (.int .u64 (hW z))).setCell ⟨w.heap.size+1+1+1+1+1,1,none⟩ (.int .u64 (lW z))) x y q z u v :=
 ⟨⟨((h.four.bx.far (p:=⟨w.heap.size+1+1+1+1+1,0,none⟩) (by show w.heap.size≠w.heap.size+1+1+1+1+1;omega) _).far (p:=⟨w.heap.size+1+1+1+1+1,1,none⟩) (by show w.heap.size≠w.heap.size+1+1+1+1+1;omega) _),((h.four.by_.far (p:=⟨w.heap.size+1+1+1+1+1,0,none⟩) (by show w.heap.size+1≠w.heap.size+1+1+1+1+1;omega) _).far (p:=⟨w.heap.size+1+1+1+1+1,1,none⟩) (by show w.heap.size+1≠w.heap.size+1+1+1+1+1;omega) _),((h.four.bq.far (p:=⟨w.heap.size+1+1+1+1+1,0,none⟩) (by show w.heap.size+1+1≠w.heap.size+1+1+1+1+1;omega) _).far (p:=⟨w.heap.size+1+1+1+1+1,1,none⟩) (by show w.heap.size+1+1≠w.heap.size+1+1+1+1+1;omega) _),((h.four.br.far (p:=⟨w.heap.size+1+1+1+1+1,0,none⟩) (by show w.heap.size+1+1+1≠w.heap.size+1+1+1+1+1;omega) _).far (p:=⟨w.heap.size+1+1+1+1+1,1,none⟩) (by show w.heap.size+1+1+1≠w.heap.size+1+1+1+1+1;omega) _),((h.four.bel.setCell (p:=⟨w.heap.size+1+1+1+1+1,0,none⟩) (by show w.heap.size≤w.heap.size+1+1+1+1+1;omega) _).setCell (p:=⟨w.heap.size+1+1+1+1+1,1,none⟩) (by show w.heap.size≤w.heap.size+1+1+1+1+1;omega) _)⟩,((h.cq.far (p:=⟨w.heap.size+1+1+1+1+1,0,none⟩) (by show w.heap.size+1+1+1+1≠w.heap.size+1+1+1+1+1;omega) _).far (p:=⟨w.heap.size+1+1+1+1+1,1,none⟩) (by show w.heap.size+1+1+1+1≠w.heap.size+1+1+1+1+1;omega) _),((h.cr.set_ 0 _).set_ 1 _)⟩
theorem DW6.low (h:DW6 w W x y q r u v) (z:Nat) (hz:hW z=hW q):DW6 w (W.setCell ⟨w.heap.size+1+1+1+1,1,none⟩ (.int .u64 (lW z))) x y z r u v :=
 ⟨⟨(h.four.bx.far (p:=⟨w.heap.size+1+1+1+1,1,none⟩) (by show w.heap.size≠w.heap.size+1+1+1+1;omega) _),(h.four.by_.far (p:=⟨w.heap.size+1+1+1+1,1,none⟩) (by show w.heap.size+1≠w.heap.size+1+1+1+1;omega) _),(h.four.bq.far (p:=⟨w.heap.size+1+1+1+1,1,none⟩) (by show w.heap.size+1+1≠w.heap.size+1+1+1+1;omega) _),(h.four.br.far (p:=⟨w.heap.size+1+1+1+1,1,none⟩) (by show w.heap.size+1+1+1≠w.heap.size+1+1+1+1;omega) _),h.four.bel.setCell (p:=⟨w.heap.size+1+1+1+1,1,none⟩) (by show w.heap.size≤w.heap.size+1+1+1+1;omega) _⟩,by rw[hz];exact h.cq.set_ 1 _,(h.cr.far (p:=⟨w.heap.size+1+1+1+1,1,none⟩) (by show w.heap.size+1+1+1+1+1≠w.heap.size+1+1+1+1;omega) _)⟩
theorem DW4.grow (h:DW4 w W x y q r) (hb:Below W.heap.size W W'):DW4 w W' x y q r :=
 ⟨h.bx.below hb h.bx.lt,h.by_.below hb h.by_.lt,h.bq.below hb h.bq.lt,h.br.below hb h.br.lt,h.bel.trans (hb.mono h.bel.size)⟩
theorem DW6.grow (h:DW6 w W x y q r u v) (hb:Below W.heap.size W W'):DW6 w W' x y q r u v :=
 ⟨h.four.grow hb,h.cq.below hb h.cq.lt,h.cr.below hb h.cr.lt⟩
theorem DW4.drew (h:DW4 w W x y q r):DW4 w W.drew x y q r:=⟨h.bx.drewN 1,h.by_.drewN 1,h.bq.drewN 1,h.br.drewN 1,h.bel.drew⟩
theorem DW6.drew (h:DW6 w W x y q r u v):DW6 w W.drew x y q r u v:=⟨h.four.drew,h.cq.drewN 1,h.cr.drewN 1⟩
end
theorem DW4.start (w:World) (a b:Nat):DW4 w ((((w.alloc (.cells #[.int .u64 (hW a),.int .u64 (lW a)] 67)).alloc (.cells #[.int .u64 (hW b),.int .u64 (lW b)] 67)).alloc (.cells #[.int .u64 0,.int .u64 0] 67)).alloc (.cells #[.int .u64 0,.int .u64 0] 67)) a b 0 0:=by
 have h1:=(((Blk.new w 67 #[.int .u64 (hW a),.int .u64 (lW a)]).alloc (.cells #[.int .u64 (hW b),.int .u64 (lW b)] 67)).alloc (.cells #[.int .u64 0,.int .u64 0] 67)).alloc (.cells #[.int .u64 0,.int .u64 0] 67);have h2:=((Blk.new (w.alloc (.cells #[.int .u64 (hW a),.int .u64 (lW a)] 67)) 67 #[.int .u64 (hW b),.int .u64 (lW b)]).alloc (.cells #[.int .u64 0,.int .u64 0] 67)).alloc (.cells #[.int .u64 0,.int .u64 0] 67)
 have h3:=(Blk.new ((w.alloc (.cells #[.int .u64 (hW a),.int .u64 (lW a)] 67)).alloc (.cells #[.int .u64 (hW b),.int .u64 (lW b)] 67)) 67 #[.int .u64 0,.int .u64 0]).alloc (.cells #[.int .u64 0,.int .u64 0] 67);have h4:=Blk.new (((w.alloc (.cells #[.int .u64 (hW a),.int .u64 (lW a)] 67)).alloc (.cells #[.int .u64 (hW b),.int .u64 (lW b)] 67)).alloc (.cells #[.int .u64 0,.int .u64 0] 67)) 67 #[.int .u64 0,.int .u64 0]
 simp only[World.size_alloc] at h2 h3 h4;exact⟨h1,h2,h3,h4,((((yB _ w).alloc (yA _) _).alloc (by simp) _).alloc (by simp;omega) _).alloc (by simp;omega) _⟩
theorem DW6.start (w:World) (a b:Nat):DW6 w ((((((w.alloc (.cells #[.int .u64 (hW a),.int .u64 (lW a)] 67)).alloc (.cells #[.int .u64 (hW b),.int .u64 (lW b)] 67)).alloc (.cells #[.int .u64 0,.int .u64 0] 67)).alloc (.cells #[.int .u64 0,.int .u64 0] 67)).alloc (.cells #[.int .u64 0,.int .u64 0] 67)).alloc (.cells #[.int .u64 0,.int .u64 0] 67)) a b 0 0 0 0:=by
 have h:=DW4.start w a b;have hb:∀W:World,Below W.heap.size W ((W.alloc (.cells #[.int .u64 0,.int .u64 0] 67)).alloc (.cells #[.int .u64 0,.int .u64 0] 67)):=fun W=>((yB _ W).alloc (yA _) _).alloc (by simp) _;have h5:=(Blk.new ((((w.alloc (.cells #[.int .u64 (hW a),.int .u64 (lW a)] 67)).alloc (.cells #[.int .u64 (hW b),.int .u64 (lW b)] 67)).alloc (.cells #[.int .u64 0,.int .u64 0] 67)).alloc (.cells #[.int .u64 0,.int .u64 0] 67)) 67 #[.int .u64 0,.int .u64 0]).alloc (.cells #[.int .u64 0,.int .u64 0] 67)
 have h6:=Blk.new (((((w.alloc (.cells #[.int .u64 (hW a),.int .u64 (lW a)] 67)).alloc (.cells #[.int .u64 (hW b),.int .u64 (lW b)] 67)).alloc (.cells #[.int .u64 0,.int .u64 0] 67)).alloc (.cells #[.int .u64 0,.int .u64 0] 67)).alloc (.cells #[.int .u64 0,.int .u64 0] 67)) 67 #[.int .u64 0,.int .u64 0];simp only[World.size_alloc] at h5 h6;exact⟨h.grow (hb _),h5,h6⟩
theorem VE {x t y:Nat} (ht:t<2) (hy:(2*x+t)%340282366920938463463374607431768211456=y):∃c1 c2 c3:Int,IntKind.u64.wrap (hW x*2)=c1∧lW x/9223372036854775808=c2∧IntKind.u64.wrap c2=c2∧IntKind.u64.wrap (c1+c2)=hW y∧IntKind.u64.wrap (lW x*2)=c3∧IntKind.u64.wrap (c3+(t:Int))=lW y∧(t=0→c3=lW y):=by
 obtain⟨h1,h2⟩:=Nh (x:=x) ht;rw[hy] at h1 h2;refine⟨_,_,_,rfl,rfl,?_,?_,rfl,?_,?_⟩
 all_goals
  simp only[IntKind.wrap_u64]
  try unfold hW
  try unfold lW
  omega
structure RoundW (a b i x r q x2 r2 q2 t:Nat):Prop where
 t2:t<2
 top:hW x/9223372036854775808=(t:Int)
 wt:IntKind.u64.wrap (t:Int)=(t:Int)
 ov:hW r/9223372036854775808=0
 ex:(2*x+0)%340282366920938463463374607431768211456=x2
 er:(2*r+t)%340282366920938463463374607431768211456=r2
 eq:(2*q+0)%340282366920938463463374607431768211456=q2
 xe:x2=a*2^(i+1)%2^128
 lt:r2<b→a/2^(128-(i+1))%b=r2∧a/2^(128-(i+1))/b=q2
 ge:b≤r2→a/2^(128-(i+1))%b=r2-b∧a/2^(128-(i+1))/b=q2+1
 rb:r2<340282366920938463463374607431768211456
 low:IntKind.u64.wrap (lW q2+1)=lW (q2+1)
 hi:hW (q2+1)=hW q2
theorem XH {a b i:Nat} (ha:a<2^128) (eH:0<b) (hb:b<2^127) (hi:i<128):∃x2 r2 q2 t,RoundW a b i (a*2^i%2^128) (a/2^(128-i)%b) (a/2^(128-i)/b) x2 r2 q2 t:=by
 obtain⟨n,hn⟩:∃n,i+n=127:=⟨127-i,by omega⟩;have en:128-i=n+1:=by omega
 have en1:128-(i+1)=n:=by omega
 have hs:=O7 (A:=a) (n:=n) eH rfl rfl;have ht:=XC (A:=a) hn;have hr:=YJ (a/2^(n+1)) eH;have hq:a/2^(n+1)/b<2^127:=by
  refine Nat.lt_of_le_of_lt (YK _ _) ((Nat.div_lt_iff_lt_mul (Nat.two_pow_pos _)).2 ?_);have h1:2^127*2^1≤2^127*2^(n+1):=Nat.mul_le_mul_left _ (Nat.pow_le_pow_right (by decide) (by omega));exact yK ha h1
 have hx:a*2^(i+1)%2^128=(2*(a*2^i%2^128))%2^128:=by
  rw[yW,←yY,Nat.mul_comm _ 2,Nat.mul_mod_mod]
 have h2:a/2^n%2<2:=YJ _ (by decide);have hxl:a*2^i%2^128<2^128:=YJ _ (by decide);rw[en];refine⟨_,_,_,a/2^n%2,?_,?_,?_,?_,rfl,rfl,rfl,?_,?_,?_,?_,?_,?_⟩
 all_goals
  try rw[en1]
  try rw[hx]
  generalize a/2^n/b=Q at*;generalize a/2^n%b=R at*;generalize a/2^n%2=t at*;generalize a/2^(n+1)%b=r at*;generalize a/2^(n+1)/b=q at*;generalize a*2^i%2^128=x at*;clear hx;simp only[Nat.reducePow] at*
  try simp only[IntKind.wrap_u64]
  try unfold hW
  try unfold lW
 ·omega
 ·omega
 ·omega
 ·omega
 ·omega
 ·intro h;have e:¬b≤2*r+t:=by omega
  rw[if_neg e,if_neg e] at hs;omega
 ·intro h;have e:b≤2*r+t:=by omega
  rw[if_pos e,if_pos e] at hs;omega
 ·omega
 ·omega
 omega
theorem XP (a b:Nat) (w:World) (ha:a<2^128) (eH:0<b) (ca:hW a=0) (cb:hW b=0):Calls Tryz.prog 187 #[uW a,uW b] w fun e w'=>e=.returned (.tuple #[uW (a/b),uW (a%b)])∧Below w.heap.size w w':=by
 have HS:=zh (DW4.start w a b);have e0:(hW a==0)=true:=beq_iff_eq.2 ca;have e1:(hW b==0)=true:=beq_iff_eq.2 cb;have la:lW a=(a:Int)∧a<18446744073709551616:=by unfold lW hW at*;omega
 have lb:lW b=(b:Int)∧b<18446744073709551616:=by unfold lW hW at*;omega
 have lq:hW (a/b)=0∧lW (a/b)=((a/b:Nat):Int):=by
  have:=YK a b;generalize a/b=q at*;unfold lW hW at*;omega
 have lr:hW (a%b)=0∧lW (a%b)=((a%b:Nat):Int):=by
  have:=YJ a eH;generalize a%b=q at*;unfold lW hW at*;omega
 have v1:IntKind.u64.wrap ((lW a).tdiv (lW b))=lW (a/b):=by
  rw[la.1,lb.1,lq.2,←Int.ofNat_tdiv];exact Mul64.wrapN _ (Nat.lt_of_le_of_lt (YK a b) la.2)
 have v2:(lW a).tmod (lW b)=lW (a%b):=by rw[la.1,lb.1,lr.2];exact (Int.ofNat_tmod a b).symm
 have v3:(lW b==0)=false:=zb (by rw[lb.1];omega);have v4:¬lW b=0:=by rw[lb.1];omega
 have hq0:=lq.1;have hr0:=lr.1;generalize a/b=q at*;generalize a%b=r at*;have HQ:=zh hq0;have HR:=zh hr0;clear la lb lq lr hq0 hr0 ca cb;go_enter Tryz.func187,Tryz.ntmps187;go_upto_region 1 with fail;generalize (((w.alloc (.cells #[.int .u64 (hW a),.int .u64 (lW a)] 67)).alloc (.cells #[.int .u64 (hW b),.int .u64 (lW b)] 67)).alloc (.cells #[.int .u64 0,.int .u64 0] 67)).alloc (.cells #[.int .u64 0,.int .u64 0] 67)=W1 at*
 have x0:=HS.o.bx.cell 0;have x1:=HS.o.bx.cell 1;have y0:=HS.o.by_.cell 0;have y1:=HS.o.by_.cell 1;simp only[aG,aH,aD] at x0 x1 y0 y1;go_upto_region 2 with fail;have HS:=zh HS.o.drew;have x0:=HS.o.bx.cell 0;have x1:=HS.o.bx.cell 1;have y0:=HS.o.by_.cell 0;have y1:=HS.o.by_.cell 1;simp only[aG,aH,aD] at x0 x1 y0 y1;refine m6 (fun i=>([.pointer (some ⟨w.heap.size,1,none⟩),.int .u64 (lW a),.pointer (some ⟨w.heap.size+1,1,none⟩),.int .u64 (lW b),.int .u64 (lW q),.agg #[.int .u64 0,.int .u64 (lW q)],.pointer (some ⟨w.heap.size,1,none⟩),.int .u64 (lW a),.pointer (some ⟨w.heap.size+1,1,none⟩),.int .u64 (lW b),.int .u64 (lW r),.agg #[.int .u64 0,.int .u64 (lW r)],undef,undef]:List Value).getD i undef) [12,13] (by kernel_rfl) (by kernel_rfl) (by kernel_rfl) (by decide) ?_
 generalize W1.drew=W2 at*;clear e0 e1 ha eH;refine ou (L:=[12,13]) (fu (kO rfl ?_) (fu (kO rfl ?_) ot))
 ·have f0:=HS.o.bq.frozen 0;have f1:=(HS.o.bq.set_ 0 (.int .u64 0)).frozen 1;have r0:=HS.o.bq.cell 0;have r1:=(HS.o.bq.set_ 0 (.int .u64 0)).cell 1;simp only[aC,aB,aG,aH,aD] at r0 r1;refine lw (w':=(((W2.setCell ⟨w.heap.size+1+1,0,none⟩ (.int .u64 0)).setCell ⟨w.heap.size+1+1,1,none⟩ (.int .u64 (lW q))))) [.pointer (some ⟨w.heap.size,1,none⟩),.int .u64 (lW a),.pointer (some ⟨w.heap.size+1,1,none⟩),.int .u64 (lW b),.int .u64 (lW q),.agg #[.int .u64 0,.int .u64 (lW q)],.pointer (some ⟨w.heap.size,1,none⟩),.int .u64 (lW a),.pointer (some ⟨w.heap.size+1,1,none⟩),.int .u64 (lW b),.int .u64 (lW r),.agg #[.int .u64 0,.int .u64 (lW r)],undef,undef] ?_
  have dP:=HS.o.putq q;rw[HQ.o] at dP;have dP:=zh dP;clear f0 f1 r0 r1 x0 x1 y0 y1;have x0:=dP.o.bx.cell 0;have x1:=dP.o.bx.cell 1;have y0:=dP.o.by_.cell 0;have y1:=dP.o.by_.cell 1;simp only[aG,aH,aD] at x0 x1 y0 y1;refine ou (L:=[13]) (fu (kO rfl ?_) ot);have f0:=dP.o.br.frozen 0;have f1:=(dP.o.br.set_ 0 (.int .u64 0)).frozen 1;have r0:=dP.o.br.cell 0;have r1:=(dP.o.br.set_ 0 (.int .u64 0)).cell 1
  simp only[aC,aB,aG,aH,aD] at r0 r1;refine lw (w':=(((((W2.setCell ⟨w.heap.size+1+1,0,none⟩ (.int .u64 0)).setCell ⟨w.heap.size+1+1,1,none⟩ (.int .u64 (lW q))).setCell ⟨w.heap.size+1+1+1,0,none⟩ (.int .u64 0)).setCell ⟨w.heap.size+1+1+1,1,none⟩ (.int .u64 (lW r))))) [.pointer (some ⟨w.heap.size,1,none⟩),.int .u64 (lW a),.pointer (some ⟨w.heap.size+1,1,none⟩),.int .u64 (lW b),.int .u64 (lW q),.agg #[.int .u64 0,.int .u64 (lW q)],.pointer (some ⟨w.heap.size,1,none⟩),.int .u64 (lW a),.pointer (some ⟨w.heap.size+1,1,none⟩),.int .u64 (lW b),.int .u64 (lW r),.agg #[.int .u64 0,.int .u64 (lW r)],undef,undef] ?_
  have dt:=dP.o.putr r;rw[HR.o] at dt;have dt:=zh dt;clear f0 f1 r0 r1 x0 x1 y0 y1;have x0:=dt.o.bx.cell 0;have x1:=dt.o.bx.cell 1;have y0:=dt.o.by_.cell 0;have y1:=dt.o.by_.cell 1;simp only[aG,aH,aD] at x0 x1 y0 y1;refine Bd ?_;simp only[bD,Act.put,aC,aB,aA,];generalize ((((W2.setCell ⟨w.heap.size+1+1,0,none⟩ (.int .u64 0)).setCell ⟨w.heap.size+1+1,1,none⟩ (.int .u64 (lW q))).setCell ⟨w.heap.size+1+1+1,0,none⟩ (.int .u64 0)).setCell ⟨w.heap.size+1+1+1,1,none⟩ (.int .u64 (lW r)))=w9 at*
  have p0:=dt.o.bq.cell 0;have p1:=dt.o.bq.cell 1;have p2:=dt.o.br.cell 0;have p3:=dt.o.br.cell 1;simp only[aG,aH,aD] at p0 p1 p2 p3;clear x0 x1 y0 y1;go_wp2_with fail;refine YF (v:=.tuple #[uW q,uW r]) (by simp[results,Tryz.results187,go_sem,p0,p1,p2,p3]) rfl ?_;exact⟨rfl,dt.o.bel⟩
 have f0:=HS.o.br.frozen 0;have f1:=(HS.o.br.set_ 0 (.int .u64 0)).frozen 1;have r0:=HS.o.br.cell 0;have r1:=(HS.o.br.set_ 0 (.int .u64 0)).cell 1;simp only[aC,aB,aG,aH,aD] at r0 r1;refine lw (w':=(((W2.setCell ⟨w.heap.size+1+1+1,0,none⟩ (.int .u64 0)).setCell ⟨w.heap.size+1+1+1,1,none⟩ (.int .u64 (lW r))))) [.pointer (some ⟨w.heap.size,1,none⟩),.int .u64 (lW a),.pointer (some ⟨w.heap.size+1,1,none⟩),.int .u64 (lW b),.int .u64 (lW q),.agg #[.int .u64 0,.int .u64 (lW q)],.pointer (some ⟨w.heap.size,1,none⟩),.int .u64 (lW a),.pointer (some ⟨w.heap.size+1,1,none⟩),.int .u64 (lW b),.int .u64 (lW r),.agg #[.int .u64 0,.int .u64 (lW r)],undef,undef] ?_
 have dP:=HS.o.putr r;rw[HR.o] at dP;have dP:=zh dP;clear f0 f1 r0 r1 x0 x1 y0 y1;have x0:=dP.o.bx.cell 0;have x1:=dP.o.bx.cell 1;have y0:=dP.o.by_.cell 0;have y1:=dP.o.by_.cell 1;simp only[aG,aH,aD] at x0 x1 y0 y1;refine ou (L:=[12]) (fu (kO rfl ?_) ot);have f0:=dP.o.bq.frozen 0;have f1:=(dP.o.bq.set_ 0 (.int .u64 0)).frozen 1;have r0:=dP.o.bq.cell 0;have r1:=(dP.o.bq.set_ 0 (.int .u64 0)).cell 1
 simp only[aC,aB,aG,aH,aD] at r0 r1;refine lw (w':=(((((W2.setCell ⟨w.heap.size+1+1+1,0,none⟩ (.int .u64 0)).setCell ⟨w.heap.size+1+1+1,1,none⟩ (.int .u64 (lW r))).setCell ⟨w.heap.size+1+1,0,none⟩ (.int .u64 0)).setCell ⟨w.heap.size+1+1,1,none⟩ (.int .u64 (lW q))))) [.pointer (some ⟨w.heap.size,1,none⟩),.int .u64 (lW a),.pointer (some ⟨w.heap.size+1,1,none⟩),.int .u64 (lW b),.int .u64 (lW q),.agg #[.int .u64 0,.int .u64 (lW q)],.pointer (some ⟨w.heap.size,1,none⟩),.int .u64 (lW a),.pointer (some ⟨w.heap.size+1,1,none⟩),.int .u64 (lW b),.int .u64 (lW r),.agg #[.int .u64 0,.int .u64 (lW r)],undef,undef] ?_
 have dt:=dP.o.putq q;rw[HQ.o] at dt;have dt:=zh dt;clear f0 f1 r0 r1 x0 x1 y0 y1;have x0:=dt.o.bx.cell 0;have x1:=dt.o.bx.cell 1;have y0:=dt.o.by_.cell 0;have y1:=dt.o.by_.cell 1;simp only[aG,aH,aD] at x0 x1 y0 y1;refine Bd ?_;simp only[bD,Act.put,aC,aB,aA,];generalize ((((W2.setCell ⟨w.heap.size+1+1+1,0,none⟩ (.int .u64 0)).setCell ⟨w.heap.size+1+1+1,1,none⟩ (.int .u64 (lW r))).setCell ⟨w.heap.size+1+1,0,none⟩ (.int .u64 0)).setCell ⟨w.heap.size+1+1,1,none⟩ (.int .u64 (lW q)))=w9 at*
 have p0:=dt.o.bq.cell 0;have p1:=dt.o.bq.cell 1;have p2:=dt.o.br.cell 0;have p3:=dt.o.br.cell 1;simp only[aG,aH,aD] at p0 p1 p2 p3;clear x0 x1 y0 y1;go_wp2_with fail;refine YF (v:=.tuple #[uW q,uW r]) (by simp[results,Tryz.results187,go_sem,p0,p1,p2,p3]) rfl ?_;exact⟨rfl,dt.o.bel⟩
theorem XO (a b:Nat) (w:World) (ha:a<2^128) (eH:0<b) (hb:b<2^127) (hc:(hW a==0&&hW b==0)=false):Calls Tryz.prog 187 #[uW a,uW b] w fun e w'=>e=.returned (.tuple #[uW (a/b),uW (a%b)])∧Below w.heap.size w w':=by
 have HS:=zh (DW6.start w a b);have gP:=zh (DW4.start w a b);have HRd:=zh fun i=>@XH a b i ha eH hb;have aS:=zh (KD (b:=b) ha);have Ph:=zh (VA a b);have HX0:Y0 (a=a*2^0%2^128):=by unfold Y0;rw[Nat.pow_zero,Nat.mul_one,Nat.mod_eq_of_lt ha]
 clear ha eH hb;have HLp:Y0 (∀W6:World,W6=W6):=fun _=>rfl;go_enter Tryz.func187,Tryz.ntmps187;go_upto_region 1 with fail;generalize hW4:(((w.alloc (.cells #[.int .u64 (hW a),.int .u64 (lW a)] 67)).alloc (.cells #[.int .u64 (hW b),.int .u64 (lW b)] 67)).alloc (.cells #[.int .u64 0,.int .u64 0] 67)).alloc (.cells #[.int .u64 0,.int .u64 0] 67)=W1 at*;have x0:=gP.o.bx.cell 0;have x1:=gP.o.bx.cell 1;have y0:=gP.o.by_.cell 0
 have y1:=gP.o.by_.cell 1;simp only[aG,aH,aD] at x0 x1 y0 y1;have hs4:W1.heap.size=w.heap.size+1+1+1+1:=by rw[←hW4];simp
 clear hW4;go_cut [17] (fun c wx=>c=.bool false∧wx=W1)
 case first=>
  cases ea:(hW a==0)
  case true=>
   rw[ea,Bool.true_and] at hc;go_wp2_with fail;go_meet;exact⟨rfl,rfl⟩
  clear hc;go_wp2_with fail;go_meet;exact⟨rfl,rfl⟩
 clear x0 x1 y0 y1 hc gP;obtain⟨rfl,rfl⟩:=hcut;go_wp2_with fail;generalize (wc.alloc (.cells #[.int .u64 0,.int .u64 0] 67)).alloc (.cells #[.int .u64 0,.int .u64 0] 67)=W2 at*;clear hs4;go_loopw [8,9] (fun ix ov wr=>∃i:Nat,i≤128∧ix=.int .i64 i∧Y0 (DW6 w wr (a*2^i%2^128) b (a/2^(128-i)/b) (a/2^(128-i)%b) 0 0)) (fun ix _ _=>128-(intOf ix).toNat)
 case atStart=>
  refine⟨0,by omega,rfl,?_⟩;have h1:=aS.o;have h2:=HX0.o;unfold Y0;rw[←h2,Nat.sub_zero,h1.1,h1.2];exact HS.o
 clear HS aS HX0;obtain⟨i,hi,rfl,HS⟩:=hrel;by_cases ao:i<128
 ·have d1:decide ((i:Int)<128)=true:=yD (by omega);have d1':decide (i<128)=true:=yD ao;have Py:IntKind.i64.wrap ((i:Int)+1)=((i+1:Nat):Int):=(yF _ (by omega)).trans (by omega);obtain⟨x2,r2,q2,t,hR⟩:=HRd.o i ao;have tR:=zh hR.xe;have iq:=zh hR.lt;have H7:=zh hR.ge;have hrb:=hR.rb;have top:=hR.top;have wt:=hR.wt;have ovz:=hR.ov;have low:=hR.low;have hiq:=zh hR.hi;obtain⟨k1,k2,k3,ka,kb,kc,kd,ke,kf,-⟩:=VE hR.t2 hR.er
  obtain⟨m1,m2,m3,ma,mb,mc,md,me,-,mg⟩:=VE (by decide) hR.ex;obtain⟨o1,o2,o3,oa,ob,oc,od,oe,-,og⟩:=VE (by decide) hR.eq;rw[mg rfl] at me;rw[og rfl] at oe;clear mg og hR hi;generalize a*2^i%2^128=x at*;generalize a/2^(128-i)/b=q at*;generalize a/2^(128-i)%b=r at*;generalize hti:(t:Int)=ti at*;clear hti;have z0:=HS.o.cr.cell 0;simp only[aG,aD] at z0;go_upto_region 8 with fail;have z1:=HS.o.cr.cell 1
  have x0:=HS.o.four.bx.cell 0;simp only[aG,aH,aD] at z1 x0;have f0:=HS.o.cr.frozen 0;have f1:=(HS.o.cr.set_ 0 (.int .u64 (hW r2))).frozen 1;have g1:=(HS.o.cr.set_ 0 (.int .u64 (hW r2))).cell 1;simp only[aC,aB,aG,aH,aD] at g1;go_upto_region 9 with fail;have iw:=zh (HS.o.putr r2);clear z0 z1 x0 f0 f1 g1 HS ka kb kc kd ke kf top ovz;generalize ((wr.setCell ⟨w.heap.size+1+1+1+1+1,0,none⟩ (.int .u64 (hW r2))).setCell ⟨w.heap.size+1+1+1+1+1,1,none⟩ (.int .u64 (lW r2)))=w2 at*
  obtain⟨x0,x1⟩:=iw.o.four.bx.c2;have f0:=iw.o.four.bx.frozen 0;have f1:=(iw.o.four.bx.set_ 0 (.int .u64 (hW x2))).frozen 1;have g1:=(iw.o.four.bx.set_ 0 (.int .u64 (hW x2))).cell 1;simp only[aC,aB,aG,aH,aD] at g1;go_upto_region 10 with fail;have nF:=zh (iw.o.putx x2);clear x0 x1 f0 f1 g1 iw ma mb mc md me;generalize ((w2.setCell ⟨w.heap.size,0,none⟩ (.int .u64 (hW x2))).setCell ⟨w.heap.size,1,none⟩ (.int .u64 (lW x2)))=w3 at*
  obtain⟨x0,x1⟩:=nF.o.cq.c2;have f0:=nF.o.cq.frozen 0;have f1:=(nF.o.cq.set_ 0 (.int .u64 (hW q2))).frozen 1;have g1:=(nF.o.cq.set_ 0 (.int .u64 (hW q2))).cell 1;simp only[aC,aB,aG,aH,aD] at g1;go_upto_region 11 with fail;have gP:=zh (nF.o.putq q2);clear x0 x1 f0 f1 g1 nF oa ob oc od oe;generalize ((w3.setCell ⟨w.heap.size+1+1+1+1,0,none⟩ (.int .u64 (hW q2))).setCell ⟨w.heap.size+1+1+1+1,1,none⟩ (.int .u64 (lW q2)))=w4 at*
  have x0:=gP.o.cr.cell 0;have x1:=gP.o.cr.cell 1;have y0:=gP.o.four.by_.cell 0;have y1:=gP.o.four.by_.cell 1;simp only[aG,aH,aD] at x0 x1 y0 y1;go_wp2_with fail;refine (Lt r2 b _).mono ?_;rintro e w5 ⟨rfl,aR⟩;have dY:=zh (gP.o.grow aR);clear x0 x1 y0 y1 aR gP;by_cases hc:r2<b
  ·rw[yD hc];have hF:=iq.o hc;have HF:=zh hF;clear hc hF iq H7;go_wp2_with fail;go_roundw
   case rel=>exact⟨i+1,ao,by go_num,by unfold Y0;rw[←tR.o,HF.o.1,HF.o.2];exact dY.o⟩
   simp[intOf];omega
  rw[yC hc];have ko:=Nat.not_lt.1 hc;have HF:=zh (H7.o ko);have uT:=zh ko;clear hc ko iq H7;have x0:=dY.o.cr.cell 0;have x1:=dY.o.cr.cell 1;have y0:=dY.o.four.by_.cell 0;have y1:=dY.o.four.by_.cell 1;simp only[aG,aH,aD] at x0 x1 y0 y1;go_wp2_with fail;refine (wP r2 b _ hrb uT.o).mono ?_;rintro e w6 ⟨rfl,ie⟩;have GF:=zh (dY.o.grow ie);clear x0 x1 y0 y1 ie dY;generalize r2-b=d at*;obtain⟨x0,x1⟩:=GF.o.cr.c2
  have f0:=GF.o.cr.frozen 0;have f1:=(GF.o.cr.set_ 0 (.int .u64 (hW d))).frozen 1;have g1:=(GF.o.cr.set_ 0 (.int .u64 (hW d))).cell 1;simp only[aC,aB,aG,aH,aD] at g1;go_upto_region 13 with fail;have dP:=zh (GF.o.putr d);clear x0 x1 f0 f1 g1 GF;generalize ((w6.setCell ⟨w.heap.size+1+1+1+1+1,0,none⟩ (.int .u64 (hW d))).setCell ⟨w.heap.size+1+1+1+1+1,1,none⟩ (.int .u64 (lW d)))=w7 at*;have x1:=dP.o.cq.cell 1
  have f1:=dP.o.cq.frozen 1;simp only[aG,aH,aD] at x1;have dt:=zh (dP.o.low (q2+1) hiq.o);clear dP;go_wp2_with fail;go_roundw
  case rel=>exact⟨i+1,ao,by go_num,by unfold Y0;rw[←tR.o,HF.o.1,HF.o.2];exact dt.o⟩
  simp[intOf];omega
 obtain rfl:i=128:=by omega
 have d1:decide (((128:Nat):Int)<128)=false:=by decide
 have HS:Y0 (DW6 w wr (a*2^128%2^128) b (a/b) (a%b) 0 0):=by
  unfold Y0;have h1:=HS.o;rw[Nat.sub_self,Ph.o.1,Ph.o.2] at h1;exact h1
 clear HRd hi ao Ph;obtain⟨q,hq⟩:=zo (a/b);obtain⟨r,hr⟩:=zo (a%b);rw[hq,hr] at HS;have HQe:=zh hq;have sJ:=zh hr;clear hq hr;generalize a*2^128%2^128=x at*;go_upto_region 14 with fail;have HS:=zh HS.o.drew;have x0:=HS.o.cq.cell 0;have x1:=HS.o.cq.cell 1;have y0:=HS.o.cr.cell 0;have y1:=HS.o.cr.cell 1;simp only[aG,aH,aD] at x0 x1 y0 y1;refine m6 (fun i=>([uW q,uW r,undef,undef]:List Value).getD i undef) [2,3] (by kernel_rfl) (by kernel_rfl) (by kernel_rfl) (by decide) ?_
 generalize wr.drew=w2 at*;refine ou (L:=[2,3]) (fu (kO rfl ?_) (fu (kO rfl ?_) ot))
 ·have f0:=HS.o.four.bq.frozen 0;have f1:=(HS.o.four.bq.set_ 0 (.int .u64 (hW q))).frozen 1;have r0:=HS.o.four.bq.cell 0;have r1:=(HS.o.four.bq.set_ 0 (.int .u64 (hW q))).cell 1;simp only[aC,aB,aG,aH,aD] at r0 r1;refine lw (w':=(((w2.setCell ⟨w.heap.size+1+1,0,none⟩ (.int .u64 (hW q))).setCell ⟨w.heap.size+1+1,1,none⟩ (.int .u64 (lW q))))) [uW q,uW r,undef,undef] ?_;have dP:=zh (HS.o.putu q);clear f0 f1 r0 r1 x0 x1 y0 y1
  have x0:=dP.o.cq.cell 0;have x1:=dP.o.cq.cell 1;have y0:=dP.o.cr.cell 0;have y1:=dP.o.cr.cell 1;simp only[aG,aH,aD] at x0 x1 y0 y1;refine ou (L:=[3]) (fu (kO rfl ?_) ot);have f0:=dP.o.four.br.frozen 0;have f1:=(dP.o.four.br.set_ 0 (.int .u64 (hW r))).frozen 1;have r0:=dP.o.four.br.cell 0;have r1:=(dP.o.four.br.set_ 0 (.int .u64 (hW r))).cell 1;simp only[aC,aB,aG,aH,aD] at r0 r1;refine lw (w':=(((((w2.setCell ⟨w.heap.size+1+1,0,none⟩ (.int .u64 (hW q))).setCell ⟨w.heap.size+1+1,1,none⟩ (.int .u64 (lW q))).setCell ⟨w.heap.size+1+1+1,0,none⟩ (.int .u64 (hW r))).setCell ⟨w.heap.size+1+1+1,1,none⟩ (.int .u64 (lW r))))) [uW q,uW r,undef,undef] ?_
  have dt:=zh (dP.o.putv r);clear f0 f1 r0 r1 x0 x1 y0 y1;have x0:=dt.o.cq.cell 0;have x1:=dt.o.cq.cell 1;have y0:=dt.o.cr.cell 0;have y1:=dt.o.cr.cell 1;simp only[aG,aH,aD] at x0 x1 y0 y1;refine Bd ?_;simp only[bD,Act.put,aC,aB,aA,];generalize ((((w2.setCell ⟨w.heap.size+1+1,0,none⟩ (.int .u64 (hW q))).setCell ⟨w.heap.size+1+1,1,none⟩ (.int .u64 (lW q))).setCell ⟨w.heap.size+1+1+1,0,none⟩ (.int .u64 (hW r))).setCell ⟨w.heap.size+1+1+1,1,none⟩ (.int .u64 (lW r)))=w9 at*
  have p0:=dt.o.four.bq.cell 0;have p1:=dt.o.four.bq.cell 1;have p2:=dt.o.four.br.cell 0;have p3:=dt.o.four.br.cell 1;simp only[aG,aH,aD] at p0 p1 p2 p3;clear x0 x1 y0 y1;go_wp2_with fail;refine YF (v:=.tuple #[uW q,uW r]) (by simp[results,Tryz.results187,go_sem,p0,p1,p2,p3]) rfl ?_;exact⟨by rw[HQe.o,sJ.o],dt.o.four.bel⟩
 have f0:=HS.o.four.br.frozen 0;have f1:=(HS.o.four.br.set_ 0 (.int .u64 (hW r))).frozen 1;have r0:=HS.o.four.br.cell 0;have r1:=(HS.o.four.br.set_ 0 (.int .u64 (hW r))).cell 1;simp only[aC,aB,aG,aH,aD] at r0 r1;refine lw (w':=(((w2.setCell ⟨w.heap.size+1+1+1,0,none⟩ (.int .u64 (hW r))).setCell ⟨w.heap.size+1+1+1,1,none⟩ (.int .u64 (lW r))))) [uW q,uW r,undef,undef] ?_;have dP:=zh (HS.o.putv r)
 clear f0 f1 r0 r1 x0 x1 y0 y1;have x0:=dP.o.cq.cell 0;have x1:=dP.o.cq.cell 1;have y0:=dP.o.cr.cell 0;have y1:=dP.o.cr.cell 1;simp only[aG,aH,aD] at x0 x1 y0 y1;refine ou (L:=[2]) (fu (kO rfl ?_) ot);have f0:=dP.o.four.bq.frozen 0;have f1:=(dP.o.four.bq.set_ 0 (.int .u64 (hW q))).frozen 1;have r0:=dP.o.four.bq.cell 0;have r1:=(dP.o.four.bq.set_ 0 (.int .u64 (hW q))).cell 1;simp only[aC,aB,aG,aH,aD] at r0 r1
 refine lw (w':=(((((w2.setCell ⟨w.heap.size+1+1+1,0,none⟩ (.int .u64 (hW r))).setCell ⟨w.heap.size+1+1+1,1,none⟩ (.int .u64 (lW r))).setCell ⟨w.heap.size+1+1,0,none⟩ (.int .u64 (hW q))).setCell ⟨w.heap.size+1+1,1,none⟩ (.int .u64 (lW q))))) [uW q,uW r,undef,undef] ?_;have dt:=zh (dP.o.putu q);clear f0 f1 r0 r1 x0 x1 y0 y1;have x0:=dt.o.cq.cell 0;have x1:=dt.o.cq.cell 1;have y0:=dt.o.cr.cell 0;have y1:=dt.o.cr.cell 1
 simp only[aG,aH,aD] at x0 x1 y0 y1;refine Bd ?_;simp only[bD,Act.put,aC,aB,aA,];generalize ((((w2.setCell ⟨w.heap.size+1+1+1,0,none⟩ (.int .u64 (hW r))).setCell ⟨w.heap.size+1+1+1,1,none⟩ (.int .u64 (lW r))).setCell ⟨w.heap.size+1+1,0,none⟩ (.int .u64 (hW q))).setCell ⟨w.heap.size+1+1,1,none⟩ (.int .u64 (lW q)))=w9 at*;have p0:=dt.o.four.bq.cell 0;have p1:=dt.o.four.bq.cell 1;have p2:=dt.o.four.br.cell 0
 have p3:=dt.o.four.br.cell 1;simp only[aG,aH,aD] at p0 p1 p2 p3;clear x0 x1 y0 y1;go_wp2_with fail;refine YF (v:=.tuple #[uW q,uW r]) (by simp[results,Tryz.results187,go_sem,p0,p1,p2,p3]) rfl ?_;exact⟨by rw[HQe.o,sJ.o],dt.o.four.bel⟩
theorem Qx (a b:Nat) (w:World) (ha:a<2^128) (eH:0<b) (hb:b<2^127):Calls Tryz.prog 187 #[uW a,uW b] w fun e w'=>e=.returned (.tuple #[uW (a/b),uW (a%b)])∧Below w.heap.size w w':=by
 cases hc:(hW a==0&&hW b==0)
 ·exact XO a b w ha eH hb hc
 rw[Bool.and_eq_true,beq_iff_eq,beq_iff_eq] at hc;exact XP a b w ha eH hc.1 hc.2
structure MadW (w W:World) (x y:Nat):Prop where
 bx:Blk W (w.heap.size) 67 #[.int .u64 (hW x),.int .u64 (lW x)]
 by_:Blk W (w.heap.size+1) 67 #[.int .u64 (hW y),.int .u64 (lW y)]
 res:Blk W (w.heap.size+1+1) 29 #[.int .i64 0,.int .i64 0]
 bel:Below w.heap.size w W
theorem MadW.grow {w W W':World} {x y:Nat} (h:MadW w W x y) (hb:Below W.heap.size W W'):MadW w W' x y :=
 ⟨h.bx.below hb h.bx.lt,h.by_.below hb h.by_.lt,h.res.below hb h.res.lt,h.bel.trans (hb.mono h.bel.size)⟩
theorem MadW.start (w:World) (a b:Nat):MadW w (((w.alloc (.cells #[.int .u64 (hW a),.int .u64 (lW a)] 67)).alloc (.cells #[.int .u64 (hW b),.int .u64 (lW b)] 67)).alloc (.cells #[.int .i64 0,.int .i64 0] 29)) a b:=by
 have h1:=((Blk.new w 67 #[.int .u64 (hW a),.int .u64 (lW a)]).alloc (.cells #[.int .u64 (hW b),.int .u64 (lW b)] 67)).alloc (.cells #[.int .i64 0,.int .i64 0] 29);have h2:=(Blk.new (w.alloc (.cells #[.int .u64 (hW a),.int .u64 (lW a)] 67)) 67 #[.int .u64 (hW b),.int .u64 (lW b)]).alloc (.cells #[.int .i64 0,.int .i64 0] 29);have h3:=Blk.new ((w.alloc (.cells #[.int .u64 (hW a),.int .u64 (lW a)] 67)).alloc (.cells #[.int .u64 (hW b),.int .u64 (lW b)] 67)) 29 #[.int .i64 0,.int .i64 0]
 simp only[World.size_alloc] at h2 h3;exact⟨h1,h2,h3,ni ..⟩
theorem zn (w:World) (o:Obj):Below w.heap.size w (w.alloc o):=(yB _ w).alloc (yA _) _
theorem pI (w:World) (o p:Obj):Below w.heap.size w ((w.alloc o).alloc p):=((yB _ w).alloc (yA _) _).alloc (by simp) _
theorem TY {n:Nat} (h:n≤1152921504606846976):hW n=0∧lW n=(n:Int):=by unfold hW lW;omega
theorem U5 {n:Nat} (h:¬n≤1152921504606846976) (h2:hW n=0):1152921504606846976<lW n:=by unfold hW lW at*;omega
theorem UO {n:Nat} (h:¬hW n=0):0<hW n:=by unfold hW at*;omega
theorem XN (N D:Nat) (neg:Bool) (w:World) (hN:N<2^127) (vK:0<D) (hD:D<2^127):Calls Tryz.prog 149 #[uW N,.bool neg,uW D] w fun e w'=>e=.returned (eU neg (N/Nat.gcd N D) (D/Nat.gcd N D))∧Below w.heap.size w w':=by
 have HS:=zh (MadW.start w N D);have e0:decide (D=0)=false:=yC (by omega);have HGc:=zh fun W=>Qw N D W hN vK hD;have MQ:0<Nat.gcd N D:=Nat.gcd_pos_of_pos_right _ vK;have PL:Nat.gcd N D<2^127:=Nat.lt_of_le_of_lt (Nat.gcd_le_right _ vK) hD;have sL:=zh fun W=>Qx N (Nat.gcd N D) W (Nat.lt_trans hN (by decide)) MQ PL;have cY:=zh fun W=>Qx D (Nat.gcd N D) W (Nat.lt_trans hD (by decide)) MQ PL;clear MQ PL hN vK hD
 generalize Nat.gcd N D=g at*;generalize N/g=n at*;generalize N%g=n2 at*;generalize D/g=d at*;generalize D%g=d2 at*;go_enter Tryz.func149,Tryz.ntmps149;go_upto_region 1 with fail;generalize (((w.alloc (.cells #[.int .u64 (hW N),.int .u64 (lW N)] 67)).alloc (.cells #[.int .u64 (hW D),.int .u64 (lW D)] 67)).alloc (.cells #[.int .i64 0,.int .i64 0] 29))=W1 at*;obtain⟨y0,y1⟩:=HS.o.by_.c2;go_upto_region 3 with (first|(refine jX _ rfl _ _ rfl rfl rfl ?_;simp only[Act.put,aC,aB,aA,e0])|fail)
 clear e0;obtain⟨x0,x1⟩:=HS.o.bx.c2;go_wp2_with fail;refine (HGc.o _).mono ?_;rintro e w2 ⟨rfl,aU⟩;have iw:=zh (HS.o.grow aU);clear aU HS HGc x0 x1 y0 y1;go_upto_region 4 with fail;have HB:=zh (Blk.new w2 67 #[.int .u64 (hW g),.int .u64 (lW g)]);have nF:=zh (iw.o.grow (zn w2 (.cells #[.int .u64 (hW g),.int .u64 (lW g)] 67)));clear iw;generalize w2.alloc (.cells #[.int .u64 (hW g),.int .u64 (lW g)] 67)=w3 at*
 generalize w2.heap.size=g8 at*;obtain⟨x0,x1⟩:=nF.o.bx.c2;obtain⟨y0,y1⟩:=HB.o.c2;go_wp2_with fail;refine (sL.o _).mono ?_;rintro e w4 ⟨rfl,bU⟩;have gP:=zh (nF.o.grow bU);have fI:=zh (HB.o.below bU HB.o.lt);clear bU nF HB sL x0 x1 y0 y1;go_upto_region 5 with fail;have HN:=zh ((Blk.new w4 67 #[.int .u64 (hW n),.int .u64 (lW n)]).alloc (.cells #[.int .u64 (hW n2),.int .u64 (lW n2)] 67));have dY:=zh (gP.o.grow (pI w4 (.cells #[.int .u64 (hW n),.int .u64 (lW n)] 67) (.cells #[.int .u64 (hW n2),.int .u64 (lW n2)] 67)))
 have cJ:=zh (fI.o.below (pI w4 (.cells #[.int .u64 (hW n),.int .u64 (lW n)] 67) (.cells #[.int .u64 (hW n2),.int .u64 (lW n2)] 67)) fI.o.lt);clear gP fI;generalize (w4.alloc (.cells #[.int .u64 (hW n),.int .u64 (lW n)] 67)).alloc (.cells #[.int .u64 (hW n2),.int .u64 (lW n2)] 67)=w5 at*;generalize w4.heap.size=g9 at*;obtain⟨x0,x1⟩:=dY.o.by_.c2;obtain⟨y0,y1⟩:=cJ.o.c2;go_wp2_with fail;refine (cY.o _).mono ?_
 rintro e w6 ⟨rfl,ie⟩;have GF:=zh (dY.o.grow ie);have Pe:=zh (HN.o.below ie HN.o.lt);clear ie dY cJ HN cY x0 x1 y0 y1;go_upto_region 6 with fail;have HE:=zh ((Blk.new w6 67 #[.int .u64 (hW d),.int .u64 (lW d)]).alloc (.cells #[.int .u64 (hW d2),.int .u64 (lW d2)] 67));have dP:=zh (GF.o.grow (pI w6 (.cells #[.int .u64 (hW d),.int .u64 (lW d)] 67) (.cells #[.int .u64 (hW d2),.int .u64 (lW d2)] 67)))
 have HN7:=zh (Pe.o.below (pI w6 (.cells #[.int .u64 (hW d),.int .u64 (lW d)] 67) (.cells #[.int .u64 (hW d2),.int .u64 (lW d2)] 67)) Pe.o.lt);clear GF Pe;generalize (w6.alloc (.cells #[.int .u64 (hW d),.int .u64 (lW d)] 67)).alloc (.cells #[.int .u64 (hW d2),.int .u64 (lW d2)] 67)=w7 at*;generalize w6.heap.size=g11 at*;obtain⟨x0,x1⟩:=HN7.o.c2;obtain⟨y0,y1⟩:=HE.o.c2;obtain⟨r0,r1⟩:=dP.o.res.c2;have f0:=dP.o.res.frozen 0
 have f1:=dP.o.res.frozen 1;have k7:=zh dP.o.bel;have Xo:=zh dP.o.res;have gM:Y0 (¬(n≤1152921504606846976∧d≤1152921504606846976)→eU neg n d=.tuple #[.agg #[.int .i64 0,.int .i64 0],.int .i64 5]):=fun h=>by unfold eU;exact if_neg h
 have mz:Y0 (n≤1152921504606846976∧d≤1152921504606846976→eU neg n d=.tuple #[.agg #[.int .i64 (if neg=true then -(n:Int) else (n:Int)),.int .i64 (d:Int)],.int .i64 0]):=fun h=>by unfold eU;exact if_pos h
 clear dP HN7 HE;by_cases hn:n≤1152921504606846976
 ·obtain⟨n0,n1⟩:=TY hn;rw[n0] at x0;rw[n1] at x1;have dn:decide (1152921504606846976<(n:Int))=false:=yC (by omega);have dn':decide (1152921504606846976<n)=false:=yC (by omega);clear n0 n1;by_cases hd:d≤1152921504606846976
  ·obtain⟨n0,n1⟩:=TY hd;rw[n0] at y0;rw[n1] at y1;have dd:decide (1152921504606846976<(d:Int))=false:=yC (by omega);have dd':decide (1152921504606846976<d)=false:=yC (by omega);have v1:IntKind.i64.wrap (n:Int)=(n:Int):=yF _ (by omega);have v2:IntKind.i64.wrap (d:Int)=(d:Int):=yF _ (by omega);have v3:IntKind.i64.wrap (-(n:Int))=-(n:Int):=yF _ (by omega);have v4:IntKind.i64.wrap (0-(n:Int))=-(n:Int):=(yF _ (by omega)).trans (by omega)
   have BR:=zh (mz.o ⟨hn,hd⟩);clear n0 n1 gM mz hn hd;cases neg
   case true=>
    have HV:Y0 (eU true n d=.tuple #[.agg #[.int .i64 (-(n:Int)),.int .i64 (d:Int)],.int .i64 0]):=BR.o;clear BR;have hr:=((Xo.o.set_ 0 (.int .i64 (-(n:Int)))).set_ 1 (.int .i64 ((d:Int))));have p0:=hr.cell 0;have p1:=hr.cell 1;simp only[aC,aB,aA,aG,aH,aD] at p0 p1;clear hr;go_wp2_with fail;refine YF (v:=.tuple #[.agg #[.int .i64 (-(n:Int)),.int .i64 ((d:Int))],.int .i64 0]) (by simp[results,Tryz.results149,go_sem,p0,p1]) rfl ?_
    exact⟨by rw[HV.o],(k7.o.setCell (p:=⟨w.heap.size+1+1,0,none⟩) (by show w.heap.size≤w.heap.size+1+1;omega) _).setCell (p:=⟨w.heap.size+1+1,1,none⟩) (by show w.heap.size≤w.heap.size+1+1;omega) _⟩
   have HV:Y0 (eU false n d=.tuple #[.agg #[.int .i64 (n:Int),.int .i64 (d:Int)],.int .i64 0]):=BR.o;clear BR;have hr:=((Xo.o.set_ 0 (.int .i64 ((n:Int)))).set_ 1 (.int .i64 ((d:Int))));have p0:=hr.cell 0;have p1:=hr.cell 1;simp only[aC,aB,aA,aG,aH,aD] at p0 p1;clear hr;go_wp2_with fail;refine YF (v:=.tuple #[.agg #[.int .i64 ((n:Int)),.int .i64 ((d:Int))],.int .i64 0]) (by simp[results,Tryz.results149,go_sem,p0,p1]) rfl ?_
   exact⟨by rw[HV.o],(k7.o.setCell (p:=⟨w.heap.size+1+1,0,none⟩) (by show w.heap.size≤w.heap.size+1+1;omega) _).setCell (p:=⟨w.heap.size+1+1,1,none⟩) (by show w.heap.size≤w.heap.size+1+1;omega) _⟩
  by_cases hz:hW d=0
  ·have dz:decide (1152921504606846976<lW d)=true:=yD (U5 hd hz);rw[hz] at y0;have HV:Y0 (eU neg n d=.tuple #[.agg #[.int .i64 0,.int .i64 0],.int .i64 5]):=gM.o (fun h=>hd h.2);clear gM mz;have hr:=((Xo.o.set_ 0 (.int .i64 (0))).set_ 1 (.int .i64 (0)));have p0:=hr.cell 0;have p1:=hr.cell 1;simp only[aC,aB,aA,aG,aH,aD] at p0 p1;clear hr;go_wp2_with fail;refine YF (v:=.tuple #[.agg #[.int .i64 (0),.int .i64 (0)],.int .i64 5]) (by simp[results,Tryz.results149,go_sem,p0,p1]) rfl ?_
   exact⟨by rw[HV.o],(k7.o.setCell (p:=⟨w.heap.size+1+1,0,none⟩) (by show w.heap.size≤w.heap.size+1+1;omega) _).setCell (p:=⟨w.heap.size+1+1,1,none⟩) (by show w.heap.size≤w.heap.size+1+1;omega) _⟩
  have dz:decide (0<hW d)=true:=yD (UO hz);have HV:Y0 (eU neg n d=.tuple #[.agg #[.int .i64 0,.int .i64 0],.int .i64 5]):=gM.o (fun h=>hd h.2);clear gM mz;have hr:=((Xo.o.set_ 0 (.int .i64 (0))).set_ 1 (.int .i64 (0)));have p0:=hr.cell 0;have p1:=hr.cell 1;simp only[aC,aB,aA,aG,aH,aD] at p0 p1;clear hr;go_wp2_with fail;refine YF (v:=.tuple #[.agg #[.int .i64 (0),.int .i64 (0)],.int .i64 5]) (by simp[results,Tryz.results149,go_sem,p0,p1]) rfl ?_
  exact⟨by rw[HV.o],(k7.o.setCell (p:=⟨w.heap.size+1+1,0,none⟩) (by show w.heap.size≤w.heap.size+1+1;omega) _).setCell (p:=⟨w.heap.size+1+1,1,none⟩) (by show w.heap.size≤w.heap.size+1+1;omega) _⟩
 by_cases hz:hW n=0
 ·have dz:decide (1152921504606846976<lW n)=true:=yD (U5 hn hz);rw[hz] at x0;have HV:Y0 (eU neg n d=.tuple #[.agg #[.int .i64 0,.int .i64 0],.int .i64 5]):=gM.o (fun h=>hn h.1);clear gM mz;have hr:=((Xo.o.set_ 0 (.int .i64 (0))).set_ 1 (.int .i64 (0)));have p0:=hr.cell 0;have p1:=hr.cell 1;simp only[aC,aB,aA,aG,aH,aD] at p0 p1;clear hr;go_wp2_with fail;refine YF (v:=.tuple #[.agg #[.int .i64 (0),.int .i64 (0)],.int .i64 5]) (by simp[results,Tryz.results149,go_sem,p0,p1]) rfl ?_
  exact⟨by rw[HV.o],(k7.o.setCell (p:=⟨w.heap.size+1+1,0,none⟩) (by show w.heap.size≤w.heap.size+1+1;omega) _).setCell (p:=⟨w.heap.size+1+1,1,none⟩) (by show w.heap.size≤w.heap.size+1+1;omega) _⟩
 have dz:decide (0<hW n)=true:=yD (UO hz);have HV:Y0 (eU neg n d=.tuple #[.agg #[.int .i64 0,.int .i64 0],.int .i64 5]):=gM.o (fun h=>hn h.1);clear gM mz;have hr:=((Xo.o.set_ 0 (.int .i64 (0))).set_ 1 (.int .i64 (0)));have p0:=hr.cell 0;have p1:=hr.cell 1;simp only[aC,aB,aA,aG,aH,aD] at p0 p1;clear hr;go_wp2_with fail;refine YF (v:=.tuple #[.agg #[.int .i64 (0),.int .i64 (0)],.int .i64 5]) (by simp[results,Tryz.results149,go_sem,p0,p1]) rfl ?_
 exact⟨by rw[HV.o],(k7.o.setCell (p:=⟨w.heap.size+1+1,0,none⟩) (by show w.heap.size≤w.heap.size+1+1;omega) _).setCell (p:=⟨w.heap.size+1+1,1,none⟩) (by show w.heap.size≤w.heap.size+1+1;omega) _⟩
theorem qv5 (x y:Nat):(x%4294967296*(y/4294967296)+(x/4294967296*(y%4294967296)+x%4294967296*(y%4294967296)/4294967296)%4294967296)*4294967296%18446744073709551616+x%4294967296*(y%4294967296)%4294967296=x*y%18446744073709551616:=by
 have e:x*y=(x/4294967296)*(y/4294967296)*(4294967296*4294967296)+((x/4294967296)*(y%4294967296)+(x%4294967296)*(y/4294967296))*4294967296+(x%4294967296)*(y%4294967296):=by
  rw[←Lib.split_mul,Nat.div_add_mod' x 4294967296,Nat.div_add_mod' y 4294967296]
 rw[e];generalize x/4294967296*(y/4294967296)=p;generalize x/4294967296*(y%4294967296)=q;generalize x%4294967296*(y/4294967296)=r;generalize x%4294967296*(y%4294967296)=s;omega
theorem Lw (n:Int) (w:World) (h1 : -1152921504606846976≤n) (h2:n≤1152921504606846976) :
  Calls Tryz.prog 25 #[.int .i64 n] w fun e w'=>e=.returned (.int .u64 (n.natAbs:Nat))∧w=w':=by
 by_cases h0:n<0
 ·have e1:IntKind.u64.wrap n=n+18446744073709551616:=by
   show n%18446744073709551616=_;omega
  have e2:Y0 (IntKind.u64.wrap (0-(n+18446744073709551616))=((n.natAbs:Nat):Int)):=by
   show (0-(n+18446744073709551616))%18446744073709551616=_;omega
  clear h1 h2;go_enter Tryz.func25,Tryz.ntmps25;go_wp2;go_ret;refine⟨?_,rfl⟩;rw[←e2.o,Int.zero_sub];rfl
 have e1:Y0 (IntKind.u64.wrap n=((n.natAbs:Nat):Int)):=by
  show n%18446744073709551616=_;omega
 clear h1 h2;go_enter Tryz.func25,Tryz.ntmps25;go_wp2;go_ret;refine⟨?_,rfl⟩;rw[←e1.o];rfl
theorem Qz (x y:Nat) (hx:x<18446744073709551616) (hy:y<18446744073709551616) (w:World) :
  Calls Tryz.prog 150 #[.int .u64 x,.int .u64 y] w fun e w'=>e=.returned (fq (x*y))∧Below w.heap.size w w':=by
 obtain⟨bd,bt,bw,hhi⟩:=Lib.mul64_hi x y hx hy;have Br:=qv5 x y;have ba:=Lib.half_mul_le (a:=x/4294967296) (b:=y/4294967296) (by omega) (by omega);have bb:=Lib.half_mul_le (a:=x/4294967296) (b:=y%4294967296) (by omega) (by omega);have bc:=Lib.half_mul_le (a:=x%4294967296) (b:=y/4294967296) (by omega) (by omega);have ba':x/4294967296*(y/4294967296)<18446744073709551616:=by omega
 have bb':x/4294967296*(y%4294967296)<18446744073709551616:=by omega
 have bc':x%4294967296*(y/4294967296)<18446744073709551616:=by omega
 have HB:=zh ((yB _ w).alloc (yA _) (.cells #[.int .u64 0,.int .u64 0] 67));go_enter Tryz.func150,Tryz.ntmps150;have bw':(x%4294967296*(y/4294967296)+(x/4294967296*(y%4294967296)+x%4294967296*(y%4294967296)/4294967296)%4294967296)<18446744073709551616:=by omega
 have vxp:x/4294967296*(y/4294967296)+(x/4294967296*(y%4294967296)+x%4294967296*(y%4294967296)/4294967296)/4294967296+(x%4294967296*(y/4294967296)+(x/4294967296*(y%4294967296)+x%4294967296*(y%4294967296)/4294967296)%4294967296)/4294967296=x*y/18446744073709551616:=by
  rw[Nat.add_comm (x%4294967296*(y/4294967296))];exact hhi
 have bh1:x/4294967296*(y/4294967296)+(x/4294967296*(y%4294967296)+x%4294967296*(y%4294967296)/4294967296)/4294967296<18446744073709551616:=by omega
 have bh:x/4294967296*(y/4294967296)+(x/4294967296*(y%4294967296)+x%4294967296*(y%4294967296)/4294967296)/4294967296+(x%4294967296*(y/4294967296)+(x/4294967296*(y%4294967296)+x%4294967296*(y%4294967296)/4294967296)%4294967296)/4294967296<18446744073709551616:=by omega
 have Mc:(x%4294967296*(y/4294967296)+(x/4294967296*(y%4294967296)+x%4294967296*(y%4294967296)/4294967296)%4294967296)*4294967296%18446744073709551616+x%4294967296*(y%4294967296)%4294967296<18446744073709551616:=by
  rw[Br];exact YJ _ (by decide)
 clear hhi bw;go_wp2;have hL:IntKind.u64.wrap (IntKind.u64.wrap ((((x%4294967296*(y/4294967296)+(x/4294967296*(y%4294967296)+x%4294967296*(y%4294967296)/4294967296)%4294967296):Nat):Int)*4294967296)+((x%4294967296*(y%4294967296)%4294967296:Nat):Int))=((x*y%18446744073709551616:Nat):Int):=by
  rw[show (((x%4294967296*(y/4294967296)+(x/4294967296*(y%4294967296)+x%4294967296*(y%4294967296)/4294967296)%4294967296):Nat):Int)*4294967296=(((x%4294967296*(y/4294967296)+(x/4294967296*(y%4294967296)+x%4294967296*(y%4294967296)/4294967296)%4294967296)*4294967296:Nat):Int) from (Int.natCast_mul _ 4294967296).symm,Mul64.wrapM,Mul64.addN,Br];exact Mul64.wrapN _ (YJ _ (by decide))
 simp only[Mul64.maskN x hx,Mul64.maskN y hy,Mul64.divN,Mul64.mulN,Mul64.addN,Mul64.wrapN _ bd,Mul64.wrapN _ bb',Mul64.wrapN _ bt,Mul64.maskN _ bt,Mul64.maskN _ bd,Mul64.wrapN _ bc',Mul64.wrapN _ bw',Mul64.wrapN _ ba',Mul64.wrapN _ bh1,Mul64.wrapN _ bh];simp only[hL,vxp];unfold fq;clear hL vxp Br bd bt bw' ba bb bc ba' bb' bc' bh1 bh Mc;generalize ((x*y/18446744073709551616:Nat):Int)=h;generalize ((x*y%18446744073709551616:Nat):Int)=l
 refine YF (v:=.agg #[.int .u64 h,.int .u64 l]) (by simp[results,Tryz.results150,go_sem]) rfl ?_;exact⟨rfl,(yB _ _).alloc (yA _) _⟩
