/- Parts of the proof, laid into one text: Itoa, Cmp, CmpW, LsF, LsC. -/
import Derived.Shelf.Bits.Mul64
import Derived.Shelf.Strconv.Itoa3
import Derived.Test.YtfhmbechennkbaaGreatDoorD4
namespace Go.Proofs.YtfhmbechennkbaaGreatDoor
set_option maxRecDepth 100000
set_option maxHeartbeats 40000000
open Go.RowKit Go.Shelf
def mul64Ren:Ren:=⟨fun | 264 => 125 | n => n,fun | 46 => 181 | 53 => 124 | n => n,fun n => n⟩
theorem mul64Lays:Lays.n264 Tryz.prog mul64Ren:={
 mixed:=by kernel_rfl
 f264:=Tryz.func125.trans (congrArg some (by kernel_rfl))
 t46:=Tryz.underlying181
 a46:=Tryz.isAgg181
 z46:=Tryz.sizeOf181
 v46:=Tryz.zeroValue181
 t53:=Tryz.underlying124
 a53:=Tryz.isAgg124
 z53:=Tryz.sizeOf124
 v53:=Tryz.zeroValue124 }
theorem bitsMul64 (x y:Nat) (hx:x<18446744073709551616) (hy:y<18446744073709551616) (w:World) :
  Calls Tryz.prog 125 #[.int .u64 x,.int .u64 y] w fun e w' => e = .returned (.tuple #[.int .u64 ((x*y / 18446744073709551616:Nat):Int),.int .u64 ((x*y % 18446744073709551616:Nat):Int)])∧w'=w :=
 Any.bits_Mul64 mul64Lays x y hx hy w
def itoaRen:Ren:=⟨fun | 129 => 199 | 171 => 37 | 243 => 78 | 246 => 123 | 283 => 163 | 284 => 164 | 285 => 165 | 286 => 166 | 317 => 198 | 318 => 200 | 319 => 201 | 320 => 202 | 337 => 221 | 338 => 222 | n => n,fun | 0 => 0 | 2 => 2 | 3 => 3 | 4 => 4 | 5 => 5 | 9 => 9 | 20 => 20 | 37 => 206 | 46 => 181 | 51 => 233 | 53 => 124 | 171 => 203 | 173 => 207 | 212 => 244 | 213 => 245 | 232 => 262 | 233 => 263 | n => n,fun | 17 => 0 | 18 => 1 | 19 => 2 | n => n⟩
theorem itoaLays:Lays.n171 Tryz.prog itoaRen:={
 mixed:=by kernel_rfl
 f129:=Tryz.func199.trans (congrArg some (by kernel_rfl))
 f171:=Tryz.func37.trans (congrArg some (by kernel_rfl))
 f243:=Tryz.func78.trans (congrArg some (by kernel_rfl))
 f246:=Tryz.func123.trans (congrArg some (by kernel_rfl))
 f283:=Tryz.func163.trans (congrArg some (by kernel_rfl))
 f284:=Tryz.func164.trans (congrArg some (by kernel_rfl))
 f285:=Tryz.func165.trans (congrArg some (by kernel_rfl))
 f286:=Tryz.func166.trans (congrArg some (by kernel_rfl))
 f317:=Tryz.func198.trans (congrArg some (by kernel_rfl))
 f318:=Tryz.func200.trans (congrArg some (by kernel_rfl))
 f319:=Tryz.func201.trans (congrArg some (by kernel_rfl))
 f320:=Tryz.func202.trans (congrArg some (by kernel_rfl))
 f337:=Tryz.func221.trans (congrArg some (by kernel_rfl))
 f338:=Tryz.func222.trans (congrArg some (by kernel_rfl))
 t0:=Tryz.underlying0
 a0:=Tryz.isAgg0
 z0:=Tryz.sizeOf0
 v0:=Tryz.zeroValue0
 t2:=Tryz.underlying2
 a2:=Tryz.isAgg2
 z2:=Tryz.sizeOf2
 v2:=Tryz.zeroValue2
 t3:=Tryz.underlying3
 a3:=Tryz.isAgg3
 z3:=Tryz.sizeOf3
 v3:=Tryz.zeroValue3
 t4:=Tryz.underlying4
 a4:=Tryz.isAgg4
 z4:=Tryz.sizeOf4
 v4:=Tryz.zeroValue4
 t5:=Tryz.underlying5
 a5:=Tryz.isAgg5
 z5:=Tryz.sizeOf5
 v5:=Tryz.zeroValue5
 t9:=Tryz.underlying9
 a9:=Tryz.isAgg9
 z9:=Tryz.sizeOf9
 v9:=Tryz.zeroValue9
 t20:=Tryz.underlying20
 a20:=Tryz.isAgg20
 z20:=Tryz.sizeOf20
 v20:=Tryz.zeroValue20
 t37:=Tryz.underlying206
 a37:=Tryz.isAgg206
 z37:=Tryz.sizeOf206
 v37:=Tryz.zeroValue206
 t46:=Tryz.underlying181
 a46:=Tryz.isAgg181
 z46:=Tryz.sizeOf181
 v46:=Tryz.zeroValue181
 t51:=Tryz.underlying233
 a51:=Tryz.isAgg233
 z51:=Tryz.sizeOf233
 v51:=Tryz.zeroValue233
 t53:=Tryz.underlying124
 a53:=Tryz.isAgg124
 z53:=Tryz.sizeOf124
 v53:=Tryz.zeroValue124
 t171:=Tryz.underlying203
 a171:=Tryz.isAgg203
 z171:=Tryz.sizeOf203
 v171:=Tryz.zeroValue203
 t173:=Tryz.underlying207
 a173:=Tryz.isAgg207
 z173:=Tryz.sizeOf207
 v173:=Tryz.zeroValue207
 t212:=Tryz.underlying244
 a212:=Tryz.isAgg244
 z212:=Tryz.sizeOf244
 v212:=Tryz.zeroValue244
 t213:=Tryz.underlying245
 a213:=Tryz.isAgg245
 z213:=Tryz.sizeOf245
 t232:=Tryz.underlying262
 a232:=Tryz.isAgg262
 z232:=Tryz.sizeOf262
 v232:=Tryz.zeroValue262
 t233:=Tryz.underlying263
 a233:=Tryz.isAgg263
 z233:=Tryz.sizeOf263
 v233:=Tryz.zeroValue263
 g17:=by kernel_rfl
 g18:=by kernel_rfl
 g19:=by kernel_rfl }
def itoaB (i:Nat):ByteArray:=⟨(Lib.decDigits i).toArray⟩
theorem strItoa (i:Nat) (hi:i<100) (w:World):Calls Tryz.prog 37 #[.int .i64 i] w fun e w' => e = .returned (.string (itoaB i))∧w'=w :=
 Any.strconv_Itoa_small itoaLays i hi w
abbrev wideV (n:Nat):Value:=.agg #[.int .u64 ((n / 18446744073709551616:Nat):Int),.int .u64 ((n % 18446744073709551616:Nat):Int)]
theorem raProduct (x y:Nat) (hx:x<18446744073709551616) (hy:y<18446744073709551616) (w:World) :
  Calls Tryz.prog 80 #[.int .u64 x,.int .u64 y] w fun e w' => e = .returned (wideV (x*y))∧Below w.heap.size w w':=by
 have hM:=fun W => bitsMul64 x y hx hy W
 have HD:=zh (Blk.new w 126 #[.int .u64 0,.int .u64 0])
 have HB:=zh ((Below.refl _ w).alloc (Nat.le_refl _) (.cells #[.int .u64 0,.int .u64 0] 126))
 clear hx hy
 unfold wideV
 generalize ((x*y / 18446744073709551616:Nat):Int)=h at *
 generalize ((x*y % 18446744073709551616:Nat):Int)=l at *
 have z0:=HD.out.cell 0
 have z1:=HD.out.cell 1
 have f0:=HD.out.frozen 0
 have f1:=HD.out.frozen 1
 simp only [zq1,zq2,zq3] at z0 z1
 go_enter Tryz.func80,Tryz.ntmps80
 go_wp2_with (go_at_call 125;refine (hM _).mono ?_;rintro e w' ⟨rfl,rfl⟩)
 refine bodyPost_ret (v:=.agg #[.int .u64 h,.int .u64 l]) (by simp [results,Tryz.results80,go_sem]) rfl ?_
 exact ⟨rfl,(Below.refl _ w).alloc (Nat.le_refl _) _⟩
theorem div_lt_of {m n K:Nat} (hK:0<K):m<n ↔ m / K<n / K∨(m / K=n / K∧m % K<n % K):=by
 have hm:=Nat.div_add_mod m K
 have hn:=Nat.div_add_mod n K
 have h1:=Nat.mod_lt m hK
 have h2:=Nat.mod_lt n hK
 constructor
 ·intro h
  rcases Nat.lt_trichotomy (m / K) (n / K) with h3 | h3 | h3
  ·exact .inl h3
  ·refine .inr ⟨h3,?_⟩
   rw [h3] at hm
   omega
  ·exfalso
   have:K*(n / K+1)≤K*(m / K):=Nat.mul_le_mul_left K h3
   rw [Nat.mul_add] at this
   omega
 ·rintro (h3 | ⟨h3,h4⟩)
  ·have:K*(m / K+1)≤K*(n / K):=Nat.mul_le_mul_left K h3
   rw [Nat.mul_add] at this
   omega
  ·rw [h3] at hm
   omega
theorem raLess (m n:Nat) (w:World):Calls Tryz.prog 82 #[wideV m,wideV n] w fun e w' => e = .returned (.bool (decide (m<n)))∧Below w.heap.size w w':=by
 have HV:Hid ((m<n) ↔ _):=div_lt_of (m:=m) (n:=n) (K:=18446744073709551616) (by decide)
 have HD:=zh (Blk.new w 126 #[.int .u64 ((m / 18446744073709551616:Nat):Int),.int .u64 ((m % 18446744073709551616:Nat):Int)])
 have HD2:=zh ((Blk.new w 126 #[.int .u64 ((m / 18446744073709551616:Nat):Int),.int .u64 ((m % 18446744073709551616:Nat):Int)]).alloc (.cells #[.int .u64 ((n / 18446744073709551616:Nat):Int),.int .u64 ((n % 18446744073709551616:Nat):Int)] 126))
 have HB:=zh (((Below.refl _ w).alloc (Nat.le_refl _) (.cells #[.int .u64 ((m / 18446744073709551616:Nat):Int),.int .u64 ((m % 18446744073709551616:Nat):Int)] 126)).alloc (by simp) (.cells #[.int .u64 ((n / 18446744073709551616:Nat):Int),.int .u64 ((n % 18446744073709551616:Nat):Int)] 126))
 unfold wideV
 generalize m / 18446744073709551616=mh at *
 generalize m % 18446744073709551616=ml at *
 generalize n / 18446744073709551616=nh at *
 generalize n % 18446744073709551616=nl at *
 by_cases h1:mh<nh
 ·have d1:decide (mh<nh)=true:=decide_eq_true h1
  have HR:Hid (decide (m<n)=true):=decide_eq_true (HV.out.2 (.inl h1))
  clear h1
  go_enter Tryz.func82,Tryz.ntmps82
  go_wp2
  go_ret
  exact ⟨Ze HR.out.symm,HB.out⟩
 ·have d1:decide (mh<nh)=false:=decide_eq_false h1
  by_cases h2:mh=nh
  ·subst h2
   have HR:Hid (decide (m<n)=decide (ml<nl)):=by
    unfold Hid
    rw [Bool.eq_iff_iff,decide_eq_true_iff,decide_eq_true_iff,HV.out]
    omega
   clear h1
   go_enter Tryz.func82,Tryz.ntmps82
   go_wp2
   go_ret
   exact ⟨Ze HR.out.symm,HB.out⟩
  ·have d2:((mh:Int) == (nh:Int))=false:=beq_eq_false_iff_ne.2 (by omega)
   have HR:Hid (decide (m<n)=false):=decide_eq_false (by rw [HV.out];omega)
   clear h1 h2
   go_enter Tryz.func82,Tryz.ntmps82
   go_wp2
   go_ret
   exact ⟨Ze HR.out.symm,HB.out⟩
def cmpF (a b:FrT):Int:=if a.num*b.den<b.num*a.den then -1 else if b.num*a.den<a.num*b.den then 1 else 0
theorem good_bd {x:FrT} (h:frGood x=true):1≤x.den∧x.den≤1152921504606846976 ∧ -1152921504606846976≤x.num∧x.num≤1152921504606846976:=by
 unfold frGood at h
 simp only [Bool.and_eq_true,decide_eq_true_eq] at h
 exact ⟨h.1.1.1.1,h.1.1.1.2,h.1.1.2,h.1.2⟩
def AtWide (B:Nat) (v:Value) (w:World):Prop:=∃ g,v = .pointer (some ⟨g,0,none⟩)∧B≤g∧Blk w g 126 #[.int .u64 0,.int .u64 0]
def gWd (B:Nat):GPost:=⟨fun v => ∃ g,v = .pointer (some ⟨g,0,none⟩),AtWide B,⟨_,0,rfl⟩,fun _ _ _ hb h => by
 obtain ⟨g,h1,h2,h3⟩:=h
 exact ⟨g,h1,h2,h3.below hb h3.lt⟩,true⟩
theorem gWd_new {P:Program} {o:Oper} {a:Act} {w:World} {B:Nat} (hB:B≤w.heap.size) (h:(execOp a.eval o).run P w = .ok (.value (.pointer (some ⟨w.heap.size,0,none⟩))) (w.alloc (.cells #[.int .u64 0,.int .u64 0] 126))):newAt P o a (gWd B) w :=
 ⟨_,_,h,(Below.refl _ _).alloc (Nat.le_refl _) _,⟨_,rfl⟩,⟨_,rfl,hB,Blk.new _ _ _⟩,fun _ => ⟨w.heap.size,rfl,Nat.le_refl _,by simp⟩⟩
theorem size_g {n:Int} (w:World) (h1 : -1152921504606846976≤n) (h2:n≤1152921504606846976) :
  Calls Tryz.prog 81 #[.int .i64 n] w fun e w' => ∃ v,e = .returned v∧Below w.heap.size w w'∧(gV (.int .u64 (n.natAbs:Nat))).σ v∧(gV (.int .u64 (n.natAbs:Nat))).φ v w' :=
 (raSize n w h1 h2).mono fun _ _ ⟨he,hw⟩ => ⟨_,he,hw ▸ Below.refl _ _,rfl,trivial⟩
theorem prod_g {x y:Nat} (w:World) (hx:x<18446744073709551616) (hy:y<18446744073709551616) :
  Calls Tryz.prog 80 #[.int .u64 x,.int .u64 y] w fun e w' => ∃ v,e = .returned v∧Below w.heap.size w w'∧(gV (wideV (x*y))).σ v∧(gV (wideV (x*y))).φ v w' :=
 (raProduct x y hx hy w).mono fun _ _ ⟨he,hb⟩ => ⟨_,he,hb,rfl,trivial⟩
theorem wides_stored {o w W : World} {g6 g7 : Nat} {xn xd yn yd : Value} (hB : Below w.heap.size w W) (h6 : w.heap.size + 1 < g6) (h7 : w.heap.size + 1 < g7) (hne : g7 ≠ g6) (b6 : Blk W g6 126 #[.int .u64 0,.int .u64 0]) (b7 : Blk W g7 126 #[.int .u64 0,.int .u64 0])
  (d0:Blk W w.heap.size 82 #[xn,xd]) (d1:Blk W (w.heap.size+1) 82 #[yn,yd]) (x0 x1 y0 y1:Value) (hW:o=((((W.setCell ⟨g6,0,none⟩ x0).setCell ⟨g6,1,none⟩ x1).setCell ⟨g7,0,none⟩ y0).setCell ⟨g7,1,none⟩ y1)) :
  Below w.heap.size w o∧Blk o g6 126 #[x0,x1]∧Blk o g7 126 #[y0,y1]∧Blk o w.heap.size 82 #[xn,xd]∧Blk o (w.heap.size+1) 82 #[yn,yd]:=by
 subst hW
 have k4:=fun {g:Nat} {t:TypeId} {c:Array Value} (hb:Blk W g t c) (h1:g≠g6) (h2:g≠g7) => (((hb.far (p:=⟨g6,0,none⟩) h1 x0).far (p:=⟨g6,1,none⟩) h1 x1).far (p:=⟨g7,0,none⟩) h2 y0).far (p:=⟨g7,1,none⟩) h2 y1
 exact ⟨(((hB.setCell (by show w.heap.size≤g6;omega) _).setCell (by show w.heap.size≤g6;omega) _).setCell (by show w.heap.size≤g7;omega) _).setCell (by show w.heap.size≤g7;omega) _,
  (((b6.set_ 0 x0).set_ 1 x1).far (p:=⟨g7,0,none⟩) (Ne.symm hne) y0).far (p:=⟨g7,1,none⟩) (Ne.symm hne) y1,(((b7.far (p:=⟨g6,0,none⟩) hne x0).far (p:=⟨g6,1,none⟩) hne x1).set_ 0 y0).set_ 1 y1,k4 d0 (by omega) (by omega),k4 d1 (by omega) (by omega)⟩
theorem cmp_nat {a b:FrT} (ha:frGood a=true) (hb:frGood b=true) (h0:0≤a.num) (hb0:0≤b.num):(a.num*b.den<b.num*a.den ↔ a.num.natAbs*b.den.natAbs<b.num.natAbs*a.den.natAbs)∧(b.num*a.den<a.num*b.den ↔ b.num.natAbs*a.den.natAbs<a.num.natAbs*b.den.natAbs):=by
 have h1:=(good_bd ha).1
 have h2:=(good_bd hb).1
 obtain ⟨an,ad⟩:=a
 obtain ⟨bn,bd⟩:=b
 simp only at *
 obtain ⟨x,rfl⟩:=Int.eq_ofNat_of_zero_le h0
 obtain ⟨y,rfl⟩:=Int.eq_ofNat_of_zero_le hb0
 obtain ⟨u,rfl⟩:=Int.eq_ofNat_of_zero_le (show 0≤ad by omega)
 obtain ⟨v,rfl⟩:=Int.eq_ofNat_of_zero_le (show 0≤bd by omega)
 simp only [Int.natAbs_natCast]
 rw [← Int.natCast_mul,← Int.natCast_mul]
 omega
theorem cmp_neg {a b:FrT} (ha:frGood a=true) (hb:frGood b=true) (h0:a.num<0) (hb0:0≤b.num):cmpF a b = -1:=by
 have h1:=(good_bd ha).1
 have h2:=(good_bd hb).1
 unfold cmpF
 have e1:a.num*b.den<0:=Int.mul_neg_of_neg_of_pos h0 (by omega)
 have e2:0≤b.num*a.den:=Int.mul_nonneg hb0 (by omega)
 rw [if_pos (by omega)]
theorem raCmp (a b:FrT) (w:World) (ha:frGood a=true) (hb:frGood b=true) (hb0:0≤b.num) :
  Calls Tryz.prog 40 #[a.val,b.val] w fun e w' => e = .returned (.tuple #[.int .i64 (cmpF a b),.int .i64 0])∧Below w.heap.size w w':=by
 have hva:=fun W => raValid a W
 have hvb:=fun W => raValid b W
 rw [ha] at hva
 rw [hb] at hvb
 have HN:=zh fun (h0:0≤a.num) => cmp_nat ha hb h0 hb0
 have HG:=zh fun (h0:a.num<0) => cmp_neg ha hb h0 hb0
 obtain ⟨a1,a2,a3,a4⟩:=good_bd ha
 obtain ⟨b1,b2,b3,b4⟩:=good_bd hb
 have wa:IntKind.u64.wrap a.den=((a.den.natAbs:Nat):Int):=by show a.den % 18446744073709551616=_;omega
 have wb:IntKind.u64.wrap b.den=((b.den.natAbs:Nat):Int):=by show b.den % 18446744073709551616=_;omega
 have hSa:=fun W => size_g (n:=a.num) W a3 a4
 have hSb:=fun W => size_g (n:=b.num) W b3 b4
 have hP1:=fun W => prod_g (x:=a.num.natAbs) (y:=b.den.natAbs) W (by omega) (by omega)
 have hP2:=fun W => prod_g (x:=b.num.natAbs) (y:=a.den.natAbs) W (by omega) (by omega)
 have dbn:decide (b.num<0)=false:=decide_eq_false (by omega)
 clear ha hb a1 a2 a3 a4 b1 b2 b3 b4
 have HV:Hid (cmpF a b=if a.num*b.den<b.num*a.den then -1 else if b.num*a.den<a.num*b.den then 1 else 0):=rfl
 generalize cmpF a b=cr at *
 obtain ⟨an,ad⟩:=a
 obtain ⟨bn,bd⟩:=b
 simp only at *
 have HSa:=zh hSa
 have HSb:=zh hSb
 have HP1:=zh hP1
 have HP2:=zh hP2
 clear hSa hSb hP1 hP2
 have D0:=(Blk.new w 82 #[.int .i64 an,.int .i64 ad]).alloc (.cells #[.int .i64 bn,.int .i64 bd] 82)
 have D1:=Blk.new (w.alloc (.cells #[.int .i64 an,.int .i64 ad] 82)) 82 #[.int .i64 bn,.int .i64 bd]
 rw [World.size_alloc] at D1
 have hB:=((Below.refl _ w).alloc (Nat.le_refl _) (.cells #[.int .i64 an,.int .i64 ad] 82)).alloc (by simp) (.cells #[.int .i64 bn,.int .i64 bd] 82)
 have hs:((w.alloc (.cells #[.int .i64 an,.int .i64 ad] 82)).alloc (.cells #[.int .i64 bn,.int .i64 bd] 82)).heap.size=w.heap.size+1+1:=by simp
 go_enter Tryz.func40,Tryz.ntmps40
 go_wp2_with fail
 generalize (w.alloc (.cells #[.int .i64 an,.int .i64 ad] 82)).alloc (.cells #[.int .i64 bn,.int .i64 bd] 82)=W1 at *
 refine (hva W1).mono ?_
 rintro e w2 ⟨rfl,hb2⟩
 have D0:=D0.below hb2 D0.lt
 have D1:=D1.below hb2 D1.lt
 have hB:=hB.trans (hb2.mono hB.size)
 have hs:w.heap.size+1<w2.heap.size:=by have:=hb2.size;omega
 have u0:=D1.cell 0
 have u1:=D1.cell 1
 simp only [zq1,zq2,zq3] at u0 u1
 go_wp2_with fail
 refine (hvb w2).mono ?_
 rintro e w3 ⟨rfl,hb3⟩
 clear u0 u1 hva hvb
 have D0:=zh (D0.below hb3 D0.lt)
 have D1:=zh (D1.below hb3 D1.lt)
 have HB:=zh (hB.trans (hb3.mono hB.size))
 have Hs:Hid (w.heap.size+1<w3.heap.size):=by have:=hb3.size;unfold Hid;omega
 clear hb2 hb3 hB hs
 go_wp2_with (exact Go.WalkKit.wp_stop)
 have y0:=D0.out.cell 0
 have y1:=D0.out.cell 1
 have y2:=D1.out.cell 0
 have y3:=D1.out.cell 1
 simp only [zq1,zq2,zq3] at y0 y1 y2 y3
 have u0:=HeldB.cell y0
 have u1:=HeldB.cell y1
 have u2:=HeldB.cell y2
 have u3:=HeldB.cell y3
 clear y0 y1 y2 y3
 refine wp_region_apart 16 (fun jx => if jx=2 then some (gV (.int .u64 (an.natAbs:Nat))) else if jx=6 then some (gV (wideV (an.natAbs*bd.natAbs))) else if jx=9 then some (gV (.int .u64 (bn.natAbs:Nat))) else if jx=13 then some (gV (wideV (bn.natAbs*ad.natAbs))) else if jx=14 then some (gWd w3.heap.size) else if jx=15 then some (gWd w3.heap.size) else none) [6,7] (by kernel_rfl) (by kernel_rfl) (by kernel_rfl) (two_none rfl rfl) ?_
 simp only [zt1,zt2,zt3,zt4]
 refine wpG_quiet 2 (by kernel_rfl) (by rfl) (by decide) ?_
 simp only [zt1,zt2,zt3,zt4]
 repeat (go_big_quiet_step (fail))
 refine wpQuiet_nil ?_
 refine wpG_call rfl rfl (fun w1 _ _ => ⟨81,#[.int .i64 an],by go_simp,HSa.out w1⟩) ?_
 rintro _ rfl
 simp only [Act.put,zs1,zs2,zs3]
 refine wpG_quiet 3 (by kernel_rfl) (by rfl) (by decide) ?_
 simp only [zt1,zt2,zt3,zt4]
 repeat (go_big_quiet_step (fail))
 refine wpQuiet_nil ?_
 refine wpG_call rfl rfl (fun w1 _ _ => ⟨80,#[.int .u64 (an.natAbs:Nat),.int .u64 (bd.natAbs:Nat)],by go_simp,HP1.out w1⟩) ?_
 rintro _ rfl
 simp only [Act.put,zs1,zs2,zs3]
 refine wpG_quiet 2 (by kernel_rfl) (by rfl) (by decide) ?_
 simp only [zt1,zt2,zt3,zt4]
 repeat (go_big_quiet_step (fail))
 refine wpQuiet_nil ?_
 refine wpG_call rfl rfl (fun w1 _ _ => ⟨81,#[.int .i64 bn],by go_simp,HSb.out w1⟩) ?_
 rintro _ rfl
 simp only [Act.put,zs1,zs2,zs3]
 refine wpG_quiet 3 (by kernel_rfl) (by rfl) (by decide) ?_
 simp only [zt1,zt2,zt3,zt4]
 repeat (go_big_quiet_step (fail))
 refine wpQuiet_nil ?_
 refine wpG_call rfl rfl (fun w1 _ _ => ⟨80,#[.int .u64 (bn.natAbs:Nat),.int .u64 (ad.natAbs:Nat)],by go_simp,HP2.out w1⟩) ?_
 rintro _ rfl
 simp only [Act.put,zs1,zs2,zs3]
 refine wpG_new rfl rfl (fun w1 hb1 _ => gWd_new hb1.size (by go_simp)) ?_
 rintro _ ⟨g6,rfl⟩
 simp only [Act.put,zs1,zs2,zs3]
 refine wpG_new rfl rfl (fun w1 hb1 _ => gWd_new hb1.size (by go_simp)) ?_
 rintro _ ⟨g7,rfl⟩
 simp only [Act.put,zs1,zs2,zs3]
 refine Zc ?_
 intro w8 hb8 hF hA
 have h6:AtWide w3.heap.size (.pointer (some ⟨g6,0,none⟩)) w8:=hF 6
 have h7:AtWide w3.heap.size (.pointer (some ⟨g7,0,none⟩)) w8:=hF 7
 have h67:g7≠g6:=fun e => (hA 6 (by simp) g6 rfl).2 7 (by simp) (by decide) (by rw [e];rfl)
 have D08:=D0.out.below hb8 D0.out.lt
 have D18:=D1.out.below hb8 D1.out.lt
 have B8:=HB.out.trans (hb8.mono HB.out.size)
 obtain ⟨_,e6,l6,b6⟩:=h6
 obtain ⟨_,e7,l7,b7⟩:=h7
 injection e6 with e6
 injection e6 with e6
 injection e6 with e6 _ _
 injection e7 with e7
 injection e7 with e7
 injection e7 with e7 _ _
 subst e6 e7
 have hs3:=Hs.out
 obtain ⟨B9,p6,p7,p0,p1⟩:=wides_stored B8 (by omega) (by omega) h67 b6 b7 D08 D18 (.int .u64 ((an.natAbs*bd.natAbs / 18446744073709551616:Nat):Int)) (.int .u64 ((an.natAbs*bd.natAbs % 18446744073709551616:Nat):Int)) (.int .u64 ((bn.natAbs*ad.natAbs / 18446744073709551616:Nat):Int)) (.int .u64 ((bn.natAbs*ad.natAbs % 18446744073709551616:Nat):Int)) rfl
 have HN':Hid (0≤an→(an*bd<bn*ad ↔ an.natAbs*bd.natAbs<bn.natAbs*ad.natAbs)∧(bn*ad<an*bd ↔ bn.natAbs*ad.natAbs<an.natAbs*bd.natAbs)):=HN.out
 have f60:=b6.frozen 0
 have f61:=b6.frozen 1
 have b7x:=(b7.far (p:=⟨g6,0,none⟩) h67 (.int .u64 ((an.natAbs*bd.natAbs / 18446744073709551616:Nat):Int))).far (p:=⟨g6,1,none⟩) h67 (.int .u64 ((an.natAbs*bd.natAbs % 18446744073709551616:Nat):Int))
 have b7y:=b7x.set_ 0 (.int .u64 ((bn.natAbs*ad.natAbs / 18446744073709551616:Nat):Int))
 have f70:=b7x.frozen 0
 have f71:=b7y.frozen 1
 have b70:=b7x.cell 0
 have b71:=b7y.cell 1
 have q60:=p6.cell 0
 have q61:=p6.cell 1
 have q70:=p7.cell 0
 have q71:=p7.cell 1
 have q00:=p0.cell 0
 have q10:=p1.cell 0
 have b60:=b6.cell 0
 have b61:=b6.cell 1
 simp only [zs1,zs2] at b71
 simp only [zq1,zq2,zq3] at q60 q61 q70 q71 q00 q10 b60 b61 b70 b71
 generalize an.natAbs*bd.natAbs=m at *
 generalize bn.natAbs*ad.natAbs=n at *
 have hL1:=fun W => raLess m n W
 have hL2:=fun W => raLess n m W
 unfold wideV at *
 generalize ((m / 18446744073709551616:Nat):Int)=mh at *
 generalize ((m % 18446744073709551616:Nat):Int)=ml at *
 generalize ((n / 18446744073709551616:Nat):Int)=nh at *
 generalize ((n % 18446744073709551616:Nat):Int)=nl at *
 have P6:=zh p6
 have P7:=zh p7
 have B9:=zh B9
 clear b7x b7y HN HSa HSb HP1 HP2 h67 hs3 Hs l6 l7 b6 b7 p6 p7 p0 p1 B8 D08 D18 hA hF hb8 HB D0 D1 u0 u1 u2 u3
 by_cases c0:an<0
 ·have hcr:=HG.out c0
  have d0:decide (an<0)=true:=decide_eq_true c0
  subst hcr
  clear c0 HG HN' HV
  go_wp2_with fail
  go_ret2
  exact ⟨rfl,B9.out⟩
 ·have d0:decide (an<0)=false:=decide_eq_false c0
  have hN:=HN'.out (by omega)
  have HV2:Hid (cr=if m<n then -1 else if n<m then 1 else 0):=by
   unfold Hid
   rw [HV.out]
   simp only [hN.1,hN.2]
  clear c0 HG HN' HV hN
  by_cases c1:m<n
  ·have e1:decide (m<n)=true:=decide_eq_true c1
   rw [e1] at hL1
   have hcr:cr = -1:=by rw [HV2.out,if_pos c1]
   subst hcr
   clear c1 e1 HV2 hL2
   go_wp2_with fail
   refine (hL1 _).mono ?_
   rintro e w5 ⟨rfl,hb5⟩
   have hb:=B9.out.trans (hb5.mono B9.out.size)
   go_wp2_with fail
   go_ret2
   exact ⟨rfl,hb⟩
  ·have e1:decide (m<n)=false:=decide_eq_false c1
   rw [e1] at hL1
   go_wp2_with fail
   refine (hL1 _).mono ?_
   rintro e w5 ⟨rfl,hb5⟩
   have HB5:=zh (B9.out.trans (hb5.mono B9.out.size))
   have P65:=P6.out.below hb5 P6.out.lt
   have P75:=P7.out.below hb5 P7.out.lt
   have q60:=P65.cell 0
   have q61:=P65.cell 1
   have q70:=P75.cell 0
   have q71:=P75.cell 1
   simp only [zq1,zq2,zq3] at q60 q61 q70 q71
   clear P65 P75 hb5 P6 P7 B9 e1 hL1
   by_cases c2:n<m
   ·have e2:decide (n<m)=true:=decide_eq_true c2
    rw [e2] at hL2
    have hcr:cr=1:=by rw [HV2.out,if_neg c1,if_pos c2]
    subst hcr
    clear c1 c2 e2 HV2
    go_wp2_with fail
    refine (hL2 _).mono ?_
    rintro e w6 ⟨rfl,hb6⟩
    have hb:=HB5.out.trans (hb6.mono HB5.out.size)
    go_wp2_with fail
    go_ret2
    exact ⟨rfl,hb⟩
   ·have e2:decide (n<m)=false:=decide_eq_false c2
    rw [e2] at hL2
    have hcr:cr=0:=by rw [HV2.out,if_neg c1,if_neg c2]
    subst hcr
    clear c1 c2 e2 HV2
    go_wp2_with fail
    refine (hL2 _).mono ?_
    rintro e w6 ⟨rfl,hb6⟩
    have hb:=HB5.out.trans (hb6.mono HB5.out.size)
    go_wp2_with fail
    go_ret2
    exact ⟨rfl,hb⟩
structure FindT where
 kind:Int
 name:ByteArray
deriving DecidableEq
def FindT.cells (x:FindT):List Value:=[.int .i64 x.kind,.string x.name]
def FindsAt (w:World) (B:Nat) (v:Value) (l:List FindT):Prop:=Flat w B v l.length (l.flatMap FindT.cells)
theorem info_find:(Tryz.prog.info? 39).map (fun i => (i.zero,i.size,i.bytes))=some (some (.agg #[.int .i64 0,.string ⟨#[]⟩]),2,24):=by kernel_rfl
def lineB (i:Nat):ByteArray:=⟨#[108,105,110,101]⟩ ++ itoaB (i+1)
theorem itoa_size (i:Nat) (hi:i<100):(itoaB i).size≤2:=by
 have h:∀ j,j<100→(Lib.decDigits j).length≤2:=by decide +kernel
 have:=h i hi
 unfold itoaB
 simpa [ByteArray.size] using this
def hitsTo (kind : Int) (p : FrT → Bool) (l : List FrT) : Nat → List FindT
 | 0 => []
 | k+1 => hitsTo kind p l k ++ (match l[k]? with | some f => if p f then [⟨kind,lineB k⟩] else [] | none => [])
theorem Zr {kind:Int} {p:FrT→Bool} {l:List FrT} {k:Nat} (hk:k<l.length) (h:p l[k]=true):hitsTo kind p l (k+1)=hitsTo kind p l k ++ [⟨kind,lineB k⟩]:=by
 rw [hitsTo,List.getElem?_eq_getElem hk]
 dsimp only
 rw [if_pos h]
theorem hits_no {kind:Int} {p:FrT→Bool} {l:List FrT} {k:Nat} (hk:k<l.length) (h:p l[k]=false):hitsTo kind p l (k+1)=hitsTo kind p l k:=by
 rw [hitsTo,List.getElem?_eq_getElem hk]
 dsimp only
 rw [if_neg (by rw [h];simp),List.append_nil]
theorem hits_len {kind : Int} {p : FrT → Bool} {l : List FrT} : ∀ k,(hitsTo kind p l k).length ≤ k
 | 0 => Nat.le_refl _
 | k+1 => by
  have:=hits_len (kind:=kind) (p:=p) (l:=l) k
  rw [hitsTo,List.length_append]
  split
  ·split <;> simp <;> omega
  ·simp;omega
structure FdS (W0 W:World) (ov:Value) (fs:List FindT):Prop where
 bel:Below W0.heap.size W0 W
 box:Blk W W0.heap.size 29 #[ov]
 own:W.ownsRow W0.heap.size 39 2 ov fs.length (fs.flatMap FindT.cells)
section
variable {W0 W W':World} {ov:Value} {fs:List FindT}
theorem FdS.below (h:FdS W0 W ov fs) (hb:Below W.heap.size W W'):FdS W0 W' ov fs :=
 ⟨h.bel.trans (hb.mono h.bel.size),h.box.below hb h.box.lt,ownsRow_of h.own hb⟩
theorem FdS.push (h:FdS W0 W ov fs) {v':Value} {w1:World} {y:FindT} (hown:w1.ownsRow W0.heap.size 39 2 v' (fs.length+1) (fs.flatMap FindT.cells ++ [.int .i64 y.kind,.string y.name])) (hg:W.grownBy w1 ov.ownBlock) :
  Blk w1 W0.heap.size 29 #[ov]∧FdS W0 (w1.setCell ⟨W0.heap.size,0,none⟩ v') v' (fs ++ [y]):=by
 have hr:=fun r (e:ov.ownBlock=some r) => own_at h.own e
 have e1:Blk w1 W0.heap.size 29 #[ov]:=h.box.kept hg (fun e => by
  obtain ⟨c',hc⟩:=hr _ e.symm
  have hb:=h.box
  unfold Blk at hb
  rw [hb] at hc
  injection hc with hc
  injection hc with _ hc _
  exact absurd hc (by decide))
 have hb1:Below W0.heap.size W0 w1:=h.bel.grown hg h.bel.size (fun k e => (h.own.lt k e).1)
 refine ⟨e1,hb1.setCell (Nat.le_refl _) _,e1.set_ 0 v',?_⟩
 have:(w1.setCell ⟨W0.heap.size,0,none⟩ v').ownsRow W0.heap.size 39 2 v' (fs.length+1) (fs.flatMap FindT.cells ++ [.int .i64 y.kind,.string y.name]):=hown.kept (e1.setGrown 0 v') (Zj hown fun r e c f hh => by
  obtain rfl:W0.heap.size=r:=by simpa using e
  unfold Blk at e1
  rw [e1] at hh
  injection hh with hh
  injection hh with _ hh _
  exact absurd hh (by decide))
 rw [List.length_append,List.flatMap_append]
 exact this
end
def AtFind (y:FindT) (v:Value) (w:World):Prop:=∃ g,v = .slice (some ⟨g,0,none⟩) 1 1∧Blk w g 39 #[.int .i64 y.kind,.string y.name]
def gFd (y:FindT):GPost:=⟨fun v => ∃ g,v = .slice (some ⟨g,0,none⟩) 1 1,AtFind y,⟨_,0,rfl⟩,fun _ _ _ hb h => by
 obtain ⟨g,h1,h2⟩:=h
 exact ⟨g,h1,h2.below hb h2.lt⟩,false⟩
theorem gFd_new {P:Program} {o:Oper} {a:Act} {w:World} {y:FindT} (h:(execOp a.eval o).run P w = .ok (.value (.slice (some ⟨w.heap.size,0,none⟩) 1 1)) (w.alloc (.cells #[.int .i64 y.kind,.string y.name] 39))):newAt P o a (gFd y) w :=
 ⟨_,_,h,(Below.refl _ _).alloc (Nat.le_refl _) _,⟨_,rfl⟩,⟨_,rfl,Blk.new _ _ _⟩,fun h => by cases h⟩
theorem itoa_g (i:Nat) (hi:i<100) (w:World):Calls Tryz.prog 37 #[.int .i64 i] w fun e w' => ∃ v,e = .returned v∧Below w.heap.size w w'∧(gV (.string (itoaB i))).σ v∧(gV (.string (itoaB i))).φ v w' :=
 (strItoa i hi w).mono fun _ _ ⟨he,hw⟩ => ⟨_,he,hw ▸ Below.refl _ _,rfl,trivial⟩
def FindPost (W0:World) (fs:List FindT) (e:Ending) (w':World):Prop:=e = .returned (.tuple #[])∧∃ ov,FdS W0 w' ov fs
theorem lsFind (kind : Int) (K : Nat) (C : Array Value) (p : FrT → Bool) (l : List FrT) (A : Option Addr) (c D4 : Nat) (ov : Value) (fs : List FindT) (W0 w : World) (eg : ∀ args w,(callFunc K args).run Tryz.prog w = .ok (.enter K args) w)
  (h4:W0.cell? ⟨D4,0,none⟩=some (.slice A l.length c)) (hD4:D4<W0.heap.size) (hL:FrsAt W0 W0.heap.size (.slice A l.length c) l) (hl:l.length≤12) (hfs:fs.length≤100) (hS:FdS W0 w ov fs)
  (hf:∀ t ∈ l,∀ W,Below W0.heap.size W0 W→Calls Tryz.prog K (#[t.val] ++ C) W fun e w' => e = .returned (.bool (p t))∧Below W.heap.size W w') :
  Calls Tryz.prog 36 #[.int .i64 kind,.func (.func K) #[] C,.pointer (some ⟨D4,0,none⟩),.pointer (some ⟨W0.heap.size,0,none⟩)] w (FindPost W0 (fs ++ hitsTo kind p l l.length)):=by
 obtain ⟨_,_,e,-,hc2,hc⟩:=hL.open_
 injection e with e1 _ e2
 subst e1 e2
 unfold maxLen at hc2
 have HC:=zh hc
 have HF:=zh hf
 have HS:=zh hS
 have H4:=zh h4
 have y4:=(hS.bel.cell (p:=⟨D4,0,none⟩) hD4).trans h4
 obtain ⟨iF,hiF,hzF0,hzF1,hzF2⟩:=info_parts info_find
 clear hL hc hf hS h4
 go_enter Tryz.func36,Tryz.ntmps36
 go_wp2_with fail
 go_loopw [10] (fun ix wr => ∃ k:Nat,k≤l.length∧ix = .int .i64 k∧Hid (∃ ov',FdS W0 wr ov' (fs ++ hitsTo kind p l k))) (fun ix _ => l.length-(intOf ix).toNat)
 case atStart => exact ⟨0,Nat.zero_le _,rfl,ov,by rw [hitsTo,List.append_nil];exact HS.out⟩
 case round =>
  clear y4 HS
  obtain ⟨k,hk,rfl,HX⟩:=hrel
  obtain ⟨ov',hT⟩:=HX.out
  have HT:=zh hT
  clear hT HX
  have k0:(0:Int)≤(k:Int):=Int.natCast_nonneg _
  by_cases hkl:k<l.length
  ·have k1:(k:Int)<(l.length:Int):=by omega
   obtain ⟨b1,o1,rfl,hb1,hx⟩:=HC.out k hkl
   have y0:=(HT.out.bel.cell (p:=⟨b1,o1+k*2,none⟩) hb1).trans (hx k hkl).1
   have y1:=(HT.out.bel.cell (p:=⟨b1,o1+k*2+1,none⟩) hb1).trans (hx k hkl).2
   have HY:=zh (Zr (kind:=kind) (p:=p) hkl)
   have HNo:=zh (hits_no (kind:=kind) (p:=p) hkl)
   have hcall:=HF.out l[k] (List.getElem_mem hkl)
   clear hx
   generalize l[k]=fr at *
   obtain ⟨num,den⟩:=fr
   simp only at y0 y1
   have HTa:=zh (HT.out.below ((Below.refl _ wr).alloc (Nat.le_refl _) (.cells #[.int .i64 num,.int .i64 den] 82)))
   have hca:=hcall _ HTa.out.bel
   cases hp:p ⟨num,den⟩ with
   | false =>
    rw [hp] at hca
    have HN:=zh (HNo.out hp)
    clear hp HY HNo hcall
    go_wp2_with (go_at_fn K;refine hca.mono ?_;rintro e w' ⟨rfl,hb'⟩)
    have HT2:=zh (HTa.out.below hb')
    clear hb' HTa HT
    go_roundw
    case rel => exact ⟨k+1,by omega,by go_num,ov',by rw [HN.out];exact HT2.out⟩
    case measure => simp [intOf];omega
   | true =>
    rw [hp] at hca
    have HN:=zh (HY.out hp)
    clear hp HY HNo hcall
    go_wp2_with (first | (go_at_fn K;refine hca.mono ?_;rintro e w' ⟨rfl,hb'⟩) | exact Go.WalkKit.wp_stop)
    have HT2:=zh (HTa.out.below hb')
    clear hb' HTa HT hca
    have yo0:=HT2.out.box.cell 0
    simp only [zq1,zq3] at yo0
    have yo:=HeldB.cell yo0
    clear yo0
    have v1:IntKind.i64.wrap ((k:Int)+1)=(k:Int)+1:=IntWalk.i64_in _ (by omega)
    have hk100:k+1<100:=by omega
    have hIt:=fun W => itoa_g (k+1) hk100 W
    have hib:=itoa_size (k+1) hk100
    have HLB:Hid (lineB k=⟨#[108,105,110,101]⟩ ++ itoaB (k+1)):=rfl
    generalize itoaB (k+1)=ib at *
    have hcc:=fun W => run_string_add_sum (P:=Tryz.prog) W ⟨#[108,105,110,101]⟩ ib (by show 4+ib.size≤_;omega)
    rw [← HLB.out] at hcc
    rw [Int.natCast_add,Int.natCast_one] at hIt
    refine wp_region_grow 8 (fun jx => if jx=4 then some (gV (.string ib)) else if jx=7 then some (gFd ⟨kind,lineB k⟩) else none) (by kernel_rfl) (by kernel_rfl) ?_
    simp only [zt1,zt2,zt3,zt4]
    refine wpG_quiet 4 (by kernel_rfl) (by rfl) (by decide) ?_
    simp only [zt1,zt2,zt3,zt4]
    repeat (go_big_quiet_step (fail))
    refine wpQuiet_nil ?_
    refine wpG_call rfl rfl (fun w1 _ _ => ⟨37,#[.int .i64 ((k:Int)+1)],by go_simp,hIt w1⟩) ?_
    rintro _ rfl
    simp only [Act.put,zs1,zs2,zs3]
    refine wpG_quiet 2 (by kernel_rfl) (by rfl) (by decide) ?_
    simp only [zt1,zt2,zt3,zt4]
    repeat (go_big_quiet_step (fail))
    refine wpQuiet_nil ?_
    refine wpG_new rfl rfl (fun w1 hb1 _ => gFd_new (by go_simp)) ?_
    rintro _ ⟨g25,rfl⟩
    simp only [Act.put,zs1,zs2,zs3]
    refine Zc ?_
    intro w8 hb8 hF
    have h25:AtFind ⟨kind,lineB k⟩ (.slice (some ⟨g25,0,none⟩) 1 1) w8:=hF 25
    obtain ⟨_,e25,b25⟩:=h25
    injection e25 with e25
    injection e25 with e25
    injection e25 with e25 _ _
    subst e25
    have HT8:=zh (HT2.out.below hb8)
    have Hnew:=zh (World.news_of_block b25)
    have hlen:(fs ++ hitsTo kind p l k).length≤200:=by
     rw [List.length_append]
     have:=hits_len (kind:=kind) (p:=p) (l:=l) k
     omega
    have hsz:=HT8.out.bel.size
    clear hF hb8 b25 HT2 yo
    go_wp2_with (at_builtin;refine wpList_append_own _ rfl _ _ 29 rfl W0.heap.size 39 iF (.agg #[.int .i64 0,.string ⟨#[]⟩]) 2 24 Tryz.underlying29 hiF hzF0 hzF1 hzF2 rfl (by decide) _ _ _ rfl HT8.out.own ⟨g25,0,none⟩ 1 1 [.int .i64 kind,.string (lineB k)] rfl rfl Hnew.out (by simp [Value.oneCell']) (by unfold maxLen;omega) (by omega) hsz ?_;intro v' w1 hown' hgrow _;obtain ⟨g',cap',rfl⟩:=ownsRow_succ hown';have HPu:=zh (HT8.out.push (y:=⟨kind,lineB k⟩) hown' hgrow);have yb:=HPu.out.1.cell 0;have fb:=HPu.out.1.frozen 0;simp only [zq1,zq3] at yb;clear hown' hgrow)
    clear HT8 Hnew
    go_roundw
    case rel => exact ⟨k+1,by omega,by go_num,_,by have h:=HPu.out.2;rw [List.length_append] at h;rw [HN.out,← List.append_assoc];exact h⟩
    case measure => simp [intOf];omega
  ·obtain rfl:k=l.length:=by omega
   go_wp2_with fail
   refine bodyPost_ret (v:=.tuple #[]) (by simp [results,Tryz.results36,go_sem]) rfl ?_
   exact ⟨rfl,ov',HT.out⟩
theorem entersF1:∀ args w,(callFunc 36 args).run Tryz.prog w = .ok (.enter 36 args) w:=enters_of Tryz.func36 (by kernel_rfl) rfl
theorem entersF2:∀ args w,(callFunc 38 args).run Tryz.prog w = .ok (.enter 38 args) w:=enters_of Tryz.func38 (by kernel_rfl) rfl
theorem entersF3:∀ args w,(callFunc 39 args).run Tryz.prog w = .ok (.enter 39 args) w:=enters_of Tryz.func39 (by kernel_rfl) rfl
def pushB (f:FrT):Bool:=decide (f.num<0)
def overB (m:Int) (f:FrT):Bool:=decide (0<cmpF f ⟨m,1⟩)
theorem lsChk2 (f:FrT) (w:World):Calls Tryz.prog 38 #[f.val] w fun e w' => e = .returned (.bool (pushB f))∧Below w.heap.size w w':=by
 have HV:Hid (pushB f=decide (f.num<0)):=rfl
 obtain ⟨num,den⟩:=f
 simp only at *
 go_enter Tryz.func38,Tryz.ntmps38
 go_wp2_with fail
 go_ret
 exact ⟨Ze HV.out.symm,(Below.refl _ _).alloc (Nat.le_refl _) _⟩
theorem good_int {m:Int} (h1 : -1152921504606846976≤m) (h2:m≤1152921504606846976):frGood ⟨m,1⟩=true:=by
 unfold frGood
 simp only [Bool.and_eq_true,decide_eq_true_eq,beq_iff_eq]
 refine ⟨⟨⟨⟨by omega,by omega⟩,h1⟩,h2⟩,?_⟩
 show ((Nat.gcd m.natAbs 1:Nat):Int)=1
 rw [Nat.gcd_one_right]
 rfl
theorem lsChk3 (f:FrT) (m:Int) (D:Nat) (w:World) (hf:frGood f=true) (hm:1≤m∧m≤67108864) (h9:w.cell? ⟨D,9,none⟩=some (.int .i64 m)) (hD:D<w.heap.size) :
  Calls Tryz.prog 39 (#[f.val] ++ #[.pointer (some ⟨D,0,none⟩)]) w fun e w' => e = .returned (.bool (overB m f))∧Below w.heap.size w w':=by
 have HV:Hid (overB m f=decide (0<cmpF f ⟨m,1⟩)):=rfl
 have hcm:=fun W => raCmp f ⟨m,1⟩ W hf (good_int (by omega) (by omega)) (by show 0≤m;omega)
 generalize cmpF f ⟨m,1⟩=cr at *
 have HB:=zh ((Below.refl _ w).alloc (Nat.le_refl _) (.cells #[.int .i64 f.num,.int .i64 f.den] 82))
 have h9':=(HB.out.cell (p:=⟨D,9,none⟩) hD).trans h9
 clear hf hm h9
 obtain ⟨num,den⟩:=f
 simp only at *
 show Calls Tryz.prog 39 #[.agg #[.int .i64 num,.int .i64 den],.pointer (some ⟨D,0,none⟩)] w _
 go_enter Tryz.func39,Tryz.ntmps39
 go_wp2_with fail
 refine (hcm _).mono ?_
 rintro e w2 ⟨rfl,hb2⟩
 have hb:=HB.out.trans (hb2.mono HB.out.size)
 go_wp2_with fail
 go_ret
 exact ⟨Ze HV.out.symm,hb⟩
theorem good_of {q:Rat} (h:fracOk q=true):frGood (frOf q)=true:=by
 unfold fracOk at h
 simp only [Bool.and_eq_true,decide_eq_true_eq] at h
 have h1:=q.den_pos
 unfold frGood frOf
 simp only [Bool.and_eq_true,decide_eq_true_eq,beq_iff_eq]
 refine ⟨⟨⟨⟨by omega,by omega⟩,by omega⟩,by omega⟩,?_⟩
 have:=q.reduced
 unfold Nat.Coprime at this
 rw [Int.natAbs_natCast,this]
 rfl
theorem lines_good {s:SetT} (h:Zs s=0):setB s=true∧(∀ f ∈ linesL s,frGood f=true)∧(linesL s).length≤12:=by
 unfold Zs at h
 cases hs:setB s with
 | false => rw [hs] at h;cases h
 | true =>
  rw [hs] at h
  cases ha:allOk (reactL (beamS s)) with
  | false => rw [ha] at h;cases h
  | true =>
   refine ⟨rfl,fun f hf => ?_,?_⟩
   ·unfold linesL at hf
    rw [List.mem_map] at hf
    obtain ⟨q,hq,rfl⟩:=hf
    unfold allOk at ha
    exact good_of (List.all_eq_true.1 ha q hq)
   ·have:=(set_two hs).2
    unfold linesL reactL
    rw [List.length_map,List.length_map,List.length_range]
    show s.lines.length≤12
    omega
def holdF (s:SetT):List FindT:=if holdsB s then [] else [⟨1,s.name⟩]
def findsL (s:SetT):List FindT:=holdF s ++ hitsTo 2 pushB (linesL s) (linesL s).length ++ hitsTo 3 (overB s.most) (linesL s) (linesL s).length
def CheckPost (s:SetT) (w:World) (e:Ending) (w':World):Prop :=
 Below w.heap.size w w'∧((Zs s=0∧∃ v,e = .returned (.tuple #[v,.int .i64 0])∧FindsAt w' w'.heap.size v (findsL s))∨(Zs s≠0∧e = .returned (.tuple #[.slice none 0 0,.int .i64 (Zs s)])))
theorem lsCheck (v:Value) (s:SetT) (w:World) (hv:SetAt w w.heap.size v s) (hn:SetNames s):Calls Tryz.prog 8 #[v] w (CheckPost s w):=by
 have HLi:=fun W (hb:Below w.heap.size w W) => batLinesT v s W ((hv.below hb (Nat.le_refl _)).mono hb.size) hn
 have HHo:=zh fun W (hb:Below w.heap.size w W) => arbHolds v s W ((hv.below hb (Nat.le_refl _)).mono hb.size) hn
 obtain ⟨Al,cl,Ai,ci,Ab,cb,rfl,-,-,-⟩:=hv
 have HD:=zh (Blk.new w 26 #[.string s.name,.int .i64 s.depth,.int .i64 s.low,.int .i64 s.high,.int .i64 s.len,.slice Al s.lines.length cl,.int .i64 s.pipe,.int .i64 s.arbor,.int .i64 s.purch,.int .i64 s.most,.int .i64 s.brake,.slice Ai s.items.length ci,.slice Ab s.bricks.length cb])
 have HB1:=zh ((Below.refl _ w).alloc (Nat.le_refl _) (.cells #[.string s.name,.int .i64 s.depth,.int .i64 s.low,.int .i64 s.high,.int .i64 s.len,.slice Al s.lines.length cl,.int .i64 s.pipe,.int .i64 s.arbor,.int .i64 s.purch,.int .i64 s.most,.int .i64 s.brake,.slice Ai s.items.length ci,.slice Ab s.bricks.length cb] 26))
 have hli:=HLi _ HB1.out
 clear HLi hn
 unfold setVal at *
 go_enter Tryz.func8,Tryz.ntmps8
 go_wp2_with fail
 generalize w.alloc (.cells #[.string s.name,.int .i64 s.depth,.int .i64 s.low,.int .i64 s.high,.int .i64 s.len,.slice Al s.lines.length cl,.int .i64 s.pipe,.int .i64 s.arbor,.int .i64 s.purch,.int .i64 s.most,.int .i64 s.brake,.slice Ai s.items.length ci,.slice Ab s.bricks.length cb] 26)=W1 at *
 refine hli.mono ?_
 rintro e w2 ⟨hb2,⟨hE,v2,rfl,h4⟩ | ⟨hE,rfl⟩⟩
 rotate_left
 ·have HB2:=zh (HB1.out.trans (hb2.mono HB1.out.size))
  have HE:=zh hE
  have hk2:(Zs s != 0)=true:=bne_iff_ne.2 hE
  generalize hg:Zs s=k at *
  have Hg:=zh hg
  clear hli hb2 hE hg
  go_wp2_with fail
  go_ret2
  exact ⟨HB2.out.alloc HB2.out.size _,.inr ⟨by rw [Hg.out];exact HE.out,by rw [Hg.out];rfl⟩⟩
 obtain ⟨hok,hgood,h12⟩:=lines_good hE
 have hkk:=Zm hok
 have hmost:=hkk.most
 have HG:=zh hgood
 have H0:=zh hE
 obtain ⟨A,c,rfl,hc1,hc2,-⟩:=h4.open_
 have HB2:=zh (HB1.out.trans (hb2.mono HB1.out.size))
 have HD2:=zh (HD.out.below hb2 HD.out.lt)
 have HF4:=zh h4
 have hsz2:=hb2.size
 have HD3:=zh (HD2.out.alloc (.cells #[.slice A (linesL s).length c] 59))
 have HB3:=zh (HB2.out.alloc HB2.out.size (.cells #[.slice A (linesL s).length c] 59))
 have HF3:=zh ((HF4.out.below ((Below.refl _ w2).alloc (Nat.le_refl _) (.cells #[.slice A (linesL s).length c] 59)) (Nat.le_refl _)).mono (by simp:w2.heap.size≤(w2.alloc (.cells #[.slice A (linesL s).length c] 59)).heap.size))
 have HX3:=zh (Blk.new w2 59 #[.slice A (linesL s).length c])
 have z0:=HD3.out.cell 0
 have z1:=HD3.out.cell 1
 have z2:=HD3.out.cell 2
 have z3:=HD3.out.cell 3
 have z4:=HD3.out.cell 4
 have z5:=HD3.out.cell 5
 have z6:=HD3.out.cell 6
 have z7:=HD3.out.cell 7
 have z8:=HD3.out.cell 8
 have z9:=HD3.out.cell 9
 have z10:=HD3.out.cell 10
 have z11:=HD3.out.cell 11
 have z12:=HD3.out.cell 12
 simp only [zq1,zq2,zq3] at z0 z1 z2 z3 z4 z5 z6 z7 z8 z9 z10 z11 z12
 have hho:=HHo.out _ HB3.out
 rw [if_pos hok] at hho
 clear hli hb2 hE h4 hgood hkk hok HD HHo
 go_wp2_with fail
 generalize w2.alloc (.cells #[.slice A (linesL s).length c] 59)=w3 at *
 refine hho.mono ?_
 rintro e w4 ⟨rfl,hb4⟩
 have HB4:=zh (HB3.out.trans (hb4.mono HB3.out.size))
 have HD4:=zh (HD3.out.below hb4 HD3.out.lt)
 have HX4:=zh (HX3.out.below hb4 HX3.out.lt)
 have HF5:=zh ((HF3.out.below hb4 (Nat.le_refl _)).mono hb4.size)
 have hD4:w2.heap.size<w4.heap.size:=HX4.out.lt
 have hDs:w.heap.size<w4.heap.size:=HD4.out.lt
 have hx4:w4.cell? ⟨w2.heap.size,0,none⟩=some (.slice A (linesL s).length c):=HX4.out.cell 0
 have hm9:∀ W,Below w4.heap.size w4 W→W.cell? ⟨w.heap.size,9,none⟩=some (.int .i64 s.most):=fun W hb => (hb.cell (p:=⟨w.heap.size,9,none⟩) hDs).trans (HD4.out.cell 9)
 have hF2:Hid (∀ ov fs W,fs.length≤100→FdS w4 W ov fs→Calls Tryz.prog 36 #[.int .i64 2,.func (.func 38) #[] #[],.pointer (some ⟨w2.heap.size,0,none⟩),.pointer (some ⟨w4.heap.size,0,none⟩)] W (FindPost w4 (fs ++ hitsTo 2 pushB (linesL s) (linesL s).length))):=fun ov fs W hfs hS =>
  lsFind 2 _ #[] pushB (linesL s) A c w2.heap.size ov fs w4 W entersF2 hx4 hD4 HF5.out h12 hfs hS (fun t _ W _ => by rw [show #[t.val] ++ #[]=#[t.val] by simp];exact lsChk2 t W)
 have hF3:Hid (∀ ov fs W,fs.length≤100→FdS w4 W ov fs→Calls Tryz.prog 36 #[.int .i64 3,.func (.func 39) #[] #[.pointer (some ⟨w.heap.size,0,none⟩)],.pointer (some ⟨w2.heap.size,0,none⟩),.pointer (some ⟨w4.heap.size,0,none⟩)] W (FindPost w4 (fs ++ hitsTo 3 (overB s.most) (linesL s) (linesL s).length))):=fun ov fs W hfs hS =>
  lsFind 3 _ _ (overB s.most) (linesL s) A c w2.heap.size ov fs w4 W entersF3 hx4 hD4 HF5.out h12 hfs hS (fun t ht W hb => lsChk3 t s.most w.heap.size W (HG.out t ht) hmost (hm9 W hb) (Nat.lt_of_lt_of_le hDs hb.size))
 have hl1:=hits_len (kind:=2) (p:=pushB) (l:=linesL s) (linesL s).length
 have hh1:(holdF s).length≤1:=by unfold holdF;split <;> simp
 have HfS:Hid (findsL s=holdF s ++ hitsTo 2 pushB (linesL s) (linesL s).length ++ hitsTo 3 (overB s.most) (linesL s) (linesL s).length):=rfl
 have HHF:Hid (holdF s=if holdsB s then [] else [⟨1,s.name⟩]):=rfl
 have q0:=HD4.out.cell 0
 have q0':=fun o => (HD4.out.alloc o).cell 0
 have q0'':=fun o o' => ((HD4.out.alloc o).alloc o').cell 0
 simp only [zq1,zq3] at q0 q0' q0''
 have HS0:Hid (FdS w4 (w4.alloc (.cells #[.slice none 0 0] 29)) (.slice none 0 0) []):=⟨(Below.refl _ _).alloc (Nat.le_refl _) _,Blk.new _ _ _,World.ownsRow_nil _ _ _ _⟩
 have eg1:=entersF1
 obtain ⟨iF,hiF,hzF0,hzF1,hzF2⟩:=info_parts info_find
 clear z0 z1 z2 z3 z4 z5 z6 z7 z8 z9 z10 z11 z12 hb4 hho HD3 HB3 HF3 HX3 HD2 HB2 HF4 hsz2 hm9 hx4 hmost HG HD4 HX4 HF5
 cases hh:holdsB s with
 | true =>
  have HS5:Hid (FdS w4 (w4.alloc (.cells #[.slice none 0 0] 29)) (.slice none 0 0) (holdF s)):=by
   unfold Hid
   rw [HHF.out,hh]
   exact HS0.out
  clear HS0 hh
  have hsz6:Hid ((holdF s ++ hitsTo 2 pushB (linesL s) (linesL s).length).length≤100):=by unfold Hid;rw [List.length_append];omega
  go_wp2_with fail
  refine (hF2.out _ _ _ (by omega) HS5.out).mono ?_
  rintro e w6 ⟨rfl,ov6,h6⟩
  have HS6:=zh h6
  clear h6 HS5
  go_wp2_with fail
  refine (hF3.out _ _ _ hsz6.out HS6.out).mono ?_
  rintro e w7 ⟨rfl,ov7,h7⟩
  have HS7:=zh h7
  have yo:=h7.box.cell 0
  simp only [zq1,zq3] at yo
  clear h7
  go_wp2_with fail
  go_ret2
  exact ⟨HB4.out.trans (HS7.out.bel.mono HB4.out.size),.inl ⟨H0.out,_,rfl,by rw [HfS.out];exact Flat.of_own HS7.out.own⟩⟩
 | false =>
  have HHF2:Hid (holdF s=[⟨1,s.name⟩]):=by
   unfold Hid
   rw [HHF.out,hh]
   rfl
  clear hh
  have HA:=zh (HS0.out.below ((Below.refl _ _).alloc (Nat.le_refl _) (.cells #[.int .i64 1,.string s.name] 39)))
  have hnew:=World.news_of_block (Blk.new (w4.alloc (.cells #[.slice none 0 0] 29)) 39 #[.int .i64 1,.string s.name])
  rw [World.size_alloc] at hnew
  have Hnew:=zh hnew
  have hsz:=HA.out.bel.size
  clear hnew HS0
  go_wp2_with (at_builtin;refine wpList_append_own _ rfl _ _ 29 rfl w4.heap.size 39 iF (.agg #[.int .i64 0,.string ⟨#[]⟩]) 2 24 Tryz.underlying29 hiF hzF0 hzF1 hzF2 rfl (by decide) _ _ _ rfl HA.out.own ⟨w4.heap.size+1,0,none⟩ 1 1 [.int .i64 1,.string s.name] rfl rfl Hnew.out (by simp [Value.oneCell']) (by unfold maxLen;simp) (by simp) hsz ?_;intro v' w5 hown' hgrow _;obtain ⟨g',cap',rfl⟩:=ownsRow_succ hown';have HPu:=zh (HA.out.push (y:=⟨1,s.name⟩) hown' hgrow);have yb:=HPu.out.1.cell 0;have fb:=HPu.out.1.frozen 0;simp only [zq1,zq3] at yb;have HS5:Hid (FdS w4 (w5.setCell ⟨w4.heap.size,0,none⟩ (.slice (some ⟨g',0,none⟩) (0+1) cap')) (.slice (some ⟨g',0,none⟩) (0+1) cap') (holdF s)):=(by unfold Hid;rw [HHF2.out];exact HPu.out.2);clear hown' hgrow)
  have hsz6:Hid ((holdF s ++ hitsTo 2 pushB (linesL s) (linesL s).length).length≤100):=by unfold Hid;rw [List.length_append];omega
  refine (hF2.out _ _ _ (by omega) HS5.out).mono ?_
  rintro e w6 ⟨rfl,ov6,h6⟩
  have HS6:=zh h6
  clear h6 HS5
  go_wp2_with fail
  refine (hF3.out _ _ _ hsz6.out HS6.out).mono ?_
  rintro e w7 ⟨rfl,ov7,h7⟩
  have HS7:=zh h7
  have yo:=h7.box.cell 0
  simp only [zq1,zq3] at yo
  clear h7
  go_wp2_with fail
  go_ret2
  exact ⟨HB4.out.trans (HS7.out.bel.mono HB4.out.size),.inl ⟨H0.out,_,rfl,by rw [HfS.out];exact Flat.of_own HS7.out.own⟩⟩
end Go.Proofs.YtfhmbechennkbaaGreatDoor
