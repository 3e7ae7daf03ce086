/- Lemmas. -/
import Derived.Test.YtmmhehgajkaniaaGreatDoorZ10
namespace Go.Proofs.YtmmhehgajkaniaaGreatDoor
set_option maxRecDepth 100000
set_option maxHeartbeats 40000000
open Go.RowKit Go.Shelf Go.WideMaps Go.Maps
def s7 (L:List ByteArray):Nat→Nat
 | 0=>0
 | j+1=>if L.getD j default∈L.take j then s7 L j else s7 L j+1
theorem CW (L:List ByteArray):∀j,s7 L j ≤ j
 | 0=>yA _
 | j+1=>by
  have:=CW L j;unfold s7;split <;> omega
def iG (L:List ByteArray):Bool:=decide (s7 L L.length<L.length)
def NameMap (w:World) (b:Nat) (L:List ByteArray) (j:Nat):Prop :=
 ∃D,w.ownsMap Tryz.prog 9 (unitElem (H:=Unit)) b j D∧(∀s,Maps.has D (tm s)=decide (s∈L.take j))∧Maps.size D=s7 L j
theorem NameMap.step {L:List ByteArray} {j:Nat} {D:DataW Unit} (h1:∀s,Maps.has D (tm s)=decide (s∈L.take j)) (h2:Maps.size D=s7 L j) (hj:j<L.length) (hm:IsMap D) (ht:Tidy D) :
  (∀s,Maps.has (D.put (tm L[j]) (.agg [])) (tm s)=decide (s∈L.take (j+1)))∧Maps.size (D.put (tm L[j]) (.agg []))=s7 L (j+1):=by
 constructor
 ·intro s;rw[aY L j hj];by_cases e:s=L[j]
  ·subst e;rw[Maps.has_put_same hm (xG _)];exact (yD (List.mem_append_right _ (List.mem_singleton.2 rfl))).symm
  rw[Maps.has_put_other (fun e'=>e (xH e')),h1];exact decide_eq_decide.2 ⟨fun h=>List.mem_append_left _ h,fun h=>(List.mem_append.1 h).resolve_right fun h=>e (List.mem_singleton.1 h)⟩
 have hg:L.getD j default=L[j]:=by rw[yN,yM hj];rfl
 rw[Maps.size_put ht,h1,h2,s7,hg];by_cases e:L[j]∈L.take j
 ·rw[yD e,if_pos rfl,if_pos e]
 rw[yC e,if_neg (by simp),if_neg e]
theorem Dh (v:Value) (l:List ItemT) (w:World) (hl:ItemsAt w w.heap.size v l) (hn:∀x∈l,x.name.size≤maxLen) (_h40:l.length≤100) :
  Calls Tryz.prog 79 #[v,.func (.func 80) #[] #[]] w fun e w'=>e=.returned (.bool (iG (l.map ItemT.name)))∧Below w.heap.size w w':=by
 obtain⟨A,c,rfl,fU,cM,aj⟩:=hl.open_;unfold maxLen at cM;have HC:=zh aj;have HN:=zh hn;clear hl aj hn;have Xb:=@run_makeMap Tryz.prog;have eg:=Vv;go_enter Tryz.func79,Tryz.ntmps79;go_wp2_with fail;have HM0:Y0 (NameMap (w.alloc (.map #[] 0)) w.heap.size (l.map ItemT.name) 0):=⟨_,World.ownsMap_made w _ _ _,fun s=>by simp[Maps.has],rfl⟩;have Hbm:Below w.heap.size w (w.alloc (.map #[] 0)):=(yB _ _).alloc (yA _) _
 generalize w.alloc (.map #[] 0)=w2 at*;go_loopw [11] (fun ix wr=>∃k:Nat,k≤l.length∧ix=.int .i64 k∧Y0 (NameMap wr w.heap.size (l.map ItemT.name) k)∧Below w.heap.size w wr) (fun ix _=>l.length-(intOf ix).toNat)
 case atStart=>exact⟨0,yI _,rfl,HM0,Hbm⟩
 clear HM0 Hbm;obtain⟨k,hk,rfl,HM,ai⟩:=hrel;by_cases ay:k<l.length
 ·obtain⟨b1,bX,rfl,ak,hc⟩:=HC.o k ay;have y0:=(ai.cell (p:=⟨b1,bX+k*7,none⟩) ak).trans (hc k ay).1;have y1:=(ai.cell (p:=⟨b1,bX+k*7+1,none⟩) ak).trans (hc k ay).2.1;have y2:=(ai.cell (p:=⟨b1,bX+k*7+2,none⟩) ak).trans (hc k ay).2.2.1;have y3:=(ai.cell (p:=⟨b1,bX+k*7+3,none⟩) ak).trans (hc k ay).2.2.2.1;have y4:=(ai.cell (p:=⟨b1,bX+k*7+4,none⟩) ak).trans (hc k ay).2.2.2.2.1;have y5:=(ai.cell (p:=⟨b1,bX+k*7+5,none⟩) ak).trans (hc k ay).2.2.2.2.2.1
  have y6:=(ai.cell (p:=⟨b1,bX+k*7+6,none⟩) ak).trans (hc k ay).2.2.2.2.2.2;obtain⟨D,aK,kC,FQ⟩:=HM.o;have hkm:k<(l.map ItemT.name).length:=by rw[yP];exact ay
  have U3:=vI (HN.o _ (yV ay));have ly:=NameMap.step kC FQ hkm aK.isMap (aK.tidy qC);rw[List.getElem_map] at ly;have aS:=zh ly;have HNm:=zh (fun W=>G7 l[k] W);have lE:Below w.heap.size w (wr.alloc (.cells #[.string l[k].name,.int .i64 l[k].pos,.int .i64 l[k].width,.int .i64 l[k].wt,.int .i64 l[k].hang,.int .i64 l[k].front,.int .i64 l[k].back] 52)):=ai.alloc ai.size _;have UH:=lE.alloc lE.size (.cells #[.string l[k].name,.int .i64 l[k].pos,.int .i64 l[k].width,.int .i64 l[k].wt,.int .i64 l[k].hang,.int .i64 l[k].front,.int .i64 l[k].back] 52)
  have bC:=(aK.alloc (.cells #[.string l[k].name,.int .i64 l[k].pos,.int .i64 l[k].width,.int .i64 l[k].wt,.int .i64 l[k].hang,.int .i64 l[k].front,.int .i64 l[k].back] 52)).alloc (.cells #[.string l[k].name,.int .i64 l[k].pos,.int .i64 l[k].width,.int .i64 l[k].wt,.int .i64 l[k].hang,.int .i64 l[k].front,.int .i64 l[k].back] 52);have i1:(0:Int)≤(k:Int):=yE _;have i2:(k:Int)<(l.length:Int):=by omega
  clear hc kC FQ ly aK HM;go_wp2_with (first|(go_at_fn 80;refine (HNm.o _).mono ?_;rintro e w' ⟨rfl,rfl⟩)|(at_mapUpdate;refine wpList_mapUpdate_own _ rfl _ _ _ 178 rfl 9 179 qC Tryz.underlying178 _ w.heap.size k _ rfl bC (by unfold maxLen;omega) _ _ _ rfl rfl U3 (.agg []) [] unitElem_mk ?_;intro w5 FD xR;have aR:=UH.grown xR UH.size (fun k hk=>by cases hk;exact yA _);have MO:Y0 (NameMap w5 w.heap.size (l.map ItemT.name) (k+1)):=⟨_,FD,aS.o.1,aS.o.2⟩;clear FD xR bC))
  go_roundw
  case rel=>exact⟨k+1,by omega,by go_num,MO,aR⟩
  simp[intOf];omega
 obtain rfl:k=l.length:=by omega
 obtain⟨D,aK,kC,FQ⟩:=HM.o;have HV:Y0 (iG (l.map ItemT.name)=decide (s7 (l.map ItemT.name) l.length<l.length)):=by unfold Y0 iG;rw[List.length_map]
 rw[←FQ] at HV;clear kC FQ;go_wp2_with (at_len;refine wpList_len_own _ rfl _ 178 rfl 9 179 Tryz.underlying178 _ w.heap.size l.length D rfl aK ?_);go_ret;exact⟨Ze HV.o.symm,ai⟩
theorem Aq (v:Value) (l:List BrickT) (w:World) (hl:BricksAt w w.heap.size v l) (hn:∀x∈l,x.name.size≤maxLen) (_h40:l.length≤100) :
  Calls Tryz.prog 86 #[v,.func (.func 87) #[] #[]] w fun e w'=>e=.returned (.bool (iG (l.map BrickT.name)))∧Below w.heap.size w w':=by
 obtain⟨A,c,rfl,fU,cM,aj⟩:=hl.open_;unfold maxLen at cM;have HC:=zh aj;have HN:=zh hn;clear hl aj hn;have Xb:=@run_makeMap Tryz.prog;have eg:=Vx;go_enter Tryz.func86,Tryz.ntmps86;go_wp2_with fail;have HM0:Y0 (NameMap (w.alloc (.map #[] 0)) w.heap.size (l.map BrickT.name) 0):=⟨_,World.ownsMap_made w _ _ _,fun s=>by simp[Maps.has],rfl⟩;have Hbm:Below w.heap.size w (w.alloc (.map #[] 0)):=(yB _ _).alloc (yA _) _
 generalize w.alloc (.map #[] 0)=w2 at*;go_loopw [11] (fun ix wr=>∃k:Nat,k≤l.length∧ix=.int .i64 k∧Y0 (NameMap wr w.heap.size (l.map BrickT.name) k)∧Below w.heap.size w wr) (fun ix _=>l.length-(intOf ix).toNat)
 case atStart=>exact⟨0,yI _,rfl,HM0,Hbm⟩
 clear HM0 Hbm;obtain⟨k,hk,rfl,HM,ai⟩:=hrel;by_cases ay:k<l.length
 ·obtain⟨b1,bX,rfl,ak,hc⟩:=HC.o k ay;have y0:=(ai.cell (p:=⟨b1,bX+k*3,none⟩) ak).trans (hc k ay).1;have y1:=(ai.cell (p:=⟨b1,bX+k*3+1,none⟩) ak).trans (hc k ay).2.1;have y2:=(ai.cell (p:=⟨b1,bX+k*3+2,none⟩) ak).trans (hc k ay).2.2;obtain⟨D,aK,kC,FQ⟩:=HM.o;have hkm:k<(l.map BrickT.name).length:=by rw[yP];exact ay
  have U3:=vI (HN.o _ (yV ay));have ly:=NameMap.step kC FQ hkm aK.isMap (aK.tidy qC);rw[List.getElem_map] at ly;have aS:=zh ly;have HNm:=zh (fun W=>Di l[k] W);have lE:Below w.heap.size w (wr.alloc (.cells #[.string l[k].name,.int .i64 l[k].wt,.int .i64 l[k].cnt] 54)):=ai.alloc ai.size _;have UH:=lE.alloc lE.size (.cells #[.string l[k].name,.int .i64 l[k].wt,.int .i64 l[k].cnt] 54);have bC:=(aK.alloc (.cells #[.string l[k].name,.int .i64 l[k].wt,.int .i64 l[k].cnt] 54)).alloc (.cells #[.string l[k].name,.int .i64 l[k].wt,.int .i64 l[k].cnt] 54)
  have i1:(0:Int)≤(k:Int):=yE _;have i2:(k:Int)<(l.length:Int):=by omega
  clear hc kC FQ ly aK HM;go_wp2_with (first|(go_at_fn 87;refine (HNm.o _).mono ?_;rintro e w' ⟨rfl,rfl⟩)|(at_mapUpdate;refine wpList_mapUpdate_own _ rfl _ _ _ 178 rfl 9 179 qC Tryz.underlying178 _ w.heap.size k _ rfl bC (by unfold maxLen;omega) _ _ _ rfl rfl U3 (.agg []) [] unitElem_mk ?_;intro w5 FD xR;have aR:=UH.grown xR UH.size (fun k hk=>by cases hk;exact yA _);have MO:Y0 (NameMap w5 w.heap.size (l.map BrickT.name) (k+1)):=⟨_,FD,aS.o.1,aS.o.2⟩;clear FD xR bC))
  go_roundw
  case rel=>exact⟨k+1,by omega,by go_num,MO,aR⟩
  simp[intOf];omega
 obtain rfl:k=l.length:=by omega
 obtain⟨D,aK,kC,FQ⟩:=HM.o;have HV:Y0 (iG (l.map BrickT.name)=decide (s7 (l.map BrickT.name) l.length<l.length)):=by unfold Y0 iG;rw[List.length_map]
 rw[←FQ] at HV;clear kC FQ;go_wp2_with (at_len;refine wpList_len_own _ rfl _ 178 rfl 9 179 Tryz.underlying178 _ w.heap.size l.length D rfl aK ?_);go_ret;exact⟨Ze HV.o.symm,ai⟩
open Go.RowKit Go.Shelf
def j7 (l:List Int) (i:Nat):Int:=l.getD i 0
def iB (l:List Int) (k:Nat):Bool:=decide (∀i,i<k→1≤i→j7 l (i-1)<j7 l i)
def fw (l:List Int) (len:Int):Bool:=Zw (l.length:Int) 2 10&&(!decide (j7 l 0<0)&&(!decide (len<j7 l (l.length-1))&&iB l l.length))
theorem NZ (l:List Int):iB l 1=true:=by unfold iB;rw[decide_eq_true_iff];intro i h1 h2;omega
theorem Kl {l:List Int} {k:Nat} (h:iB l k=true) (h1:j7 l (k-1)<j7 l k):iB l (k+1)=true:=by
 unfold iB at*;rw[yO] at*;intro i hi h2;rcases Nat.lt_succ_iff_lt_or_eq.1 hi with h3|rfl
 ·exact h i h3 h2
 exact h1
theorem Um {l:List Int} {k n:Nat} (hk:k<n) (h0:1≤k) (h1:¬j7 l (k-1)<j7 l k):iB l n=false:=by
 unfold iB;rw[YD];exact fun h=>h1 (h k hk h0)
theorem VX (v:Value) (l:List Int) (len:Int) (B:Nat) (w:World) (hl:bg w B v l) :
  Calls Tryz.prog 37 #[v,.int .i64 len] w fun e w'=>e=.returned (.bool (fw l len))∧∃n,w.drewN n=w':=by
 obtain⟨A,c,rfl,fU,cM,aj⟩:=hl.open_;unfold maxLen at cM;have rf:=fun W=>Zn (l.length:Int) 2 10 W;rcases yL (Zw (l.length:Int) 2 10) with h0|h0;rotate_left
 ·have HV:Y0 (fw l len=false):=by unfold Y0 fw;rw[h0];rfl
  rw[h0] at rf;clear hl aj h0;go_enter Tryz.func37,Tryz.ntmps37;go_wp2_with (go_at_call 36;refine (rf _).mono ?_;rintro e w' ⟨rfl,rfl⟩);go_ret;exact⟨Ze HV.o.symm,0,rfl⟩
 obtain⟨n2,n10⟩:=Zh h0;obtain⟨b,off,rfl,-,hx⟩:=aj 0 (by omega);have HX:Y0 (∀j,j<l.length→w.cell? ⟨b,off+j,none⟩=some (.int .i64 (j7 l j))):=fun j hj=>by
  have h:=hx j hj;unfold j7;rw[yN,yM hj];exact h
 have hV0:fw l len=(!decide (j7 l 0<0)&&(!decide (len<j7 l (l.length-1))&&iB l l.length)):=by unfold fw;rw[h0];rfl
 rw[h0] at rf;clear hl aj hx h0;have z0:=HX.o 0 (by omega);have z1:=HX.o (l.length-1) (by omega);rw[Nat.add_zero] at z0;have v1:IntKind.i64.wrap ((l.length:Int)-1)=(l.length:Int)-1:=yF _ (by omega);have i1:((l.length:Int)-1).toNat=l.length-1:=by omega
 have i2:(0:Int)≤(l.length:Int)-1:=by omega
 have i3:(l.length:Int)-1<(l.length:Int):=by omega
 have i4:(0:Int)<(l.length:Int):=by omega
 by_cases c1:j7 l 0<0
 ·have d1:decide (j7 l 0<0)=true:=yD c1;have HV:Y0 (fw l len=false):=by unfold Y0;rw[hV0,d1];rfl
  clear hV0;go_enter Tryz.func37,Tryz.ntmps37;go_wp2_with (go_at_call 36;refine (rf _).mono ?_;rintro e w' ⟨rfl,rfl⟩);go_ret;exact⟨Ze HV.o.symm,0,rfl⟩
 have d1:decide (j7 l 0<0)=false:=yC c1;by_cases c2:len<j7 l (l.length-1)
 ·have d2:decide (len<j7 l (l.length-1))=true:=yD c2;have HV:Y0 (fw l len=false):=by unfold Y0;rw[hV0,d1,d2];rfl
  clear hV0;go_enter Tryz.func37,Tryz.ntmps37;go_wp2_with (go_at_call 36;refine (rf _).mono ?_;rintro e w' ⟨rfl,rfl⟩);go_ret;exact⟨Ze HV.o.symm,0,rfl⟩
 have d2:decide (len<j7 l (l.length-1))=false:=yC c2;have HV:Y0 (fw l len=iB l l.length):=by unfold Y0;rw[hV0,d1,d2];rfl
 clear hV0;go_enter Tryz.func37,Tryz.ntmps37;go_wp2_with (go_at_call 36;refine (rf _).mono ?_;rintro e w' ⟨rfl,rfl⟩);clear z0 z1 v1 i1 i2 i3 d1 d2 c1 c2 rf;go_loopw [5] (fun x wr=>∃k:Nat,1≤k∧k≤l.length∧x=.int .i64 k∧Y0 (iB l k=true)∧∃n,wr=w.drewN n) (fun x _=>l.length-(intOf x).toNat)
 case atStart=>exact⟨1,yA _,by omega,rfl,NZ l,0,rfl⟩
 obtain⟨k,Oi,hk,rfl,HI,n,rfl⟩:=hrel;by_cases ao:k<l.length
 ·have z0:=HX.o k ao;have z1:=HX.o (k-1) (by omega);have v1:IntKind.i64.wrap ((k:Int)-1)=(k:Int)-1:=yF _ (by omega);have i1:((k:Int)-1).toNat=k-1:=by omega
  have i2:(0:Int)≤(k:Int)-1:=by omega
  have i3:(k:Int)-1<(l.length:Int):=by omega
  have i5:(0:Int)≤(k:Int):=by omega
  have i6:(k:Int)<(l.length:Int):=by omega
  by_cases c1:j7 l k≤j7 l (k-1)
  ·have d1:decide (j7 l k≤j7 l (k-1))=true:=yD c1;have ck:Y0 (fw l len=false):=by unfold Y0;rw[HV.o];exact Um ao Oi (by omega)
   go_wp2;go_quiet (fail);go_wp2;go_ret;exact⟨Ze ck.o.symm,q2⟩
  have d1:decide (j7 l k≤j7 l (k-1))=false:=yC c1;have nQ:=zh (Kl HI.o (by omega));go_wp2;go_quiet (fail);go_wp2;go_roundw
  case rel=>exact⟨k+1,by omega,by omega,by go_num,nQ,_,rfl⟩
  simp[intOf];omega
 have oD:k=l.length:=by omega
 subst oD;go_wp2;go_ret;exact⟨Ze (by rw[HV.o];exact HI.o.symm),n,rfl⟩
theorem Gh:∀args w,(callFunc 84 args).run Tryz.prog w=.ok (.enter 84 args) w:=enters_of Tryz.func84 (by kernel_rfl) rfl
def BO (x:ItemT):Prop:=0≤x.pos∧x.pos≤1048576∧1≤x.width∧x.width≤1048576
theorem BN (x y:ItemT) (D:Nat) (w:World) (hD:Blk w D 52 #[.string x.name,.int .i64 x.pos,.int .i64 x.width,.int .i64 x.wt,.int .i64 x.hang,.int .i64 x.front,.int .i64 x.back]) (hx:BO x) (hy:BO y) :
  Calls Tryz.prog 84 #[y.val,.pointer (some ⟨D,0,none⟩)] w fun e w'=>e=.returned (.bool (!eS x y))∧Below w.heap.size w w':=by
 have HA:=zh fun W=>VZ x y W hx hy;have HB:Y0 (Below w.heap.size w (w.alloc (.cells #[.string y.name,.int .i64 y.pos,.int .i64 y.width,.int .i64 y.wt,.int .i64 y.hang,.int .i64 y.front,.int .i64 y.back] 52))):=(yB _ _).alloc (yA _) _;have HY:=zh (Blk.new w 52 #[.string y.name,.int .i64 y.pos,.int .i64 y.width,.int .i64 y.wt,.int .i64 y.hang,.int .i64 y.front,.int .i64 y.back]);have HX:=zh (hD.below HB.o hD.lt)
 clear hD hx hy;go_enter Tryz.func84,Tryz.ntmps84;have x0:=HX.o.cell 0;have x1:=HX.o.cell 1;have x2:=HX.o.cell 2;have x3:=HX.o.cell 3;have x4:=HX.o.cell 4;have x5:=HX.o.cell 5;have x6:=HX.o.cell 6;have y0:=HY.o.cell 0;have y1:=HY.o.cell 1;have y2:=HY.o.cell 2;have y3:=HY.o.cell 3;have y4:=HY.o.cell 4;have y5:=HY.o.cell 5;have y6:=HY.o.cell 6;simp only[aG,aH,aD] at x0 x1 x2 x3 x4 x5 x6 y0 y1 y2 y3 y4 y5 y6
 go_wp2_with (go_at_call 85;refine (HA.o _).mono ?_;rintro e w' ⟨rfl,ev⟩);go_ret;exact⟨rfl,HB.o.trans (ev.mono HB.o.size)⟩
theorem Ad (v:Value) (l:List ItemT) (K:Nat) (C:Array Value) (p:ItemT→Bool) (eg:∀args w,(callFunc K args).run Tryz.prog w=.ok (.enter K args) w) (w:World) (hl:ItemsAt w w.heap.size v l)
  (hf:∀t∈l,∀w',Below w.heap.size w w'→Calls Tryz.prog K (#[t.val]++C) w' fun e fV=>e=.returned (.bool (p t))∧Below w'.heap.size w' fV) :
  Calls Tryz.prog 131 #[v,.func (.func K) #[] C] w fun e w'=>e=.returned (.int .i64 (fj (l.findIdx? p)))∧Below w.heap.size w w':=by
 obtain⟨A,c,rfl,fU,cM,aj⟩:=hl.open_;unfold maxLen at cM;have HF:=zh hf;clear hf;go_enter Tryz.func131,Tryz.ntmps131;go_wp2;go_loopw [8] (fun x wr=>∃j:Nat,j≤l.length∧x=.int .i64 j∧(l.take j).findIdx? p=none∧Below w.heap.size w wr) (fun x _=>l.length-(intOf x).toNat)
 case atStart=>exact⟨0,yI _,rfl,by simp,yB _ _⟩
 obtain⟨j,hj,rfl,iu,ai⟩:=hrel;have nE:=zh iu;clear iu;by_cases ao:j<l.length
 ·obtain⟨b,off,rfl,hb,aj⟩:=aj j ao;have h0:=(ai.cell (p:=⟨b,off+j*7,none⟩) hb).trans (aj j ao).1;have h1:=(ai.cell (p:=⟨b,off+j*7+1,none⟩) hb).trans (aj j ao).2.1;have h2:=(ai.cell (p:=⟨b,off+j*7+2,none⟩) hb).trans (aj j ao).2.2.1;have h3:=(ai.cell (p:=⟨b,off+j*7+3,none⟩) hb).trans (aj j ao).2.2.2.1;have h4:=(ai.cell (p:=⟨b,off+j*7+4,none⟩) hb).trans (aj j ao).2.2.2.2.1;have h5:=(ai.cell (p:=⟨b,off+j*7+5,none⟩) hb).trans (aj j ao).2.2.2.2.2.1
  have h6:=(ai.cell (p:=⟨b,off+j*7+6,none⟩) hb).trans (aj j ao).2.2.2.2.2.2;clear aj;have bH:=HF.o l[j] (yV ao);cases hq:p l[j]
  case true=>
   rw[hq] at bH;go_wp2_with (go_at_fn K;refine (bH _ ai).mono ?_;rintro e w' ⟨rfl,ev⟩);go_ret;exact⟨by rw[ik nE.o ao hq];rfl,ai.trans (ev.mono ai.size)⟩
  rw[hq] at bH;go_wp2_with (go_at_fn K;refine (bH _ ai).mono ?_;rintro e w' ⟨rfl,ev⟩);go_roundw
  case rel=>exact⟨j+1,by omega,by go_num,fN nE.o ao hq,ai.trans (ev.mono ai.size)⟩
  simp[intOf];omega
 have oD:j=l.length:=by omega
 subst oD;go_wp2;go_ret;exact⟨by rw[←yT (l:=l),nE.o];rfl,ai⟩
theorem mn (v:Value) (l:List ItemT) (K:Nat) (C:Array Value) (p:ItemT→Bool) (eg:∀args w,(callFunc K args).run Tryz.prog w=.ok (.enter K args) w) (w:World) (hl:ItemsAt w w.heap.size v l)
  (hf:∀t∈l,∀w',Below w.heap.size w w'→Calls Tryz.prog K (#[t.val]++C) w' fun e fV=>e=.returned (.bool (p t))∧Below w'.heap.size w' fV) :
  Calls Tryz.prog 83 #[v,.func (.func K) #[] C] w fun e w'=>e=.returned (.bool (l.any p))∧Below w.heap.size w w':=by
 have hc:=Ad v l K C p eg w hl hf;have sQ:=mU p l;have HA:=zh (jI p l);generalize fj (l.findIdx? p)=x at*;clear hf hl;go_enter Tryz.func83,Tryz.ntmps83;go_wp2_with (go_at_call 131;refine hc.mono ?_;rintro e w' ⟨rfl,ev⟩);go_ret;exact⟨Ze HA.o,ev⟩
def fH (x:BrickT):Bool:=dw x.name&&(Zw x.wt 1 1048576&&Zw x.cnt 0 60)
def gJ (l:List BrickT) (k:Nat):Int:=((l.take k).map BrickT.cnt).sum
def dJ (l:List BrickT):Bool:=decide (l.length≤8)&&(!iG (l.map BrickT.name)&&(l.all fH&&decide (gJ l l.length≤60)))
theorem qQ (l:List BrickT) (k:Nat) (hk:k<l.length):gJ l (k+1)=gJ l k+l[k].cnt:=by
 unfold gJ;rw[aY l k hk,yS,List.sum_append];simp
theorem GA {α:Type} {p:α→Bool} {l:List α} {k:Nat} (hk:k<l.length) (h:(l.take k).all p=true) (h1:p l[k]=true):(l.take (k+1)).all p=true:=by
 rw[aY l k hk,List.all_append,h];simp[h1]
theorem qjC {α:Type} {p:α→Bool} {l:List α} {k:Nat} (hk:k<l.length) (h1:p l[k]=false):l.all p=false:=by
 rw[List.all_eq_false];exact⟨l[k],yV hk,by simp[h1]⟩
theorem VF {l:List BrickT} {k:Nat} (h:(l.take k).all fH=true) (hk:k≤l.length):0≤gJ l k∧gJ l k≤60*k:=by
 induction k with
 | zero=>simp[gJ]
 | succ k ih=>
  rw[aY l k (by omega),List.all_append,Bool.and_eq_true] at h;have h1:=ih h.1 (by omega);have h2:=h.2;simp only[List.all_cons,List.all_nil,Bool.and_true] at h2;unfold fH at h2;simp only[Bool.and_eq_true] at h2;have h3:=Zh h2.2.2;rw[qQ l k (by omega)];omega
theorem OP (v:Value) (l:List BrickT) (w:World) (hl:BricksAt w w.heap.size v l) (hn:∀x∈l,x.name.size≤maxLen) :
  Calls Tryz.prog 39 #[v] w fun e w'=>e=.returned (.bool (dJ l))∧Below w.heap.size w w':=by
 have hT:=fun h=>Aq v l w hl hn h;have HN:=zh hn;obtain⟨A,c,rfl,fU,cM,aj⟩:=hl.open_;unfold maxLen at cM;have HC:=zh aj;clear hl aj hn;by_cases h8:l.length≤8;rotate_left
 ·have HV:Y0 (dJ l=false):=by unfold Y0 dJ;rw[decide_eq_false h8];rfl
  have d8:decide (8<(l.length:Int))=true:=yD (by omega);clear hT;go_enter Tryz.func39,Tryz.ntmps39;go_wp2_with fail;go_ret;exact⟨Ze HV.o.symm,yB _ _⟩
 have d8:decide (8<(l.length:Int))=false:=yC (by omega);have hT:=hT (by omega);rcases yL (iG (l.map BrickT.name)) with ht|ht
 ·have HV:Y0 (dJ l=false):=by unfold Y0 dJ;rw[ht,Bool.not_true,Bool.false_and,Bool.and_false]
  rw[ht] at hT;clear ht;go_enter Tryz.func39,Tryz.ntmps39;go_wp2_with (go_at_call 86;refine hT.mono ?_;rintro e w' ⟨rfl,ev⟩);go_ret;exact⟨Ze HV.o.symm,ev⟩
 have HV:Y0 (dJ l=(l.all fH&&decide (gJ l l.length≤60))):=by unfold Y0 dJ;rw[ht,decide_eq_true h8];rfl
 rw[ht] at hT;clear ht;go_enter Tryz.func39,Tryz.ntmps39;go_wp2_with (go_at_call 86;refine hT.mono ?_;rintro e w2 ⟨rfl,aU⟩);clear hT d8;go_loopw [15,3] (fun x s wr=>∃k:Nat,k≤l.length∧x=.int .i64 k∧s=.int .i64 (gJ l k)∧Y0 ((l.take k).all fH=true)∧Below w.heap.size w wr) (fun x _ _=>l.length-(intOf x).toNat)
 case atStart=>exact⟨0,yI _,rfl,rfl,rfl,aU⟩
 clear aU;obtain⟨k,hk,rfl,rfl,HA,ai⟩:=hrel;by_cases ay:k<l.length
 ·obtain⟨b1,bX,rfl,ak,hc⟩:=HC.o k ay;have y0:=(ai.cell (p:=⟨b1,bX+k*3,none⟩) ak).trans (hc k ay).1;have y1:=(ai.cell (p:=⟨b1,bX+k*3+1,none⟩) ak).trans (hc k ay).2.1;have y2:=(ai.cell (p:=⟨b1,bX+k*3+2,none⟩) ak).trans (hc k ay).2.2;have hnk:=HN.o _ (yV ay);have iu:=fun W=>mf l[k].name hnk W;have sQ:=VF HA.o hk;have Dy:Y0 (fH l[k]=(dw l[k].name&&(Zw l[k].wt 1 1048576&&Zw l[k].cnt 0 60))):=rfl;have gM:=zh (fun h:fH l[k]=false=>qjC (p:=fH) ay h)
  have ZZ:=zh (fun h:fH l[k]=true=>GA (p:=fH) ay HA.o h);have HCn:=zh (qQ l k ay);have lE:Below w.heap.size w (wr.alloc (.cells #[.string l[k].name,.int .i64 l[k].wt,.int .i64 l[k].cnt] 54)):=ai.alloc ai.size _;have i1:(0:Int)≤(k:Int):=yE _;have i2:(k:Int)<(l.length:Int):=by omega
  clear hc hnk;rcases yL (dw l[k].name) with h0|h0;rotate_left
  ·have ck:Y0 (dJ l=false):=by
    unfold Y0;rw[HV.o,gM.o (by rw[Dy.o,h0];rfl)];rfl
   go_wp2_with (first|(go_at_call 35;refine (iu _).mono ?_;rintro e w' ⟨rfl,rfl⟩;rw[h0])|(go_at_call 36;refine (Zn _ _ _ _).mono ?_;rintro e w' ⟨rfl,rfl⟩;skip));go_ret;exact⟨Ze ck.o.symm,lE⟩
  rcases yL (Zw l[k].wt 1 1048576) with h1|h1;rotate_left
  ·have ck:Y0 (dJ l=false):=by
    unfold Y0;rw[HV.o,gM.o (by rw[Dy.o,h0,h1];rfl)];rfl
   go_wp2_with (first|(go_at_call 35;refine (iu _).mono ?_;rintro e w' ⟨rfl,rfl⟩;rw[h0])|(go_at_call 36;refine (Zn _ _ _ _).mono ?_;rintro e w' ⟨rfl,rfl⟩;try rw[h1]));go_ret;exact⟨Ze ck.o.symm,lE⟩
  rcases yL (Zw l[k].cnt 0 60) with h2|h2;rotate_left
  ·have ck:Y0 (dJ l=false):=by
    unfold Y0;rw[HV.o,gM.o (by rw[Dy.o,h0,h1,h2];rfl)];rfl
   go_wp2_with (first|(go_at_call 35;refine (iu _).mono ?_;rintro e w' ⟨rfl,rfl⟩;rw[h0])|(go_at_call 36;refine (Zn _ _ _ _).mono ?_;rintro e w' ⟨rfl,rfl⟩;try rw[h1];try rw[h2]));go_ret;exact⟨Ze ck.o.symm,lE⟩
  have HA2:=zh (ZZ.o (by rw[Dy.o,h0,h1,h2];rfl));have hcb:=Zh h2;have v1:IntKind.i64.wrap (gJ l k+l[k].cnt)=gJ l k+l[k].cnt:=yF _ (by omega);clear ZZ gM;go_wp2_with (first|(go_at_call 35;refine (iu _).mono ?_;rintro e w' ⟨rfl,rfl⟩;rw[h0])|(go_at_call 36;refine (Zn _ _ _ _).mono ?_;rintro e w' ⟨rfl,rfl⟩;try rw[h1];try rw[h2]));go_roundw
  case rel=>exact⟨k+1,by omega,by go_num,by rw[HCn.o],HA2,lE⟩
  simp[intOf];omega
 obtain rfl:k=l.length:=by omega
 have ck:Y0 (dJ l=decide (gJ l l.length≤60)):=by
  have:=HA.o;rw[yT] at this;unfold Y0;rw[HV.o,this];rfl
 go_wp2;go_ret;exact⟨Ze ck.o.symm,ai⟩
theorem ItemsAt.take {w:World} {B:Nat} {A:Option Addr} {c:Nat} {l:List ItemT} (h:ItemsAt w B (.slice A l.length c) l) {k:Nat} (hk:k≤l.length):ItemsAt w B (.slice A k c) (l.take k):=by
 obtain⟨A',c',e,h1,h2,h3⟩:=h;injection e with e1 _ e2;subst e1 e2;have cI:(l.take k).length=k:=by rw[YA];omega
 refine⟨A,c,by rw[cI],by rw[cI];omega,h2,fun h0=>?_⟩;rw[cI] at h0;obtain⟨b,off,e,hb,hc⟩:=h3 (by omega);refine⟨b,off,e,hb,fun j u hu=>hc j u ?_⟩;have e:l.flatMap ItemT.cells=(l.take k).flatMap ItemT.cells++(l.drop k).flatMap ItemT.cells:=by rw[←List.flatMap_append,List.take_append_drop]
 rw[e,List.getElem?_append_left (List.getElem?_eq_some_iff.1 hu).1];exact hu
def qD (l:List ItemT) (len:Int) (k:Nat):Bool :=
 match l[k]? with
 | some x=>fY x&&(dr x len && !((l.take k).any fun y=>!eS x y))
 | none=>true
def tr (l:List ItemT) (len:Int) (k:Nat):Bool:=decide (∀i,i<k→qD l len i=true)
def eO (l:List ItemT) (len:Int):Bool:=decide (l.length≤40)&&(!iG (l.map ItemT.name)&&tr l len l.length)
theorem lR {l:List ItemT} {len:Int} {k:Nat} (hk:k<l.length):qD l len k=(fY l[k]&&(dr l[k] len && !((l.take k).any fun y=>!eS l[k] y))):=by
 unfold qD;rw[yM hk]
theorem Yp {l:List ItemT} {len:Int} {k:Nat} (hk:k<l.length) (h:qD l len k=false):tr l len l.length=false:=by
 unfold tr;rw[YD];intro hh;rw[hh k hk] at h;cases h
theorem NV {l:List ItemT} {len:Int} {k:Nat} (h:tr l len k=true) (h1:qD l len k=true):tr l len (k+1)=true:=by
 unfold tr at*;rw[yO] at*;intro i hi;rcases Nat.lt_succ_iff_lt_or_eq.1 hi with h2|rfl
 ·exact h i h2
 exact h1
theorem qE {x:ItemT} {len:Int} (h:dr x len=true) (hl:len≤1048576):BO x:=by
 unfold dr at h;simp only[Bool.and_eq_true,decide_eq_true_eq] at h
 have:=Zh h.2.1;exact⟨h.1,by omega,this.1,this.2⟩
theorem Ui {l:List ItemT} {len:Int} {k:Nat} (h:tr l len k=true) (hk:k≤l.length) (hl:len≤1048576):∀y∈l.take k,BO y:=by
 intro y hy;obtain⟨i,hi,rfl⟩:=List.getElem_of_mem hy;rw[YA] at hi;have ff:i<l.length:=by omega
 unfold tr at h;rw[yO] at h;have h1:=h i (by omega);rw[lR ff,Bool.and_eq_true,Bool.and_eq_true] at h1;rw[List.getElem_take];exact qE h1.2.1 hl
theorem VY (v:Value) (l:List ItemT) (len:Int) (w:World) (hl:ItemsAt w w.heap.size v l) (hn:∀x∈l,x.name.size≤maxLen) (cI:1000≤len∧len≤1048576) :
  Calls Tryz.prog 38 #[v,.int .i64 len] w fun e w'=>e=.returned (.bool (eO l len))∧Below w.heap.size w w':=by
 have hT:=fun h=>Dh v l w hl hn h;have HN:=zh hn;obtain⟨A,c,rfl,fU,cM,aj⟩:=hl.open_;have HL:=zh hl;unfold maxLen at cM;have HC:=zh aj;have Dv:=zh cI;clear hl aj hn cI;by_cases h8:l.length≤40;rotate_left
 ·have HV:Y0 (eO l len=false):=by unfold Y0 eO;rw[decide_eq_false h8];rfl
  have d8:decide (40<(l.length:Int))=true:=yD (by omega);clear hT;go_enter Tryz.func38,Tryz.ntmps38;go_wp2_with fail;go_ret;exact⟨Ze HV.o.symm,yB _ _⟩
 have d8:decide (40<(l.length:Int))=false:=yC (by omega);have hT:=hT (by omega);rcases yL (iG (l.map ItemT.name)) with ht|ht
 ·have HV:Y0 (eO l len=false):=by unfold Y0 eO;rw[ht,Bool.not_true,Bool.false_and,Bool.and_false]
  rw[ht] at hT;clear ht;go_enter Tryz.func38,Tryz.ntmps38;go_wp2_with (go_at_call 79;refine hT.mono ?_;rintro e w' ⟨rfl,ev⟩);go_ret;exact⟨Ze HV.o.symm,ev⟩
 have HV:Y0 (eO l len=tr l len l.length):=by unfold Y0 eO;rw[ht,decide_eq_true h8];rfl
 rw[ht] at hT;clear ht;go_enter Tryz.func38,Tryz.ntmps38;go_wp2_with (go_at_call 79;refine hT.mono ?_;rintro e w2 ⟨rfl,aU⟩);clear hT d8;go_loopw [16] (fun x wr=>∃k:Nat,k≤l.length∧x=.int .i64 k∧Y0 (tr l len k=true)∧Below w.heap.size w wr) (fun x _=>l.length-(intOf x).toNat)
 case atStart=>exact⟨0,yI _,rfl,by unfold Y0 tr;simp,aU⟩
 clear aU;obtain⟨k,hk,rfl,HA,ai⟩:=hrel;by_cases ay:k<l.length
 ·obtain⟨b1,bX,rfl,ak,hc⟩:=HC.o k ay;have y0:=(ai.cell (p:=⟨b1,bX+k*7,none⟩) ak).trans (hc k ay).1;have y1:=(ai.cell (p:=⟨b1,bX+k*7+1,none⟩) ak).trans (hc k ay).2.1;have y2:=(ai.cell (p:=⟨b1,bX+k*7+2,none⟩) ak).trans (hc k ay).2.2.1;have y3:=(ai.cell (p:=⟨b1,bX+k*7+3,none⟩) ak).trans (hc k ay).2.2.2.1;have y4:=(ai.cell (p:=⟨b1,bX+k*7+4,none⟩) ak).trans (hc k ay).2.2.2.2.1;have y5:=(ai.cell (p:=⟨b1,bX+k*7+5,none⟩) ak).trans (hc k ay).2.2.2.2.2.1
  have y6:=(ai.cell (p:=⟨b1,bX+k*7+6,none⟩) ak).trans (hc k ay).2.2.2.2.2.2;have Kt:=fun W=>Wa l[k] W (HN.o _ (yV ay));have Ag:=fun W=>OO l[k] len W Dv.o;have HG:=zh (lR (len:=len) ay);have gM:=zh (fun h:qD l len k=false=>Yp ay h);have ZZ:=zh (fun h:qD l len k=true=>NV HA.o h);have lE:Below w.heap.size w (wr.alloc (.cells #[.string l[k].name,.int .i64 l[k].pos,.int .i64 l[k].width,.int .i64 l[k].wt,.int .i64 l[k].hang,.int .i64 l[k].front,.int .i64 l[k].back] 52)):=ai.alloc ai.size _
  have HD:=zh (Blk.new wr 52 #[.string l[k].name,.int .i64 l[k].pos,.int .i64 l[k].width,.int .i64 l[k].wt,.int .i64 l[k].hang,.int .i64 l[k].front,.int .i64 l[k].back]);have i1:(0:Int)≤(k:Int):=yE _;have i2:(k:Int)<(l.length:Int):=by omega
  have i3:(k:Int)≤(c:Int):=by omega
  clear hc;generalize hW:wr.alloc (.cells #[.string l[k].name,.int .i64 l[k].pos,.int .i64 l[k].width,.int .i64 l[k].wt,.int .i64 l[k].hang,.int .i64 l[k].front,.int .i64 l[k].back] 52)=W3 at*;rcases yL (fY l[k]) with h0|h0;rotate_left
  ·have ck:Y0 (eO l len=false):=by
    unfold Y0;rw[HV.o,gM.o (by rw[HG.o,h0];rfl)]
   rw[h0] at Kt;subst hW;go_wp2_with (go_at_call 81;refine (Kt _).mono ?_;rintro e w' ⟨rfl,ev⟩);go_ret;exact⟨Ze ck.o.symm,lE.trans (ev.mono lE.size)⟩
  rw[h0] at Kt;rcases yL (dr l[k] len) with h1|h1;rotate_left
  ·have ck:Y0 (eO l len=false):=by
    unfold Y0;rw[HV.o,gM.o (by rw[HG.o,h0,h1];rfl)]
   rw[h1] at Ag;clear h0 h1;subst hW;go_wp2_with (first|(go_at_call 81;refine (Kt _).mono ?_;rintro e w4 ⟨rfl,bU⟩;have FK:=lE.trans (bU.mono lE.size);have jC:=zh (HD.o.below bU HD.o.lt);have z0:=jC.o.cell 0;have z1:=jC.o.cell 1;have z2:=jC.o.cell 2;have z3:=jC.o.cell 3;have z4:=jC.o.cell 4;have z5:=jC.o.cell 5;have z6:=jC.o.cell 6;simp only[aG,aH,aD] at z0 z1 z2 z3 z4 z5 z6)|(go_at_call 82;refine (Ag _).mono ?_;rintro e w5 ⟨rfl,aR⟩;have xU:=FK.trans (aR.mono FK.size)))
   go_ret;exact⟨Ze ck.o.symm,xU⟩
  rw[h1] at Ag;have HPx:=zh (qE h1 Dv.o.2);have HPy:=zh (Ui HA.o hk Dv.o.2);rcases yL ((l.take k).any fun y=>!eS l[k] y) with h2|h2
  ·have ck:Y0 (eO l len=false):=by
    unfold Y0;rw[HV.o,gM.o (by rw[HG.o,h0,h1,h2];rfl)]
   have vxa:=zh h2;clear h0 h1 h2;subst hW;go_wp2_with (first|(go_at_call 81;refine (Kt _).mono ?_;rintro e w4 ⟨rfl,bU⟩;have FK:=lE.trans (bU.mono lE.size);have jC:=zh (HD.o.below bU HD.o.lt);have z0:=jC.o.cell 0;have z1:=jC.o.cell 1;have z2:=jC.o.cell 2;have z3:=jC.o.cell 3;have z4:=jC.o.cell 4;have z5:=jC.o.cell 5;have z6:=jC.o.cell 6;simp only[aG,aH,aD] at z0 z1 z2 z3 z4 z5 z6)|(go_at_call 82;refine (Ag _).mono ?_;rintro e w5 ⟨rfl,aR⟩;have xU:=FK.trans (aR.mono FK.size);have pK:=zh (jC.o.below aR jC.o.lt);have hct:=mn (.slice (some ⟨b1,bX,none⟩) k c) (l.take k) 84 #[.pointer (some ⟨wr.heap.size,0,none⟩)] (fun y=>!eS l[k] y) Gh w5 (((HL.o.take hk).below xU (yA _)).mono xU.size) (fun t ht w' ev=>BN l[k] t _ w' (pK.o.below ev pK.o.lt) HPx.o (HPy.o t ht));rw[vxa.o] at hct)|(go_at_call 83;refine hct.mono ?_;rintro e w6 ⟨rfl,ie⟩;have vwd:=xU.trans (ie.mono xU.size)))
   go_ret;exact⟨Ze ck.o.symm,vwd⟩
  have HA2:=zh (ZZ.o (by rw[HG.o,h0,h1,h2];rfl));have vxa:=zh h2;clear h0 h1 h2;subst hW;go_wp2_with (first|(go_at_call 81;refine (Kt _).mono ?_;rintro e w4 ⟨rfl,bU⟩;have FK:=lE.trans (bU.mono lE.size);have jC:=zh (HD.o.below bU HD.o.lt);have z0:=jC.o.cell 0;have z1:=jC.o.cell 1;have z2:=jC.o.cell 2;have z3:=jC.o.cell 3;have z4:=jC.o.cell 4;have z5:=jC.o.cell 5;have z6:=jC.o.cell 6;simp only[aG,aH,aD] at z0 z1 z2 z3 z4 z5 z6)|(go_at_call 82;refine (Ag _).mono ?_;rintro e w5 ⟨rfl,aR⟩;have xU:=FK.trans (aR.mono FK.size);have pK:=zh (jC.o.below aR jC.o.lt);have hct:=mn (.slice (some ⟨b1,bX,none⟩) k c) (l.take k) 84 #[.pointer (some ⟨wr.heap.size,0,none⟩)] (fun y=>!eS l[k] y) Gh w5 (((HL.o.take hk).below xU (yA _)).mono xU.size) (fun t ht w' ev=>BN l[k] t _ w' (pK.o.below ev pK.o.lt) HPx.o (HPy.o t ht));rw[vxa.o] at hct)|(go_at_call 83;refine hct.mono ?_;rintro e w6 ⟨rfl,ie⟩;have vwd:=xU.trans (ie.mono xU.size)))
  go_roundw
  case rel=>exact⟨k+1,by omega,by go_num,HA2,vwd⟩
  simp[intOf];omega
 obtain rfl:k=l.length:=by omega
 go_wp2;go_ret;exact⟨Ze (by rw[HV.o];exact HA.o.symm),ai⟩
def cD (s:SetT):Bool:=dw s.name&&(Zw s.depth 0 1048576&&(decide (0≤s.low)&&(decide (s.low≤s.high)&&(decide (s.high≤1048576)&&(Zw s.len 1000 1048576&&((s.len%1000==0)&&(fw s.lines s.len&&(Zw s.pipe 0 1048576&&(Zw s.arbor 0 1048576&&(Zw s.purch 1 2&&(Zw s.most 1 67108864&&(Zw s.brake 0 67108864&&(eO s.items s.len&&(dJ s.bricks))))))))))))))
structure SetNames (s:SetT):Prop where
 name:s.name.size≤maxLen
 items:∀x∈s.items,x.name.size≤maxLen
 bricks:∀x∈s.bricks,x.name.size≤maxLen
theorem zp (v:Value) (s:SetT) (w:World) (hv:SetAt w w.heap.size v s) (hn:SetNames s) :
  Calls Tryz.prog 15 #[v] w fun e w'=>e=.returned (.bool (cD s))∧Below w.heap.size w w':=by
 obtain⟨Al,cl,Ai,ci,Ab,cb,rfl,hL,hI,hB⟩:=hv;have iu:=fun W=>mf s.name hn.name W;have BV:=zh fun W (hb:Below w.heap.size w W)=>VX _ s.lines s.len W.heap.size W ((RowAt.below hL hb (yA _)).mono hb.size);have HIt:=zh fun cI W (hb:Below w.heap.size w W)=>VY _ s.items s.len W ((hI.below hb (yA _)).mono hb.size) hn.items cI;have HBr:=zh fun W (hb:Below w.heap.size w W)=>OP _ s.bricks W ((hB.below hb (yA _)).mono hb.size) hn.bricks
 have HV:Y0 (cD s=(dw s.name&&(Zw s.depth 0 1048576&&(decide (0≤s.low)&&(decide (s.low≤s.high)&&(decide (s.high≤1048576)&&(Zw s.len 1000 1048576&&((s.len%1000==0)&&(fw s.lines s.len&&(Zw s.pipe 0 1048576&&(Zw s.arbor 0 1048576&&(Zw s.purch 1 2&&(Zw s.most 1 67108864&&(Zw s.brake 0 67108864&&(eO s.items s.len&&(dJ s.bricks)))))))))))))))):=rfl;have HD:=zh (Blk.new w 26 (zA s Al cl Ai ci Ab cb));have cP:=zh ((yB _ w).alloc (yA _) (.cells (zA s Al cl Ai ci Ab cb) 26))
 clear hL hI hB hn;unfold fc;go_enter Tryz.func15,Tryz.ntmps15;go_wp2_with (go_at_call 35;fail);go_at_call 35;generalize w.alloc (.cells (zA s Al cl Ai ci Ab cb) 26)=W1 at*;have z0:=HD.o.cell 0;have z1:=HD.o.cell 1;have z2:=HD.o.cell 2;have z3:=HD.o.cell 3;have z4:=HD.o.cell 4;have z5:=HD.o.cell 5;have z6:=HD.o.cell 6;have z7:=HD.o.cell 7;have z8:=HD.o.cell 8;have z9:=HD.o.cell 9;have j8:=HD.o.cell 10;have fS:=HD.o.cell 11;have iT:=HD.o.cell 12
 simp only[aG,aH,aD] at z0 z1 z2 z3 z4 z5 z6 z7 z8 z9 j8 fS iT;refine (iu _).mono ?_;rintro e w' ⟨rfl,rfl⟩;rcases yL (dw s.name) with h0|h0;rotate_left
 ·have ck:Y0 (cD s=false):=by unfold Y0;rw[HV.o,h0];simp only[Bool.false_and]
  rw[h0];go_wp2_with fail;go_ret;exact⟨Ze ck.o.symm,cP.o⟩
 rw[h0] at HV⊢;clear h0;go_wp2_with (go_at_call 36;fail);go_at_call 36;refine (Zn _ _ _ _).mono ?_;rintro e w' ⟨rfl,rfl⟩;rcases yL (Zw s.depth 0 1048576) with h1|h1;rotate_left
 ·have ck:Y0 (cD s=false):=by unfold Y0;rw[HV.o,h1];simp only[Bool.false_and,Bool.and_false]
  rw[h1];go_wp2_with fail;go_ret;exact⟨Ze ck.o.symm,cP.o⟩
 rw[h1] at HV⊢;clear h1;rcases yL (decide (0≤s.low)) with h2|h2;rotate_left
 ·have ck:Y0 (cD s=false):=by unfold Y0;rw[HV.o,h2];simp only[Bool.false_and,Bool.and_false]
  go_wp2_with fail;go_ret;exact⟨Ze ck.o.symm,cP.o⟩
 rw[h2] at HV;rcases yL (decide (s.low≤s.high)) with h3|h3;rotate_left
 ·have ck:Y0 (cD s=false):=by unfold Y0;rw[HV.o,h3];simp only[Bool.false_and,Bool.and_false]
  go_wp2_with fail;go_ret;exact⟨Ze ck.o.symm,cP.o⟩
 rw[h3] at HV;rcases yL (decide (s.high≤1048576)) with h4|h4;rotate_left
 ·have ck:Y0 (cD s=false):=by unfold Y0;rw[HV.o,h4];simp only[Bool.false_and,Bool.and_false]
  go_wp2_with fail;go_ret;exact⟨Ze ck.o.symm,cP.o⟩
 rw[h4] at HV;go_wp2_with (go_at_call 36;fail);go_at_call 36;refine (Zn _ _ _ _).mono ?_;rintro e w' ⟨rfl,rfl⟩;rcases yL (Zw s.len 1000 1048576) with h5|h5;rotate_left
 ·have ck:Y0 (cD s=false):=by unfold Y0;rw[HV.o,h5];simp only[Bool.false_and,Bool.and_false]
  rw[h5];go_wp2_with fail;go_ret;exact⟨Ze ck.o.symm,cP.o⟩
 rw[h5] at HV⊢;have cI:=Zh h5;have htm:s.len.tmod 1000=s.len%1000:=Int.tmod_eq_emod_of_nonneg (by omega);have vr:IntKind.i64.wrap (s.len%1000)=s.len%1000:=yF _ (by omega);clear h5;rcases yL ((s.len%1000==0)) with h6|h6;rotate_left
 ·have ck:Y0 (cD s=false):=by unfold Y0;rw[HV.o,h6];simp only[Bool.false_and,Bool.and_false]
  go_wp2_with fail;go_ret;exact⟨Ze ck.o.symm,cP.o⟩
 rw[h6] at HV;go_wp2_with (go_at_call 37;fail);go_at_call 37;refine (BV.o _ cP.o).mono ?_;rintro e w' ⟨rfl,nq,rfl⟩;have hq:=Zf cP.o nq;have cY:=zh (HD.o.drewN nq);clear z0 z1 z2 z3 z4 z5 z6 z7 z8 z9 j8 fS iT HD cP BV;generalize W1.drewN nq=W2 at*;have z0:=cY.o.cell 0;have z1:=cY.o.cell 1;have z2:=cY.o.cell 2;have z3:=cY.o.cell 3;have z4:=cY.o.cell 4;have z5:=cY.o.cell 5;have z6:=cY.o.cell 6;have z7:=cY.o.cell 7;have z8:=cY.o.cell 8;have z9:=cY.o.cell 9;have j8:=cY.o.cell 10;have fS:=cY.o.cell 11;have iT:=cY.o.cell 12
 simp only[aG,aH,aD] at z0 z1 z2 z3 z4 z5 z6 z7 z8 z9 j8 fS iT;rcases yL (fw s.lines s.len) with h7|h7;rotate_left
 ·have ck:Y0 (cD s=false):=by unfold Y0;rw[HV.o,h7];simp only[Bool.false_and,Bool.and_false]
  rw[h7];go_wp2_with fail;go_ret;exact⟨Ze ck.o.symm,hq⟩
 rw[h7] at HV⊢;clear h7;go_wp2_with (go_at_call 36;fail);go_at_call 36;refine (Zn _ _ _ _).mono ?_;rintro e w' ⟨rfl,rfl⟩;rcases yL (Zw s.pipe 0 1048576) with h8|h8;rotate_left
 ·have ck:Y0 (cD s=false):=by unfold Y0;rw[HV.o,h8];simp only[Bool.false_and,Bool.and_false]
  rw[h8];go_wp2_with fail;go_ret;exact⟨Ze ck.o.symm,hq⟩
 rw[h8] at HV⊢;clear h8;go_wp2_with (go_at_call 36;fail);go_at_call 36;refine (Zn _ _ _ _).mono ?_;rintro e w' ⟨rfl,rfl⟩;rcases yL (Zw s.arbor 0 1048576) with h9|h9;rotate_left
 ·have ck:Y0 (cD s=false):=by unfold Y0;rw[HV.o,h9];simp only[Bool.false_and,Bool.and_false]
  rw[h9];go_wp2_with fail;go_ret;exact⟨Ze ck.o.symm,hq⟩
 rw[h9] at HV⊢;clear h9;go_wp2_with (go_at_call 36;fail);go_at_call 36;refine (Zn _ _ _ _).mono ?_;rintro e w' ⟨rfl,rfl⟩;rcases yL (Zw s.purch 1 2) with DI|DI;rotate_left
 ·have ck:Y0 (cD s=false):=by unfold Y0;rw[HV.o,DI];simp only[Bool.false_and,Bool.and_false]
  rw[DI];go_wp2_with fail;go_ret;exact⟨Ze ck.o.symm,hq⟩
 rw[DI] at HV⊢;clear DI;go_wp2_with (go_at_call 36;fail);go_at_call 36;refine (Zn _ _ _ _).mono ?_;rintro e w' ⟨rfl,rfl⟩;rcases yL (Zw s.most 1 67108864) with Mw|Mw;rotate_left
 ·have ck:Y0 (cD s=false):=by unfold Y0;rw[HV.o,Mw];simp only[Bool.false_and,Bool.and_false]
  rw[Mw];go_wp2_with fail;go_ret;exact⟨Ze ck.o.symm,hq⟩
 rw[Mw] at HV⊢;clear Mw;go_wp2_with (go_at_call 36;fail);go_at_call 36;refine (Zn _ _ _ _).mono ?_;rintro e w' ⟨rfl,rfl⟩;rcases yL (Zw s.brake 0 67108864) with vk|vk;rotate_left
 ·have ck:Y0 (cD s=false):=by unfold Y0;rw[HV.o,vk];simp only[Bool.false_and,Bool.and_false]
  rw[vk];go_wp2_with fail;go_ret;exact⟨Ze ck.o.symm,hq⟩
 rw[vk] at HV⊢;clear vk;go_wp2_with (go_at_call 38;fail);go_at_call 38;refine (HIt.o cI _ hq).mono ?_;rintro e w3 ⟨rfl,bM⟩;have hq3:=hq.trans (bM.mono hq.size);have d9:=zh (cY.o.below bM cY.o.lt);clear z0 z1 z2 z3 z4 z5 z6 z7 z8 z9 j8 fS iT cY bM HIt;have q0:=d9.o.cell 0;have q1:=d9.o.cell 1;have q2:=d9.o.cell 2;have q3:=d9.o.cell 3;have q4:=d9.o.cell 4;have q5:=d9.o.cell 5;have q6:=d9.o.cell 6;have q7:=d9.o.cell 7;have q8:=d9.o.cell 8;have q9:=d9.o.cell 9;have gL:=d9.o.cell 10;have jD:=d9.o.cell 11;have pP:=d9.o.cell 12
 simp only[aG,aH,aD] at q0 q1 q2 q3 q4 q5 q6 q7 q8 q9 gL jD pP;rcases yL (eO s.items s.len) with FT|FT;rotate_left
 ·have ck:Y0 (cD s=false):=by unfold Y0;rw[HV.o,FT];simp only[Bool.false_and,Bool.and_false]
  rw[FT];go_wp2_with fail;go_ret;exact⟨Ze ck.o.symm,hq3⟩
 rw[FT] at HV⊢;clear FT;go_wp2_with (go_at_call 39;fail);go_at_call 39;refine (HBr.o _ hq3).mono ?_;rintro e w4 ⟨rfl,bU⟩;have hq4:=hq3.trans (bU.mono hq3.size);rcases yL (dJ s.bricks) with P9|P9
 all_goals
  have ck:=HV.o;rw[P9] at ck⊢;simp only[Bool.and_false,Bool.and_true] at ck;have PF:=zh ck;clear ck;go_wp2_with fail;go_ret;exact⟨Ze PF.o.symm,hq4⟩
structure SetOk (s:SetT):Prop where
 len:1000≤s.len∧s.len≤1048576
 pipe:0≤s.pipe∧s.pipe≤1048576
 arbor:0≤s.arbor∧s.arbor≤1048576
 purch:1≤s.purch∧s.purch≤2
 most:1≤s.most∧s.most≤67108864
 brake:0≤s.brake∧s.brake≤67108864
 depth:0≤s.depth∧s.depth≤1048576
 low:0≤s.low∧s.low≤s.high∧s.high≤1048576
 lines:fw s.lines s.len=true
 items:eO s.items s.len=true
 bricks:dJ s.bricks=true
theorem Zm {s:SetT} (h:cD s=true):SetOk s:=by
 unfold cD at h;simp only[Bool.and_eq_true,decide_eq_true_eq] at h;obtain⟨-,h1,h2,h3,h4,h5,-,h7,h8,h9,DI,Mw,vk,FT,P9⟩:=h;exact⟨Zh h5,Zh h8,Zh h9,Zh DI,Zh Mw,Zh vk,Zh h1,⟨h2,h3,h4⟩,h7,FT,P9⟩
theorem SetOk.wts {s:SetT} (h:SetOk s):s.items.length≤40∧∀x∈s.items,fY x=true∧dr x s.len=true:=by
 have h1:=h.items;unfold eO at h1;simp only[Bool.and_eq_true,decide_eq_true_eq] at h1;refine⟨h1.1,fun x hx=>?_⟩;obtain⟨i,hi,rfl⟩:=List.getElem_of_mem hx;have h2:=h1.2.2;unfold tr at h2;rw[yO] at h2;have h3:=h2 i hi;rw[lR hi] at h3;simp only[Bool.and_eq_true] at h3;exact⟨h3.1,h3.2.1⟩
def C3 (x:ItemT):Int:=x.pos+x.width/2
def cU (x:ItemT):LoadT:=⟨C3 x,x.wt⟩
def eZ (s:SetT):BeamT:=⟨s.name,s.len,s.lines,s.items.map cU,s.pipe⟩
theorem Kk {l:List Int} (h:iB l l.length=true):∀d i,i + d < l.length→j7 l i ≤ j7 l (i + d)
 | 0,i,_=>Int.le_refl _
 | d+1,i,hi=>by
  have h1:=Kk h d i (by omega);unfold iB at h;rw[yO] at h;have h2:=h (i+d+1) (by omega) (by omega);rw[show i+d+1-1=i+d by omega] at h2;rw[show i+(d+1)=i+d+1 by omega];omega
theorem tu {x:ItemT} {len:Int} (h:dr x len=true):0≤x.pos∧1≤x.width∧x.width≤1048576∧x.pos≤len-x.width:=by
 unfold dr at h;simp only[Bool.and_eq_true,decide_eq_true_eq] at h;have h1:=Zh h.2.1;exact⟨h.1,h1.1,h1.2,h.2.2⟩
theorem oW {s:SetT} (h:cD s=true):cF (eZ s)=true:=by
 have hn:dw s.name=true:=by
  unfold cD at h;simp only[Bool.and_eq_true] at h;exact h.1
 have hk:=Zm h;have hl:=hk.lines;unfold fw at hl;simp only[Bool.and_eq_true,Bool.not_eq_true',decide_eq_false_iff_not] at hl;obtain⟨l1,l2,l3,l4⟩:=hl;have hb:=Zh l1;have h40:=hk.wts.1;have cI:=hk.len;have vzm:=hk.pipe;have Y3:∀i,i<s.lines.length→0≤j7 s.lines i∧j7 s.lines i≤s.len:=fun i hi=>by
  have e1:=Kk l4 i 0 (by omega);have e2:=Kk l4 (s.lines.length-1-i) i (by omega);rw[yR] at e1;rw[show i+(s.lines.length-1-i)=s.lines.length-1 by omega] at e2;omega
 unfold cF cT cG;simp only[Bool.and_eq_true,Bool.not_eq_true',decide_eq_false_iff_not,decide_eq_true_eq,List.all_eq_true];refine⟨⟨⟨⟨⟨⟨⟨⟨⟨hn,?_⟩,?_⟩,?_⟩,?_⟩,?_⟩,?_⟩,?_⟩,fun i hi=>?_⟩,fun x hx=>?_⟩
 ·show ¬s.len<1;omega
 ·show ¬1048576<s.len;omega
 ·show ¬s.pipe<0;omega
 ·show ¬1048576<s.pipe;omega
 ·show ¬(s.lines.length:Int)<1;omega
 ·show ¬10<(s.lines.length:Int);omega
 ·show ¬40<((s.items.map cU).length:Int);rw[yP];omega
 ·have hi':i<s.lines.length:=hi;have e1:=Y3 i hi';unfold eJ;have e0:∀j,ah (eZ s) j=j7 s.lines j:=fun j=>rfl;rw[e0,e0];simp only[Bool.and_eq_true,Bool.or_eq_true,Bool.not_eq_true',decide_eq_false_iff_not,decide_eq_true_eq];refine⟨⟨by omega,show ¬s.len<_ by omega⟩,?_⟩;rcases Nat.eq_zero_or_pos i with h0|h0
  ·exact .inl h0
  refine .inr ?_;unfold iB at l4;rw[yO] at l4
  have:=l4 i hi' h0;omega
 have hx':x∈s.items.map cU:=hx;rw[List.mem_map] at hx';obtain⟨y,hy,rfl⟩:=hx';obtain⟨h1,h2⟩:=hk.wts.2 y hy;have h3:=tu h2;have h4:0≤y.wt∧y.wt≤1048576:=by
  unfold fY at h1;simp only[Bool.and_eq_true] at h1;exact Zh h1.2.1
 unfold cw;simp only[Bool.and_eq_true,Bool.not_eq_true',decide_eq_false_iff_not];show ((¬y.pos+y.width/2<0∧¬s.len<y.pos+y.width/2)∧¬y.wt<0)∧¬67108864<y.wt;omega
