/- Lemmas. -/
import Derived.Test.YtmmhehgajkaniaaGreatDoorY2
namespace Go.Proofs.YtmmhehgajkaniaaGreatDoor
set_option maxRecDepth 100000
set_option maxHeartbeats 40000000
open Go.RowKit Go.Shelf
structure MatR (w:World) (B M:Nat) (D:Nat→Nat) (n r:Nat) (b:Nat→Nat→Bool):Prop where
 top:∃cs,Blk w M 171 cs∧cs.size=n∧∀i,i<r→cs[i]?=some (.slice (some ⟨D i,0,none⟩) n n)
 row:∀i,i<r→∃cs,Blk w (D i) 4 cs∧cs.size=n∧∀k,k<n→cs[k]?=some (.bool (b i k))
 inj:∀i j,i<r→j<r→D i=D j→i=j
 lo:B≤M
 los:∀i,i<r→B≤D i
variable {w:World} {B M n r:Nat} {D:Nat→Nat} {b:Nat→Nat→Bool}
theorem MatR.topLt (h:MatR w B M D n r b):M<w.heap.size:=by
 obtain⟨cs,h1,_⟩:=h.top;exact h1.lt
theorem MatR.rowLt (h:MatR w B M D n r b) {i:Nat} (hi:i<r):D i<w.heap.size:=by
 obtain⟨cs,h1,_⟩:=h.row i hi;exact h1.lt
theorem MatR.ne (h:MatR w B M D n r b) {i:Nat} (hi:i<r):D i≠M:=by
 obtain⟨cs,h1,_⟩:=h.row i hi;obtain⟨cs',h2,_⟩:=h.top;intro e;unfold Blk at h1 h2;rw[e,h2] at h1
 have:=Option.some.inj h1;injection this with _ e2;exact absurd e2 (by decide)
theorem MatR.below {w':World} {B':Nat} (h:MatR w B M D n r b) (hb:Below B' w w') (hB:w.heap.size≤B'):MatR w' B M D n r b:=by
 refine⟨?_,fun i hi=>?_,h.inj,h.lo,h.los⟩
 ·obtain⟨cs,h1,h2⟩:=h.top;exact⟨cs,h1.below hb (by have:=h1.lt;omega),h2⟩
 obtain⟨cs,h1,h2⟩:=h.row i hi;exact⟨cs,h1.below hb (by have:=h1.lt;omega),h2⟩
theorem MatR.alloc (h:MatR w B M D n r b) (o:Obj):MatR (w.alloc o) B M D n r b:=h.below ((yB w.heap.size w).alloc (yA _) o) (yA _)
theorem MatR.drewN (h:MatR w B M D n r b) (q:Nat):MatR (w.drewN q) B M D n r b:=h.below (Zf (yB w.heap.size w) q) (yA _)
theorem MatR.topCell (h:MatR w B M D n r b) {i:Nat} (hi:i<r):w.cell? ⟨M,i,none⟩=some (.slice (some ⟨D i,0,none⟩) n n):=by
 obtain⟨cs,h1,_,h2⟩:=h.top;rw[h1.cell i,h2 i hi]
theorem MatR.cell (h:MatR w B M D n r b) {i k:Nat} (hi:i<r) (hk:k<n):w.cell? ⟨D i,k,none⟩=some (.bool (b i k)):=by
 obtain⟨cs,h1,_,h2⟩:=h.row i hi;rw[h1.cell k,h2 k hk]
theorem MatR.frozen (h:MatR w B M D n r b) {i:Nat} (hi:i<r) (k:Nat):w.frozen? ⟨D i,k,none⟩=false:=by
 obtain⟨cs,h1,_⟩:=h.row i hi;exact h1.frozen k
theorem MatR.topFree (h:MatR w B M D n r b) {i:Nat} (hi:i<n):(∃v,w.cell? ⟨M,i,none⟩=some v)∧w.frozen? ⟨M,i,none⟩=false:=by
 obtain⟨cs,h1,h2,_⟩:=h.top;exact⟨⟨cs[i]'(by omega),by rw[h1.cell i,Array.getElem?_eq_getElem (by omega)]⟩,h1.frozen i⟩
theorem MatR.set_ (h:MatR w B M D n r b) {i k:Nat} (hi:i<r) (_hk:k<n) (v:Bool):MatR (w.setCell ⟨D i,k,none⟩ (.bool v)) B M D n r (tg b i k v):=by
 refine⟨?_,fun j hj=>?_,h.inj,h.lo,h.los⟩
 ·obtain⟨cs,h1,h2⟩:=h.top;exact⟨cs,h1.far (fun e=>h.ne hi e.symm) _,h2⟩
 obtain⟨cs,h1,h2,h3⟩:=h.row j hj;by_cases e:j=i
 ·subst e;refine⟨_,h1.set_ k _,by simpa using h2,fun y hy=>?_⟩;unfold tg;by_cases ey:y=k
  ·subst ey;rw[if_pos ⟨rfl,rfl⟩,Array.getElem?_setIfInBounds_self_of_lt (by omega)]
  rw[if_neg (fun hh=>ey hh.2),Array.getElem?_setIfInBounds_ne (fun hh=>ey hh.symm)];exact h3 y hy
 refine⟨cs,h1.far (fun hh=>e (h.inj j i hj hi hh)) _,h2,fun y hy=>?_⟩;unfold tg;rw[if_neg (fun hh=>e hh.1)];exact h3 y hy
theorem MatR.lay (h:MatR w B M D n r b) (hr:r<n) {g:Nat} {cs:Array Value} (hg:Blk w g 4 cs) (jJ:cs.size=n) (hz:∀k,k<n→cs[k]?=some (.bool (b r k))) (hB:B≤g) (dL:∀i,i<r→D i≠g) :
  MatR (w.setCell ⟨M,r,none⟩ (.slice (some ⟨g,0,none⟩) n n)) B M (fun i=>if i=r then g else D i) n (r+1) b:=by
 have hgM:g≠M:=by
  obtain⟨cs',h2,_⟩:=h.top;intro e;unfold Blk at hg h2;rw[e,h2] at hg
  have:=Option.some.inj hg;injection this with _ e2;exact absurd e2 (by decide)
 refine⟨?_,fun i hi=>?_,fun i j hi hj e=>?_,h.lo,fun i hi=>?_⟩
 ·obtain⟨cs',h1,h2,h3⟩:=h.top;refine⟨_,h1.set_ r _,by simpa using h2,fun i hi=>?_⟩;by_cases e:i=r
  ·subst e;rw[if_pos rfl,Array.getElem?_setIfInBounds_self_of_lt (by omega)]
  rw[if_neg e,Array.getElem?_setIfInBounds_ne (fun hh=>e hh.symm)];exact h3 i (by omega)
 ·by_cases e:i=r
  ·subst e;simp only[if_pos];exact⟨cs,hg.far hgM _,jJ,hz⟩
  simp only[if_neg e];obtain⟨cs',h1,h2⟩:=h.row i (by omega);exact⟨cs',h1.far (h.ne (by omega)) _,h2⟩
 ·by_cases ei:i=r
  ·by_cases ej:j=r
   ·omega
   simp only[if_pos ei,if_neg ej] at e;exact absurd e.symm (dL j (by omega))
  by_cases ej:j=r
  ·simp only[if_neg ei,if_pos ej] at e;exact absurd e (dL i (by omega))
  simp only[if_neg ei,if_neg ej] at e;exact h.inj i j (by omega) (by omega) e
 by_cases e:i=r
 ·simp only[if_pos e];exact hB
 simp only[if_neg e];exact h.los i (by omega)
theorem F7:(Tryz.prog.info? 171).map (fun i=>(i.zero,i.size,i.bytes))=some (some (.slice none 0 0),1,24):=by kernel_rfl
theorem LL {w:World} {B e g n:Nat} {xs:List Value} (h:w.ownsRow B e 1 (.slice (some ⟨g,0,none⟩) n n) n xs):B≤g∧∃cs,Blk w g e cs∧cs.size=n∧∀k:Nat,k<n→cs[k]?=xs[k]?:=by
 rcases h.2 with⟨e',_⟩|⟨g',tL,cur,hv,h1,h2,h3,h4,h5,h6⟩
 ·injection e' with e1;cases e1
 injection hv with e1 e2 e3;injection e1 with e1;injection e1 with e1;subst e1 e3;refine⟨h1,cur,h2,by omega,fun k hk=>?_⟩;rw[←h6];simp[hk]
 all_goals omega
structure Fill (l:List Task) (i k:Nat) (b:Nat→Nat→Bool):Prop where
 sound:∀x y,b x y=true→lZ l x y
 full:∀x y,x<l.length→y<l.length→x<i∨x=i∧y<k→lZ l x y→b x y=true
 rest:∀x y,¬(x<i∨x=i∧y<k)→b x y=false
theorem Fill.start (l:List Task):Fill l 0 0 fun _ _=>false:=⟨(fun _ _ h=>absurd h (by decide)),(fun x y _ _ h=>by omega),(fun _ _ _=>rfl)⟩
theorem Fill.step {l:List Task} {i k:Nat} {b:Nat→Nat→Bool} (h:Fill l i k b) {v:Bool} (hv:v=true↔lZ l i k):Fill l i (k+1) (tg b i k v):=by
 refine⟨fun x y hb=>?_,fun x y hx hy hd he=>?_,fun x y hd=>?_⟩
 ·unfold tg at hb;split at hb
  ·rename_i e;obtain⟨rfl,rfl⟩:=e;exact hv.1 hb
  exact h.sound x y hb
 ·unfold tg;split
  ·rename_i e;obtain⟨rfl,rfl⟩:=e;exact hv.2 he
  rename_i e;exact h.full x y hx hy (by omega) he
 unfold tg;rw[if_neg (by omega)];exact h.rest x y (by omega)
theorem Fill.row {l:List Task} {i:Nat} {b:Nat→Nat→Bool} (h:Fill l i l.length b) (vq3:∀x y,b x y=true→y<l.length):Fill l (i+1) 0 b:=by
 refine⟨h.sound,fun x y hx hy hd he=>h.full x y hx hy (by omega) he,fun x y hd=>?_⟩;cases hb:b x y
 ·rfl
 have:=vq3 x y hb
 have:=h.rest x y (by omega);rw[hb] at this;exact this
theorem Fill.row' {l:List Task} {i:Nat} {b:Nat→Nat→Bool} (h:Fill l i l.length b):Fill l (i+1) 0 b:=h.row fun x y hb=>(h.sound x y hb).2.1
theorem Fill.stage {l:List Task} {b:Nat→Nat→Bool} (h:Fill l l.length 0 b):Stage l 0 0 0 b :=
 Stage.start (fun x y hb=>AW (h.sound x y hb)) fun x y hx hy hv=>h.full x y hx hy (by omega) hv
def BW (l:List Task) (w:World) (e:Ending) (w':World):Prop :=
 Below w.heap.size w w'∧∃M D b,e=.returned (.slice (some ⟨M,0,none⟩) l.length l.length)∧MatR w' w.heap.size M D l.length l.length b∧Stage l l.length 0 0 b
theorem G0 (v:Value) (l:List Task) (w:World) (hl:TasksAt w w.heap.size v l) (h8:l.length≤8) :
  Calls Tryz.prog 121 #[v] w (BW l w):=by
 have HL:=zh hl;obtain⟨A,c,rfl,fU,cM,-⟩:=hl.open_;unfold maxLen at cM;clear hl;obtain⟨i0,jB,hH,jb,km⟩:=info_parts F7;have aZ:i0.bytes*l.length≤281474976710656:=by rw[km];omega
 obtain⟨j0,hj0,hy0,nB,rS⟩:=info_parts Bp;have YO:j0.bytes*l.length≤281474976710656:=by rw[rS];omega
 go_enter Tryz.func121,Tryz.ntmps121;go_wp2_with (at_make;refine wpList_make_full _ rfl _ _ 169 rfl w.heap.size 171 i0 (.slice none 0 0) 1 Tryz.underlying169 jB hH jb .i64 .i64 _ _ l.length rfl rfl rfl rfl aZ (by unfold maxLen;omega) (Nat.le_refl _) ?_;intro w2 ia fW);rw[Fx] at ia;have hM0:MatR w2 w.heap.size w.heap.size (fun _=>0) l.length 0 (fun _ _=>false):=by
  obtain⟨Br,cs,h1,h2,h3⟩:=LL ia;exact⟨⟨cs,h1,h2,fun i hi=>absurd hi (Nat.not_lt_zero i)⟩,fun i hi=>absurd hi (Nat.not_lt_zero i),fun i j hi=>absurd hi (Nat.not_lt_zero i),yA _,fun i hi=>absurd hi (Nat.not_lt_zero i)⟩
 have aU:Below w.heap.size w w2:=(yB _ _).grown fW (yA _) (fun k hk=>by cases hk);clear ia fW aZ jB hH jb km;obtain⟨M,hMe⟩:∃M:Nat,M=w.heap.size:=⟨_,rfl⟩;have HMe:=zh hMe;go_loopw [15] (fun s wr=>∃(i:Nat) (D:Nat→Nat) (b:Nat→Nat→Bool),i≤l.length∧s=.int .i64 i∧MatR wr w.heap.size w.heap.size D l.length i b∧Y0 (Fill l i 0 b)∧Below w.heap.size w wr) (fun s _=>l.length-(intOf s).toNat)
 case atStart=>exact⟨0,_,_,by omega,rfl,hM0,Fill.start l,aU⟩
 clear hM0 aU;obtain⟨i,D,b,hi,rfl,hM,HF,ai⟩:=hrel;by_cases ff:i<l.length
 ·have de:=ai.size;have FA:=hM.topLt;go_wp2_with (at_make;refine wpList_make_full _ rfl _ _ 171 rfl w.heap.size 4 j0 (.bool false) 1 Tryz.underlying171 hj0 hy0 nB .i64 .i64 _ _ l.length rfl rfl rfl rfl YO (by unfold maxLen;omega) ai.size ?_;intro w3 lU fD;have Ms:=hM.below ((Below.refl wr.heap.size wr).grown fD (Nat.le_refl _) (fun k hk=>by cases hk)) (Nat.le_refl _);obtain⟨⟨v3,hv3⟩,hf3⟩:=Ms.topFree ff;have vzk:=Ms.topLt)
  have hM4:∃D',MatR (w3.setCell ⟨w.heap.size,i,none⟩ (.slice (some ⟨wr.heap.size,0,none⟩) l.length l.length)) w.heap.size w.heap.size D' l.length (i+1) b:=by
   obtain⟨Br,cs,h1,h2,h3⟩:=LL lU;refine⟨_,Ms.lay ff h1 h2 (fun k hk=>?_) de (fun x hx=>?_)⟩
   ·rw[h3 k hk,x7,HF.o.rest i k (by omega)];simp[hk]
   have:=hM.rowLt hx;omega
  have bU:Below w.heap.size w (w3.setCell ⟨w.heap.size,i,none⟩ (.slice (some ⟨wr.heap.size,0,none⟩) l.length l.length)):=(ai.grown fD ai.size (fun k hk=>by cases hk)).setCell (p:=⟨w.heap.size,i,none⟩) (yA _) _;obtain⟨D',hM4⟩:=hM4;clear lU fD Ms hv3 hf3 vzk FA hM ai;generalize (w3.setCell ⟨w.heap.size,i,none⟩ (.slice (some ⟨wr.heap.size,0,none⟩) l.length l.length))=w4 at*;go_loopw [26] (fun s wi=>∃(k:Nat) (b:Nat→Nat→Bool),k≤l.length∧s=.int .i64 k∧MatR wi w.heap.size w.heap.size D' l.length (i+1) b∧Y0 (Fill l i k b)∧Below w.heap.size w wi) (fun s _=>l.length-(intOf s).toNat)
  case atStart=>exact⟨0,b,by omega,rfl,hM4,HF,bU⟩
  clear hM4 bU HF;obtain⟨k,b,hk,rfl,hM,HF,ai⟩:=hrel;by_cases ay:k<l.length
  ·have HTk:=HL.o.below ai (yA _);obtain⟨b0,off,rfl,eH,aj⟩:=HTk.cells ay;obtain⟨t0,t1,t2,t3,t4⟩:=aj k ay;have hni:=(aj i ff).1;clear aj;have rf:=ai.alloc ai.size (.cells #[.string l[k].name,.int .i64 l[k].len,.int .i64 l[k].crew,.int .i64 l[k].pow,.slice l[k].ba l[k].bef.length l[k].bc] 48);have de:=ai.size;have vvQ:=(World.cell?_alloc_lt wr (.cells #[.string l[k].name,.int .i64 l[k].len,.int .i64 l[k].crew,.int .i64 l[k].pow,.slice l[k].ba l[k].bef.length l[k].bc] 48) ⟨b0,off+i*5,none⟩ (by simp;omega)).trans hni
   have UR:=hM.alloc (.cells #[.string l[k].name,.int .i64 l[k].len,.int .i64 l[k].crew,.int .i64 l[k].pow,.slice l[k].ba l[k].bef.length l[k].bc] 48);have y4:=World.cell?_alloc_new wr #[.string l[k].name,.int .i64 l[k].len,.int .i64 l[k].crew,.int .i64 l[k].pow,.slice l[k].ba l[k].bef.length l[k].bc] 48 4;simp only[aG,aH,aD] at y4;go_wp2_with fail;have pS:=uJ l[k].bv l[k].bef l[i].name w.heap.size (wr.alloc (.cells #[.string l[k].name,.int .i64 l[k].len,.int .i64 l[k].crew,.int .i64 l[k].pow,.slice l[k].ba l[k].bef.length l[k].bc] 48)).drew ((HL.o.below rf.drew (yA _)).bef ay)
   have bH:Calls Tryz.prog 164 #[.slice l[k].ba l[k].bef.length l[k].bc,.string l[i].name] (wr.alloc (.cells #[.string l[k].name,.int .i64 l[k].len,.int .i64 l[k].crew,.int .i64 l[k].pow,.slice l[k].ba l[k].bef.length l[k].bc] 48)).drew fun e w'=>e=.returned (.bool (decide (l[i].name∈l[k].bef)))∧w'=(wr.alloc (.cells #[.string l[k].name,.int .i64 l[k].len,.int .i64 l[k].crew,.int .i64 l[k].pow,.slice l[k].ba l[k].bef.length l[k].bc] 48)).drew:=pS.mono fun e w' h=>⟨h.1,h.2.symm⟩
   have hF1:=zh (HF.o.step (v:=decide (l[i].name∈l[k].bef)) (by simp only[decide_eq_true_eq];exact⟨fun h=>⟨ff,ay,h⟩,fun h=>h.2.2⟩));have hMf:Y0 (∀x,MatR ((wr.alloc (.cells #[.string l[k].name,.int .i64 l[k].len,.int .i64 l[k].crew,.int .i64 l[k].pow,.slice l[k].ba l[k].bef.length l[k].bc] 48)).drew.setCell ⟨D' i,k,none⟩ (.bool x)) w.heap.size w.heap.size D' l.length (i+1) (tg b i k x)):=fun x=>(UR.drewN 1).set_ (by omega) ay x
   have hbf:Y0 (∀x,Below w.heap.size w ((wr.alloc (.cells #[.string l[k].name,.int .i64 l[k].len,.int .i64 l[k].crew,.int .i64 l[k].pow,.slice l[k].ba l[k].bef.length l[k].bc] 48)).drew.setCell ⟨D' i,k,none⟩ (.bool x))):=fun x=>rf.drew.setCell (p:=⟨D' i,k,none⟩) (hM.los i (by omega)) _;have c0:=UR.topCell (show i<i+1 by omega);have c1:=UR.cell (show i<i+1 by omega) ay;have c2:=UR.frozen (show i<i+1 by omega) k
   generalize decide (l[i].name∈l[k].bef)=dv at*;clear pS hM HTk t0 t1 t2 t3 t4 hni rf UR;generalize wr.alloc (.cells #[.string l[k].name,.int .i64 l[k].len,.int .i64 l[k].crew,.int .i64 l[k].pow,.slice l[k].ba l[k].bef.length l[k].bc] 48)=wt at*;generalize wr.heap.size=gt at*;generalize b i k=bik at c1;have i1:(0:Int)≤(i:Int):=yE _;have i2:(i:Int)<(l.length:Int):=by omega
   have i3:(0:Int)≤(k:Int):=yE _;have i4:(k:Int)<(l.length:Int):=by omega
   refine bP 14 (by kernel_rfl) (by kernel_rfl) ?_;simp only[aM,aP,aN,aO]
   repeat (first|go_big_quiet_skip|(go_big_quiet_want;go_big_quiet_op;first|go_big_quiet_on|(apply Exists.intro;refine⟨?_,?_⟩;(go_at_call 164;exact bH);go_big_quiet_on)))
   refine YE ?_;go_wp2;go_roundw
   case rel=>exact⟨k+1,_,by omega,by go_num,hMf.o dv,hF1,hbf.o dv⟩
   simp[intOf];omega
  have FG:k=l.length:=by omega
  subst FG;have HF':=zh HF.o.row';go_wp2_with fail;go_roundw
  case rel=>exact⟨i+1,D',b,by omega,by go_num,hM,HF',ai⟩
  simp[intOf];omega
 have xQ:i=l.length:=by omega
 subst xQ;have HS:=zh HF.o.stage;go_wp2_with fail;clear HF;go_loopw [49] (fun s wr=>∃(m:Nat) (b:Nat→Nat→Bool),m≤l.length∧s=.int .i64 m∧MatR wr w.heap.size w.heap.size D l.length l.length b∧Y0 (Stage l m 0 0 b)∧Below w.heap.size w wr) (fun s _=>l.length-(intOf s).toNat)
 case atStart=>exact⟨0,b,by omega,rfl,hM,HS,ai⟩
 clear hM HS ai;obtain⟨m,b,hm,rfl,hM,HS,ai⟩:=hrel;by_cases GY:m<l.length
 ·go_wp2_with fail;go_loopw [54] (fun s wr=>∃(i:Nat) (b:Nat→Nat→Bool),i≤l.length∧s=.int .i64 i∧MatR wr w.heap.size w.heap.size D l.length l.length b∧Y0 (Stage l m i 0 b)∧Below w.heap.size w wr) (fun s _=>l.length-(intOf s).toNat)
  case atStart=>exact⟨0,b,by omega,rfl,hM,HS,ai⟩
  clear hM HS ai;obtain⟨i,b,hi,rfl,hM,HS,ai⟩:=hrel;by_cases ff:i<l.length
  ·go_wp2_with fail;go_loopw [59] (fun s wr=>∃(k:Nat) (b:Nat→Nat→Bool),k≤l.length∧s=.int .i64 k∧MatR wr w.heap.size w.heap.size D l.length l.length b∧Y0 (Stage l m i k b)∧Below w.heap.size w wr) (fun s _=>l.length-(intOf s).toNat)
   case atStart=>exact⟨0,b,by omega,rfl,hM,HS,ai⟩
   clear hM HS ai;obtain⟨k,b,hk,rfl,hM,HS,ai⟩:=hrel;by_cases ay:k<l.length
   ·have UP:=zh (HS.o.step GY ff ay);have hMf:Y0 (∀x,MatR (wr.drew.setCell ⟨D i,k,none⟩ (.bool x)) w.heap.size w.heap.size D l.length l.length (tg b i k x)):=fun x=>(hM.drewN 1).set_ ff ay x;have hbf:Y0 (∀x,Below w.heap.size w (wr.drew.setCell ⟨D i,k,none⟩ (.bool x))):=fun x=>ai.drew.setCell (p:=⟨D i,k,none⟩) (hM.los i ff) _;have c0:=hM.topCell ff;have c1:=hM.topCell GY;have c2:=hM.cell ff ay;have c3:=hM.cell ff GY
    have c4:=hM.cell GY ay;have c5:=hM.frozen ff k;have i1:(0:Int)≤(i:Int):=yE _;have i2:(i:Int)<(l.length:Int):=by omega
    have i3:(0:Int)≤(k:Int):=yE _;have i4:(k:Int)<(l.length:Int):=by omega
    have i5:(0:Int)≤(m:Int):=yE _;have i6:(m:Int)<(l.length:Int):=by omega
    clear hM ai HS;cases e1:b i k
    case true=>
     rw[e1] at UP c2;simp only[Bool.true_or] at UP;clear e1;generalize D i=di at*;generalize D m=dm at*;go_wp2_with fail;refine bP 31 (by kernel_rfl) (by kernel_rfl) ?_;simp only[aM,aP,aN,aO]
     repeat (go_big_quiet_step (fail))
     refine YE ?_;go_wp2;go_roundw
     case rel=>exact⟨k+1,_,by omega,by go_num,hMf.o true,UP,hbf.o true⟩
     simp[intOf];omega
    rw[e1] at UP c2;simp only[Bool.false_or] at UP;clear e1;cases e2:b i m
    ·rw[e2] at UP c3;simp only[Bool.false_and] at UP;clear e2;generalize D i=di at*;generalize D m=dm at*;go_wp2_with fail;refine bP 31 (by kernel_rfl) (by kernel_rfl) ?_;simp only[aM,aP,aN,aO]
     repeat (go_big_quiet_step (fail))
     refine YE ?_;go_wp2;go_roundw
     case rel=>exact⟨k+1,_,by omega,by go_num,hMf.o false,UP,hbf.o false⟩
     simp[intOf];omega
    rw[e2] at UP c3;simp only[Bool.true_and] at UP;clear e2;generalize b m k=bmk at*;generalize D i=di at*;generalize D m=dm at*;go_wp2_with fail;refine bP 31 (by kernel_rfl) (by kernel_rfl) ?_;simp only[aM,aP,aN,aO]
    repeat (go_big_quiet_step (fail))
    refine YE ?_;go_wp2;go_roundw
    case rel=>exact⟨k+1,_,by omega,by go_num,hMf.o bmk,UP,hbf.o bmk⟩
    simp[intOf];omega
   have FG:k=l.length:=by omega
   subst FG;have HS':=zh HS.o.row;go_wp2_with fail;go_roundw
   case rel=>exact⟨i+1,b,by omega,by go_num,hM,HS',ai⟩
   simp[intOf];omega
  have xQ:i=l.length:=by omega
  subst xQ;have HS':=zh HS.o.up;go_wp2_with fail;go_roundw
  case rel=>exact⟨m+1,b,by omega,by go_num,hM,HS',ai⟩
  simp[intOf];omega
 have hme:m=l.length:=by omega
 subst hme;go_wp2_with fail;go_ret;exact⟨ai,_,D,b,rfl,hM,HS.o⟩
def Gf (b:Nat→Nat→Bool) (t u:Task) (c p:Int) (i k:Nat):Bool:=b i k||b k i||decide (c<t.crew+u.crew)||decide (p<t.pow+u.pow)
structure CliqueBox (w:World) (P0 P1 P2 P3:Nat) (v:Value) (c p:Int) (M n:Nat):Prop where
 b0:w.cell? ⟨P0,0,none⟩=some (.slice (some ⟨M,0,none⟩) n n)
 b1:w.cell? ⟨P1,0,none⟩=some v
 b2:w.cell? ⟨P2,0,none⟩=some (.int .i64 c)
 b3:w.cell? ⟨P3,0,none⟩=some (.int .i64 p)
theorem BL {a b:Int} (h1:0≤a∧a≤100) (h2:0≤b∧b≤100):IntKind.i64.wrap (a+b)=a+b:=yF _ (by omega)
theorem An (v:Value) (l:List Task) (c p:Int) (P0 P1 P2 P3 B B' M:Nat) (D:Nat→Nat) (b:Nat→Nat→Bool) (i k:Nat) (w:World) (hR:RightT l)
  (vzJ:CliqueBox w P0 P1 P2 P3 v c p M l.length) (hl:TasksAt w B v l) (hM:MatR w B' M D l.length l.length b) (hi:i<l.length) (hk:k<l.length) :
  Calls Tryz.prog 122 #[.int .i64 i,.int .i64 k,.pointer (some ⟨P0,0,none⟩),.pointer (some ⟨P1,0,none⟩),.pointer (some ⟨P2,0,none⟩),.pointer (some ⟨P3,0,none⟩)] w
   fun e w'=>e=.returned (.bool (Gf b l[i] l[k] c p i k))∧∃q,w.drewN q=w':=by
 have hci:=jl (hR.field i hi);have hck:=jl (hR.field k hk);have hpi:=kr (hR.field i hi);have hpk:=kr (hR.field k hk);obtain⟨A,cc,rfl,fU,cM,-⟩:=hl.open_;obtain⟨b0,off,rfl,eH,aj⟩:=hl.cells hi;obtain⟨-,-,ti2,ti3,-⟩:=aj i hi;obtain⟨-,-,tk2,tk3,-⟩:=aj k hk;obtain⟨x0,x1,x2,x3⟩:=vzJ;have r0:=hM.topCell hi;have r1:=hM.topCell hk;have r2:=hM.cell hi hk;have r3:=hM.cell hk hi;have i1:(0:Int)≤(i:Int):=yE _;have i2:(i:Int)<(l.length:Int):=by omega
 have i3:(0:Int)≤(k:Int):=yE _;have i4:(k:Int)<(l.length:Int):=by omega
 clear hM aj hl;generalize l[i]=t at*;generalize l[k]=u at*;obtain⟨tn,tl,tc,tp,ta,tb,tf⟩:=t;obtain⟨un,ul,uc,up,ua,ub,uf⟩:=u;simp only at ti2 ti3 tk2 tk3 hci hck hpi hpk;have kZ:=zh (BL hci hck);have jT:=zh (BL hpi hpk);unfold Gf;simp only;generalize b i k=e1 at*;generalize b k i=e2 at*;cases e1
 case true=>
  go_enter Tryz.func122,Tryz.ntmps122;go_wp2_with fail;go_quiet (fail);go_wp2;go_ret;exact⟨rfl,_,rfl⟩
 cases e2
 case true=>
  go_enter Tryz.func122,Tryz.ntmps122;go_wp2_with fail;go_quiet (fail);go_wp2;go_ret;exact⟨rfl,_,rfl⟩
 by_cases h1:c<tc+uc
 ·have hd:decide (c<tc+uc)=true:=by simpa using h1
  rw[hd];have e1:=kZ.o;go_enter Tryz.func122,Tryz.ntmps122;go_wp2_with fail;go_quiet (fail);go_wp2;go_ret;exact⟨rfl,_,rfl⟩
 have hd:decide (c<tc+uc)=false:=by simpa using h1
 rw[hd];have e1:=kZ.o;have e2:=jT.o;go_enter Tryz.func122,Tryz.ntmps122;go_wp2_with fail;go_quiet (fail);go_wp2;go_ret;exact⟨rfl,_,rfl⟩
def Vr (l:List Task) (c p:Int) (i k:Nat):Prop:=∃(hi:i<l.length) (hk:k<l.length),om l i k∨om l k i∨c<l[i].crew+l[k].crew∨p<l[i].pow+l[k].pow
theorem BA {l:List Task} {c p:Int} {i k:Nat} {b:Nat→Nat→Bool} (hS:Stage l l.length 0 0 b) (hi:i<l.length) (hk:k<l.length):Gf b l[i] l[k] c p i k=true↔Vr l c p i k:=by
 unfold Gf;simp only[Bool.or_eq_true,decide_eq_true_eq,hS.done hi hk,hS.done hk hi];constructor
 ·rintro (((h|h)|h)|h)
  ·exact⟨hi,hk,.inl h⟩
  ·exact⟨hi,hk,.inr (.inl h)⟩
  ·exact⟨hi,hk,.inr (.inr (.inl h))⟩
  exact⟨hi,hk,.inr (.inr (.inr h))⟩
 rintro⟨_,_,h|h|h|h⟩
 ·exact .inl (.inl (.inl h))
 ·exact .inl (.inl (.inr h))
 ·exact .inl (.inr h)
 exact .inr h
def ek (s n:Nat):List Nat:=(List.range n).filter fun i=>s.testBit i
theorem p5 (s n:Nat):ek s (n+1)=if s.testBit n then ek s n++[n] else ek s n:=by
 unfold ek;rw[List.range_succ,List.filter_append];cases h:s.testBit n <;> simp[h]
def ji (l:List Task) (c p:Int) (s n:Nat):Prop:=∀i k,i<n→k<i→s.testBit i=true→s.testBit k=true→Vr l c p i k
structure Heavy (l:List Task) (c p:Int) (S:Nat) (L:Int) (s:Nat):Prop where
 clique:ji l c p s l.length
 low:s<2^l.length
 sum:bo l (ek s l.length)=L
 most:∀z,z<S→ji l c p z l.length→bo l (ek z l.length)≤L
 first:∀z,z<S→z<s→ji l c p z l.length→bo l (ek z l.length)<L
 below:s=0∨s<S
theorem NN (n:Nat):ek 0 n=[]:=by
 unfold ek;simp
theorem Heavy.start (l:List Task) (c p:Int):Heavy l c p 0 0 0:=by
 refine⟨fun i k _ _ h=>by simp at h,Nat.two_pow_pos _,by rw[NN,iI],fun z hz=>absurd hz (Nat.not_lt_zero z),fun z hz=>absurd hz (Nat.not_lt_zero z),.inl rfl⟩
theorem Heavy.no {l:List Task} {c p:Int} {S s:Nat} {L:Int} (h:Heavy l c p S L s) (ky:¬ji l c p S l.length):Heavy l c p (S+1) L s:=by
 refine⟨h.clique,h.low,h.sum,fun z hz hc=>?_,fun z hz hs hc=>?_,?_⟩
 ·by_cases e:z=S
  ·subst e;exact absurd hc ky
  exact h.most z (by omega) hc
 ·by_cases e:z=S
  ·subst e;exact absurd hc ky
  exact h.first z (by omega) hs hc
 rcases h.below with h|h
 ·exact .inl h
 exact .inr (by omega)
theorem Heavy.less {l:List Task} {c p:Int} {S s:Nat} {L:Int} (h:Heavy l c p S L s) (ky:¬L<bo l (ek S l.length)):Heavy l c p (S+1) L s:=by
 refine⟨h.clique,h.low,h.sum,fun z hz hc=>?_,fun z hz hs hc=>?_,?_⟩
 ·by_cases e:z=S
  ·subst e;omega
  exact h.most z (by omega) hc
 ·by_cases e:z=S
  ·subst e;rcases h.below with h|h <;> omega
  exact h.first z (by omega) hs hc
 rcases h.below with h|h
 ·exact .inl h
 exact .inr (by omega)
theorem Heavy.more {l:List Task} {c p:Int} {S s:Nat} {L:Int} (h:Heavy l c p S L s) (hS:S<2^l.length) (hc:ji l c p S l.length) (ao:L<bo l (ek S l.length)):Heavy l c p (S+1) (bo l (ek S l.length)) S:=by
 refine⟨hc,hS,rfl,fun z hz hc'=>?_,fun z hz hs hc'=>?_,.inr (by omega)⟩
 ·by_cases e:z=S
  ·subst e;exact Int.le_refl _
  have:=h.most z (by omega) hc';omega
 have:=h.most z hs hc';omega
theorem Heavy.uniq {l:List Task} {c p:Int} {s s':Nat} {L L':Int} (h:Heavy l c p (2^l.length) L s) (h':Heavy l c p (2^l.length) L' s'):L=L'∧s=s':=by
 have e:L=L':=by
  have h1:=h.most s' h'.low h'.clique;have h2:=h'.most s h.low h.clique;have h3:=h.sum;have h4:=h'.sum;omega
 subst e;refine⟨rfl,?_⟩;rcases Nat.lt_trichotomy s s' with ao|e|ao
 ·have:=h'.first s h.low ao h.clique
  have:=h.sum;omega
 ·exact e
 have:=h.first s' h'.low ao h'.clique
 have:=h'.sum;omega
open Go.RowKit Go.Shelf
theorem Uo (n:Int):bits .and .i64 n 1=n%2:=by
 have h1:(BitVec.ofInt 64 1).toNat=2^1-1:=by decide
 have key:(BitVec.ofInt 64 n &&& BitVec.ofInt 64 1).toNat=(n%((2^64:Nat):Int)).toNat%2^1:=by
  rw[BitVec.toNat_and,BitVec.toNat_ofInt,h1,Nat.and_two_pow_sub_one_eq_mod]
 show IntKind.i64.wrap ((BitVec.ofInt 64 n &&& BitVec.ofInt 64 1).toNat:Nat)=n%2;rw[key,IntKind.wrap_i64];omega
theorem Df (s i:Nat):bits .and .i64 ((s:Int)/2^((i:Int).toNat)) 1=if s.testBit i then 1 else 0:=by
 rw[Uo,Int.toNat_natCast];have h1:((s:Int)/2^i)%2=((s/2^i%2:Nat):Int):=by
  rw[Int.natCast_emod,Int.natCast_ediv,Int.natCast_pow];rfl
 rw[h1,Nat.testBit_eq_decide_div_mod_eq];have h2:s/2^i%2=0∨s/2^i%2=1:=by omega
 rcases h2 with h|h
 ·rw[h];simp
 rw[h];simp
theorem ZL {s i:Nat} (h:s.testBit i=false):(bits .and .i64 ((s:Int)/2^i) 1==0)=true:=by
 have:=Df s i;rw[Int.toNat_natCast] at this;rw[this,h];rfl
theorem MI {s i:Nat} (h:s.testBit i=false):(bits .and .i64 ((s:Int)/2^i) 1==1)=false:=by
 have:=Df s i;rw[Int.toNat_natCast] at this;rw[this,h];rfl
theorem VR {s i:Nat} (h:s.testBit i=true):(bits .and .i64 ((s:Int)/2^i) 1==0)=false:=by
 have:=Df s i;rw[Int.toNat_natCast] at this;rw[this,h];rfl
theorem G6 {s i:Nat} (h:s.testBit i=true):(bits .and .i64 ((s:Int)/2^i) 1==1)=true:=by
 have:=Df s i;rw[Int.toNat_natCast] at this;rw[this,h];rfl
theorem Ba {n:Nat} (h:n≤8):2^n≤256:=Nat.pow_le_pow_right (by omega) h
theorem Tx {n:Nat} (h:n≤8):wrap64 ((2:Int)^n)=((2^n:Nat):Int):=by
 have e:((2:Int)^n)=((2^n:Nat):Int):=by rw[Int.natCast_pow];rfl
 have h2:=Ba h;rw[e];generalize 2^n=N at*;unfold wrap64;omega
