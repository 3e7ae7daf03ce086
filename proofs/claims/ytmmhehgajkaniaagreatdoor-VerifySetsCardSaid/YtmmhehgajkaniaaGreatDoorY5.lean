/- Lemmas. -/
import Derived.Laws.CopyOwn
import Derived.Test.YtmmhehgajkaniaaGreatDoorY4
import Derived.Test.YtmmhehgajkaniaaGreatDoorZ2
namespace Go.Proofs.YtmmhehgajkaniaaGreatDoor
set_option maxRecDepth 100000
set_option maxHeartbeats 40000000
open Go.RowKit Go.Shelf
theorem TR (n:Nat) (w:World) (h:n≤8):Calls Tryz.prog 173 #[.int .u64 1,.int .u64 n] w fun e w'=>e=.returned (.tuple #[.int .u64 0,.int .u64 n])∧w=w':=by
 rcases (show n=0∨n=1∨n=2∨n=3∨n=4∨n=5∨n=6∨n=7∨n=8 by omega) with rfl|rfl|rfl|rfl|rfl|rfl|rfl|rfl|rfl
 all_goals
  go_enter Tryz.func173,Tryz.ntmps173;go_wp2;refine YF (results_tmp2 rfl _ _ _) (by rfl) ?_;exact⟨rfl,rfl⟩
theorem qv7 (n:Nat) (w:World) (h:n≤8):Calls Tryz.prog 167 #[.int .u64 1,.int .u64 n] w fun e w'=>e=.returned (.tuple #[.int .u64 0,.int .u64 n])∧w=w':=by
 have hM:=TR n w h;go_enter Tryz.func167,Tryz.ntmps167;go_wp2_with (go_at_call 173;refine hM.mono ?_;rintro e w1 ⟨rfl,rfl⟩);refine YF (results_tmp2 rfl _ _ _) (by rfl) ?_;exact⟨rfl,rfl⟩
def jE (x:Int) (k n:Nat):List Int:=List.replicate k x++List.replicate (n-k) 0
theorem xq {x:Int} {k n:Nat} (h:k≤n):(jE x k n).length=n:=by simp[jE];omega
theorem TC {x:Int} {k n j:Nat} (hj:j<k):(jE x k n)[j]?=some x:=by
 unfold jE;rw[List.getElem?_append_left (by simpa using hj),List.getElem?_replicate,if_pos hj]
theorem uj {x:Int} {k m n:Nat} (h:k+m≤n):((jE x k n).map (Value.int .i64)).take k++(List.replicate m (Value.int .i64 x)++((jE x k n).map (Value.int .i64)).drop (k+m))=(jE x (k+m) n).map (Value.int .i64):=by
 apply List.ext_getElem?;intro j;unfold jE;simp only[List.getElem?_append,List.getElem?_take,List.getElem?_drop,List.getElem?_map,List.getElem?_replicate,List.length_take,List.length_map,List.length_append,List.length_replicate]
 repeat' split
 all_goals first|rfl|omega
theorem Bf {w:World} {base e g n:Nat} {xs:List Value} (h:w.ownsRow base e 1 (.slice (some ⟨g,0,none⟩) n n) n xs):w.heap[g]?=some (.cells xs.toArray e (0,0))∧base≤g:=by
 rcases h.2 with⟨h1,_⟩|⟨g',cap,cur,h1,hb,hg,h2,h3,h4,h5⟩
 ·cases h1
 injection h1 with e1 _ e2;injection e1 with e1;injection e1 with e1;subst e1 e2;rw[List.take_of_length_le (by rw[Array.length_toList];omega)] at h5;subst h5;exact⟨hg,hb⟩
theorem C0 {w:World} {base e g n:Nat} {xs:List Value} (hg:w.heap[g]?=some (.cells xs.toArray e (0,0))) (hb:base≤g) (hl:xs.length=n) (hn:n≤maxLen):w.ownsRow base e 1 (.slice (some ⟨g,0,none⟩) n n) n xs :=
 ⟨by omega,.inr ⟨g,n,xs.toArray,rfl,hb,hg,yA _,hn,by simp[hl],by simp[←hl]⟩⟩
theorem TB {x:Int} {n:Nat} (h:1≤n):splice ((jE x 0 n).map (Value.int .i64)) 0 [Value.int .i64 x]=(jE x 1 n).map (Value.int .i64):=uj (k:=0) (m:=1) (by omega)
theorem NC (x:Int) (n:Nat):jE x 0 n=List.replicate n 0:=by simp[jE]
theorem ND (x:Int) (n:Nat):jE x n n=List.replicate n x:=by simp[jE]
theorem Ye {w:World} {b:Nat} {v0:Value} (h:w.cell? ⟨b,0,none⟩=some v0):∀(j:Nat) (v:Value),[v0][j]?=some v→w.cell? ((Addr.mk b 0 none).add j)=some v:=fun j v hv=>by
 cases j with
 | zero=>
  obtain rfl:v0=v:=by simpa using hv
  exact h
 | succ j=>simp at hv
theorem NP {w w2:World} {x:Int} {n:Nat} (aK:w2.ownsRow w.heap.size 3 1 (.slice (some ⟨w.heap.size,0,none⟩) n n) n (madeCells (Value.cells (.int .i64 0)) (n*1)).toList) :
  w2.heap[w.heap.size]?=some (.cells ((jE x 0 n).map (Value.int .i64)).toArray 3 (0,0)):=by
 rw[Bj,←NC x n] at aK;exact (Bf aK).1
theorem Nx (b:Nat) (x:Int) (n:Nat) (w:World) (h8:n≤8) (hc:w.cell? ⟨b,0,none⟩=some (.int .i64 x)) (hb:b<w.heap.size) :
  Calls Tryz.prog 125 #[.slice (some ⟨b,0,none⟩) 1 1,.int .i64 n] w fun e w'=>∃g,e=.returned (.slice (some ⟨g,0,none⟩) n n)∧w'.ownsRow w.heap.size 3 1 (.slice (some ⟨g,0,none⟩) n n) n ((List.replicate n x).map (Value.int .i64))∧Below w.heap.size w w':=by
 obtain⟨i0,jB,hH,jb,km⟩:=info_parts rR;have aZ:i0.bytes*n≤281474976710656:=by rw[km];omega
 have HM:=qv7 n w h8;have Hc:=zh hc;have HI:=zh jB;have hnn:(0:Int)≤(n:Int):=yE _;clear hc;by_cases hn:1≤n
 ·have Y9:decide ((n:Int)<0)=false:=by simp
  have pR:decide ((9223372036854775807:Int)<n)=false:=by simp;omega
  go_enter Tryz.func125,Tryz.ntmps125;go_wp2_with fail;refine HM.mono ?_;rintro e w1 ⟨rfl,rfl⟩;have Yu:(Tryz.prog.info? 3).map (·.size)=some 1:=by kernel_rfl
  have D7:([Value.int .i64 x]).length=Nat.min 1 n:=(Nat.min_eq_left hn).symm;have lA:0+([Value.int .i64 x]).length≤((jE x 0 n).map (Value.int .i64)).length:=by simp[xq];omega
  have C7:∀y∈[Value.int .i64 x],y.oneCell'=true:=fun y hy=>by simp only[List.mem_singleton] at hy;subst hy;rfl
  go_wp2_with (first
   | (at_make;refine wpList_make_full _ rfl _ _ 22 rfl w.heap.size 3 i0 (.int .i64 0) 1 Tryz.underlying22 HI.o hH jb .i64 .i64 _ _ n rfl rfl rfl rfl aZ (by unfold maxLen;omega) (Nat.le_refl _) ?_;intro w2 ia fW;have GZ:=zh (NP (x:=x) ia);have aU:=oV fW;have cM:=zh ((aU.cell (p:=⟨b,0,none⟩) hb).trans Hc.o);clear ia fW)
   | (refine wpList_copy_splice rfl (.tmp 31) (.tmp 32) 22 22 rfl 3 Tryz.underlying22 Yu (some ⟨w.heap.size,0,none⟩) (some ⟨b,0,none⟩) n n 1 1 rfl rfl w.heap.size 0 ((jE x 0 n).map (Value.int .i64)) 3 GZ.o [Value.int .i64 x] D7 (fun _=>⟨rfl,_,rfl,Ye cM.o⟩) lA C7 w.heap.size w aU (yA _) ?_;intro w3 hg3 bM))
  have vwb:=hg3.out;rw[TB hn] at vwb;clear D7 lA C7 GZ cM aU;have HG3:Y0 (w3.heap[w.heap.size]?=some (.cells ((jE x 1 n).map (Value.int .i64)).toArray 3 (0,0))):=vwb;clear hg3 vwb;go_loopw [8] (fun s wr=>∃k:Nat,1≤k∧k≤n∧s=.int .i64 k∧Y0 (wr.heap[w.heap.size]?=some (.cells ((jE x k n).map (Value.int .i64)).toArray 3 (0,0)))∧Below w.heap.size w wr) (fun s _=>n-(intOf s).toNat)
  case atStart=>exact⟨1,yA _,hn,rfl,HG3,bM⟩
  clear HG3 bM;obtain⟨k,Oi,hk,rfl,HG,ai⟩:=hrel;by_cases ay:k<n
  ·have i1:(0:Int)≤(k:Int):=yE _;have i2:(k:Int)≤(n:Int):=by omega
   obtain⟨m,hm⟩:∃m,m=Nat.min k (n-k):=⟨_,rfl⟩;have Mg:m=min k (n-k):=hm;have D7:(List.replicate m (Value.int .i64 x)).length=Nat.min k (n-k):=by rw[List.length_replicate,hm]
   have lA:k+(List.replicate m (Value.int .i64 x)).length≤((jE x k n).map (Value.int .i64)).length:=by rw[List.length_replicate,yP,xq hk];omega
   have C7:∀y∈List.replicate m (Value.int .i64 x),y.oneCell'=true:=fun y hy=>by rw[(List.mem_replicate.1 hy).2];rfl
   have hsp:Y0 (splice ((jE x k n).map (Value.int .i64)) k (List.replicate m (Value.int .i64 x))=(jE x (k+m) n).map (Value.int .i64)):=by
    unfold Y0 splice;rw[List.length_replicate];exact uj (by omega)
   have hbq:=ai.drew;have Xs:Y0 (wr.drew.heap[w.heap.size]?=some (.cells ((jE x k n).map (Value.int .i64)).toArray 3 (0,0))):=HG;have vxj:Y0 (∀j v,(List.replicate m (Value.int .i64 x))[j]?=some v→wr.drew.cell? ((Addr.mk w.heap.size 0 none).add j)=some v):=fun j v hv=>by
    have hj:=(List.getElem?_eq_some_iff.1 hv).1;rw[List.length_replicate] at hj;rw[List.getElem?_replicate,if_pos hj] at hv;have e:(Addr.mk w.heap.size 0 none).add j=⟨w.heap.size,j,none⟩:=by
     unfold Addr.add;split
     ·rename_i h;subst h;rfl
     simp
    rw[e,cell_of_row _ _ _ _ _ _ Xs.o,List.getElem?_toArray,YC,TC (by omega)];exact hv
   have dL:¬n=k:=by omega
   clear hm Mg;go_wp2_with fail;go_region_law (refine step_copy_splice rfl (.tmp 41) (.tmp 44) 22 22 rfl 3 Tryz.underlying22 Yu (some ⟨w.heap.size,k,none⟩) (some ⟨w.heap.size,0,none⟩) (n-k) (n-k) k n ?g4 ?g5 w.heap.size k ((jE x k n).map (Value.int .i64)) 3 Xs.o (List.replicate m (Value.int .i64 x)) D7 (fun _=>⟨rfl,_,rfl,vxj.o⟩) lA C7 w.heap.size w hbq (yA _) ?g13;(case g4=>go_simp);(case g5=>go_simp);intro w5 Oj aR)
   rw[hsp.o] at Oj;have hmk:1≤m:=by
    have:=D7;rw[List.length_replicate] at this;have h2:m=min k (n-k):=this;omega
   have vzs:k+m≤n:=by
    have:=lA;rw[List.length_replicate,yP,xq hk] at this;exact this
   have HW:Y0 (IntKind.i64.wrap ((k:Int)+(Nat.min k (n-k):Nat))=((k+m:Nat):Int)):=by
    have e:Nat.min k (n-k)=m:=by rw[←D7,List.length_replicate]
    unfold Y0;rw[e,yF _ (by omega)];omega
   clear hsp vxj Xs D7 lA C7;go_simp;go_wp2;go_roundw
   case rel=>exact⟨k+m,by omega,vzs,by rw[HW.o],Oj,aR⟩
   rw[HW.o];simp[intOf];omega
  have FG:k=n:=by omega
  subst FG;have HO:=HG.o;rw[ND] at HO;have aK:=C0 (base:=w.heap.size) (n:=k) HO (yA _) (by simp) (by unfold maxLen;omega);clear HO HG;have vwN:=zh aK;clear aK;go_wp2_with fail;go_ret;exact⟨_,rfl,vwN.o,ai⟩
 obtain rfl:n=0:=by omega
 go_enter Tryz.func125,Tryz.ntmps125;go_wp2_with fail;refine HM.mono ?_;rintro e w1 ⟨rfl,rfl⟩;have Yu:(Tryz.prog.info? 3).map (·.size)=some 1:=by kernel_rfl
 go_wp2_with (first
  | (at_make;refine wpList_make_full _ rfl _ _ 22 rfl w.heap.size 3 i0 (.int .i64 0) 1 Tryz.underlying22 HI.o hH jb .i64 .i64 _ _ 0 rfl rfl rfl rfl aZ (by unfold maxLen;omega) (Nat.le_refl _) ?_;intro w2 ia fW;have aU:=oV fW)
  | (refine wpList_copy_nothing rfl (.tmp 31) (.tmp 32) 22 22 rfl 3 Tryz.underlying22 Yu (some ⟨w.heap.size,0,none⟩) (some ⟨b,0,none⟩) 0 0 1 1 rfl rfl rfl ?_))
 have vwN:=zh ia;clear ia;go_loopw [8] (fun s wr=>s=.int .i64 0∧wr=w2) (fun _ _=>0)
 case atStart=>exact⟨rfl,rfl⟩
 obtain⟨rfl,rfl⟩:=hrel;go_wp2_with fail;go_ret;have HO:=vwN.o;rw[Bj] at HO;exact⟨_,rfl,HO,aU⟩
structure NewPlan (w:World) (B g:Nat) (l:List Task) (c p:Int) (tv:Value) (O S:Nat) (cs:List Value):Prop where
 blk:Blk w g 119 #[tv,.slice (some ⟨O,0,none⟩) l.length l.length,.int .i64 c,.int .i64 p,.slice (some ⟨S,0,none⟩) l.length l.length]
 hg:B≤g
 rows:BefRows w B O l l.length cs
 starts:w.ownsRow B 3 1 (.slice (some ⟨S,0,none⟩) l.length l.length) l.length ((List.replicate l.length (-1)).map (Value.int .i64))
theorem BefRows.below {w w':World} {base O:Nat} {l:List Task} {i:Nat} {cs:List Value} (h:BefRows w base O l i cs) (hb:Below w.heap.size w w'):BefRows w' base O l i cs :=
 h.past (gG hb)
theorem Nr {l:List Task} (hR:RightT l):(cX l&&nC l)=true:=by
 have h1:=hR.dist;have h2:=hR.bef;rw[h1,h2];rfl
theorem zS (v:Value) (l:List Task) (c p:Int) (w:World) (hR:RightT l) (hl:TasksAt w w.heap.size v l) :
  Calls Tryz.prog 71 #[v,.int .i64 c,.int .i64 p] w fun e w'=>∃g O S cs,e=.returned (.pointer (some ⟨g,0,none⟩))∧NewPlan w' w.heap.size g l c p v O S cs∧Below w.heap.size w w'∧∀j (hj:j<cs.length),cs[j].ownBlock≠some S:=by
 have h8:=hR.len;have hB:=tZ v l w hl h8;have hrb:=Nr hR;have hB':Calls Tryz.prog 124 #[v] w fun e w'=>∃O cs,e=.returned (.tuple #[.slice (some ⟨O,0,none⟩) l.length l.length,.bool true])∧BefRows w' w.heap.size O l l.length cs∧Below w.heap.size w w':=hB.mono fun e w' h=>by
  obtain⟨hb,⟨ky,_⟩|⟨_,O,cs,he,hr⟩⟩:=h
  ·rw[hrb] at ky;cases ky
  exact⟨O,cs,he,hr,hb⟩
 obtain⟨A,cc,rfl,Za,FR,-⟩:=hl.open_;unfold maxLen at FR;clear hB hrb hl hR;go_enter Tryz.func71,Tryz.ntmps71;go_wp2_with fail;refine hB'.mono ?_;rintro e w1 ⟨O,cs,rfl,xL,ak⟩;have DD:=(yB w1.heap.size w1).alloc (yA _) (.cells #[.int .i64 (-1)] 3);have hR1:=Nx w1.heap.size (-1) l.length (w1.alloc (.cells #[.int .i64 (-1)] 3)) h8 (by rw[World.cell?_alloc_new];rfl) (by simp);have de:=ak.size;clear hB'
 go_wp2_with fail;refine hR1.mono ?_;rintro e w2 ⟨S,rfl,aK,aU⟩;have CH:∀j (hj:j<cs.length),cs[j].ownBlock≠some S:=fun j hj e=>by
  have hl:=vE xL.own;have h1:=((xL.rows j (by omega) hj (by omega)).lt S e).2;have h2:=(Bf aK).2;simp only[World.size_alloc] at h2;omega
 have Hap:=zh CH;clear CH;have pT:Below w1.heap.size w1 w2:=DD.trans (aU.mono (by simp));have qjf:=xL.below pT;have ia:w2.ownsRow w.heap.size 3 1 (.slice (some ⟨S,0,none⟩) l.length l.length) l.length ((List.replicate l.length (-1)).map (Value.int .i64)):=jg aK (by simp;omega);have hb:=ak.trans (pT.mono ak.size);have Yt:=hb.size;clear hR1 DD aK xL pT aU;go_wp2_with fail;go_ret;exact⟨_,O,S,cs,rfl,⟨Blk.new _ _ _,Yt,qjf.alloc _,ia.alloc _⟩,hb.alloc Yt _,Hap.o⟩
theorem Cf (v:Value) (l:List Task) (c p:Int) (w:World) (hR:RightT l) (hl:TasksAt w w.heap.size v l) :
  Calls Tryz.prog 71 #[v,.int .i64 c,.int .i64 p] w fun e w'=>∃g O S cs,e=.returned (.pointer (some ⟨g,0,none⟩))∧NewPlan w' w.heap.size g l c p v O S cs∧Below w.heap.size w w' :=
 (zS v l c p w hR hl).mono fun _ _ ⟨g,O,S,cs,h1,h2,h3,_⟩=>⟨g,O,S,cs,h1,h2,h3⟩
theorem Oz:∀args w,(callFunc 123 args).run Tryz.prog w=.ok (.enter 123 args) w:=enters_of Tryz.func123 (by kernel_rfl) rfl
def zU (x:Int):Bool:=decide (x<0)||decide (1000000<x)
def cm (l:List Task) (s:List Int):Int:=if s.length=l.length then (if s.any zU then 2 else 0) else 3
theorem r5 {l:List Task} {s:List Int} (h:cm l s=0):s.length=l.length∧∀x∈s,0≤x∧x≤1000000:=by
 unfold cm at h;split at h
 ·rename_i hl
  split at h
  ·cases h
  rename_i ha
  refine⟨hl,fun x hx=>?_⟩
  have:=List.any_eq_false.1 (by simpa using ha) x hx;unfold zU at this;simp only[Bool.or_eq_true,decide_eq_true_eq,not_or] at this;omega
 cases h
theorem yf (x:Int) (w:World) (_h1 : -9223372036854775808≤x) (_h2:x≤9223372036854775807):Calls Tryz.prog 123 #[.int .i64 x] w fun e w'=>e=.returned (.bool (zU x))∧w=w':=by
 by_cases h:x<0
 ·have HV:Y0 (zU x=true):=by unfold Y0 zU;simp[h]
  go_enter Tryz.func123,Tryz.ntmps123;go_wp2;go_ret;exact⟨Ze HV.o.symm,rfl⟩
 have HV:Y0 (zU x=decide (1000000<x)):=by unfold Y0 zU;simp[h]
 have hb:decide (x<0)=false:=by simpa using h
 go_enter Tryz.func123,Tryz.ntmps123;go_wp2;go_ret;exact⟨Ze HV.o.symm,rfl⟩
def OU (s:List Int):Prop:=∀x∈s,-9223372036854775808≤x∧x≤9223372036854775807
theorem rC (v u:Value) (l:List Task) (s:List Int) (B:Nat) (w:World) (hl:TasksAt w B v l) (hs:bg w B u s) (hw:OU s) :
  Calls Tryz.prog 70 #[v,u] w fun e w'=>e=.returned (.int .i64 (cm l s))∧w=w':=by
 have hC:=mm u s 123 #[] zU Oz B w hs (fun x hx=>by
  have:=hw x hx;exact yf x w this.1 this.2)
 obtain⟨A,cc,rfl,Za,FR,-⟩:=hl.open_;obtain⟨A',OG,rfl,vxD,UV,-⟩:=hs.open_;unfold maxLen at FR UV;clear hl hs hw;by_cases h:s.length=l.length
 ·have HV:Y0 (cm l s=if s.any zU then 2 else 0):=by unfold Y0 cm;rw[if_pos h]
  have hb:((s.length:Int) != l.length)=false:=by simp[h]
  have h':s.length≤l.length:=by omega
  have h'':l.length≤s.length:=by omega
  clear h;cases ha:s.any zU
  case true=>
   rw[ha] at HV hC;clear ha;go_enter Tryz.func70,Tryz.ntmps70;go_wp2_with (go_at_call 73;refine hC.mono ?_;rintro e w1 ⟨rfl,rfl⟩);go_ret;exact⟨eK HV.o.symm,rfl⟩
  rw[ha] at HV hC;clear ha;go_enter Tryz.func70,Tryz.ntmps70;go_wp2_with (go_at_call 73;refine hC.mono ?_;rintro e w1 ⟨rfl,rfl⟩);go_ret;exact⟨eK HV.o.symm,rfl⟩
 have HV:Y0 (cm l s=3):=by unfold Y0 cm;rw[if_neg h]
 have hb:((s.length:Int) != l.length)=true:=by simp;omega
 clear h hC;go_enter Tryz.func70,Tryz.ntmps70;go_wp2;go_ret;exact⟨eK HV.o.symm,rfl⟩
def ga (l:List Task) (s:List Int):Nat→Int
 | 0=>0
 | k+1=>if ga l s k<kt l s k then kt l s k else ga l s k
theorem Fy {l:List Task} (hR:RightT l) {s:List Int} (hl:s.length=l.length) (hs:∀x∈s,0 ≤ x ∧ x ≤ 1000000):∀k,k ≤ l.length→0 ≤ ga l s k ∧ ga l s k ≤ 1010000
 | 0,_=>by simp[ga]
 | k+1,hk=>by
  have h:=Fy hR hl hs k (by omega);have h1:=hs _ (yV (show k<s.length by omega));have h2:=dF (hR.field k (by omega));have e:kt l s k=s[k]+l[k].len:=by unfold kt;rw[lk (by omega),eV (by omega)]
  unfold ga;split <;> omega
def qX (l:List Task) (s:List Int) (w:World) (e:Ending) (w':World):Prop :=
 Below w.heap.size w w'∧(ft l=false∧e=.returned (.tuple #[.int .i64 0,.int .i64 1]) ∨
  ft l=true∧e=.returned (.tuple #[.int .i64 (if cm l s=0 then ga l s l.length else 0),.int .i64 (cm l s)]))
theorem Ef (v u:Value) (l:List Task) (s:List Int) (w:World) (hl:TasksAt w w.heap.size v l) (hs:bg w w.heap.size u s) (hw:OU s) :
  Calls Tryz.prog 34 #[v,u] w (qX l s w):=by
 have hR:=wK v l w hl;rw[AO] at hR;have HG:Y0 (∀w1,Below w.heap.size w w1→Calls Tryz.prog 70 #[v,u] w1 fun e w'=>e=.returned (.int .i64 (cm l s))∧w1=w'):=fun w1 hb=>
  rC v u l s w.heap.size w1 (hl.below hb (yA _)) (hs.below hb (yA _)) hw
 have HL:=zh hl;have HS:=zh hs;obtain⟨A,cc,rfl,Za,FR,-⟩:=hl.open_;obtain⟨A',OG,rfl,vxD,UV,-⟩:=hs.open_;unfold maxLen at FR UV;clear hl hs;cases hr:ft l
 ·rw[hr] at hR;have Hr:=zh hr;clear hr;go_enter Tryz.func34,Tryz.ntmps34;go_wp2_with (go_at_call 76;refine hR.mono ?_;rintro e w1 ⟨rfl,ak⟩);refine YF (results_tmp2 rfl _ _ _) (by rfl) ?_;exact⟨ak,.inl ⟨Hr.o,rfl⟩⟩
 rw[hr] at hR;have Hr:=zh hr;have Xi:=(iJ l).1 hr;have h8:=Xi.len;have uR:=zh Xi;clear hr Xi;by_cases ly:cm l s=0
 ·obtain⟨cI,sQ⟩:=r5 ly;have PN:∀w1,Below w.heap.size w w1→Calls Tryz.prog 70 #[.slice A l.length cc,.slice A' s.length OG] w1 fun e w'=>e=.returned (.int .i64 0)∧w1=w':=fun w1 hb=>by
   have:=HG.o w1 hb;rw[ly] at this;exact this
  have PD:=zh ly;have HB:=zh sQ;have vzx:s.length≤l.length:=by omega
  have vzw:l.length≤s.length:=by omega
  have BU:=zh cI;clear ly HG sQ cI;go_enter Tryz.func34,Tryz.ntmps34;go_wp2_with (first|(go_at_call 76;refine hR.mono ?_;rintro e w1 ⟨rfl,ak⟩)|(go_at_call 70;refine (PN _ ak).mono ?_;rintro e w2 ⟨rfl,rfl⟩));clear PN hR;go_loopw [21,7] (fun i m wr=>∃k:Nat,k≤l.length∧i=.int .i64 k∧m=.int .i64 (ga l s k)∧Below w.heap.size w wr) (fun i _ _=>l.length-(intOf i).toNat)
  case atStart=>exact⟨0,yI _,rfl,rfl,ak⟩
  clear ak;obtain⟨k,hk,rfl,rfl,ai⟩:=hrel;have hmb:=Fy uR.o BU.o HB.o k hk;by_cases ay:k<l.length
  ·have hks:k<s.length:=by omega
   obtain⟨b0,vxe,rfl,eH,aj⟩:=(HL.o.below ai (yA _)).cells ay;obtain⟨t0,t1,t2,t3,t4⟩:=aj k ay;obtain⟨A2,c2,e2,-,-,cM⟩:=(HS.o.below ai (yA _)).open_;injection e2 with e2 _ e3;subst e2 e3;obtain⟨b1,bX,rfl,ak,cM⟩:=cM k hks;have h1:=cM k hks;have Xf:=HB.o _ (yV hks);obtain⟨rV,sO⟩:=dF (uR.o.field k ay);have HE:Y0 (ga l s (k+1)=if ga l s k<s[k]+l[k].len then s[k]+l[k].len else ga l s k):=by
    have e:kt l s k=s[k]+l[k].len:=by unfold kt;rw[lk (by omega),eV (by omega)]
    unfold Y0;rw[ga,e]
   have de:=ai.size;have ic:=ai.alloc ai.size (.cells #[.string l[k].name,.int .i64 l[k].len,.int .i64 l[k].crew,.int .i64 l[k].pow,.slice l[k].ba l[k].bef.length l[k].bc] 48);have i1:(0:Int)≤(k:Int):=yE _;have i2:(k:Int)<(s.length:Int):=by omega
   have w1:IntKind.i64.wrap (s[k]+l[k].len)=s[k]+l[k].len:=yF _ (by omega);have h1':=(World.cell?_alloc_lt wr (.cells #[.string l[k].name,.int .i64 l[k].len,.int .i64 l[k].crew,.int .i64 l[k].pow,.slice l[k].ba l[k].bef.length l[k].bc] 48) ⟨b1,bX+k,none⟩ (by simp only;omega)).trans h1;clear aj cM;go_wp2_with fail;have hy:=World.cell?_alloc_new wr #[.string l[k].name,.int .i64 l[k].len,.int .i64 l[k].crew,.int .i64 l[k].pow,.slice l[k].ba l[k].bef.length l[k].bc] 48
   have y1:=hy 1;simp only[aG,aH,aD] at y1;generalize wr.alloc (.cells #[.string l[k].name,.int .i64 l[k].len,.int .i64 l[k].crew,.int .i64 l[k].pow,.slice l[k].ba l[k].bef.length l[k].bc] 48)=wt at*;clear hy t0 t1 t2 t3 t4 h1;by_cases ao:ga l s k<s[k]+l[k].len
   ·have HE':Y0 (ga l s (k+1)=s[k]+l[k].len):=by unfold Y0;rw[HE.o,if_pos ao]
    clear HE;go_quiet (fail);go_wp2_with fail;go_roundw
    case rel=>exact⟨k+1,by omega,by go_num,by rw[HE'.o],Zf ic _⟩
    simp[intOf];omega
   have HE':Y0 (ga l s (k+1)=ga l s k):=by unfold Y0;rw[HE.o,if_neg ao]
   clear HE;go_quiet (fail);go_wp2_with fail;go_roundw
   case rel=>exact⟨k+1,by omega,by go_num,by rw[HE'.o],Zf ic _⟩
   simp[intOf];omega
  have FG:k=l.length:=by omega
  subst FG;go_wp2_with fail;refine YF (results_tmp2 rfl _ _ _) (by rfl) ?_;exact⟨ai,.inr ⟨Hr.o,by rw[PD.o];rfl⟩⟩
 have PD:=zh ly;have PN:=HG.o;generalize hx:cm l s=x at*;have hb:(x != 0)=true:=by simpa using PD.o
 have Hx:=zh hx;clear ly HG hx;go_enter Tryz.func34,Tryz.ntmps34;go_wp2_with (first|(go_at_call 76;refine hR.mono ?_;rintro e w1 ⟨rfl,ak⟩)|(go_at_call 70;refine (PN _ ak).mono ?_;rintro e w2 ⟨rfl,rfl⟩));refine YF (results_tmp2 rfl _ _ _) (by rfl) ?_;exact⟨ak,.inr ⟨Hr.o,by rw[Hx.o,if_neg PD.o];rfl⟩⟩
theorem O0:∀args w,(callFunc 74 args).run Tryz.prog w=.ok (.enter 74 args) w:=enters_of Tryz.func74 (by kernel_rfl) rfl
def xF (l:List Task) (s:List Int) (i:Nat) (k:Int):Bool:=decide (lH s i<kt l s k.toNat)
def kK (l:List Task) (c p:Int) (s:List Int) (i:Nat):Bool:=jY l c p s i && !((cL l).getD i []).any (xF l s i)
def qS (l:List Task) (c p:Int) (s:List Int):Bool:=(List.range l.length).all (kK l c p s)
theorem Dc (g B D T I:Nat) (l:List Task) (c p:Int) (tv bv sv:Value) (s:List Int) (i k:Nat) (w:World) (hR:RightT l) (h:PlanR w B g l c p tv bv sv s) (hi:i < l.length) (hk:k < l.length)
  (hD:w.cell? ⟨D,0,none⟩=some (.pointer (some ⟨g,0,none⟩))) (hT:w.cell? ⟨T,0,none⟩=some sv) (hI:w.cell? ⟨I,0,none⟩=some (.int .i64 i)) :
  Calls Tryz.prog 74 #[.int .i64 k,.pointer (some ⟨D,0,none⟩),.pointer (some ⟨T,0,none⟩),.pointer (some ⟨I,0,none⟩)] w fun e w'=>e=.returned (.bool (xF l s i k))∧∃q,w.drewN q=w':=by
 have hE:=fun q=>ui (Cy B g l c p tv bv sv s k (w.drewN q) hR (h.drewN q) hk);obtain⟨b1,bX,vwK,rfl,ak,rV,sO,hs⟩:=h.cellS hi;have h1:=hs i hi;have i1:(0:Int)≤(i:Int):=yE _;have i2:(i:Int)<(l.length:Int):=by omega
 have HV:Y0 (xF l s i k=decide (lH s i<kt l s k)):=rfl;clear hs h hR;generalize kt l s k=y at*;generalize lH s i=x at*;go_enter Tryz.func74,Tryz.ntmps74;go_wp2_with fail;go_quiet ((go_at_call 75;exact hE _));go_wp2;go_ret;exact⟨Ze HV.o.symm,_,rfl⟩
noncomputable def lC (l:List Task) (c p:Int) (s:List Int):Int:=@ite _ (cK l c p=true) (Classical.propDecidable _) (cm l s) 1
def tT (l:List Task) (c p:Int) (s:List Int) (w:World) (e:Ending) (w':World):Prop :=
 Below w.heap.size w w'∧e=.returned (.tuple #[.bool (decide (lC l c p s=0)&&qS l c p s),.int .i64 (lC l c p s)])
theorem OE {l:List Task} {c p:Int} {s:List Int} (h:cK l c p=false):lC l c p s=1:=by unfold lC;rw[h];exact if_neg (by simp)
theorem ze {l:List Task} {c p:Int} {s:List Int} (h:cK l c p=true):lC l c p s=cm l s:=by unfold lC;rw[h];exact if_pos rfl
theorem DT {l:List Task} {c p:Int} (h:cK l c p=true):RightT l∧0≤c∧c≤1000∧0≤p∧p≤1000:=by
 unfold cK Zw at h;simp only[Bool.and_eq_true,decide_eq_true_eq] at h;exact⟨(iJ l).1 h.1.1,h.1.2.1,h.1.2.2,h.2.1,h.2.2⟩
theorem LP {l:List Task} (hR:RightT l) {k:Nat} (hk:k<l.length) {x:Int} (hx:x∈ow l l[k].bef):∃j:Nat,j<l.length∧x=(j:Int):=by
 unfold ow at hx;rw[List.mem_map] at hx;obtain⟨s,hs,rfl⟩:=hx;obtain⟨j,hj,e,-⟩:=oy (((fR l).1 hR.bef l[k] (yV hk)).2 s hs).1;exact⟨j,hj,e⟩
theorem xr {w:World} {B e s n g i:Nat} {v u:Value} {xs:List Value} {t:TypeId} {cs:Array Value} (h:w.ownsRow B e s v n xs) (hg:Blk w g t cs) (dL:e≠t):(w.setCell ⟨g,i,none⟩ u).ownsRow B e s v n xs :=
 h.kept (hg.setGrown i u) (.inr fun x=>(hg.ne_own h dL) x.symm)
theorem BefRows.setBlk {w:World} {base O g i:Nat} {l:List Task} {k:Nat} {cs:List Value} {u:Value} {t:TypeId} {gs:Array Value} (h:BefRows w base O l k cs) (hg:Blk w g t gs) (h1:3≠t) (h2:22≠t):BefRows (w.setCell ⟨g,i,none⟩ u) base O l k cs :=
 ⟨xr h.own hg h2,fun j hj hc Hh=>xr (h.rows j hj hc Hh) hg h1,h.rest⟩
theorem BefRows.cs_len {w:World} {base O:Nat} {l:List Task} {k:Nat} {cs:List Value} (h:BefRows w base O l k cs):cs.length=l.length:=vE h.own
structure CheckSt (w:World) (W g D T:Nat) (l:List Task) (c p:Int) (tv bv sv:Value) (s:List Int) (O:Nat) (cs:List Value):Prop where
 plan:PlanR w W g l c p tv bv sv s
 hD:w.cell? ⟨D,0,none⟩=some (.pointer (some ⟨g,0,none⟩))
 hT:w.cell? ⟨T,0,none⟩=some sv
 rows:BefRows w 0 O l l.length cs
 lt:D<W∧T<W∧O<W∧W=w.heap.size
theorem zr {f:Nat→Bool} {k:Nat}:(List.range (k+1)).all f=((List.range k).all f&&f k):=by rw[List.range_succ,List.all_append];simp
theorem Dl {f:Nat→Bool} {k n:Nat} (hk:k<n) (h:f k=false):(List.range n).all f=false:=by
 rw[List.all_eq_false];exact⟨k,List.mem_range.2 hk,by simp[h]⟩
theorem I2 (v u:Value) (l:List Task) (c p:Int) (s:List Int) (w:World) (hl:TasksAt w w.heap.size v l) (hs:bg w w.heap.size u s) (hw:OU s) :
  Calls Tryz.prog 33 #[v,.int .i64 c,.int .i64 p,u] w (tT l c p s w):=by
 have HT:Y0 (∀w1,Below w.heap.size w w1→TasksAt w1 w1.heap.size v l):=fun w1 hb=>(hl.below hb (yA _)).mono hb.size;have HS:Y0 (∀w1,Below w.heap.size w w1→bg w1 w1.heap.size u s):=fun w1 hb=>(hs.below hb (yA _)).mono hb.size;have hV:∀o,Calls Tryz.prog 69 #[v,.int .i64 c,.int .i64 p] (w.alloc o) fun e w'=>e=.returned (.bool (cK l c p))∧Below (w.alloc o).heap.size (w.alloc o) w':=fun o=>qi v l c p _ (HT.o _ ((yB _ _).alloc (yA _) o))
 have HG:Y0 (∀w1,Below w.heap.size w w1→Calls Tryz.prog 70 #[v,u] w1 fun e w'=>e=.returned (.int .i64 (cm l s))∧w1=w'):=fun w1 hb=>
  rC v u l s w1.heap.size w1 (HT.o w1 hb) (HS.o w1 hb) hw
 have eH:∀o,Below w.heap.size w (w.alloc o):=fun o=>(yB _ _).alloc (yA _) o;obtain⟨A,cc,rfl,Za,FR,-⟩:=hl.open_;obtain⟨A',OG,rfl,vxD,UV,-⟩:=hs.open_;unfold maxLen at FR UV;clear hl hs;cases hv:cK l c p
 ·have HE:Y0 (lC l c p s=1):=OE hv;rw[hv] at hV;clear hv HG;go_enter Tryz.func33,Tryz.ntmps33;go_wp2_with fail;refine (hV _).mono ?_;rintro e w1 ⟨rfl,ak⟩;go_wp2_with fail;refine YF (results_tmp2 rfl _ _ _) (by rfl) ?_;exact⟨(eH _).trans (ak.mono (by simp)),by rw[HE.o];rfl⟩
 have HE:Y0 (lC l c p s=cm l s):=ze hv;obtain⟨hR,hc0,fU,hp0,D6⟩:=DT hv;have uR:=zh hR;have h8:=hR.len;rw[hv] at hV;clear hv hR;by_cases ly:cm l s=0;rotate_left
 ·have PD:=zh ly;have PN:=HG.o;generalize hx:cm l s=x at*;have hb:(x != 0)=true:=by simpa using PD.o
  have Hx:=zh hx;clear ly HG hx;go_enter Tryz.func33,Tryz.ntmps33;go_wp2_with fail;refine (hV _).mono ?_;rintro e w1 ⟨rfl,ak⟩;have ic:=(eH (.cells #[.slice A' s.length OG] 22)).trans (ak.mono (by simp));have z1:=ak.cell (p:=⟨w.heap.size,0,none⟩) (by simp);rw[World.cell?_alloc_new] at z1;simp only[aG,aD] at z1;have hg:=PN w1 ic;clear PN hV ak;go_wp2_with fail;refine hg.mono ?_;rintro e w2 ⟨rfl,rfl⟩
  go_wp2_with fail;refine YF (results_tmp2 rfl _ _ _) (by rfl) ?_;refine⟨ic,?_⟩;rw[HE.o,yC PD.o];rfl
 obtain⟨cI,sQ⟩:=r5 ly;have PN:∀w1,Below w.heap.size w w1→Calls Tryz.prog 70 #[.slice A l.length cc,.slice A' s.length OG] w1 fun e w'=>e=.returned (.int .i64 0)∧w1=w':=fun w1 hb=>by
  have:=HG.o w1 hb;rw[ly] at this;exact this
 have HE0:Y0 (lC l c p s=0):=by unfold Y0;rw[HE.o,ly]
 have BU:=zh cI;have HBd:=zh sQ;clear ly HG HE cI sQ;go_enter Tryz.func33,Tryz.ntmps33;go_wp2_with fail;refine (hV _).mono ?_;rintro e w1 ⟨rfl,ak⟩;have ic:=(eH (.cells #[.slice A' s.length OG] 22)).trans (ak.mono (by simp));have z1:=ak.cell (p:=⟨w.heap.size,0,none⟩) (by simp);rw[World.cell?_alloc_new] at z1;simp only[aG,aD] at z1;have hzs:=ak.size;simp only[World.size_alloc] at hzs;have hg:=PN w1 ic
 clear PN hV ak;go_wp2_with fail;refine hg.mono ?_;rintro e w2 ⟨rfl,rfl⟩;clear hg;go_wp2_with fail;refine (Cf _ l c p w1 uR.o (HT.o _ ic)).mono ?_;rintro e w3 ⟨g,O,S,cs,rfl,hnp,bM⟩;have bU:=bM.alloc bM.size (.cells #[.pointer (some ⟨g,0,none⟩)] 115);have UE:=hnp.blk;have Ml:=UE.lt;have z3:=(bU.cell (p:=⟨w.heap.size,0,none⟩) (by simp only;omega)).trans z1;have Xd:=(UE.alloc (.cells #[.pointer (some ⟨g,0,none⟩)] 115)).frozen 4
 have hcz:=(UE.alloc (.cells #[.pointer (some ⟨g,0,none⟩)] 115)).cell 4;simp only[aG,aH,aD] at hcz;have hzD:=World.cell?_alloc_new w3 #[.pointer (some ⟨g,0,none⟩)] 115 0;simp only[aG,aD] at hzD;have hST:CheckSt ((w3.alloc (.cells #[.pointer (some ⟨g,0,none⟩)] 115)).setCell ⟨g,4,none⟩ (.slice A' s.length OG)) (w3.heap.size+1) g w3.heap.size w.heap.size l c p (.slice A l.length cc) (.slice (some ⟨O,0,none⟩) l.length l.length) (.slice A' s.length OG) s O cs:=by
  have hbA:=UE.alloc (.cells #[.pointer (some ⟨g,0,none⟩)] 115);have hU:Below w1.heap.size w1 ((w3.alloc (.cells #[.pointer (some ⟨g,0,none⟩)] 115)).setCell ⟨g,4,none⟩ (.slice A' s.length OG)):=bU.setCell (p:=⟨g,4,none⟩) hnp.hg _;have fF:=ic.trans (hU.mono ic.size);have de:((w3.alloc (.cells #[.pointer (some ⟨g,0,none⟩)] 115)).setCell ⟨g,4,none⟩ (.slice A' s.length OG)).heap.size=w3.heap.size+1:=by simp[World.setCell]
  have hrw:=(hnp.rows.alloc (.cells #[.pointer (some ⟨g,0,none⟩)] 115)).setBlk (i:=4) (u:=.slice A' s.length OG) hbA (by decide) (by decide);refine⟨⟨hbA.set_ 4 _,by omega,?_,?_,BU.o,fun x hx=>by have:=HBd.o x hx;omega⟩,?_,?_,pY hrw (yI _),⟨by omega,by have:=bM.size;omega,?_,de.symm⟩⟩
  ·rw[←de];exact HT.o _ fF
  ·rw[←de];exact HS.o _ fF
  ·exact (World.cell?_setCell_other _ ⟨g,4,none⟩ ⟨w3.heap.size,0,none⟩ _ (by intro e;injection e with e1;omega)).trans hzD
  ·rw[hU.cell (p:=⟨w.heap.size,0,none⟩) (by simp only;omega)];exact z1
  rcases hnp.rows.own.2 with⟨h,_⟩|⟨g',cap,cur,h,_,hh,_⟩
  ·cases h
  injection h with h;injection h with h;injection h with h;subst h
  have:=(Array.getElem?_eq_some_iff.1 hh).1;omega
 have fF:Below w.heap.size w ((w3.alloc (.cells #[.pointer (some ⟨g,0,none⟩)] 115)).setCell ⟨g,4,none⟩ (.slice A' s.length OG)):=ic.trans ((bU.setCell (p:=⟨g,4,none⟩) hnp.hg _).mono ic.size);rw[World.setCell_alloc_past _ _ _ _ Ml] at hST fF;have HST:=zh hST;clear hST hnp bM bU UE HBd;go_wp2_with fail;generalize ((w3.setCell ⟨g,4,none⟩ (.slice A' s.length OG)).alloc (.cells #[.pointer (some ⟨g,0,none⟩)] 115))=w4 at*
 generalize w3.heap.size=D at*;clear hcz Xd hzD z3 z1;go_loopw [34] (fun i wr=>∃k:Nat,k≤l.length∧i=.int .i64 k∧Y0 ((List.range k).all (kK l c p s)=true)∧Below w4.heap.size w4 wr) (fun i _=>l.length-(intOf i).toNat)
 case atStart=>exact⟨0,yI _,rfl,rfl,yB _ _⟩
 obtain⟨k,hk,rfl,HN,ai⟩:=hrel;by_cases ay:k<l.length
 ·have ic:=ai.alloc ai.size (.cells #[.int .i64 k] 3);have de:=ai.size;have hST:=HST.o;obtain⟨B0,hD,hT,Mr,kC,YV,hO1,hW4⟩:=hST;rw[hW4] at B0 kC YV hO1;have vv2:=Mr.cs_len;have kn:=Mr.rows k ay (by omega) ay;have hcO:=Mr.own.cellAt k (by omega);have xD:=(ic.cell (p:=⟨D,0,none⟩) kC).trans hD;have xT:=(ic.cell (p:=⟨w.heap.size,0,none⟩) YV).trans hT;have xg:=(ic.cell (p:=⟨g,1,none⟩) B0.hg).trans (B0.blk.cell 1)
  have xO:=(ic.cell (p:=⟨O,k,none⟩) hO1).trans hcO;have xI:=World.cell?_alloc_new wr #[.int .i64 k] 3 0;simp only[aG,aH,aD] at xg xI;rw[yM (by omega)] at xO;have Uu:RowAt (Value.int .i64) w4 w4.heap.size (cs[k]'(by omega)) (ow l l[k].bef):=RowAt.of_own (n:=l[k].bef.length) kn;have HW:Y0 (∀w',Below w4.heap.size w4 w'→Calls Tryz.prog 72 #[.pointer (some ⟨g,0,none⟩),.int .i64 k] w' fun e fV=>e=.returned (.bool (jY l c p s k))∧Below w'.heap.size w' fV):=fun w' hb=>
   NB g l c p _ _ _ s k w' uR.o ((B0.below hb).mono hb.size) ay
  have HC:Y0 (∀w',Below w4.heap.size w4 w'→w'.cell? ⟨wr.heap.size,0,none⟩=some (.int .i64 k)→wr.heap.size < w'.heap.size→Calls Tryz.prog 73 #[cs[k]'(by omega),.func (.func 74) #[] #[.pointer (some ⟨D,0,none⟩),.pointer (some ⟨w.heap.size,0,none⟩),.pointer (some ⟨wr.heap.size,0,none⟩)]] w'
    fun e fV=>e=.returned (.bool ((ow l l[k].bef).any (xF l s k)))∧Below w'.heap.size w' fV):=fun w' hb hI hIl=>by
   refine vl _ (ow l l[k].bef) 74 #[.pointer (some ⟨D,0,none⟩),.pointer (some ⟨w.heap.size,0,none⟩),.pointer (some ⟨wr.heap.size,0,none⟩)] (xF l s k) O0 w' ((Uu.below hb (yA _)).mono hb.size) ?_;intro x hx fV vxy;obtain⟨j,hj,rfl⟩:=LP uR.o ay hx;have mW:=hb.trans (vxy.mono hb.size);refine (Dc g w4.heap.size D w.heap.size wr.heap.size l c p _ _ _ s k j fV uR.o (B0.below mW) ay hj ((mW.cell (p:=⟨D,0,none⟩) kC).trans hD) ((mW.cell (p:=⟨w.heap.size,0,none⟩) YV).trans hT) ((vxy.cell (p:=⟨wr.heap.size,0,none⟩) hIl).trans hI)).mono ?_
   rintro e w5 ⟨he,q,rfl⟩;exact⟨he,Zf (yB _ _) q⟩
  have BS:Y0 (kK l c p s k=(jY l c p s k && !(ow l l[k].bef).any (xF l s k))):=by unfold Y0 kK;rw[lX ay]
  have MN:Y0 (kK l c p s k=true→(List.range (k+1)).all (kK l c p s)=true):=fun h=>by rw[zr,HN.o,h];rfl
  have gM:Y0 (kK l c p s k=false→qS l c p s=false):=fun h=>Dl ay h;have i1:(0:Int)≤(k:Int):=yE _;have i2:(k:Int)<(l.length:Int):=by omega
  clear B0 hD hT Mr hcO kn Uu HN;generalize (ow l l[k].bef).any (xF l s k)=lt at*;generalize jY l c p s k=wh at*;generalize kK l c p s k=ok at*;generalize cs[k]'(by omega)=rowv at*;go_wp2_with fail;have hwx:wr.heap.size<(wr.alloc (.cells #[.int .i64 k] 3)).heap.size:=by simp
  generalize wr.alloc (.cells #[.int .i64 k] 3)=wx at*;generalize wr.heap.size=I at*;have hW:=HeldB.call (fun w' (hb:Below wx.heap.size wx w')=>HW.o w' (ic.trans (hb.mono ic.size)));have hC:=HeldB.call (fun w' (hb:Below wx.heap.size wx w')=>HC.o w' (ic.trans (hb.mono ic.size)) ((hb.cell (p:=⟨I,0,none⟩) hwx).trans xI) (yK hwx hb.size));have yD:=YL xD;have yI:=YL xI;have yg:=YL xg;have yO:=YL xO;clear HW HC
  cases wh
  ·have HB:Y0 (qS l c p s=false):=gM.o (by rw[BS.o];rfl);clear gM MN BS;refine bB (by kernel_rfl) (by kernel_rfl) ?_
   repeat (go_big_quiet_step ((go_at_call 72;exact hW _)))
   refine YE ?_;rintro _ ⟨⟨w5,aR⟩,rfl⟩;clear yD yI yg yO hW hC;go_wp2_with fail;refine YF (results_tmp2 rfl _ _ _) (by rfl) ?_;refine⟨fF.trans ((ic.trans (aR.mono ic.size)).mono fF.size),?_⟩;rw[HE0.o,HB.o];rfl
  cases lt
  ·have hN:=zh (MN.o (by rw[BS.o];rfl));clear gM MN BS;refine bB (by kernel_rfl) (by kernel_rfl) ?_
   repeat (go_big_quiet_step ((first|(go_at_call 72;exact hW _)|(go_at_call 73;exact hC _))))
   refine YE ?_;rintro _ ⟨⟨w5,aR⟩,rfl⟩;clear yD yI yg yO hW hC;go_wp2_with fail;go_roundw
   case rel=>exact⟨k+1,by omega,by go_num,hN,ic.trans (aR.mono ic.size)⟩
   simp[intOf];omega
  have HB:Y0 (qS l c p s=false):=gM.o (by rw[BS.o];rfl);clear gM MN BS;refine bB (by kernel_rfl) (by kernel_rfl) ?_
  repeat (go_big_quiet_step ((first|(go_at_call 72;exact hW _)|(go_at_call 73;exact hC _))))
  refine YE ?_;rintro _ ⟨⟨w5,aR⟩,rfl⟩;clear yD yI yg yO hW hC;go_wp2_with fail;refine YF (results_tmp2 rfl _ _ _) (by rfl) ?_;refine⟨fF.trans ((ic.trans (aR.mono ic.size)).mono fF.size),?_⟩;rw[HE0.o,HB.o];rfl
 have FG:k=l.length:=by omega
 subst FG;have HV:Y0 (qS l c p s=true):=HN.o;go_wp2_with fail;refine YF (results_tmp2 rfl _ _ _) (by rfl) ?_;refine⟨fF.trans (ai.mono fF.size),?_⟩;rw[HE0.o,HV.o];rfl
structure PlanO (w:World) (B g:Nat) (l:List Task) (c p:Int) (tv:Value) (O S:Nat) (cs:List Value) (s:List Int):Prop where
 blk:Blk w g 119 #[tv,.slice (some ⟨O,0,none⟩) l.length l.length,.int .i64 c,.int .i64 p,.slice (some ⟨S,0,none⟩) l.length l.length]
 rows:BefRows w B O l l.length cs
 st:Blk w S 3 (s.map (Value.int .i64)).toArray
 tasks:TasksAt w B tv l
 len:s.length=l.length
 bd:∀x∈s,-1≤x∧x≤1000000
 low:B≤g∧B≤S∧B≤w.heap.size
 apart:∀j (hj:j<cs.length),cs[j].ownBlock≠some S
section
variable {w w':World} {B g O S:Nat} {l:List Task} {c p:Int} {tv:Value} {cs:List Value} {s:List Int}
theorem PlanO.below (h:PlanO w B g l c p tv O S cs s) (hb:Below w.heap.size w w'):PlanO w' B g l c p tv O S cs s :=
 ⟨h.blk.below hb h.blk.lt,h.rows.below hb,h.st.below hb h.st.lt,h.tasks.below hb h.low.2.2,h.len,h.bd,⟨h.low.1,h.low.2.1,yH h.low.2.2 hb.size⟩,h.apart⟩
theorem PlanO.set (h:PlanO w B g l c p tv O S cs s) {i:Nat} {t:Int} (ht : -1≤t∧t≤1000000):PlanO (w.setCell ⟨S,i,none⟩ (.int .i64 t)) B g l c p tv O S cs (s.set i t):=by
 have hgS:some g≠some S:=by
  intro e;injection e with e;have h1:=h.blk;have h2:=h.st;rw[e] at h1;unfold Blk at h1 h2;rw[h1] at h2;injection h2 with h2;injection h2 with _ h3;exact absurd h3 (by decide)
 have kB:=h.st.setGrown i (.int .i64 t);have hOS:(Value.slice (some ⟨O,0,none⟩) l.length l.length).ownBlock≠some S:=fun e=>(h.st.ne_own h.rows.own (by decide)) e.symm;refine⟨h.blk.kept kB hgS,⟨h.rows.own.kept kB (.inr hOS),fun j hj hc xP=>(h.rows.rows j hj hc xP).kept kB (.inr (h.apart j hc)),h.rows.rest⟩,?_,?_,by simpa using h.len,?_,?_,h.apart⟩
 ·have:=h.st.set_ i (.int .i64 t);rwa [show ((s.map (Value.int .i64)).toArray.setIfInBounds i (.int .i64 t))=((s.set i t).map (Value.int .i64)).toArray by simp[List.map_set]] at this
 ·exact h.tasks.below ((yB B w).setCell (p:=⟨S,i,none⟩) h.low.2.1 _) (yA _)
 ·intro x hx;rcases List.mem_or_eq_of_mem_set hx with hx|rfl
  ·exact h.bd x hx
  exact ht
 refine⟨h.low.1,h.low.2.1,?_⟩
 have:=h.low.2.2;simp[World.setCell];omega
theorem PlanO.cell (h:PlanO w B g l c p tv O S cs s) {i:Nat} (hi:i<l.length):w.cell? ⟨S,i,none⟩=some (.int .i64 (lH s i))∧w.frozen? ⟨S,i,none⟩=false:=by
 have hl:=h.len;refine⟨?_,h.st.frozen i⟩;rw[h.st.cell i,lk (by omega)];simp
theorem PlanO.row (h:PlanO w B g l c p tv O S cs s) {i:Nat} (hi:i<l.length):∃v,w.cell? ⟨O,i,none⟩=some v∧RowAt (Value.int .i64) w w.heap.size v (ow l l[i].bef):=by
 have hc:=h.rows.cs_len;refine⟨cs[i],?_,RowAt.of_own (n:=l[i].bef.length) (h.rows.rows i hi (by omega) hi)⟩;rw[h.rows.own.cellAt i (by omega),yM]
end
