/- Lemmas. -/
import Derived.Test.YtmmhehgajkaniaaGreatDoorZ0
namespace Go.Proofs.YtmmhehgajkaniaaGreatDoor
set_option maxRecDepth 100000
set_option maxHeartbeats 40000000
open Go.RowKit Go.Shelf Go.WideMaps Go.Maps
def eF (t:Task):Bool:=dw t.name&&Zw t.len 1 10000&&Zw t.crew 0 100&&Zw t.pow 0 100
theorem dF {t:Task} (h:eF t=true):1≤t.len∧t.len≤10000:=by
 unfold eF Zw at h;simp only[Bool.and_eq_true,decide_eq_true_eq] at h;exact h.1.1.2
def mj (rows:List (List Int)) (ds:List Bool) (i:Nat):List Bool:=ds.set i (ds.getD i false||(rows.getD i []).all fun k=>ds.getD k.toNat false)
def jm (rows:List (List Int)):Nat→Nat→List Bool→List Bool
 | _,0,ds=>ds
 | i,m+1,ds=>jm rows (i+1) m (mj rows ds i)
def iC (rows:List (List Int)) (n:Nat):Nat→List Bool→List Bool
 | 0,ds=>ds
 | f+1,ds=>iC rows n f (jm rows 0 n ds)
def vU (l:List Task):Bool:=(iC (cL l) l.length l.length (List.replicate l.length false)).all id
noncomputable def iK (l:List Task):Bool:=decide (l.length≤8)&&l.all eF&&(cX l&&nC l)&&vU l
theorem jH (rows:List (List Int)) (ds:List Bool) (i:Nat):(mj rows ds i).length=ds.length:=by simp[mj]
theorem BefRows.kept {w w':World} {base O:Nat} {l:List Task} {i:Nat} {cs:List Value} (h:BefRows w base O l i cs) {b e n:Nat} {vM:Value} {xs:List Value} (hM:w.ownsRow b e 1 vM n xs)
  (h1:3≠e) (h2:22≠e) (hg:w.grownBy w' vM.ownBlock):BefRows w' base O l i cs :=
 ⟨h.own.kept hg (xt h.own hM h2),fun j hj hc xP=>(h.rows j hj hc xP).kept hg (xt (h.rows j hj hc xP) hM h1),h.rest⟩
theorem BefRows.alloc {w:World} {base O:Nat} {l:List Task} {i:Nat} {cs:List Value} (h:BefRows w base O l i cs) (o:Obj):BefRows (w.alloc o) base O l i cs :=
 ⟨h.own.alloc o,fun j hj hc xP=>(h.rows j hj hc xP).alloc o,h.rest⟩
theorem BefRows.past {w w':World} {base O:Nat} {l:List Task} {i:Nat} {cs:List Value} (h:BefRows w base O l i cs) (hg:w.grownBy w' none):BefRows w' base O l i cs :=
 ⟨h.own.kept hg (.inr (by simp[Value.ownBlock])),fun j hj hc xP=>(h.rows j hj hc xP).kept hg (by cases hv:cs[j].ownBlock <;> simp),h.rest⟩
theorem x7 (n:Nat):(madeCells (Value.cells (.bool false)) (n*1)).toList=(List.replicate n false).map Value.bool:=by
 apply List.ext_getElem
 ·simp[size_madeCells]
 intro i h1 h2;simp[madeCells,Value.cells,Nat.mod_one]
theorem pY {w:World} {B B' O:Nat} {l:List Task} {i:Nat} {cs:List Value} (h:BefRows w B O l i cs) (hB:B'≤B):BefRows w B' O l i cs :=
 ⟨jg h.own hB,fun j hj hc xP=>jg (h.rows j hj hc xP) hB,h.rest⟩
theorem Bp:(Tryz.prog.info? 4).map (fun i=>(i.zero,i.size,i.bytes))=some (some (.bool false),1,1):=by kernel_rfl
theorem O1:∀args w,(callFunc 128 args).run Tryz.prog w=.ok (.enter 128 args) w:=enters_of Tryz.func128 (by kernel_rfl) rfl
theorem Cg (k:Nat) (D M n:Nat) (ds:List Bool) (w:World) (hk:k < n) (_h8:n ≤ 8) (hn:ds.length=n)
  (hD:w.cell? ⟨D,0,none⟩=some (.slice (some ⟨M,0,none⟩) n n)) (hM:∀j (hj:j<ds.length),w.cell? ⟨M,j,none⟩=some (.bool ds[j])) :
  Calls Tryz.prog 128 #[.int .i64 k,.pointer (some ⟨D,0,none⟩)] w fun e w'=>e=.returned (.bool (!ds.getD k false))∧w=w':=by
 have hMk:=hM k (by omega);have he:ds.getD k false=ds[k]:=by rw[yN,yM (by omega)];rfl
 have He:=zh he;clear hM he;generalize ds[k]=d at*;clear hn;go_enter Tryz.func128,Tryz.ntmps128;go_wp2;go_ret;exact⟨Ze (by rw[He.o]),rfl⟩
theorem Eh {l:List Task} {w3 wr:World} {base O M D r i:Nat} {ds:List Bool} {cs:List Value} (ff:i < l.length) (_vv7:r < l.length) (FJ:ds.length=l.length)
  (hM:wr.ownsRow base 4 1 (.slice (some ⟨M,0,none⟩) l.length l.length) l.length (ds.map Value.bool)) (kB:w3.grownBy wr (some M))
  (HI:iC (cL l) l.length (l.length-r-1) (jm (cL l) i (l.length-i) ds)=iC (cL l) l.length l.length (List.replicate l.length false))
  (Ms:w3.ownsRow base 4 1 (.slice (some ⟨M,0,none⟩) l.length l.length) l.length ((List.replicate l.length false).map Value.bool)) (hR3:BefRows w3 base O l l.length cs)
  (hD3:w3.heap[D]?=some (.cells #[.slice (some ⟨M,0,none⟩) l.length l.length] 171)) (dL:M<D) :
  ∃di,ds.getD i false=di∧∃ci,wr.cell? ⟨D,0,none⟩=some (.slice (some ⟨M,0,none⟩) l.length l.length)∧wr.cell? ⟨M,i,none⟩=some (.bool di)∧wr.frozen? ⟨M,i,none⟩=false ∧
   wr.cell? ⟨O,i,none⟩=some ci∧bg wr wr.heap.size ci (ow l l[i].bef)∧(∀j (hj:j<ds.length),wr.cell? ⟨M,j,none⟩=some (.bool ds[j])) ∧
   Y0 (∀wq:World,wq.heap=wr.heap→(wq.setCell ⟨M,i,none⟩ (.bool (di||(ow l l[i].bef).all fun k=>ds.getD k.toNat false))).ownsRow base 4 1 (.slice (some ⟨M,0,none⟩) l.length l.length) l.length ((mj (cL l) ds i).map Value.bool)) ∧
   Y0 (∀x,w3.grownBy (wr.setCell ⟨M,i,none⟩ x) (some M))∧Y0 ((mj (cL l) ds i).length=l.length) ∧
   Y0 (iC (cL l) l.length (l.length-r-1) (jm (cL l) (i+1) (l.length-(i+1)) (mj (cL l) ds i))=iC (cL l) l.length l.length (List.replicate l.length false)):=by
 have hRr:=hR3.kept Ms (by decide) (by decide) kB;have jJ:=vE hRr.own;have vq9:(cL l).getD i []=ow l l[i].bef:=by unfold cL;rw[List.getD_eq_getElem?_getD,List.getElem?_map,List.getElem?_eq_getElem ff];rfl
 have vwa:ds.getD i false=ds[i]'(by omega):=by rw[yN,yM (by omega)];rfl
 have fF:∀j (hj:j<ds.length),wr.cell? ⟨M,j,none⟩=some (.bool ds[j]):=fun j hj=>by
  have:=hM.cellAt j (by omega);rw[YC,yM hj] at this;exact this
 refine⟨_,rfl,cs[i]'(by omega),?_,?_,hM.frozenAt i,?_,RowAt.of_own (hRr.rows i ff (by omega) ff),fF,fun wq hq=>?_,fun x=>?_,?_,?_⟩
 ·rw[cell_of_row _ _ 0 _ _ _ (Bv kB hD3 (by simp;omega))];rfl
 ·rw[vwa];exact fF i (by omega)
 ·have:=hRr.own.cellAt i (by omega);rw[yM (by omega)] at this;exact this
 ·have hMq:wq.ownsRow base 4 1 (.slice (some ⟨M,0,none⟩) l.length l.length) l.length (ds.map Value.bool):=by
   unfold World.ownsRow at hM⊢;rw[hq];exact hM
  unfold mj;rw[List.map_set,vq9];exact (hMq.stored i _).1
 ·exact qK kB (hM.stored i x).2 (fun g hg=>.inr hg)
 ·unfold Y0;rw[jH,FJ]
 unfold Y0;rw[←HI,show l.length-i=(l.length-(i+1))+1 by omega];rfl
theorem I3 {l:List Task} {wq:World} {M D i:Nat} {ci:Value} {ds:List Bool} (ff:i < l.length) (h8:l.length ≤ 8) (FJ:ds.length=l.length)
  (hk:∀t∈ow l l[i].bef,∃m,m<l.length∧t=(m:Int)) (kn:bg wq wq.heap.size ci (ow l l[i].bef)) (hD:wq.cell? ⟨D,0,none⟩=some (.slice (some ⟨M,0,none⟩) l.length l.length))
  (hM:∀j (hj:j<ds.length),wq.cell? ⟨M,j,none⟩=some (.bool ds[j])) :
  Calls Tryz.prog 73 #[ci,.func (.func 128) #[] #[.pointer (some ⟨D,0,none⟩)]] wq fun e w'=>e=.returned (.bool (!((ow l l[i].bef).all fun k=>ds.getD k.toNat false)))∧w'=wq:=by
 refine (mm ci (ow l l[i].bef) 128 #[.pointer (some ⟨D,0,none⟩)] (fun k=>!ds.getD k.toNat false) O1 wq.heap.size wq kn ?_).mono ?_
 ·intro t ht;obtain⟨m,hm,rfl⟩:=hk t ht
  have:=Cg m D M l.length ds wq hm h8 FJ hD hM;simpa using this
 rintro e w' ⟨rfl,rfl⟩;refine⟨Ze ?_,rfl⟩;rw[Bool.eq_iff_iff];simp
theorem wK (v:Value) (l:List Task) (w:World) (hl:TasksAt w w.heap.size v l) :
  Calls Tryz.prog 76 #[v] w fun e w'=>e=.returned (.bool (iK l))∧Below w.heap.size w w':=by
 have HL:=zh hl;obtain⟨A,c,rfl,fU,cM,aj⟩:=hl.open_;unfold maxLen at cM;clear hl;by_cases h8:l.length≤8
 ·go_enter Tryz.func76,Tryz.ntmps76;go_wp2;go_loopw [14] (fun x wr=>∃j:Nat,j≤l.length∧x=.int .i64 j∧Y0 (∀i (hi:i<l.length),i<j→eF l[i]=true)∧Below w.heap.size w wr) (fun x _=>l.length-(intOf x).toNat)
  case atStart=>exact⟨0,yI _,rfl,fun i _ hi=>absurd hi (Nat.not_lt_zero i),yB _ _⟩
  obtain⟨j,hj,rfl,Hf,ai⟩:=hrel;by_cases ao:j<l.length
  ·obtain⟨b,off,rfl,hb,aj⟩:=aj j ao;obtain⟨h0,h1,h2,h3,h4⟩:=(aj j ao).below ai hb;clear aj;have bL:=HL.o.ok ao;have hN:=fun W=>mf l[j].name bL.name W;have ic:∀o,Below w.heap.size w (wr.alloc o):=fun o=>ai.alloc ai.size o;have HJ:eF l[j]=false→Y0 (iK l=false):=by
    intro h;unfold Y0 iK
    have:l.all eF=false:=by rw[List.all_eq_false];exact⟨l[j],yV ao,by simp[h]⟩
    simp[this]
   have qY:=zh bL;clear bL;have HT:eF l[j]=true→Y0 (∀i (hi:i<l.length),i<j+1→eF l[i]=true):=by
    intro h i hi hij;by_cases e:i=j
    ·subst e;exact h
    exact Hf.o i hi (by omega)
   unfold eF Zw at HJ HT;generalize l[j].name=nm at*;generalize l[j].len=a1 at*;generalize l[j].crew=a2 at*;generalize l[j].pow=a3 at*;generalize l[j].bef.length=a4 at*;generalize l[j].ba=a5 at*;generalize l[j].bc=a6 at*;cases hn:dw nm
   ·have HR:=HJ (by simp[hn]);clear HJ HT;have hN:=fun W=>by have:=hN W;rw[hn] at this;exact this
    go_wp2_with (go_at_call 35;refine (hN _).mono ?_;rintro e w' ⟨rfl,rfl⟩);go_ret;exact⟨Ze HR.o.symm,ic _⟩
   have hN:=fun W=>by have:=hN W;rw[hn] at this;exact this
   by_cases c1:1≤a1;rotate_left
   ·have HR:=HJ (by simp[hn];omega);clear HJ HT hn;go_wp2_with (go_at_call 35;refine (hN _).mono ?_;rintro e w' ⟨rfl,rfl⟩);go_ret;exact⟨Ze HR.o.symm,ic _⟩
   by_cases c2:a1≤10000;rotate_left
   ·have HR:=HJ (by simp[hn];omega);clear HJ HT hn;go_wp2_with (go_at_call 35;refine (hN _).mono ?_;rintro e w' ⟨rfl,rfl⟩);go_ret;exact⟨Ze HR.o.symm,ic _⟩
   by_cases c3:0≤a2;rotate_left
   ·have HR:=HJ (by simp[hn];omega);clear HJ HT hn;go_wp2_with (go_at_call 35;refine (hN _).mono ?_;rintro e w' ⟨rfl,rfl⟩);go_ret;exact⟨Ze HR.o.symm,ic _⟩
   by_cases c4:a2≤100;rotate_left
   ·have HR:=HJ (by simp[hn];omega);clear HJ HT hn;go_wp2_with (go_at_call 35;refine (hN _).mono ?_;rintro e w' ⟨rfl,rfl⟩);go_ret;exact⟨Ze HR.o.symm,ic _⟩
   by_cases c5:0≤a3;rotate_left
   ·have HR:=HJ (by simp[hn];omega);clear HJ HT hn;go_wp2_with (go_at_call 35;refine (hN _).mono ?_;rintro e w' ⟨rfl,rfl⟩);go_ret;exact⟨Ze HR.o.symm,ic _⟩
   by_cases c6:a3≤100;rotate_left
   ·have HR:=HJ (by simp[hn];omega);clear HJ HT hn;go_wp2_with (go_at_call 35;refine (hN _).mono ?_;rintro e w' ⟨rfl,rfl⟩);go_ret;exact⟨Ze HR.o.symm,ic _⟩
   have HS:=HT (by simp[hn];omega);clear HJ HT hn;go_wp2_with (go_at_call 35;refine (hN _).mono ?_;rintro e w' ⟨rfl,rfl⟩);go_roundw
   case rel=>exact⟨j+1,by omega,by go_num,HS,ic _⟩
   simp[intOf];omega
  have oD:j=l.length:=by omega
  subst oD;clear aj;have HA:Y0 (l.all eF=true):=by
   unfold Y0;rw[List.all_eq_true];intro t ht;obtain⟨i,hi,rfl⟩:=List.getElem_of_mem ht;exact Hf.o i hi hi
  clear Hf;have hB:=tZ _ l wr ((HL.o.below ai (yA _)).mono ai.size) h8;obtain⟨i0,jB,hH,jb,km⟩:=info_parts Bp;have aZ:i0.bytes*l.length≤281474976710656:=by rw[km];omega
  go_wp2_with (first
   | (go_at_call 124;refine hB.mono ?_;rintro e w1 ⟨ak,⟨ky,rfl⟩|⟨Yr,O,cs,rfl,hR⟩⟩)
   | (at_make;refine wpList_make_full _ rfl _ _ 171 rfl w.heap.size 4 i0 (.bool false) 1 Tryz.underlying171 jB hH jb .i64 .i64 _ _ l.length rfl rfl rfl rfl aZ (by unfold maxLen;omega) (ai.trans (ak.mono ai.size)).size ?_;intro w2 ia fW))
  ·have HR:Y0 (iK l=false):=by unfold Y0 iK;simp only[ky,Bool.and_false,Bool.false_and]
   clear HA;go_ret;exact⟨Ze HR.o.symm,ai.trans (ak.mono ai.size)⟩
  have HK:Y0 (∀i (hi:i<l.length),∀t∈ow l l[i].bef,∃m,m<l.length∧t=(m:Int)):=by
   intro i hi t ht;unfold ow at ht;rw[List.mem_map] at ht;obtain⟨s,hs,rfl⟩:=ht;rw[Bool.and_eq_true] at Yr;obtain⟨m,hm,e,-⟩:=oy (((fR l).1 Yr.2 l[i] (yV hi)).2 s hs).1;exact⟨m,hm,e⟩
  have HW:Y0 (iK l=vU l):=by unfold Y0 iK;simp only[Yr,h8,HA.o,decide_true,Bool.true_and,Bool.and_true]
  have FM:=((ai.trans (ak.mono ai.size)).grown fW (ai.trans (ak.mono ai.size)).size (fun k hk=>by cases hk)).alloc ((ai.trans (ak.mono ai.size)).grown fW (ai.trans (ak.mono ai.size)).size (fun k hk=>by cases hk)).size (.cells #[.slice (some ⟨w1.heap.size,0,none⟩) l.length l.length] 171);have hR3:=((pY hR ai.size).past fW).alloc (.cells #[.slice (some ⟨w1.heap.size,0,none⟩) l.length l.length] 171);have Ms:=ia.alloc (.cells #[.slice (some ⟨w1.heap.size,0,none⟩) l.length l.length] 171)
  rw[x7] at Ms;have hD3:=heap_alloc_new w2 (.cells #[.slice (some ⟨w1.heap.size,0,none⟩) l.length l.length] 171);have dL:w1.heap.size<w2.heap.size:=by
   have:=ia.lt w1.heap.size rfl;exact this.2
  clear ia fW hB Yr HA jB hH jb km aZ ak ai hR;generalize w2.alloc (.cells #[.slice (some ⟨w1.heap.size,0,none⟩) l.length l.length] 171)=w3 at*;generalize w1.heap.size=M at*;generalize w2.heap.size=D at*;go_loopw [65] (fun x wr=>∃(r:Nat) (ds:List Bool),r≤l.length∧x=.int .i64 r∧ds.length=l.length∧wr.ownsRow w.heap.size 4 1 (.slice (some ⟨M,0,none⟩) l.length l.length) l.length (ds.map Value.bool) ∧
    w3.grownBy wr (some M)∧Y0 (iC (cL l) l.length (l.length-r) ds=iC (cL l) l.length l.length (List.replicate l.length false))) (fun x _=>l.length-(intOf x).toNat)
  case atStart=>exact⟨0,_,yI _,rfl,by simp,Ms,World.grownBy.refl _ _,rfl⟩
  obtain⟨r,ds,hr,rfl,FJ,hM,kB,HI⟩:=hrel;by_cases hrl:r<l.length
  ·obtain⟨wo,rfl⟩:∃wo:World,wo=wr:=⟨_,rfl⟩;have HDS:=zh FJ;clear FJ;go_wp2;go_loopw [69] (fun x wr=>∃(i:Nat) (ds:List Bool),i≤l.length∧x=.int .i64 i∧Y0 (ds.length=l.length)∧wr.ownsRow w.heap.size 4 1 (.slice (some ⟨M,0,none⟩) l.length l.length) l.length (ds.map Value.bool) ∧
     w3.grownBy wr (some M)∧Y0 (iC (cL l) l.length (l.length-r-1) (jm (cL l) i (l.length-i) ds)=iC (cL l) l.length l.length (List.replicate l.length false))) (fun x _=>l.length-(intOf x).toNat)
   case atStart=>exact⟨0,ds,yI _,rfl,HDS.o,hM,kB,by unfold Y0;rw[←HI.o,show l.length-r=(l.length-r-1)+1 by omega];rfl⟩
   clear hM kB HI HDS;obtain⟨i,ds,hi,rfl,HDS,hM,kB,HI⟩:=hrel;by_cases ff:i<l.length
   ·obtain⟨di,hdi,ci,hcD,hcM,hfM,hcO,vzM,qjo,HST,vxU,vxT,nQ⟩:=Eh ff hrl HDS.o hM kB HI.o Ms hR3 hD3 dL;clear hM kB HI Ms hR3 hD3;have HDI:=zh hdi;have vw1:=zh qjo;clear hdi qjo;go_wp2;cases di
    case true=>
     refine bP 16 (by kernel_rfl) (by kernel_rfl) ?_;simp only[aM,aP,aN,aO]
     repeat (go_big_quiet_step (fail))
     refine YE ?_;go_wp2;go_roundw
     case rel=>exact⟨i+1,_,by omega,by go_num,vxT,HST.o wr rfl,ye (vxU.o _),nQ⟩
     simp[intOf];omega
    have bH:=I3 (ci:=ci) (M:=M) (D:=D) (wq:=wr.drew) ff h8 HDS.o (HK.o i ff) vzM hcD vw1.o;have vv9:=HDS;clear HDS;generalize hav:((ow l l[i].bef).all fun k=>ds.getD k.toNat false)=av at*;have Hav:=zh hav;clear hav;refine bP 16 (by kernel_rfl) (by kernel_rfl) ?_;simp only[aM,aP,aN,aO]
    repeat (first|go_big_quiet_skip|(go_big_quiet_want;go_big_quiet_op;first|go_big_quiet_on|(apply Exists.intro;refine⟨?_,?_⟩;(go_at_call 73;exact bH);go_big_quiet_on)))
    refine YE ?_;go_wp2;go_roundw
    case rel=>exact⟨i+1,_,by omega,by go_num,vxT,HST.o wr rfl,ye (vxU.o _),nQ⟩
    simp[intOf];omega
   have xQ:i=l.length:=by omega
   subst xQ;have Dw:Y0 (iC (cL l) l.length (l.length-(r+1)) ds=iC (cL l) l.length l.length (List.replicate l.length false)):=by
    unfold Y0;rw[←HI.o,Nat.sub_self];rfl
   clear HI;go_wp2;go_roundw
   case rel=>exact⟨r+1,_,by omega,by go_num,HDS.o,hM,kB,Dw⟩
   simp[intOf];omega
  have Yw:r=l.length:=by omega
  subst Yw;have HDA:Y0 ((!decide (false∈ds))=iK l):=by
   unfold Y0;rw[HW.o];unfold vU;rw[←HI.o,Nat.sub_self];show _=ds.all id;rw[Bool.eq_iff_iff];simp only[Bool.not_eq_true',decide_eq_false_iff_not,List.all_eq_true,id];constructor
   ·intro h x hx;cases x
    case true=>rfl
    exact absurd hx h
   intro h hx;exact absurd (h _ hx) (by decide)
  have kn:qqc wr wr.heap.size (.slice (some ⟨M,0,none⟩) l.length l.length) ds:=RowAt.of_own hM;have pS:=CY _ ds false wr.heap.size wr kn;have hcD:wr.cell? ⟨D,0,none⟩=some (.slice (some ⟨M,0,none⟩) l.length l.length):=by
   rw[cell_of_row _ _ 0 _ _ _ (Bv kB hD3 (by simp;omega))];rfl
  have vwf:=FM.grown kB FM.size (fun k hk=>by cases hk;exact (hM.lt M rfl).1);clear kn HI hM kB hR3 Ms hD3 FJ HK;generalize decide (false∈ds)=z at*;go_wp2_with (go_at_call 129;refine pS.mono ?_;rintro e w' ⟨rfl,rfl⟩);go_ret;exact⟨Ze HDA.o,vwf⟩
 have hF:Y0 (iK l=false):=by unfold Y0 iK;simp[h8]
 clear aj;go_enter Tryz.func76,Tryz.ntmps76;go_wp2;go_ret;exact⟨Ze hF.o.symm,yB _ _⟩
def vm (len:Int) (x:List Int) (js:List Int):Int:=js.foldl (fun n j=>max n (len+x.getD j.toNat 0)) len
def lens (l:List Task):List Int:=l.map Task.len
def ku (ls:List Int) (rows:List (List Int)) (x:List Int) (i:Nat):List Int:=x.set i (vm (ls.getD i 0) x (rows.getD i []))
def mr (ls:List Int) (rows:List (List Int)):Nat→Nat→List Int→List Int
 | _,0,x=>x
 | i,m+1,x=>mr ls rows (i+1) m (ku ls rows x i)
def zg (ls:List Int) (rows:List (List Int)) (n:Nat):Nat→List Int→Option (List Int)
 | 0,_=>none
 | f+1,x=>if mr ls rows 0 n x=x then some x else zg ls rows n f (mr ls rows 0 n x)
def pD (l:List Task):Option (List Int):=zg (lens l) (cL l) l.length (l.length+1) (List.replicate l.length 0)
theorem B5 {l:List Task} {i:Nat} (h:i<l.length):(lens l).getD i 0=l[i].len:=by unfold lens;rw[List.getD_eq_getElem?_getD,List.getElem?_map,List.getElem?_eq_getElem h];rfl
theorem lX {l:List Task} {i:Nat} (h:i<l.length):(cL l).getD i []=ow l l[i].bef:=by unfold cL;rw[List.getD_eq_getElem?_getD,List.getElem?_map,List.getElem?_eq_getElem h];rfl
theorem FY (x:List Int) (i:Nat) (h:i<x.length):x.getD i 0=x[i]:=by rw[yN,yM h];rfl
theorem Ed (x:List Int) (i:Nat) (h:i<x.length):x.set i x[i]=x:=by
 apply List.ext_getElem?;intro j;rw[List.getElem?_set];split
 ·rename_i e;subst e;simp
 rfl
theorem jK (x:List Int) (i j:Nat) (v:Int) (hi:i<x.length):(x.set i v).getD j 0=if j=i then v else x.getD j 0:=by
 rw[yN,List.getElem?_set,yN];by_cases e:i=j
 ·subst e;simp[hi]
 rw[if_neg e,if_neg (fun h=>e h.symm)]
theorem rQ (ls:List Int) (rows:List (List Int)) (x:List Int) (i:Nat):(ku ls rows x i).length=x.length:=by simp[ku]
theorem mR (ls:List Int) (rows:List (List Int)):∀(m i:Nat) (x:List Int),(mr ls rows i m x).length=x.length
 | 0,_,_=>rfl
 | m+1,i,x=>by unfold mr;rw[mR ls rows m,rQ]
theorem BK (ls:List Int) (rows:List (List Int)):∀(m i:Nat) (x:List Int) (j:Nat),j < i→(mr ls rows i m x).getD j 0=x.getD j 0
 | 0,_,_,_,_=>rfl
 | m+1,i,x,j,hj=>by
  unfold mr;rw[BK ls rows m (i+1) _ j (by omega)];unfold ku;rw[yN,List.getElem?_set_ne (by omega),←yN]
def ChainsPost (l:List Task) (w:World) (e:Ending) (w':World):Prop :=
 Below w.heap.size w w'∧match pD l with
   | none=>e=.returned (.tuple #[.slice none 0 0,.bool false])
   | some x=>∃O,e=.returned (.tuple #[.slice (some ⟨O,0,none⟩) l.length l.length,.bool true])∧x.length=l.length∧w'.ownsRow w.heap.size 3 1 (.slice (some ⟨O,0,none⟩) l.length l.length) l.length (x.map (Value.int .i64))
theorem ChainsPost.no {l:List Task} {w w':World} {O:Nat} (hO:w.heap.size=O) (h:pD l=none) (hb:Below O w w'):ChainsPost l w (.returned (.tuple #[.slice none 0 0,.bool false])) w':=by
 subst hO;refine⟨hb,?_⟩;rw[h]
theorem ChainsPost.yes {l:List Task} {w w':World} {O:Nat} {x:List Int} (hO:w.heap.size=O) (h:pD l=some x) (hb:Below O w w') (hx:x.length=l.length)
  (hM:w'.ownsRow O 3 1 (.slice (some ⟨O,0,none⟩) l.length l.length) l.length (x.map (Value.int .i64))):ChainsPost l w (.returned (.tuple #[.slice (some ⟨O,0,none⟩) l.length l.length,.bool true])) w':=by
 subst hO;refine⟨hb,?_⟩;rw[h];exact⟨_,rfl,hx,hM⟩
def ZV (l:List Task) (i:Nat) (t:Task):Prop:=eF t=true∧pl l t.name=(i:Int)∧t.bef.length≤l.length∧Good l t t.bef
noncomputable def ft (l:List Task):Bool:=@decide (l.length≤8∧∀i (hi:i<l.length),ZV l i l[i]) (Classical.propDecidable _)&&(pD l).isSome
theorem wL {l:List Task} (h8:l.length≤8) (h:∀i (hi:i<l.length),ZV l i l[i]):ft l=(pD l).isSome:=by
 unfold ft;rw[show @decide (l.length≤8∧∀i (hi:i<l.length),ZV l i l[i]) (Classical.propDecidable _)=true by simp only[decide_eq_true_eq];exact⟨h8,h⟩,Bool.true_and]
open Go.RowKit
def WV (rows:List (List Int)) (n:Nat):Prop:=∃rank:Nat→Nat,∀k,k<n→∀j∈rows.getD k [],rank j.toNat<rank k
theorem ZC (ds:List Bool) (i j:Nat) (v:Bool) (hi:i<ds.length):(ds.set i v).getD j false=if j=i then v else ds.getD j false:=by
 rw[yN,List.getElem?_set,yN];by_cases e:i=j
 ·subst e;simp[hi]
 rw[if_neg e,if_neg (fun h=>e h.symm)]
theorem qP (rows:List (List Int)) (ds:List Bool) (i j:Nat) (h:ds.getD j false=true):(mj rows ds i).getD j false=true:=by
 unfold mj;by_cases hi:i<ds.length
 ·rw[ZC _ _ _ _ hi];split
  ·rename_i e;subst e;rw[h];rfl
  exact h
 rw[List.set_eq_of_length_le (by omega)];exact h
theorem na (rows:List (List Int)):∀(m i:Nat) (ds:List Bool) (j:Nat),ds.getD j false=true→(jm rows i m ds).getD j false=true
 | 0,_,_,_,h=>h
 | m+1,i,ds,j,h=>na rows m (i+1) _ j (qP rows ds i j h)
theorem mQ (rows:List (List Int)):∀(m i:Nat) (ds:List Bool),(jm rows i m ds).length=ds.length
 | 0,_,_=>rfl
 | m+1,i,ds=>by unfold jm;rw[mQ rows m,jH]
theorem yz (rows:List (List Int)):∀(m i:Nat) (ds:List Bool) (k:Nat),i ≤ k→k < i + m→k < ds.length→(∀j∈rows.getD k [],ds.getD j.toNat false=true)→(jm rows i m ds).getD k false=true
 | 0,i,ds,k,h1,h2,_,_=>by omega
 | m+1,i,ds,k,h1,h2,hk,hj=>by
  unfold jm;by_cases e:i=k
  ·subst e;apply na;unfold mj;rw[ZC _ _ _ _ hk,if_pos rfl]
   have:((rows.getD i []).all fun k=>ds.getD k.toNat false)=true:=List.all_eq_true.2 hj;rw[this,Bool.or_true]
  exact yz rows m (i+1) _ k (by omega) (by omega) (by rw[jH];exact hk) (fun j h=>qP rows ds i _ (hj j h))
theorem za:∀(a b:List Bool),a.length=b.length→(∀j,a.getD j false=true→b.getD j false=true)→a.count true ≤ b.count true
 | [],[],_,_=>yA _
 | [],_::_,h,_=>by simp at h
 | _::_,[],h,_=>by simp at h
 | x::a,y::b,hl,h=>by
  have h0:=h 0;have ih:=za a b (by simpa using hl) (fun j=>by simpa using h (j+1));simp only[List.getD_cons_zero] at h0;cases x <;> cases y <;> simp at h0⊢ <;> omega
theorem Gr:∀(a b:List Bool) (k:Nat),a.length=b.length→(∀j,a.getD j false=true→b.getD j false=true)→a.getD k false=false→b.getD k false=true→a.count true < b.count true
 | [],[],_,_,_,_,h2=>by simp at h2
 | [],_::_,_,h,_,_,_=>by simp at h
 | _::_,[],_,h,_,_,_=>by simp at h
 | x::a,y::b,k,hl,h,h1,h2=>by
  have h0:=h 0;have hl':a.length=b.length:=by simpa using hl
  have ht:∀j,a.getD j false=true→b.getD j false=true:=fun j=>by simpa using h (j+1)
  have ko:=za a b hl' ht;simp only[List.getD_cons_zero] at h0
  cases k with
  | zero=>
   simp only[List.getD_cons_zero] at h1 h2;subst h1 h2;simp;omega
  | succ k=>
   have ih:=Gr a b k hl' ht (by simpa using h1) (by simpa using h2);cases x <;> cases y <;> simp at h0⊢ <;> omega
theorem C4 {rows:List (List Int)} {n:Nat} {ds:List Bool} (hA:WV rows n) (ao:∀k,k<n→∀j∈rows.getD k [],j.toNat<n) (h:∃k,k<n∧ds.getD k false=false) :
  ∃k,k<n∧ds.getD k false=false∧∀j∈rows.getD k [],ds.getD j.toNat false=true:=by
 obtain⟨rank,hr⟩:=hA;suffices H:∀(m:Nat) (k:Nat),rank k≤m→k<n→ds.getD k false=false→∃k,k<n∧ds.getD k false=false∧∀j∈rows.getD k [],ds.getD j.toNat false=true by
  obtain⟨k,hk,hd⟩:=h;exact H _ k (yA _) hk hd
 intro m
 induction m with
 | zero=>
  intro k h0 hk hd;refine⟨k,hk,hd,fun j hj=>?_⟩
  have:=hr k hk j hj;omega
 | succ m ih=>
  intro k hm hk hd;by_cases fF:∀j∈rows.getD k [],ds.getD j.toNat false=true
  ·exact⟨k,hk,hd,fF⟩
  obtain⟨j,hj⟩:=Classical.not_forall.1 fF;obtain⟨hj1,hj2⟩:=Classical.not_imp.1 hj
  have:=hr k hk j hj1;exact ih j.toNat (by omega) (ao k hk j hj1) (by simpa using hj2)
theorem zd {ds:List Bool} (h:ds.length≤ds.count true):ds.all id=true:=by
 rw[List.all_eq_true];intro x hx
 have:=List.count_le_length (a:=true) (l:=ds);have he:ds.count true=ds.length:=by omega
 rw[List.count_eq_length] at he;exact (he x hx)▸rfl
theorem Wl {ds:List Bool} (h:ds.all id=false):∃k,k<ds.length∧ds.getD k false=false:=by
 rw[List.all_eq_false] at h;obtain⟨x,hx,hf⟩:=h;obtain⟨k,hk,rfl⟩:=List.getElem_of_mem hx;exact⟨k,hk,by rw[yN,yM hk];simpa using hf⟩
theorem BH {rows:List (List Int)} {n:Nat} (hA:WV rows n) (ao:∀k,k<n→∀j∈rows.getD k [],j.toNat<n) :
  ∀(f:Nat) (ds:List Bool),ds.length=n→(iC rows n f ds).length=n∧((iC rows n f ds).all id=true∨ds.count true+f≤(iC rows n f ds).count true)
 | 0,ds,hl=>⟨hl,.inr (yA _)⟩
 | f+1,ds,hl=>by
  unfold iC;have hl':(jm rows 0 n ds).length=n:=by rw[mQ,hl]
  obtain⟨h1,h2⟩:=BH hA ao f (jm rows 0 n ds) hl';refine⟨h1,?_⟩;rcases h2 with h2|h2
  ·exact .inl h2
  cases fF:ds.all id
  case true=>
   left
   apply zd;have hc:ds.count true=ds.length:=List.count_eq_length.2 fun b hb=>by
    have:=List.all_eq_true.1 fF b hb;simpa using this.symm
   have hm:=za ds (jm rows 0 n ds) (by omega) (fun j=>na rows n 0 ds j);rw[h1];omega
  right
  obtain⟨k,hk,hd⟩:=Wl fF;obtain⟨k,hk,hd,hj⟩:=C4 hA ao ⟨k,by omega,hd⟩
  have:=Gr ds (jm rows 0 n ds) k (by omega) (fun j=>na rows n 0 ds j) hd (yz rows n 0 ds k (yI _) (by omega) (by omega) hj);omega
theorem s6 {rows:List (List Int)} {n:Nat} (hA:WV rows n) (ao:∀k,k<n→∀j∈rows.getD k [],j.toNat<n):(iC rows n n (List.replicate n false)).all id=true:=by
 obtain⟨h1,h2⟩:=BH hA ao n (List.replicate n false) (by simp);rcases h2 with h2|h2
 ·exact h2
 apply zd;rw[h1];omega
def MV (ls:List Int) (rows:List (List Int)) (n:Nat) (x:List Int):Prop:=∀i,i<n→x.getD i 0=vm (ls.getD i 0) x (rows.getD i [])
theorem uK (ls:List Int) (rows:List (List Int)):∀(m i:Nat) (x:List Int),x.length=i + m→mr ls rows i m x=x→∀k,i ≤ k→k < i + m→x.getD k 0=vm (ls.getD k 0) x (rows.getD k [])
 | 0,i,x,_,_,k,h1,h2=>by omega
 | m+1,i,x,hl,h,k,h1,h2=>by
  unfold mr at h;have hi:i<x.length:=by omega
  have FB:ku ls rows x i=x:=by
   have:=BK ls rows m (i+1) (ku ls rows x i) i (by omega);rw[h] at this;unfold ku at this⊢;rw[jK _ _ _ _ hi,if_pos rfl] at this;rw[←this,FY x i hi,Ed]
  rw[FB] at h;by_cases e:k=i
  ·subst e
   have:=congrArg (fun y=>y.getD k 0) FB;simp only[ku] at this;rw[jK _ _ _ _ hi,if_pos rfl] at this;exact this.symm
  exact uK ls rows m (i+1) x (by omega) h k (by omega) (by omega)
theorem uC (ls:List Int) (rows:List (List Int)) {n:Nat} {x:List Int} (hl:x.length=n) (h:MV ls rows n x):∀(m i:Nat),i + m ≤ n→mr ls rows i m x=x
 | 0,_,_=>rfl
 | m+1,i,hi=>by
  unfold mr
  have:ku ls rows x i=x:=by
   unfold ku;rw[←h i (by omega),FY x i (by omega),Ed]
  rw[this];exact uC ls rows hl h m (i+1) (by omega)
theorem MA (len:Int) (x js:List Int):len≤vm len x js∧∀j∈js,len+x.getD j.toNat 0≤vm len x js:=by
 unfold vm;suffices H:∀(js:List Int) (n:Int),n≤js.foldl (fun n j=>max n (len+x.getD j.toNat 0)) n∧∀j∈js,len+x.getD j.toNat 0≤js.foldl (fun n j=>max n (len+x.getD j.toNat 0)) n from H js len
 intro js
 induction js with
 | nil=>exact fun n=>⟨Int.le_refl _,by simp⟩
 | cons a js ih=>
  intro n;obtain⟨h1,h2⟩:=ih (max n (len+x.getD a.toNat 0));simp only[List.foldl_cons];refine⟨by omega,fun j hj=>?_⟩;rw[List.mem_cons] at hj;rcases hj with rfl|hj
  ·omega
  exact h2 j hj
theorem qe {ls:List Int} {rows:List (List Int)} {n:Nat} {x:List Int} (h:MV ls rows n x) (hl:∀i,i<n→1≤ls.getD i 0) (ao:∀k,k<n→∀j∈rows.getD k [],j.toNat<n):WV rows n:=by
 refine⟨fun k=>(x.getD k 0).toNat,fun k hk j hj=>?_⟩;have h1:=(MA (ls.getD k 0) x (rows.getD k [])).2 j hj;have h2:=h k hk;have h3:=hl k hk;have hj':=ao k hk j hj;have h4:=h j.toNat hj';have h5:=(MA (ls.getD j.toNat 0) x (rows.getD j.toNat [])).1;have h6:=hl _ hj';show (x.getD j.toNat 0).toNat<(x.getD k 0).toNat;omega
theorem KJ {len:Int} {x y js:List Int} (h:∀j∈js,x.getD j.toNat 0=y.getD j.toNat 0):vm len x js=vm len y js:=by
 unfold vm;suffices H:∀(n:Int),js.foldl (fun n j=>max n (len+x.getD j.toNat 0)) n=js.foldl (fun n j=>max n (len+y.getD j.toNat 0)) n from H len
 induction js with
 | nil=>exact fun _=>rfl
 | cons a js ih=>
  intro n;simp only[List.foldl_cons];rw[h a (by simp),ih (fun j hj=>h j (by simp[hj]))]
def Settled (ls:List Int) (rows:List (List Int)) (n:Nat) (x:List Int) (ds:List Bool):Prop :=
 ∀k,k<n→ds.getD k false=true→(∀j∈rows.getD k [],ds.getD j.toNat false=true)∧x.getD k 0=vm (ls.getD k 0) x (rows.getD k [])
theorem Settled.step {ls:List Int} {rows:List (List Int)} {n i:Nat} {x:List Int} {ds:List Bool} (h:Settled ls rows n x ds) (hi:i<n) (hx:x.length=n) (hd:ds.length=n) (ao:∀k,k<n→∀j∈rows.getD k [],j.toNat<n) :
  Settled ls rows n (ku ls rows x i) (mj rows ds i):=by
 -- the value of a settled task does not change
 have qje:∀k,k<n→ds.getD k false=true→(ku ls rows x i).getD k 0=x.getD k 0:=by
  intro k hk CB;unfold ku;rw[jK _ _ _ _ (by omega)];split
  ·rename_i e;subst e;exact ((h k hk CB).2).symm
  rfl
 intro k hk CB;have hold:(∀j∈rows.getD k [],ds.getD j.toNat false=true):=by
  by_cases Oh:ds.getD k false=true
  ·exact (h k hk Oh).1
  unfold mj at CB;rw[ZC _ _ _ _ (by omega)] at CB;by_cases e:k=i
  ·subst e;rw[if_pos rfl] at CB;have h0:ds.getD k false=false:=by simpa using Oh
   rw[h0,Bool.false_or,List.all_eq_true] at CB;exact CB
  rw[if_neg e] at CB;exact absurd CB Oh
 have vwc:vm (ls.getD k 0) (ku ls rows x i) (rows.getD k [])=vm (ls.getD k 0) x (rows.getD k []) :=
  KJ fun j hj=>qje _ (ao k hk j hj) (hold j hj)
 refine⟨fun j hj=>qP rows ds i _ (hold j hj),?_⟩;rw[vwc];by_cases e:k=i
 ·subst e;unfold ku;rw[jK _ _ _ _ (by omega),if_pos rfl]
 have Oh:ds.getD k false=true:=by
  unfold mj at CB;rw[ZC _ _ _ _ (by omega),if_neg e] at CB;exact CB
 rw[qje k hk Oh];exact (h k hk Oh).2
theorem Settled.from_ {ls:List Int} {rows:List (List Int)} {n:Nat} (ao:∀k,k<n→∀j∈rows.getD k [],j.toNat<n) :
  ∀(m i:Nat) (x:List Int) (ds:List Bool),i+m≤n→x.length=n→ds.length=n→Settled ls rows n x ds→Settled ls rows n (mr ls rows i m x) (jm rows i m ds)
 | 0,_,_,_,_,_,_,h=>h
 | m+1,i,x,ds,hi,hx,hd,h=>by
  unfold mr jm;exact Settled.from_ ao m (i+1) _ _ (by omega) (by rw[rQ];exact hx) (by rw[jH];exact hd) (h.step (by omega) hx hd ao)
theorem rB {ls:List Int} {rows:List (List Int)} {n:Nat} (ao:∀k,k<n→∀j∈rows.getD k [],j.toNat<n) :
  ∀(f:Nat) (x:List Int) (ds:List Bool),x.length=n→ds.length=n→Settled ls rows n x ds→(iC rows n f ds).all id=true→(zg ls rows n (f+1) x).isSome=true
 | 0,x,ds,hx,hd,h,fF=>by
  have hf:MV ls rows n x:=fun i hi=>(h i hi (by
   have vwj:ds.all id=true:=fF;rw[yN,yM (by omega)];exact List.all_eq_true.1 vwj _ (yV (by omega)))).2
  unfold zg;rw[if_pos (uC ls rows hx hf n 0 (by omega))];rfl
 | f+1,x,ds,hx,hd,h,fF=>by
  unfold zg;split
  ·rfl
  exact rB ao f _ (jm rows 0 n ds) (by rw[mR];exact hx) (by rw[mQ];exact hd) (Settled.from_ ao n 0 x ds (by omega) hx hd h) fF
theorem oS {ls:List Int} {rows:List (List Int)} {n:Nat}:∀(f:Nat) (x y:List Int),x.length=n→zg ls rows n f x=some y→y.length=n ∧ MV ls rows n y
 | 0,_,_,_,h=>by cases h
 | f+1,x,y,hx,h=>by
  unfold zg at h;split at h
  ·rename_i e
   injection h with h;subst h;exact⟨hx,fun i hi=>uK ls rows n 0 x (by omega) e i (yI _) (by omega)⟩
  exact oS f _ y (by rw[mR];exact hx) h
structure Sane (l:List Task):Prop where
 len:l.length≤8
 field:∀i (hi:i<l.length),eF l[i]=true
 dist:cX l=true
 bef:nC l=true
theorem Sane.rows {l:List Task} (h:Sane l):∀k,k<l.length→∀j∈(cL l).getD k [],j.toNat<l.length:=by
 intro k hk j hj;rw[lX hk] at hj;unfold ow at hj;rw[List.mem_map] at hj;obtain⟨s,hs,rfl⟩:=hj;obtain⟨m,hm,e,-⟩:=oy (((fR l).1 h.bef l[k] (yV hk)).2 s hs).1;rw[e];omega
theorem Sane.lens {l:List Task} (h:Sane l):∀i,i<l.length→1≤(lens l).getD i 0:=by
 intro i hi;rw[B5 hi];exact (dF (h.field i hi)).1
theorem uH {l:List Task} (h:Sane l):vU l=(pD l).isSome:=by
 rw[Bool.eq_iff_iff];constructor
 ·intro hd;exact rB h.rows l.length _ (List.replicate l.length false) (by simp) (by simp) (fun k hk CB=>by
   rw[yN,List.getElem?_replicate] at CB;split at CB <;> simp at CB) hd
 intro hs;obtain⟨x,hx⟩:=Option.isSome_iff_exists.1 hs;obtain⟨-,hf⟩:=oS _ _ _ (by simp) hx;exact s6 (qe hf h.lens h.rows) h.rows
theorem rD {l:List Task}:Sane l↔l.length≤8∧∀i (hi:i<l.length),ZV l i l[i]:=by
 constructor
 ·intro h;refine⟨h.len,fun i hi=>⟨h.field i hi,LJ h.dist hi,?_,(fR l).1 h.bef _ (yV hi)⟩⟩;exact ((fR l).1 h.bef _ (yV hi)).le
 rintro⟨h8,h⟩;refine⟨h8,fun i hi=>(h i hi).1,?_,(fR l).2 fun t ht=>?_⟩
 ·unfold cX;rw[yO];unfold dK;rw[List.Nodup,List.pairwise_iff_getElem];intro i j hi hj hij e;rw[yP] at hi hj;rw[List.getElem_map,List.getElem_map] at e;have h1:=(h i hi).2.1;have h2:=(h j hj).2.1;rw[e,h2] at h1;omega
 obtain⟨i,hi,rfl⟩:=List.getElem_of_mem ht;exact (h i hi).2.2.2
theorem AO (l:List Task):iK l=ft l:=by
 by_cases h:Sane l
 ·obtain⟨h8,C7⟩:=rD.1 h;rw[wL h8 C7,←uH h];unfold iK;have hf:l.all eF=true:=by
   rw[List.all_eq_true];intro t ht;obtain⟨i,hi,rfl⟩:=List.getElem_of_mem ht;exact h.field i hi
  rw[hf,h.dist,h.bef];simp[h8]
 have h1:ft l=false:=by
  unfold ft;rw[Bool.and_eq_false_iff];left
  simp only[decide_eq_false_iff_not];exact fun hh=>h (rD.2 hh)
 rw[h1];unfold iK;by_cases h8:l.length≤8
 ·by_cases hf:l.all eF=true
  ·by_cases hd:cX l=true
   ·have hb:nC l=false:=by
     cases hb:nC l
     ·rfl
     exact absurd ⟨h8,fun i hi=>List.all_eq_true.1 hf _ (yV hi),hd,hb⟩ h
    simp[hb]
   simp[hd]
  simp[hf]
 simp[h8]
structure RightT (l:List Task):Prop extends Sane l where
 acyc:WV (cL l) l.length
theorem iJ (l:List Task):ft l=true↔RightT l:=by
 constructor
 ·intro h;have h':=h;unfold ft at h;rw[Bool.and_eq_true] at h;have hs:=rD.2 (@of_decide_eq_true _ (Classical.propDecidable _) h.1);obtain⟨x,hx⟩:=Option.isSome_iff_exists.1 h.2;obtain⟨-,hf⟩:=oS _ _ _ (by simp) hx;exact⟨hs,qe hf hs.lens hs.rows⟩
 intro h;obtain⟨h8,C7⟩:=rD.1 h.toSane;rw[wL h8 C7,←uH h.toSane];exact s6 h.acyc h.rows
def nz:List Nat→List Nat→Prop
 | _,[]=>False
 | [],_::_=>True
 | a::x,b::y=>a<b∨a=b∧nz x y
theorem fA (x:List Nat):¬nz x []:=by cases x <;> exact id
theorem xB:∀x,¬nz x x
 | [],h=>h
 | a::x,h=>by
  rcases h with h|⟨_,h⟩
  ·omega
  exact xB x h
theorem Bl:∀ {x y z:List Nat},nz x y→nz y z→nz x z
 | _,[],_,h,_=>absurd h (fA _)
 | _,_::_,[],_,h=>absurd h (fA _)
 | [],_::_,_::_,_,_=>trivial
 | a::x,b::y,c::z,h,k=>by
  rcases h with h|⟨rfl,h⟩
  ·rcases k with k|⟨rfl,_⟩
   ·exact .inl (by omega)
   exact .inl h
  rcases k with k|⟨rfl,k⟩
  ·exact .inl k
  exact .inr ⟨rfl,Bl h k⟩
theorem Ud (x:List Nat) (a:Nat):nz x (x++[a]):=by
 induction x with
 | nil=>trivial
 | cons b x ih=>exact .inr ⟨rfl,ih⟩
theorem kl:∀(z x:List Nat),nz z (x++[0])↔nz z x ∨ z=x
 | [],[]=>by simp[nz]
 | a::z,[]=>by simp[nz,fA]
 | [],b::x=>by simp[nz]
 | a::z,b::x=>by
  have ih:=kl z x;simp only[List.cons_append,nz,List.cons.injEq,ih];constructor
  ·rintro (h|⟨h,h'|h'⟩)
   ·exact .inl (.inl h)
   ·exact .inl (.inr ⟨h,h'⟩)
   exact .inr ⟨h,h'⟩
  rintro ((h|⟨h,h'⟩)|⟨h,h'⟩)
  ·exact .inl h
  ·exact .inr ⟨h,.inl h'⟩
  exact .inr ⟨h,.inr h'⟩
theorem x9:∀(z x:List Nat) (a:Nat),nz z (x++[a + 1])↔nz z (x++[a]) ∨ (x++[a]) <+: z
 | [],[],a=>by simp[nz]
 | b::z,[],a=>by
  simp only[List.nil_append,nz,fA,and_false,or_false,List.cons_prefix_cons,List.nil_prefix,and_true];omega
 | [],c::x,a=>by simp[nz]
 | b::z,c::x,a=>by
  have ih:=x9 z x a;simp only[List.cons_append,nz,ih,List.cons_prefix_cons];constructor
  ·rintro (h|⟨h,h'|h'⟩)
   ·exact .inl (.inl h)
   ·exact .inl (.inr ⟨h,h'⟩)
   exact .inr ⟨h.symm,h'⟩
  rintro ((h|⟨h,h'⟩)|⟨h,h'⟩)
  ·exact .inl h
  ·exact .inr ⟨h,.inl h'⟩
  exact .inr ⟨h.symm,.inr h'⟩
theorem LW:∀(z x:List Nat) (N:Nat),(∀i∈z,i < N)→(nz z (x++[N])↔nz z x ∨ x <+: z)
 | [],[],N,_=>by simp[nz]
 | b::z,[],N,h=>by
  have:=h b (by simp);simp[nz,this,fA]
 | [],c::x,N,_=>by simp[nz]
 | b::z,c::x,N,h=>by
  have ih:=LW z x N (fun i hi=>h i (by simp[hi]));simp only[List.cons_append,nz,ih,List.cons_prefix_cons];constructor
  ·rintro (h|⟨h,h'|h'⟩)
   ·exact .inl (.inl h)
   ·exact .inl (.inr ⟨h,h'⟩)
   exact .inr ⟨h.symm,h'⟩
  rintro ((h|⟨h,h'⟩)|⟨h,h'⟩)
  ·exact .inl h
  ·exact .inr ⟨h,.inl h'⟩
  exact .inr ⟨h.symm,.inr h'⟩
def lZ (l:List Task) (i k:Nat):Prop:=∃(hi:i<l.length) (hk:k<l.length),l[i].name∈l[k].bef
def Chain (l:List Task) (x:List Nat):Prop:=(∀i∈x,i<l.length)∧∀j (h:j+1<x.length),lZ l (x[j]'(by omega)) x[j+1]
def gD (l:List Task) (i:Nat):Int:=(lens l).getD i 0
def bo (l:List Task) (x:List Nat):Int:=(x.map (gD l)).sum
theorem Chain.nil (l:List Task):Chain l []:=⟨by simp,fun j h=>by simp at h⟩
theorem Chain.one {l:List Task} {i:Nat} (h:i<l.length):Chain l [i]:=⟨by simpa using h,fun j h=>by simp at h⟩
theorem Chain.snoc {l:List Task} {x:List Nat} {i:Nat} (h:Chain l x) (hi:i<l.length) (he:∀hx:x≠[],lZ l (x.getLast hx) i):Chain l (x++[i]):=by
 refine⟨fun j hj=>?_,fun j hj=>?_⟩
 ·rw[List.mem_append,List.mem_singleton] at hj;rcases hj with hj|rfl
  ·exact h.1 j hj
  exact hi
 rw[yQ,List.length_singleton] at hj;by_cases ao:j+1<x.length
 ·have:=h.2 j ao;rw[List.getElem_append_left (by omega),List.getElem_append_left ao];exact this
 have hx:x≠[]:=by rintro rfl;simp at hj
 have:=he hx;rw[List.getElem_append_left (by omega),List.getElem_append_right (by omega)];simp only[List.getElem_singleton];rw[List.getLast_eq_getElem] at this;have e:x.length-1=j:=by omega
 simp only[e] at this;exact this
theorem Chain.front {l:List Task} {x y:List Nat} (h:Chain l (x++y)):Chain l x:=by
 refine⟨fun i hi=>h.1 i (List.mem_append_left _ hi),fun j hj=>?_⟩
 have:=h.2 j (by rw[yQ];omega);rw[List.getElem_append_left (by omega),List.getElem_append_left hj] at this;exact this
theorem Chain.last_edge {l:List Task} {x:List Nat} {i:Nat} (h:Chain l (x++[i])) (hx:x≠[]):lZ l (x.getLast hx) i:=by
 have hl:0<x.length:=List.length_pos_iff.2 hx
 have:=h.2 (x.length-1) (by rw[yQ,List.length_singleton];omega);rw[List.getElem_append_left (by omega),List.getElem_append_right (by omega)] at this;simp only[List.getElem_singleton] at this;rw[List.getLast_eq_getElem];exact this
theorem qh (l:List Task) (x:List Nat) (i:Nat):bo l (x++[i])=bo l x+gD l i:=by simp[bo]
theorem iI (l:List Task):bo l []=0:=rfl
theorem eV {l:List Task} {i:Nat} (h:i<l.length):gD l i=l[i].len:=B5 h
structure Covers (l:List Task) (b:List Nat) (L:Int) (y:List Nat):Prop where
 chain:Chain l y
 below:nz y b
 sum:bo l y=L
 most:∀z,Chain l z→nz z b→bo l z≤L
 least:∀z,Chain l z→nz z b→bo l z=L→y=z∨nz y z
theorem Covers.start (l:List Task):Covers l [0] 0 []:=by
 have h0:∀z,nz z [0]→z=[]:=fun z h=>by
  have:=(kl z []).1 h;rcases this with h|h
  ·exact absurd h (fA z)
  exact h
 exact⟨Chain.nil l,trivial,rfl,fun z _ h=>by rw[h0 z h];exact Int.le_refl _,fun z _ h _=>.inl (h0 z h).symm⟩
theorem Covers.visit {l:List Task} {x y:List Nat} {L:Int} (h:Covers l x L y) (hx:Chain l x):Covers l (x++[0]) (if L<bo l x then bo l x else L) (if L<bo l x then x else y):=by
 by_cases ao:L<bo l x
 ·rw[if_pos ao,if_pos ao];refine⟨hx,Ud x 0,rfl,fun z hz hb=>?_,fun z hz hb hs=>?_⟩
  ·rcases (kl z x).1 hb with hb|rfl
   ·have:=h.most z hz hb;omega
   exact Int.le_refl _
  rcases (kl z x).1 hb with hb|rfl
  ·have:=h.most z hz hb;omega
  exact .inl rfl
 rw[if_neg ao,if_neg ao];refine⟨h.chain,(kl y x).2 (.inl h.below),h.sum,fun z hz hb=>?_,fun z hz hb hs=>?_⟩
 ·rcases (kl z x).1 hb with hb|rfl
  ·exact h.most z hz hb
  omega
 rcases (kl z x).1 hb with hb|rfl
 ·exact h.least z hz hb hs
 exact .inr h.below
theorem Covers.same {l:List Task} {b b' y:List Nat} {L:Int} (h:Covers l b L y) (hb:∀z,Chain l z→(nz z b'↔nz z b)):Covers l b' L y :=
 ⟨h.chain,(hb y h.chain).2 h.below,h.sum,fun z hz hl=>h.most z hz ((hb z hz).1 hl),fun z hz hl hs=>h.least z hz ((hb z hz).1 hl) hs⟩
theorem Covers.next_no {l:List Task} {x y:List Nat} {i:Nat} {L:Int} (h:Covers l (x++[i]) L y) (ky:¬Chain l (x++[i])):Covers l (x++[i+1]) L y :=
 h.same fun z hz=>by
  rw[x9];constructor
  ·rintro (h|⟨t,rfl⟩)
   ·exact h
   exact absurd hz.front ky
  exact .inl
theorem Covers.next_yes {l:List Task} {x y:List Nat} {i:Nat} {L:Int} (h:Covers l (x++[i]++[l.length]) L y):Covers l (x++[i+1]) L y :=
 h.same fun z hz=>by rw[x9,LW z (x++[i]) l.length hz.1]
theorem Covers.uniq {l:List Task} {b y y':List Nat} {L L':Int} (h:Covers l b L y) (h':Covers l b L' y'):L=L'∧y=y':=by
 have e:L=L':=by
  have h1:=h.most y' h'.chain h'.below;have h2:=h'.most y h.chain h.below;have h3:=h.sum;have h4:=h'.sum;omega
 subst e;refine⟨rfl,?_⟩;rcases h.least y' h'.chain h'.below h'.sum with e|e
 ·exact e
 rcases h'.least y h.chain h.below h.sum with e'|e'
 ·exact e'.symm
 exact absurd (Bl e e') (xB _)
theorem V4 {l:List Task} (hd:cX l=true) {i k:Nat} (h:lZ l i k):(i:Int)∈(cL l).getD k []:=by
 obtain⟨hi,hk,hm⟩:=h;rw[lX hk];unfold ow;rw[List.mem_map];exact⟨_,hm,LJ hd hi⟩
theorem Chain.rank {l:List Task} (hR:RightT l) {x:List Nat} (h:Chain l x):∃rank:Nat→Nat,∀a b (hb:b<x.length) (hab:a<b),rank (x[a]'(by omega))<rank x[b]:=by
 obtain⟨rank,hr⟩:=hR.acyc;refine⟨rank,fun a b hb hab=>?_⟩
 induction b with
 | zero=>omega
 | succ b ih=>
  have he:=h.2 b hb;have h1:=hr _ he.2.1 _ (V4 hR.dist he);rw[Int.toNat_natCast] at h1;by_cases e:a=b
  ·subst e;exact h1
  have:=ih (by omega) (by omega);omega
theorem Chain.nodup {l:List Task} (hR:RightT l) {x:List Nat} (h:Chain l x):x.Nodup:=by
 obtain⟨rank,hr⟩:=h.rank hR;rw[List.Nodup,List.pairwise_iff_getElem];intro i j hi hj hij e
 have:=hr i j hj hij;rw[e] at this;omega
theorem Chain.short {l:List Task} (hR:RightT l) {x:List Nat} (h:Chain l x):x.length≤l.length:=by
 have:=List.Nodup.length_le_of_subset (h.nodup hR) (l₂:=List.range l.length) (fun i hi=>List.mem_range.2 (h.1 i hi));simpa using this
theorem Uf {l:List Task} (hR:RightT l) (i:Nat):0≤gD l i∧gD l i≤10000:=by
 by_cases hi:i<l.length
 ·rw[eV hi]
  have:=dF (hR.field i hi);omega
 unfold gD;rw[yN,List.getElem?_eq_none (by unfold lens;rw[List.length_map];omega)];simp
theorem lL {l:List Task} (hR:RightT l) (x:List Nat):0≤bo l x∧bo l x≤10000*x.length:=by
 induction x with
 | nil=>simp[bo]
 | cons i x ih=>
  have:=Uf hR i;simp only[bo,List.map_cons,List.sum_cons,List.length_cons] at ih⊢;omega
open Go.RowKit Go.Shelf
def tt (x:List Nat):List Int:=x.map Int.ofNat
def vd (x:List Nat):List Value:=(tt x).map (Value.int .i64)
theorem Bh (x:List Nat) (i:Nat):vd (x++[i])=vd x++[.int .i64 (i:Int)]:=by simp[vd,tt]
theorem fB (x:List Nat):(tt x).length=x.length:=by simp[tt]
theorem TJ (x:List Nat) (i:Nat) (h:i<x.length):(vd x)[i]?=some (.int .i64 (x[i]:Nat)):=by simp[vd,tt,h]
theorem Ap {w:World} {g:Nat} {t:TypeId} {a b c d:Value} (h:Blk w g t #[a,b,c,d]) :
  w.cell? ⟨g,0,none⟩=some a∧w.cell? ⟨g,1,none⟩=some b∧w.cell? ⟨g,2,none⟩=some c∧w.cell? ⟨g,3,none⟩=some d ∧
   w.frozen? ⟨g,0,none⟩=false∧w.frozen? ⟨g,1,none⟩=false∧w.frozen? ⟨g,2,none⟩=false∧w.frozen? ⟨g,3,none⟩=false :=
 ⟨h.cell 0,h.cell 1,h.cell 2,h.cell 3,h.frozen 0,h.frozen 1,h.frozen 2,h.frozen 3⟩
theorem Gu (v:Value) (l:List Int) (w:World) (hl:bg w w.heap.size v l) (cI:l.length≤1000000) (pQ:0<l.length) :
  Calls Tryz.prog 132 #[v] w fun e w'=>∃g c,e=.returned (.slice (some ⟨g,0,none⟩) l.length c)∧w.heap.size≤g∧w'.ownsRow w.heap.size 3 1 (.slice (some ⟨g,0,none⟩) l.length c) l.length (l.map (Value.int .i64))∧Below w.heap.size w w' :=
 (Gv v l w hl cI).mono fun e w' ⟨v',he,aK,hb⟩=>by
  obtain⟨g,c,rfl,hg,-⟩:=aK.form pQ;exact⟨g,c,he,hg,aK,hb⟩
structure GrowSt (w:World) (B g:Nat) (lv:Value) (l:List Task) (x:List Nat) (L:Int) (y:List Nat) (jv dG:Value):Prop where
 hg:B≤g
 blk:Blk w g 167 #[lv,jv,dG,.int .i64 L]
 now:w.ownsRow B 3 1 jv x.length (vd x)
 best:w.ownsRow B 3 1 dG y.length (vd y)
 apart:dG.ownBlock=none∨dG.ownBlock≠jv.ownBlock
 tasks:TasksAt w B lv l
 size:B≤w.heap.size
theorem GrowSt.visited {w w1:World} {B g g1 c1:Nat} {lv jv dG:Value} {l:List Task} {x y:List Nat} {L L':Int} (h:GrowSt w B g lv l x L y jv dG) (hb:Below w.heap.size w w1) (hg:w.heap.size ≤ g1)
  (aK:w1.ownsRow w.heap.size 3 1 (.slice (some ⟨g1,0,none⟩) x.length c1) x.length (vd x)) (pQ:0<x.length) :
  GrowSt ((w1.setCell ⟨g,3,none⟩ (.int .i64 L')).setCell ⟨g,2,none⟩ (.slice (some ⟨g1,0,none⟩) x.length c1)) B g lv l x L' x jv (.slice (some ⟨g1,0,none⟩) x.length c1):=by
 have ak:=h.blk.below hb h.blk.lt;have aU:=ak.set_ 3 (.int .i64 L');have bM:=aU.set_ 2 (.slice (some ⟨g1,0,none⟩) x.length c1);have gr1:=ak.setGrown 3 (.int .i64 L');have gr2:=aU.setGrown 2 (.slice (some ⟨g1,0,none⟩) x.length c1);have g12:=dy gr1 gr2;have qjg:=h.now.kept (gG (row:=none) hb) (by cases hv:jv.ownBlock <;> simp);have dL:∀ {v:Value} {n:Nat} {xs:List Value},w1.ownsRow B 3 1 v n xs→v.ownBlock=none∨v.ownBlock≠some g:=fun {v n xs} ho=>by
  have:=ak.ne_own ho (by decide);exact .inr (fun e=>this e.symm)
 have fT:=jg aK h.size;refine⟨h.hg,bM,qjg.kept g12 (dL qjg),fT.kept g12 (dL fT),?_,?_,?_⟩
 ·right
  obtain⟨gn,cn,rfl,_,ao⟩:=h.now.form pQ;simp[Value.ownBlock];omega
 ·have ai:Below B w ((w1.setCell ⟨g,3,none⟩ (.int .i64 L')).setCell ⟨g,2,none⟩ (.slice (some ⟨g1,0,none⟩) x.length c1)) :=
   ((hb.mono h.size).setCell (p:=⟨g,3,none⟩) h.hg _).setCell (p:=⟨g,2,none⟩) h.hg _
  exact h.tasks.below ai (yA _)
 have:=hb.size
 have:=h.size;simp[World.setCell];omega
theorem GrowSt.pushed {w w3:World} {B g i g3 c3:Nat} {lv jv dG:Value} {l:List Task} {x y:List Nat} {L:Int} (h:GrowSt w B g lv l x L y jv dG) (aK:w3.ownsRow B 3 1 (.slice (some ⟨g3,0,none⟩) (x.length + 1) c3) (x.length + 1) (vd x++[.int .i64 i]))
  (hg:w.grownBy w3 jv.ownBlock) (vi:jv.ownBlock=some g3∨w.heap.size≤g3) :
  GrowSt (w3.setCell ⟨g,1,none⟩ (.slice (some ⟨g3,0,none⟩) (x.length+1) c3)) B g lv l (x++[i]) L y (.slice (some ⟨g3,0,none⟩) (x.length+1) c3) dG:=by
 have bM:=h.blk.kept hg (h.blk.ne_own h.now (by decide));have bU:=bM.set_ 1 (.slice (some ⟨g3,0,none⟩) (x.length+1) c3);have gr4:=bM.setGrown 1 (.slice (some ⟨g3,0,none⟩) (x.length+1) c3);have UG:=h.best.kept hg h.apart;have dL:∀ {v:Value} {n:Nat} {xs:List Value},w3.ownsRow B 3 1 v n xs→v.ownBlock=none∨v.ownBlock≠some g:=fun {v n xs} ho=>by
  have:=bM.ne_own ho (by decide);exact .inr (fun e=>this e.symm)
 have FM:Below B w w3:=(yB B w).grown hg h.size (fun k hk=>(h.now.lt k hk).1);refine⟨h.hg,bU,?_,UG.kept gr4 (dL UG),?_,?_,?_⟩
 ·rw[yQ,List.length_singleton,Bh];exact aK.kept gr4 (dL aK)
 ·rcases h.apart with e|e
  ·exact .inl e
  right
  intro e';rcases vi with vi|vi
  ·exact e (e'.trans vi.symm)
  have:=(h.best.lt g3 e').2;omega
 ·exact h.tasks.below (FM.setCell (p:=⟨g,1,none⟩) h.hg _) (yA _)
 have:=FM.size
 have:=h.size;simp[World.setCell];omega
theorem GrowSt.popped {w:World} {B g i g3 c3:Nat} {lv dG:Value} {l:List Task} {x y:List Nat} {L:Int} (h:GrowSt w B g lv l (x++[i]) L y (.slice (some ⟨g3,0,none⟩) (x.length+1) c3) dG) :
  GrowSt (w.setCell ⟨g,1,none⟩ (.slice (some ⟨g3,0,none⟩) x.length c3)) B g lv l x L y (.slice (some ⟨g3,0,none⟩) x.length c3) dG:=by
 have bU:=h.blk.set_ 1 (.slice (some ⟨g3,0,none⟩) x.length c3);have gr4:=h.blk.setGrown 1 (.slice (some ⟨g3,0,none⟩) x.length c3);have dL:∀ {v:Value} {n:Nat} {xs:List Value},w.ownsRow B 3 1 v n xs→v.ownBlock=none∨v.ownBlock≠some g:=fun {v n xs} ho=>by
  have:=h.blk.ne_own ho (by decide);exact .inr (fun e=>this e.symm)
 have vxn:=h.now;rw[yQ,List.length_singleton,Bh] at vxn;have vxm:=Ya (by simp[vd,tt]) vxn;refine⟨h.hg,bU,vxm.kept gr4 (dL vxm),h.best.kept gr4 (dL h.best),h.apart,?_,?_⟩
 ·exact h.tasks.below ((yB B w).setCell (p:=⟨g,1,none⟩) h.hg _) (yA _)
 have:=h.size;simp[World.setCell];omega
theorem GrowSt.alloc {w:World} {B g:Nat} {lv jv dG:Value} {l:List Task} {x y:List Nat} {L:Int} (h:GrowSt w B g lv l x L y jv dG) (o:Obj):GrowSt (w.alloc o) B g lv l x L y jv dG :=
 ⟨h.hg,h.blk.alloc o,h.now.alloc o,h.best.alloc o,h.apart,h.tasks.below ((yB B w).alloc h.size o) (yA _),by have:=h.size;simp;omega⟩
theorem GrowSt.drewN {w:World} {B g:Nat} {lv jv dG:Value} {l:List Task} {x y:List Nat} {L:Int} (h:GrowSt w B g lv l x L y jv dG) (n:Nat):GrowSt (w.drewN n) B g lv l x L y jv dG :=
 ⟨h.hg,h.blk,h.now,h.best,h.apart,h.tasks.drewN n,h.size⟩
theorem GrowSt.last {w:World} {B g gn c cap:Nat} {A:Option Addr} {dG:Value} {l:List Task} {x y:List Nat} {L:Int} (h:GrowSt w B g (.slice A l.length c) l x L y (.slice (some ⟨gn,0,none⟩) x.length cap) dG) (hx:x≠[]) (hc:Chain l x) :
  ∃m,∃hm:m<l.length,x.getLast hx=m∧w.cell? ⟨gn,x.length-1,none⟩=some (.int .i64 (m:Nat))∧∃b off,A=some ⟨b,off,none⟩∧b<B∧w.cell? ⟨b,off+m*5,none⟩=some (.string l[m].name):=by
 have pQ:0<x.length:=List.length_pos_iff.2 hx;have hm:=hc.1 _ (yV (show x.length-1<x.length by omega));obtain⟨b,off,hA,hb,aj⟩:=h.tasks.cells hm;refine⟨x[x.length-1],hm,List.getLast_eq_getElem ..,?_,b,off,hA,hb,(aj _ hm).1⟩;rw[h.now.cellAt (x.length-1) (by omega),TJ x _ (by omega)]
theorem GrowSt.box {w w3:World} {B g gn n cap:Nat} {lv dG:Value} {l:List Task} {x y:List Nat} {L:Int} {cs:Array Value} {t:TypeId} (h:GrowSt w B g lv l x L y (.slice (some ⟨gn,0,none⟩) n cap) dG)
  (hg:(w.alloc (.cells cs t)).grownBy w3 (Value.ownBlock (.slice (some ⟨gn,0,none⟩) n cap))) (i:Nat):w3.cell? ⟨w.heap.size,i,none⟩=cs[i]?:=by
 have ao:=(h.now.lt gn rfl).2;exact ((Blk.new w t cs).kept hg (by simp[Value.ownBlock];omega)).cell i
def WS (w:World) (B g:Nat) (lv:Value) (l:List Task) (x:List Nat) (e:Ending) (w':World):Prop :=
 e=.returned (.tuple #[])∧Below B w w'∧∃L y jv dG,GrowSt w' B g lv l x L y jv dG∧Covers l (x++[l.length]) L y
theorem UZ (B g:Nat) (lv:Value) (l:List Task) (hR:RightT l):∀(k:Nat) (x:List Nat) (L:Int) (y:List Nat) (jv dG:Value) (w:World),l.length<x.length+k→x≠[]→Chain l x →
  GrowSt w B g lv l x L y jv dG→Covers l x L y →
  Calls Tryz.prog 120 #[.pointer (some ⟨g,0,none⟩),.int .i64 (bo l x)] w (WS w B g lv l x):=by
 intro k
 induction k with
 | zero=>
  intro x L y jv dG w hk hx hc
  have:=hc.short hR;omega
 | succ k ih=>
  intro x L y jv dG w hk hx hc hS hC;have IH:=zh ih;clear ih;have h8:=hR.len;have vxk:=hc.short hR;have pQ:0<x.length:=List.length_pos_iff.2 hx;obtain⟨gn,vv6,rfl,vv0,vzC⟩:=hS.now.form pQ;obtain⟨A,c,rfl,fU,cM,-⟩:=hS.tasks.open_;unfold maxLen at cM;have vzl:=lL hR x;have hL:=hC.sum;have hLb:=lL hR y;rw[hL] at hLb;have GV:=hC.chain.short hR;obtain⟨kZ,jT⟩:=vzl;obtain⟨rV,sO⟩:=hLb;by_cases ao:L<bo l x
  case' pos=>
   have Xj:=hC.visit hc;rw[if_pos ao,if_pos ao] at Xj;have PP:=zh Xj;have eG:=Gu _ (tt x) w (RowAt.of_own (show w.ownsRow B 3 1 _ x.length ((tt x).map (Value.int .i64)) from hS.now)) (by rw[fB];omega) (by rw[fB];exact pQ);rw[fB] at eG;obtain⟨h0,h1,h2,h3,f0,f1,f2,f3⟩:=Ap hS.blk;have HS:=zh hS;clear hS hC hL Xj;go_enter Tryz.func120,Tryz.ntmps120;go_wp2_with (go_at_call 132;refine eG.mono ?_;rintro e w1 ⟨g1,c1,rfl,hg1,Bq,ak⟩;obtain⟨h0',h1',h2',h3',f0',f1',f2',f3'⟩:=Ap (HS.o.blk.below ak HS.o.blk.lt))
   have iw:=HS.o.visited (L':=bo l x) ak hg1 Bq pQ;have sd:Below B w ((w1.setCell ⟨g,3,none⟩ (.int .i64 (bo l x))).setCell ⟨g,2,none⟩ (.slice (some ⟨g1,0,none⟩) x.length c1)) :=
    ((ak.mono HS.o.size).setCell (p:=⟨g,3,none⟩) HS.o.hg _).setCell (p:=⟨g,2,none⟩) HS.o.hg _
   clear HS Bq ak h0' h1' h2' h3' f0' f1' f2' f3' h0 h1 h2 h3 f0 f1 f2 f3;generalize (w1.setCell ⟨g,3,none⟩ (.int .i64 (bo l x))).setCell ⟨g,2,none⟩ (.slice (some ⟨g1,0,none⟩) x.length c1)=w2 at*
  case' neg=>
   have Xj:=hC.visit hc;rw[if_neg ao,if_neg ao] at Xj;have PP:=zh Xj;have iw:=hS;have sd:Below B w w:=yB _ _;obtain⟨h0,h1,h2,h3,f0,f1,f2,f3⟩:=Ap hS.blk;have HS:=zh hS;clear hS hC hL Xj;go_enter Tryz.func120,Tryz.ntmps120;go_wp2;clear h0 h1 h2 h3 f0 f1 f2 f3
  all_goals
   obtain⟨m,hm,Hlm,Mh,b,off,rfl,hb,t0⟩:=iw.last hx hc;have Hlm:=zh Hlm;obtain⟨h0,h1,h2,h3,f0,f1,f2,f3⟩:=Ap iw.blk;have nF:=zh iw;clear iw;go_quiet (fail);go_wp2;clear h0 h1 h2 h3 f0 f1 f2 f3 Mh t0 rV sO GV;go_loopw [49] (fun s wr=>∃(i:Nat) (L:Int) (y:List Nat) (gn cap:Nat) (bv:Value),i≤l.length∧s=.int .i64 i∧Y0 (GrowSt wr B g (.slice (some ⟨b,off,none⟩) l.length c) l x L y (.slice (some ⟨gn,0,none⟩) x.length cap) bv) ∧
     Y0 (Covers l (x++[i]) L y)∧Below B w wr) (fun s _=>l.length-(intOf s).toNat)
   case atStart=>exact⟨0,_,_,_,_,_,yI _,rfl,nF.o.drewN _,PP.o,Zf sd _⟩
   clear nF PP sd;obtain⟨i,L,y,gn,cap,bv,hi,rfl,HS,HC,ai⟩:=hrel;by_cases ff:i<l.length
   ·obtain⟨b',TH,e',ev,aj⟩:=HS.o.tasks.cells ff;obtain⟨rfl,rfl⟩:b=b'∧off=TH:=by injection e' with e';injection e' with e1 e2;exact⟨e1,e2⟩
    clear e';obtain⟨t0,t1,t2,t3,t4⟩:=aj i ff;clear aj;have vZ:=fun o=>HS.o.alloc o;have vZ:=zh vZ;have pS:=fun o=>uJ l[i].bv l[i].bef l[m].name B (wr.alloc o) ((vZ.o o).tasks.bef ff);have Ml:=HS.o.blk.lt;have mW:∀o,Below B w (wr.alloc o):=fun o=>ai.alloc HS.o.size o;by_cases hE:l[m].name∈l[i].bef
    ·have Hch:Y0 (Chain l (x++[i])):=hc.snoc ff (fun _=>⟨by rw[Hlm.o];exact hm,ff,by simp only[Hlm.o];exact hE⟩);have Yv:=Hch.o.short hR;rw[yQ,List.length_singleton] at Yv;rw[yD hE] at pS;have Wr:Y0 (bo l (x++[i])=bo l x+l[i].len):=by unfold Y0;rw[qh,eV ff]
     have FF:=dF (hR.field i ff);obtain⟨vvW,vvV⟩:=FF;obtain⟨hA0,Za,FR,hA3,fA0,fA1,fA2,fA3⟩:=Ap HS.o.blk;have hE':=zh hE;have vzp:=HS.o.blk.ne_own HS.o.now (by decide);clear hE;go_wp2_with (first
      | (go_at_call 164;refine (pS _).mono ?_;rintro e w' ⟨rfl,rfl⟩)
      | (at_builtin;refine rk _ rfl (.tmp 62) (.tmp 64) 22 rfl B 3 rR Tryz.underlying22 rfl _ x.length (vd x) rfl (vZ.o _).now (.int .i64 i) rfl (wr.heap.size+1) (by simp) rfl (by unfold maxLen;omega) (by omega) (vZ.o _).size ?_;intro g3 jn w3 lU fD xW vi;obtain⟨k0,k1,k2,k3,e0,e1,e2,e3⟩:=Ap ((vZ.o _).blk.kept fD vzp);have vzI:w3.cell? ⟨wr.heap.size,1,none⟩=some (.int .i64 l[i].len):=HS.o.box fD 1)
      | (go_at_call 120;have bH:=IH.o (x++[i]) L y _ bv _ (by rw[yQ,List.length_singleton];omega) (by simp) Hch.o ((vZ.o _).pushed lU fD vi) HC.o;rw[Wr.o] at bH;refine bH.mono ?_;rintro e w5 ⟨rfl,aR,L5,y5,nv5,bv5,dY,MS⟩))
     have vxc:Below B w w5:=(((mW _).grown fD (vZ.o _).size (fun k hk=>by cases hk;exact (HS.o.now.lt _ rfl).1)).setCell (p:=⟨g,1,none⟩) HS.o.hg _).trans aR;obtain⟨g5,c5,rfl,_,_⟩:=dY.now.form (by simp);rw[yQ,List.length_singleton] at dY;obtain⟨p0,p1,p2,p3,d0,d1,d2,d3⟩:=Ap dY.blk;have vvB:=zh dY.popped;have vzG:=Yc (show w5.ownsRow B 3 1 (.slice (some ⟨g5,0,none⟩) (x.length+1) c5) (x.length+1) (vd (x++[i])) by have:=dY.now;rw[yQ,List.length_singleton] at this;exact this)
     obtain⟨vzF,vzE⟩:=vzG;have HC6:=zh MS.next_yes;have Hj:=HS.o.hg;clear dY MS aR lU fD vi vzI k0 k1 k2 k3 e0 e1 e2 e3 pS HC HS vZ hA0 Za FR hA3 fA0 fA1 fA2 fA3 mW ai t0 t1 t2 t3 t4 Wr Hch;refine bP 14 (by kernel_rfl) (by kernel_rfl) ?_;simp only[aM,aP,aN,aO]
     repeat (go_big_quiet_step (fail))
     refine YE ?_;go_wp2;go_roundw
     case rel=>exact⟨i+1,_,_,_,_,_,by omega,by go_num,vvB.o.drewN 1,HC6.o,(vxc.setCell (p:=⟨g,1,none⟩) Hj _).drew⟩
     simp[intOf];omega
    have HNx:Y0 (Covers l (x++[i+1]) L y):=HC.o.next_no (fun h=>hE (by
     have:=h.last_edge hx;rw[Hlm.o] at this;exact this.2.2))
    rw[yC hE] at pS;clear hE HC;go_wp2_with (go_at_call 164;refine (pS _).mono ?_;rintro e w' ⟨rfl,rfl⟩);go_roundw
    case rel=>exact⟨i+1,_,_,_,_,_,by omega,by go_num,vZ.o _,HNx.o,mW _⟩
    simp[intOf];omega
   have xQ:i=l.length:=by omega
   subst xQ;go_wp2;go_end0;exact⟨rfl,ai,L,y,_,bv,HS.o,HC.o⟩
noncomputable def cK (l:List Task) (c p:Int):Bool:=ft l&&Zw c 0 1000&&Zw p 0 1000
theorem PW (l:List Task):cK l 0 0=ft l:=by unfold cK Zw;simp
theorem qi (v:Value) (l:List Task) (c p:Int) (w:World) (hl:TasksAt w w.heap.size v l) :
  Calls Tryz.prog 69 #[v,.int .i64 c,.int .i64 p] w fun e w'=>e=.returned (.bool (cK l c p))∧Below w.heap.size w w':=by
 have hr:=wK v l w hl;rw[AO] at hr;clear hl;cases hb:ft l
 ·rw[hb] at hr;have HV:Y0 (cK l c p=false):=by unfold Y0 cK;rw[hb];rfl
  clear hb;go_enter Tryz.func69,Tryz.ntmps69;go_wp2_with (go_at_call 76;refine hr.mono ?_;rintro e w' ⟨rfl,ev⟩);go_ret;exact⟨Ze HV.o.symm,ev⟩
 rw[hb] at hr;by_cases h1:0≤c;rotate_left
 ·have HV:Y0 (cK l c p=false):=by unfold Y0 cK Zw;simp[h1]
  have Mv:decide (0≤c)=false:=by simpa using h1
  clear hb;go_enter Tryz.func69,Tryz.ntmps69;go_wp2_with (go_at_call 76;refine hr.mono ?_;rintro e w' ⟨rfl,ev⟩);go_ret;exact⟨Ze HV.o.symm,ev⟩
 by_cases h2:c≤1000;rotate_left
 ·have HV:Y0 (cK l c p=false):=by unfold Y0 cK Zw;simp[h2]
  have h2b:decide (c≤1000)=false:=by simpa using h2
  clear hb;go_enter Tryz.func69,Tryz.ntmps69;go_wp2_with (go_at_call 76;refine hr.mono ?_;rintro e w' ⟨rfl,ev⟩);go_ret;exact⟨Ze HV.o.symm,ev⟩
 by_cases h3:0≤p;rotate_left
 ·have HV:Y0 (cK l c p=false):=by unfold Y0 cK Zw;simp[h3]
  have P8:decide (0≤p)=false:=by simpa using h3
  clear hb;go_enter Tryz.func69,Tryz.ntmps69;go_wp2_with (go_at_call 76;refine hr.mono ?_;rintro e w' ⟨rfl,ev⟩);go_ret;exact⟨Ze HV.o.symm,ev⟩
 have HV:Y0 (cK l c p=decide (p≤1000)):=by unfold Y0 cK Zw;simp[hb,h1,h2,h3]
 clear hb;go_enter Tryz.func69,Tryz.ntmps69;go_wp2_with (go_at_call 76;refine hr.mono ?_;rintro e w' ⟨rfl,ev⟩);go_ret;exact⟨Ze HV.o.symm,ev⟩
