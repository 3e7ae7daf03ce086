/- Lemmas. -/
import Derived.Laws.AppendOwnNone
import Derived.Shelf.Spec.SlicesGrow
import Derived.Test.YtknkhnahflmjiaaGreatDoorU4
import Derived.Test.YtknkhnahflmjiaaGreatDoorV5
namespace Go.Proofs.YtknkhnahflmjiaaGreatDoor
set_option maxRecDepth 100000
set_option maxHeartbeats 40000000
open Go.RowKit Go.Shelf
theorem U4 (v:Value) (s:SetT) (w:World) (hv:SetAt w w.heap.size v s) (hn:SetNames s):Calls Tryz.prog 20 #[v] w (eF s w):=by
 have hL:=fun W (hb:Below w.heap.size w W)=>zd v s W (hv.grow hb) hn;obtain⟨Al,cl,Ai,ci,Ab,cb,rfl,-,-,-⟩:=hv;have cw:=zh ((yB _ w).alloc (yA _) (.cells (zA s Al cl Ai ci Ab cb) 37));have hl:=hL _ cw.o;clear hL hn;unfold dO at*;go_enter Tryz.func20,Tryz.ntmps20;go_wp2_with (go_at_call 66;refine hl.mono ?_;rintro e w2 ⟨bg,h⟩;rcases h with⟨hE,v4,rfl,h4⟩|⟨hE,rfl⟩)
 ·go_ret2;exact⟨cw.o.trans (bg.mono cw.o.size),.inl ⟨hE,v4,rfl,h4⟩⟩
 go_ret2;exact⟨cw.o.trans (bg.mono cw.o.size),.inr ⟨hE,rfl⟩⟩
def bS (s:SetT) (f:FrT):Int:=if cA s=true then (if ga f=0 then Zs s else ga f) else 1
def kL (s:SetT) (f:FrT) (w:World) (e:Ending) (w':World):Prop :=
 Below w.heap.size w w'∧((bS s f=0∧∃v,e=.returned (.tuple #[v,.int .i64 0])∧FrsAt w' w'.heap.size v (ax s))∨(bS s f≠0∧e=.returned (.tuple #[.slice none 0 0,.int .i64 (bS s f)])))
theorem Jm (v:Value) (s:SetT) (f:FrT) (w:World) (hv:SetAt w w.heap.size v s) (hn:SetNames s):Calls Tryz.prog 62 #[v,f.val] w (kL s f w):=by
 have JW:=fun W (hb:Below w.heap.size w W)=>DV v s W (hv.grow hb) hn;have HL:=zh fun W (hb:Below w.heap.size w W)=>U4 v s W (hv.grow hb) hn;have HF:=zh fun W=>GC f W;have Ma:Y0 (bS s f=if cA s=true then (if ga f=0 then Zs s else ga f) else 1):=rfl;unfold kL;unfold eF at HL;obtain⟨Al,cl,Ai,ci,Ab,cb,rfl,-,-,-⟩:=hv;generalize ga f=fe at*;generalize bS s f=ge at*;obtain⟨num,den⟩:=f
 try simp only at*
 have hD:=(Blk.new w 37 (zA s Al cl Ai ci Ab cb)).alloc (.cells #[.int .i64 num,.int .i64 den] 23);have hE:=Blk.new (w.alloc (.cells (zA s Al cl Ai ci Ab cb) 37)) 23 #[.int .i64 num,.int .i64 den];rw[yZ] at hE;have HD:=zh hD;have HE:=zh hE;have cw:=zh (((yB _ w).alloc (yA _) (.cells (zA s Al cl Ai ci Ab cb) 37)).alloc (by simp) (.cells #[.int .i64 num,.int .i64 den] 23));have jA:=JW _ cw.o;clear JW hn hD hE
 unfold dO at*;go_enter Tryz.func62,Tryz.ntmps62;go_wp2_with (go_at_call 87;fail);generalize (w.alloc (.cells (zA s Al cl Ai ci Ab cb) 37)).alloc (.cells #[.int .i64 num,.int .i64 den] 23)=W1 at*;go_at_call 87;refine jA.mono ?_;rintro e w2 ⟨rfl,bg⟩;have dV:=zh (cw.o.trans (bg.mono cw.o.size));have cP:=zh (HD.o.below bg HD.o.lt);have gn:=zh (HE.o.below bg HE.o.lt);clear jA bg cw HD HE;rcases yM (cA s) with h0|h0
 rotate_left
 ·have HR:Y0 (ge=1):=by unfold Y0;rw[Ma.o,if_neg (by rw[h0];simp)]
  rw[h0];clear h0 Ma;go_wp2_with fail;refine YF (results_tmp2 rfl _ _ _) (by rfl) ?_;exact⟨dV.o,.inr ⟨by rw[HR.o];decide,by rw[HR.o];rfl⟩⟩
 rw[h0];have VT:Y0 (ge=if fe=0 then Zs s else fe):=by unfold Y0;rw[Ma.o,if_pos h0]
 clear h0 Ma;obtain⟨e0,e1⟩:=gn.o.c2;have hf:=HF.o w2;go_wp2_with (go_at_call 79;fail);go_at_call 79;refine hf.mono ?_;rintro e w3 ⟨rfl,bZ⟩;have cY:=zh (dV.o.trans (bZ.mono dV.o.size));have eJ:=zh (cP.o.below bZ cP.o.lt);clear hf bZ dV cP gn e0 e1 HF;by_cases c:fe=0;rotate_left
 ·have d1:(fe != 0)=true:=bne_iff_ne.2 c;have HR:Y0 (ge=fe):=by unfold Y0;rw[VT.o,if_neg c]
  have HC:=zh c;clear c VT;go_wp2_with fail;refine YF (results_tmp2 rfl _ _ _) (by rfl) ?_;exact⟨cY.o,.inr ⟨by rw[HR.o];exact HC.o,by rw[HR.o];rfl⟩⟩
 have HR:Y0 (ge=Zs s):=by unfold Y0;rw[VT.o,if_pos c]
 subst c;clear VT;have z0:=eJ.o.cell 0;have z1:=eJ.o.cell 1;have z2:=eJ.o.cell 2;have z3:=eJ.o.cell 3;have z4:=eJ.o.cell 4;have z5:=eJ.o.cell 5;have z6:=eJ.o.cell 6;have z7:=eJ.o.cell 7;have z8:=eJ.o.cell 8;have z9:=eJ.o.cell 9;have fD:=eJ.o.cell 10;have dN:=eJ.o.cell 11;have fa:=eJ.o.cell 12;simp only[aB,aD,aA] at z0 z1 z2 z3 z4 z5 z6 z7 z8 z9 fD dN fa;have hl:=HL.o _ cY.o;clear HL;go_wp2_with (go_at_call 20;fail)
 go_at_call 20;refine hl.mono ?_;rintro e w4 ⟨bP,h⟩;have fj:=zh (cY.o.trans (bP.mono cY.o.size));clear hl bP cY eJ z0 z1 z2 z3 z4 z5 z6 z7 z8 z9 fD dN fa;rcases h with⟨hE,v4,rfl,h4⟩|⟨hE,rfl⟩
 ·go_wp2_with fail;refine YF (results_tmp2 rfl _ _ _) (by rfl) ?_;exact⟨fj.o,.inl ⟨by rw[HR.o];exact hE,v4,rfl,h4⟩⟩
 have HX:=zh hE;clear hE;go_wp2_with fail;refine YF (results_tmp2 rfl _ _ _) (by rfl) ?_;exact⟨fj.o,.inr ⟨by rw[HR.o];exact HX.o,by rw[HR.o];rfl⟩⟩
structure FindT where
 kind:Int
 name:ByteArray
deriving DecidableEq
def FindT.cells (x:FindT):List Value:=[.int .i64 x.kind,.string x.name]
def FindsAt (w:World) (B:Nat) (v:Value) (l:List FindT):Prop:=Flat w B v l.length (l.flatMap FindT.cells)
theorem oB:(Tryz.prog.info? 49).map (fun i=>(i.zero,i.size,i.bytes))=some (some (.agg #[.int .i64 0,.string ⟨#[]⟩]),2,24):=by kernel_rfl
theorem RQ (l:List FindT) (j i:Nat) (hj:j<l.length) (hi:i<2):(l.flatMap FindT.cells)[j*2+i]?=l[j].cells[i]?:=uk FindT.cells 2 (fun _=>rfl) l j i hj hi
theorem FindsAt.open_ {w:World} {B:Nat} {v:Value} {l:List FindT} (h:FindsAt w B v l) :
  ∃A c,v=.slice A l.length c∧l.length≤c∧c≤maxLen∧∀k (_:k<l.length),∃b off,A=some ⟨b,off,none⟩∧b<B∧∀j (hj:j<l.length),w.cell? ⟨b,off+j*2,none⟩=some (.int .i64 l[j].kind)∧w.cell? ⟨b,off+j*2+1,none⟩=some (.string l[j].name):=by
 obtain⟨A,c,h1,h2,h3,h4⟩:=h;refine⟨A,c,h1,h2,h3,fun k hk=>?_⟩;obtain⟨b,off,e,aI,hc⟩:=h4 (by omega);refine⟨b,off,e,aI,fun j hj=>?_⟩;have f:=fun (i:Nat) (hi:i<2) u (hu:l[j].cells[i]?=some u)=>hc (j*2+i) u ((RQ l j i hj hi).trans hu);have g:=fun (i:Nat) (hi:i<2) u (hu:l[j].cells[i]?=some u)=>(congrArg (fun o=>w.cell? ⟨b,o,none⟩) (Nat.add_assoc off (j*2) i)).trans (f i hi u hu);exact⟨g 0 (by omega) _ rfl,g 1 (by omega) _ rfl⟩
theorem FindsAt.below {w w':World} {B B':Nat} {v:Value} {l:List FindT} (h:FindsAt w B v l) (hb:Below B' w w') (hB:B≤B'):FindsAt w' B v l:=Flat.below h hb hB
theorem FindsAt.mono {w:World} {B B':Nat} {v:Value} {l:List FindT} (h:FindsAt w B v l) (hB:B≤B'):FindsAt w B' v l:=Flat.mono h hB
theorem yr (v1 v2:Value) (l1 l2:List FindT) (B:Nat) (w:World) (Be:FindsAt w B v1 l1) (CV:FindsAt w B v2 l2) :
  Calls Tryz.prog 27 #[v1,v2] w fun e w'=>e=.returned (.bool (decide (l1=l2)))∧∃n,w.drewN n=w':=by
 obtain⟨A1,c1,rfl,kG,qo,dS⟩:=Be.open_;obtain⟨A2,c2,rfl,eH,mA,iS⟩:=CV.open_;unfold maxLen at qo mA;clear Be CV;by_cases dD:l1.length=l2.length
 ·have HL:=zh dD;have hb:((l1.length:Int) != l2.length)=false:=by simp[dD]
  have vqJ:l1.length≤l2.length:=by omega
  have vqI:l2.length≤l1.length:=by omega
  clear dD;go_enter Tryz.func27,Tryz.ntmps27;go_wp2;go_loopw [13] (fun s wr=>∃j:Nat,j≤l1.length∧s=.int .i64 j∧l1.take j=l2.take j∧∃n,wr=w.drewN n) (fun x _=>l1.length-(intOf x).toNat)
  case atStart=>exact⟨0,yI _,rfl,by simp,0,rfl⟩
  obtain⟨j,hj,rfl,lR,n,rfl⟩:=hrel;have LR:=zh lR;clear lR;by_cases aI:j<l1.length
  ·have mT:j<l2.length:=by omega
   obtain⟨b1,cQ,rfl,ak,dS⟩:=dS j aI;obtain⟨b2,vqv,rfl,bg,iS⟩:=iS j mT;obtain⟨h1,h1'⟩:=dS j aI;obtain⟨h2,h2'⟩:=iS j mT;clear dS iS;by_cases hq:l1[j]=l2[j]
   ·have ht:(l1[j].kind==l2[j].kind)=true:=by rw[hq];exact beq_self_eq_true _
    have ht':(l1[j].name.toList==l2[j].name.toList)=true:=by rw[hq];exact beq_self_eq_true _
    have HQ:=zh hq;clear hq;go_wp2;go_quiet (fail);go_wp2;go_roundw
    case rel=>exact⟨j+1,by omega,by go_num,by rw[bF l1 j aI,bF l2 j mT,LR.o,HQ.o],_,rfl⟩
    simp[intOf];omega
   have HQ:=zh hq;by_cases hn:l1[j].kind=l2[j].kind
   ·have ht:(l1[j].kind==l2[j].kind)=true:=beq_iff_eq.2 hn;have ht':(l1[j].name.toList==l2[j].name.toList)=false:=by
     rw[qA];exact yC fun h=>HQ.o (by
     cases e1:l1[j];cases e2:l2[j]
     rw[e1,e2] at hn h;simp only at hn h;rw[hn,h])
    clear hq hn;go_wp2;go_quiet (fail);go_wp2;go_ret;exact⟨Ze (by symm;rw[YD];intro e;subst e;exact HQ.o rfl),q2⟩
   have ht:(l1[j].kind==l2[j].kind)=false:=zb hn;clear hq hn;go_wp2;go_quiet (fail);go_wp2;go_ret;exact⟨Ze (by symm;rw[YD];intro e;subst e;exact HQ.o rfl),q2⟩
  have GU:j=l1.length:=by omega
  subst GU;go_wp2;go_ret;exact⟨Ze (by symm;rw[yP];have:=LR.o;rw[yT,HL.o,yT] at this;exact this),q1⟩
 have hb:((l1.length:Int) != l2.length)=true:=by simp;omega
 have fS:l1≠l2:=fun e=>dD (by rw[e]);go_enter Tryz.func27,Tryz.ntmps27;go_wp2;go_ret;exact⟨Ze (by symm;simpa using fS),0,rfl⟩
abbrev FindT.val (x:FindT):Value:=.agg #[.int .i64 x.kind,.string x.name]
def et (a:FrT):Bool:=decide (a.num<0)
def dj (kind:Int) (p:FrT→Bool) (l:List FrT):Nat→List FindT
 | 0=>[]
 | k+1=>dj kind p l k++(match l[k]? with|some f=>if p f then [⟨kind,CK (k+1)⟩] else []|none=>[])
theorem oC {kind:Int} {p:FrT→Bool} {l:List FrT} {k:Nat} (hk:k<l.length) (h:p l[k]=true):dj kind p l (k+1)=dj kind p l k++[⟨kind,CK (k+1)⟩]:=by
 rw[dj,yN hk];dsimp only
 rw[if_pos h]
theorem qT {kind:Int} {p:FrT→Bool} {l:List FrT} {k:Nat} (hk:k<l.length) (h:p l[k]=false):dj kind p l (k+1)=dj kind p l k:=by
 rw[dj,yN hk];dsimp only
 rw[if_neg (by rw[h];simp),List.append_nil]
theorem lC {kind:Int} {p:FrT→Bool} {l:List FrT}:∀k,(dj kind p l k).length ≤ k
 | 0=>yA _
 | k+1=>by
  have:=lC (kind:=kind) (p:=p) (l:=l) k;rw[dj,yR];split
  ·split <;> simp <;> omega
  simp;omega
def mD (m:Int) (f:FrT) (l:List FrT):List FindT:=dj 1 (cB m f) l l.length++dj 2 et l l.length
def eS (f:FrT) (l:List FrT):Bool:=l.all fun a=>aC (aU a*aU f)
def Vg:Ren:=⟨fun|4=>104|n=>n,fun|0=>0|3=>3|4=>4|9=>9|20=>20|22=>39|25=>49|n=>n,fun n=>n⟩
theorem Di:Lays8.n4 Tryz.prog Vg:={
 mixed:=by kernel_rfl
 f4:=⟨"slices.Grow[[]loftblock/api.Finding,loftblock/api.Finding]",rfl,Tryz.func104.trans (congrArg some (by kernel_rfl))⟩
 t0:=Tryz.underlying0
 a0:=Tryz.isAgg0
 z0:=Tryz.sizeOf0
 v0:=Tryz.zeroValue0
 t3:=Tryz.underlying3
 a3:=Tryz.isAgg3
 z3:=Tryz.sizeOf3
 v3:=Tryz.zeroValue3
 t4:=Tryz.underlying4
 a4:=Tryz.isAgg4
 z4:=Tryz.sizeOf4
 v4:=Tryz.zeroValue4
 t9:=Tryz.underlying9
 a9:=Tryz.isAgg9
 z9:=Tryz.sizeOf9
 v9:=Tryz.zeroValue9
 t20:=Tryz.underlying20
 a20:=Tryz.isAgg20
 z20:=Tryz.sizeOf20
 v20:=Tryz.zeroValue20
 t22:=Tryz.underlying39
 a22:=Tryz.isAgg39
 z22:=Tryz.sizeOf39
 v22:=Tryz.zeroValue39 }
theorem uz (z:Array Value) (n:Nat):(Builtin.zeroCells z n).size=n*z.size:=by
 unfold Builtin.zeroCells;simp
theorem RB (n:Nat) (hn:n≤400) (w:World):Calls Tryz.prog 104 #[.slice none 0 0,.int .i64 n] w fun e w'=>∃v,e=.returned v∧w'.ownsRow w.heap.size 49 2 v 0 []∧Below w.heap.size w w':=by
 rcases Nat.eq_zero_or_pos n with h0|h0
 ·subst h0;exact (Any8.slices_Grow_room Di none 0 0 0 w (yA _) (by decide) (by decide) (yA _)).mono fun _ _ h=>⟨_,h.1,by rw[h.2];exact yJ _ _ _ _,by rw[h.2];exact yB _ _⟩
 obtain⟨iF,tY,kO,kN,kM⟩:=info_parts oB;refine (Any8.slices_Grow_grow Di iF (.agg #[.int .i64 0,.string ⟨#[]⟩]) tY kO (by rw[kN];decide) none 0 0 n [] w (yA _) (by omega) (by rw[kM];omega) (by omega) (by rw[Nat.zero_mul];rfl) (fun _=>rfl) (fun a h=>by cases h)).mono ?_;rintro e w' ⟨rfl,rfl⟩;have h1:=grownCap_ge w (0+n) 0 49;have h2:=grownCap_le_maxLen w (0+n) 0 49 (by unfold maxLen;omega);refine⟨_,rfl,?_,(yB _ w).drew.alloc (yA _) _⟩
 refine World.ownsRow_made w.drew _ _ (yA _) h2 ?_;rw[Array.size_append,Array.size_append,uz,uz];show 0+(0+n-0)*2+(grownCap w (0+n) 0 49-(0+n))*2=grownCap w (0+n) 0 49*2;omega
theorem SK (b off k:Nat):(Addr.mk b off none).add k=⟨b,off+k,none⟩:=by
 unfold Addr.add;split
 ·rename_i h;subst h;rfl
 rfl
theorem EV {w:World} {B:Nat} {v:Value} {l:List FindT} (h:w.ownsRow B 49 2 v l.length (l.flatMap FindT.cells)) :
  (v=.slice none 0 0∧l=[])∨∃g cap,v=.slice (some ⟨g,0,none⟩) l.length cap∧∀(j:Nat) u,(l.flatMap FindT.cells)[j]?=some u→w.cell? ((⟨g,0,none⟩:Addr).add j)=some u:=by
 obtain⟨hl,⟨rfl,h0⟩|⟨g,cap,cur,rfl,hb,hg,hnc,UO,oR,ht⟩⟩:=h
 ·exact .inl ⟨rfl,List.length_eq_zero_iff.1 h0⟩
 refine .inr ⟨g,cap,rfl,fun j u hu=>?_⟩
 have:(⟨g,0,none⟩:Addr).add j=⟨g,j,none⟩:=by
  rw[SK,yS]
 rw[this,cell_of_row w g j cur 49 (0,0) hg];rw[←ht,List.getElem?_take] at hu;split at hu
 ·simpa using hu
 cases hu
theorem qc (l:List FindT):(l.flatMap FindT.cells).length=l.length*2∧∀u∈l.flatMap FindT.cells,u.oneCell'=true:=by
 induction l with
 | nil=>simp
 | cons x l ih=>
  rw[List.flatMap_cons];refine⟨by rw[yR,ih.1,List.length_cons,Nat.succ_mul];show 2+_=_;omega,fun u hu=>?_⟩;rcases List.mem_append.1 hu with h|h
  ·unfold FindT.cells at h;simp only[List.mem_cons,List.not_mem_nil,or_false] at h;rcases h with rfl|rfl <;> rfl
  exact ih.2 u h
def JJ (l1 l2:List FindT):Nat→List FindT
 | 0=>[]
 | 1=>l1
 | _=>l1++l2
theorem Ip (v1 v2:Value) (l1 l2:List FindT) (g c B1 B2:Nat) (w:World) (h1:w.ownsRow B1 49 2 v1 l1.length (l1.flatMap FindT.cells)) (h2:w.ownsRow B2 49 2 v2 l2.length (l2.flatMap FindT.cells)) (dD:l1.length ≤ 100 ∧ l2.length ≤ 100)
  (hb:Blk w g 39 #[v1,v2]):Calls Tryz.prog 64 #[.slice (some ⟨g,0,none⟩) 2 c] w fun e w'=>∃v,e=.returned v∧FindsAt w' w'.heap.size v (l1++l2)∧Below w.heap.size w w':=by
 have e1:∃A1 c1,v1=.slice A1 l1.length c1:=by obtain⟨A,c,e,-⟩:=Flat.of_own h1;exact⟨A,c,e⟩
 have e2:∃A2 c2,v2=.slice A2 l2.length c2:=by obtain⟨A,c,e,-⟩:=Flat.of_own h2;exact⟨A,c,e⟩
 obtain⟨A1,c1,e1⟩:=e1;obtain⟨A2,c2,e2⟩:=e2;obtain⟨N,hN⟩:=zo (l1.length+l2.length);have HG:=zh fun W=>RB N (by omega) W;have tv:=zh h1;have gQ:=zh h2;have Bb:=zh hb;obtain⟨iF,tY,kO,kN,kM⟩:=info_parts oB;obtain⟨b0,b1⟩:=hb.c2;rw[e1] at b0;rw[e2] at b1;have s1:IntKind.i64.wrap (0+(l1.length:Int))=(l1.length:Int):=by rw[Int.zero_add];exact yF _ (by omega)
 have s2:IntKind.i64.wrap ((l1.length:Int)+(l2.length:Int))=(N:Int):=by rw[←Int.natCast_add,hN];exact yF _ (by omega)
 have s1':IntKind.i64.wrap (l1.length:Int)=(l1.length:Int):=yF _ (by omega);obtain⟨sz,fO⟩:∃sz:Nat→Nat,sz 0=0∧sz 1=l1.length∧sz 2=N:=⟨fun k=>if k=0 then 0 else if k=1 then l1.length else N,rfl,rfl,rfl⟩;go_enter Tryz.func64,Tryz.ntmps64;go_wp2_with fail;go_loopw [11,3] (fun ix s wr=>∃k:Nat,k≤2∧ix=.int .i64 k∧s=.int .i64 (sz k:Nat)∧w=wr) (fun ix _ _=>2-(intOf ix).toNat)
 case atStart=>exact⟨0,by omega,rfl,by rw[fO.1];rfl,rfl⟩
 obtain⟨k,hk,rfl,rfl,rfl⟩:=hrel;have hk3:k=0∨k=1∨k=2:=by omega
 rcases hk3 with rfl|rfl|rfl
 ·rw[fO.1];have qR:decide ((l1.length:Int)<0)=false:=yC (by omega);go_wp2_with fail;go_roundw
  case rel=>exact⟨1,by omega,rfl,by rw[fO.2.1],by first|rfl|trivial⟩
  simp[intOf]
 ·rw[fO.2.1];have qR:decide ((N:Int)<0)=false:=yC (by omega);go_wp2_with fail;go_roundw
  case rel=>exact⟨2,by omega,rfl,by rw[fO.2.2],by first|rfl|trivial⟩
  simp[intOf]
 rw[fO.2.2];clear s1 s2 s1';go_upto_region 10 with (first|(go_at_call 104;refine (HG.o _).mono ?_;rintro e w2 ⟨v0,rfl,hO,hB⟩));have HO:=zh hO;have HB:=zh hB;clear hO hB HG;clear fO;have GR:∀k:Nat,k≤2→(JJ l1 l2 k).length≤200:=fun k hk=>by
  rcases (show k=0∨k=1∨k=2 by omega) with rfl|rfl|rfl
  ·exact yI _
  ·show l1.length≤200;omega
  show (l1++l2).length≤200;rw[yR];omega
 go_wp2_with fail;go_loopw [27,6] (fun ix v wr=>∃k:Nat,k≤2∧ix=.int .i64 k∧Y0 (wr.ownsRow w.heap.size 49 2 v (JJ l1 l2 k).length ((JJ l1 l2 k).flatMap FindT.cells)∧Below w.heap.size w wr)) (fun ix _ _=>2-(intOf ix).toNat)
 case atStart=>exact⟨0,by omega,rfl,HO.o,HB.o⟩
 clear HO HB;obtain⟨k,hk,rfl,HR⟩:=hrel;have HO:=zh HR.o.1;have HB:=zh HR.o.2;have gL:=HB.o.size;have hB:=Bb.o.below HB.o Bb.o.lt;obtain⟨q0,q1⟩:=hB.c2;clear HR hB;rcases (show k=0∨k=1∨k=2 by omega) with rfl|rfl|rfl
 ·have HSk:=zh (bR tv.o HB.o);obtain⟨UC,xU⟩:=qc l1;rcases EV HSk.o with⟨hv,hl⟩|⟨gk,qkY,hv,hnw⟩
  ·rw[hv] at q0;go_wp2_with (at_builtin;refine wpList_append_own_none rfl _ _ 39 rfl w.heap.size 49 iF 2 Tryz.underlying39 tY _ _ _ rfl HO.o rfl ?_);go_roundw
   case rel=>exact⟨1,by omega,rfl,by rw[hl] at*;exact HO.o,HB.o⟩
   simp[intOf]
  rw[hv] at q0;have iD:=GR 0 (by omega);go_wp2_with (at_builtin;refine wpList_append_own _ rfl _ _ 39 rfl w.heap.size 49 iF (.agg #[.int .i64 0,.string ⟨#[]⟩]) 2 24 Tryz.underlying39 tY kO kN kM rfl (by decide) _ _ _ rfl HO.o _ _ _ _ rfl UC hnw xU (by unfold maxLen;omega) (by omega) gL ?_;intro v9 w9 sZ nL _;have HO9:=zh sZ;have iW:=zh (HB.o.grown nL gL (fun k e=>(HO.o.lt k e).1));clear sZ nL);go_roundw
  case rel=>exact⟨1,by omega,rfl,by have h:=HO9.o;rw[show (JJ l1 l2 0).length+l1.length=l1.length by show 0+_=_;omega] at h;exact h,iW.o⟩
  simp[intOf]
 ·have HSk:=zh (bR gQ.o HB.o);obtain⟨UC,xU⟩:=qc l2;rcases EV HSk.o with⟨hv,hl⟩|⟨gk,qkY,hv,hnw⟩
  ·rw[hv] at q1;go_wp2_with (at_builtin;refine wpList_append_own_none rfl _ _ 39 rfl w.heap.size 49 iF 2 Tryz.underlying39 tY _ _ _ rfl HO.o rfl ?_);go_roundw
   case rel=>exact⟨2,by omega,rfl,by have h:=HO.o;rw[hl];show World.ownsRow _ _ _ _ _ (l1++[]).length ((l1++[]).flatMap FindT.cells);rw[List.append_nil];exact h,HB.o⟩
   simp[intOf]
  rw[hv] at q1;have iD:=GR 1 (by omega);go_wp2_with (at_builtin;refine wpList_append_own _ rfl _ _ 39 rfl w.heap.size 49 iF (.agg #[.int .i64 0,.string ⟨#[]⟩]) 2 24 Tryz.underlying39 tY kO kN kM rfl (by decide) _ _ _ rfl HO.o _ _ _ _ rfl UC hnw xU (by unfold maxLen;omega) (by omega) gL ?_;intro v9 w9 sZ nL _;have HO9:=zh sZ;have iW:=zh (HB.o.grown nL gL (fun k e=>(HO.o.lt k e).1));clear sZ nL);go_roundw
  case rel=>exact⟨2,by omega,rfl,by have h:=HO9.o;show World.ownsRow _ _ _ _ _ (l1++l2).length ((l1++l2).flatMap FindT.cells);rw[yR,List.flatMap_append];exact h,iW.o⟩
  simp[intOf]
 go_wp2_with fail;go_ret;exact⟨_,rfl,Flat.of_own HO.o,HB.o⟩
structure ChkS (W0 W:World) (g:Nat) (fn fd er:Int) (ov sv:Value) (fo fs:List FindT):Prop where
 bel:Below W0.heap.size W0 W
 chk:Blk W g 98 #[.int .i64 fn,.int .i64 fd,.int .i64 er]
 low:W0.heap.size≤g
 rowO:W.ownsRow W0.heap.size 49 2 ov fo.length (fo.flatMap FindT.cells)
 rowS:W.ownsRow W0.heap.size 49 2 sv fs.length (fs.flatMap FindT.cells)
 no:ov.ownBlock≠some g
 ns:sv.ownBlock≠some g
 ap:∀k,ov.ownBlock=some k→sv.ownBlock≠some k
section
variable {W0 W W':World} {g:Nat} {fn fd er:Int} {ov sv:Value} {fo fs:List FindT}
theorem ChkS.grow (h:ChkS W0 W g fn fd er ov sv fo fs) (hb:Below W.heap.size W W'):ChkS W0 W' g fn fd er ov sv fo fs :=
 ⟨h.bel.trans (hb.mono h.bel.size),h.chk.below hb h.chk.lt,h.low,bR h.rowO hb,bR h.rowS hb,h.no,h.ns,h.ap⟩
theorem zT {v:Value} {row:Option Nat} (h:∀k,v.ownBlock=some k→row≠some k):v.ownBlock=none∨v.ownBlock≠row:=by
 cases e:v.ownBlock with
 | none=>exact .inl rfl
 | some k=>exact .inr fun e2=>h k e e2.symm
theorem ChkS.err (h:ChkS W0 W g fn fd er ov sv fo fs) (z:Int):ChkS W0 (W.setCell ⟨g,2,none⟩ (.int .i64 z)) g fn fd z ov sv fo fs :=
 ⟨h.bel.setCell (p:=⟨g,2,none⟩) h.low _,h.chk.set_ 2 _,h.low,h.rowO.kept (h.chk.setGrown 2 _) (.inr h.no),h.rowS.kept (h.chk.setGrown 2 _) (.inr h.ns),h.no,h.ns,h.ap⟩
theorem ChkS.pushO (h:ChkS W0 W g fn fd er ov sv fo fs) {v':Value} {y:FindT} (bO:W'.ownsRow W0.heap.size 49 2 v' (fo.length+1) (fo.flatMap FindT.cells++[.int .i64 y.kind,.string y.name])) (hg:W.grownBy W' ov.ownBlock) (Ex:v'.ownBlock=ov.ownBlock∨v'.ownBlock=some W.heap.size) :
  ChkS W0 W' g fn fd er v' sv (fo++[y]) fs:=by
 refine⟨h.bel.grown hg h.bel.size (fun k e=>(h.rowO.lt k e).1),h.chk.kept hg h.no.symm,h.low,?_,h.rowS.kept hg (zT fun k e e2=>h.ap k e2 e),fun e=>?_,h.ns,fun k e e2=>?_⟩
 ·rw[yR,List.flatMap_append];exact bO
 ·rcases Ex with h1|h1
  ·exact h.no (h1.symm.trans e)
  rw[h1] at e
  have:=h.chk.lt;injection e with e;omega
 rcases Ex with h1|h1
 ·exact h.ap k (h1.symm.trans e) e2
 rw[h1] at e
 have:=(h.rowS.lt k e2).2;injection e with e;omega
theorem ChkS.pushS (h:ChkS W0 W g fn fd er ov sv fo fs) {v':Value} {y:FindT} (bO:W'.ownsRow W0.heap.size 49 2 v' (fs.length+1) (fs.flatMap FindT.cells++[.int .i64 y.kind,.string y.name])) (hg:W.grownBy W' sv.ownBlock) (Ex:v'.ownBlock=sv.ownBlock∨v'.ownBlock=some W.heap.size) :
  ChkS W0 W' g fn fd er ov v' fo (fs++[y]):=by
 refine⟨h.bel.grown hg h.bel.size (fun k e=>(h.rowS.lt k e).1),h.chk.kept hg h.ns.symm,h.low,h.rowO.kept hg (zT fun k e e2=>h.ap k e e2),?_,h.no,fun e=>?_,fun k e e2=>?_⟩
 ·rw[yR,List.flatMap_append];exact bO
 ·rcases Ex with h1|h1
  ·exact h.ns (h1.symm.trans e)
  rw[h1] at e
  have:=h.chk.lt;injection e with e;omega
 rcases Ex with h1|h1
 ·exact h.ap k e (h1.symm.trans e2)
 rw[h1] at e2
 have:=(h.rowO.lt k e).2;injection e2 with e2;omega
end
theorem Blk.errW {W:World} {k g:Nat} {t:TypeId} {cs:Array Value} {ok:Bool} (h:Blk W k t cs) (fS:k≠g):Blk (errW ok g W) k t cs:=by
 cases ok
 case true=>exact h
 exact h.far (p:=⟨g,2,none⟩) fS _
theorem mo {s:SetT} (h:Zs s=0):cA s=true∧(∀f∈ax s,aj f=true)∧(ax s).length≤12∧0<(ax s).length:=by
 unfold Zs at h;cases hs:cA s
 ·rw[hs] at h;cases h
 rw[hs] at h;cases ha:gb (dP (fi s))
 ·rw[ha] at h;cases h
 refine⟨rfl,fun f hf=>?_,?_⟩
 ·unfold ax at hf;rw[List.mem_map] at hf;obtain⟨q,hq,rfl⟩:=hf;unfold gb at ha;exact qa (List.all_eq_true.1 ha q hq)
 have h2:=zt hs;have e:(ax s).length=s.lines.length:=by
  unfold ax dP;rw[yQ,yQ,List.length_range];rfl
 omega
def sD (f:FrT) (l:List FrT) (k:Nat):Int:=if eS f (l.take k)=true then 0 else 5
theorem Lw {f:FrT} {l:List FrT}:sD f l 0=0:=rfl
theorem RX {f:FrT} {l:List FrT}:sD f l l.length=if eS f l=true then 0 else 5:=by unfold sD;rw[List.take_length]
theorem Lx {f:FrT} {l:List FrT} {k:Nat} (hk:k<l.length):sD f l (k+1)=if aC (aU l[k]*aU f)=true then sD f l k else 5:=by
 unfold sD eS;rw[List.take_add_one,yN hk,List.all_append];cases h:aC (aU l[k]*aU f) <;> simp[h]
theorem yo {W0 W W':World} {g:Nat} {fn fd er:Int} {ov sv:Value} {fo fs:List FindT} {ok:Bool} (h:ChkS W0 W g fn fd er ov sv fo fs) (hb:Below W.heap.size W W'):ChkS W0 (errW ok g W') g fn fd (if ok=true then er else 5) ov sv fo fs:=by
 cases ok
 case true=>rw[if_pos rfl];exact h.grow hb
 rw[if_neg (by decide)];exact (h.grow hb).err 5
def cM (s:SetT) (f:FrT):Int:=if bS s f=0 then (if eS f (ax s)=true then 0 else 5) else bS s f
def Check23Post (s:SetT) (f:FrT) (w:World) (e:Ending) (w':World):Prop :=
 Below w.heap.size w w'∧((cM s f=0∧∃v,e=.returned (.tuple #[v,.int .i64 0])∧FindsAt w' w'.heap.size v (mD s.most f (ax s)))∨(cM s f≠0∧e=.returned (.tuple #[.slice none 0 0,.int .i64 (cM s f)])))
theorem ug {s:SetT} {f:FrT} (h:bS s f=0):cA s=true∧ga f=0∧Zs s=0:=by
 unfold bS at h;split at h
 ·rename_i h1
  split at h
  ·rename_i h2
   exact⟨h1,h2,h⟩
  rename_i h2
  exact absurd h h2
 cases h
theorem JC {f:FrT} (h:ga f=0):aj f=true∧f.den≤f.num∧f.num≤100∧f.den≤100:=by
 unfold ga at h;split at h
 ·rename_i h1
  split at h
  ·rename_i h2
   exact⟨h1,h2⟩
  cases h
 cases h
theorem Jn (v:Value) (s:SetT) (f:FrT) (w:World) (hv:SetAt w w.heap.size v s) (hn:SetNames s):Calls Tryz.prog 18 #[v,f.val] w (Check23Post s f w):=by
 have Ei:=fun W (hb:Below w.heap.size w W)=>Jm v s f W ((hv.below hb (yA _)).mono hb.size) hn;obtain⟨Al,cl,Ai,ci,Ab,cb,rfl,-,-,-⟩:=hv;unfold kL at Ei;unfold Check23Post;have xo:f.val=.agg #[.int .i64 f.num,.int .i64 f.den]:=rfl;have wK:Y0 (cM s f=if bS s f=0 then (if eS f (ax s)=true then 0 else 5) else bS s f):=rfl;have Ej:Y0 (bS s f=0→cA s=true∧ga f=0∧Zs s=0):=ug;have El:Y0 (ga f=0→aj f=true∧f.den≤f.num∧f.num≤100∧f.den≤100):=JC
 have pu:Y0 (Zs s=0→cA s=true∧(∀f∈ax s,aj f=true)∧(ax s).length≤12∧0<(ax s).length):=mo;generalize ax s=l at*;obtain⟨fn,Ae⟩:=zo (f.num);obtain⟨fd,Ha⟩:=zo (f.den);rw[Ae,Ha] at xo;rw[xo] at Ei⊢;have HD:=zh ((Blk.new w 37 (zA s Al cl Ai ci Ab cb)).alloc (.cells #[.int .i64 fn,.int .i64 fd] 23));have hE:=Blk.new (w.alloc (.cells (zA s Al cl Ai ci Ab cb) 37)) 23 #[.int .i64 fn,.int .i64 fd];rw[yZ] at hE
 have HE:=zh hE;have cw:=zh (((yB _ w).alloc (yA _) (.cells (zA s Al cl Ai ci Ab cb) 37)).alloc (by simp) (.cells #[.int .i64 fn,.int .i64 fd] 23));have Li:=Ei _ cw.o;clear Ei hn hE xo;unfold dO at*;go_enter Tryz.func18,Tryz.ntmps18;go_upto_region 1 with fail;generalize (w.alloc (.cells (zA s Al cl Ai ci Ab cb) 37)).alloc (.cells #[.int .i64 fn,.int .i64 fd] 23)=W1 at*;have e0:=HE.o.cell 0;have e1:=HE.o.cell 1
 have z0:=HD.o.cell 0;have z1:=HD.o.cell 1;have z2:=HD.o.cell 2;have z3:=HD.o.cell 3;have z4:=HD.o.cell 4;have z5:=HD.o.cell 5;have z6:=HD.o.cell 6;have z7:=HD.o.cell 7;have z8:=HD.o.cell 8;have z9:=HD.o.cell 9;have fD:=HD.o.cell 10;have dN:=HD.o.cell 11;have fa:=HD.o.cell 12;simp only[aB,aD,aA] at e0 e1 z0 z1 z2 z3 z4 z5 z6 z7 z8 z9 fD dN fa;go_upto_region 2 with (first|(go_at_call 62;refine Li.mono ?_;rintro e w2 ⟨bg,⟨hG,v4,rfl,h4⟩|⟨hG,rfl⟩⟩))
 rotate_left
 ·have dV:=zh (cw.o.trans (bg.mono cw.o.size));have hc:cM s f=bS s f:=by rw[wK.o,if_neg hG]
  have Yj:Y0 (cM s f≠0):=by unfold Y0;rw[hc];exact hG
  have HC3:=zh hc;have CX:(bS s f != 0)=true:=bne_iff_ne.2 hG;generalize bS s f=k at*;clear Li bg hG hc wK Ej El HE HD cw e0 e1 z0 z1 z2 z3 z4 z5 z6 z7 z8 z9 fD dN fa;go_wp2_with fail;go_ret2;exact⟨dV.o,.inr ⟨Yj.o,by rw[HC3.o];rfl⟩⟩
 obtain⟨fJ,vL,iD⟩:=Ej.o hG;obtain⟨lD,lB⟩:=El.o vL;obtain⟨-,xk,GQ,-⟩:=pu.o iD;have iL:=(Zm fJ).most;have nK:(bS s f != 0)=false:=by rw[hG];rfl
 have Bt:Y0 (cM s f=if eS f l=true then 0 else 5):=by unfold Y0;rw[wK.o,if_pos hG]
 rw[hG] at*;have dV:=zh (cw.o.trans (bg.mono cw.o.size));have cP:=zh (HD.o.below bg HD.o.lt);have gn:=zh (HE.o.below bg HE.o.lt);clear e0 e1 z0 z1 z2 z3 z4 z5 z6 z7 z8 z9 fD dN fa Li bg wK Ej El HD HE cw fJ vL iD nK;obtain⟨A,c,rfl,-,eH,dR⟩:=h4.open_;have Yi:=zh dR;unfold maxLen at eH;have VR:=zh xk;obtain⟨e0,e1⟩:=gn.o.c2;have gZ:=zh fun a m W (h:aj a=true) (hC:Blk W w2.heap.size 98 #[.int .i64 f.num,.int .i64 f.den,.int .i64 m])=>qx5 a f s.most w2.heap.size m W h lD ⟨Int.le_trans (by decide) iL.1,iL.2⟩ hC
 rw[Ae,Ha] at gZ;have HFn:Y0 (mD s.most f (l)=dj 1 (cB s.most f) (l) l.length++dj 2 et (l) l.length):=rfl;have HEA:Y0 (sD f (l) l.length=if eS f (l)=true then 0 else 5):=RX;have HEZ:Y0 (∀k (hk:k<l.length),sD f (l) (k+1)=if aC (aU l[k]*aU f)=true then sD f (l) k else 5):=fun k hk=>Lx hk;have mW:Y0 (sD f (l) 0=0):=Lw;clear pu lD lB xk h4 dR Ae Ha iL hG;have wU:Y0 (ChkS w2 (w2.alloc (.cells #[.int .i64 fn,.int .i64 fd,.int .i64 0] 98)) w2.heap.size fn fd (sD f l 0) (.slice none 0 0) (.slice none 0 0) (dj 1 (cB s.most f) l 0) (dj 2 et l 0)):=by
  rw[mW.o];exact⟨(yB _ _).alloc (yA _) _,Blk.new _ _ _,yA _,yJ _ _ _ _,yJ _ _ _ _,(by simp[Value.ownBlock]),(by simp[Value.ownBlock]),fun k e=>by simp[Value.ownBlock] at e⟩
 obtain⟨iF,tY,kO,kN,kM⟩:=info_parts oB;go_upto_region 7 with fail;generalize w2.alloc (.cells #[.int .i64 fn,.int .i64 fd,.int .i64 0] 98)=W3 at*;clear e0 e1;go_loopw [28,9,10] (fun ix u v wr=>∃(k:Nat) (ov sv:Value),k≤l.length∧ix=.int .i64 k∧ov=u∧sv=v∧Y0 (ChkS w2 wr w2.heap.size fn fd (sD f l k) ov sv (dj 1 (cB s.most f) l k) (dj 2 et l k))) (fun ix _ _ _=>l.length-(intOf ix).toNat)
 case atStart=>exact⟨0,_,_,yI _,rfl,rfl,rfl,wU⟩
 clear wU;obtain⟨k,ov,sv,hk,rfl,rfl,rfl,HT⟩:=hrel;have k0:(0:Int)≤(k:Int):=yE _;have xU:=lC (kind:=1) (p:=cB s.most f) (l:=l) k;have Ew:=lC (kind:=2) (p:=et) (l:=l) k;by_cases aK:k<l.length
 ·have k1:(k:Int)<(l.length:Int):=by omega
  obtain⟨b1,o1,rfl,ak,hx⟩:=Yi.o k aK;have y0:=(HT.o.bel.cell (p:=⟨b1,o1+k*2,none⟩) ak).trans (hx k aK).1;have y1:=(HT.o.bel.cell (p:=⟨b1,o1+k*2+1,none⟩) ak).trans (hx k aK).2;have oV:=zh fun h=>oC (kind:=1) (p:=cB s.most f) aK h;have wJ:=zh fun h=>qT (kind:=1) (p:=cB s.most f) aK h;have qp:=zh fun h=>oC (kind:=2) (p:=et) aK h;have cR:=zh fun h=>qT (kind:=2) (p:=et) aK h;have hes:=HEZ.o k aK;have mO:=VR.o _ (yV aK)
  clear hx;have HA:=zh (HT.o.grow ((yB _ wr).alloc (yA _) (.cells #[.int .i64 l[k].num,.int .i64 l[k].den] 23)));have hov:=gZ.o l[k] (sD f l k) _ mO HA.o.chk;obtain⟨o1b,ho1⟩:=zo (cB s.most f l[k]);obtain⟨o2b,Ac⟩:=zo (et l[k]);have Tx:decide (l[k].num<0)=o2b:=Ac;rw[ho1] at hov;go_upto_region 9 with fail;have HX:=zh (Blk.new wr 23 #[.int .i64 l[k].num,.int .i64 l[k].den]);have He:ov.ownBlock≠some wr.heap.size:=fun e=>Nat.lt_irrefl _ (HT.o.rowO.lt _ e).2
  have gL:sv.ownBlock≠some wr.heap.size:=fun e=>Nat.lt_irrefl _ (HT.o.rowS.lt _ e).2;have xY:wr.heap.size≠w2.heap.size:=fun e=>Nat.lt_irrefl _ (e▸HT.o.chk.lt);have z9:=(HA.o.bel.cell (p:=⟨w.heap.size,9,none⟩) cP.o.lt).trans (cP.o.cell 9);have z0:=(HA.o.bel.cell (p:=⟨w.heap.size,0,none⟩) cP.o.lt).trans (cP.o.cell 0);have x0:=HX.o.cell 0;have x1:=HX.o.cell 1;have c0:=HA.o.chk.cell 0;simp only[aB,aD,aA] at z9 z0 x0 x1 c0
  clear y0 y1 HT mO;have Rc:k+1<100:=by omega
  have hIt:=fun W=>Ua (k+1) Rc W;obtain⟨ib,hib⟩:=zo (CK (k+1));rw[hib,Int.natCast_add,Int.natCast_one] at hIt;rw[hib] at oV qp;have v1:IntKind.i64.wrap ((k:Int)+1)=(k:Int)+1:=yF _ (by omega);generalize wr.alloc (.cells #[.int .i64 l[k].num,.int .i64 l[k].den] 23)=W4 at*;generalize wr.heap.size=bx at*;obtain⟨num,lB⟩:=zo (l[k].num);obtain⟨den,UN⟩:=zo (l[k].den);have J3:l[k].val=.agg #[.int .i64 num,.int .i64 den]:=by rw[←lB,←UN]
  rw[J3] at hov;rw[lB,UN] at HX;rw[lB] at x0 Tx;rw[UN] at x1;generalize aC (aU l[k]*aU f)=ok at*;clear lB UN J3 hib;go_upto_region 10 with (first|(go_at_call 21;refine (hIt _).mono ?_;rintro e w5 ⟨rfl,rfl⟩));cases o1b
  ·have qjt:=wJ.o ho1;go_upto_region 12 with (first|(go_at_call 63;refine hov.mono ?_;rintro e w5 ⟨rfl,w4,bP,rfl⟩));have HT:=zh (yo (ok:=ok) HA.o bP);rw[←hes] at HT;have HX:=zh ((HX.o.below bP HX.o.lt).errW (ok:=ok) xY);generalize errW ok w2.heap.size w4=w5 at*;clear bP HA x0 x1 c0 z9 z0;have x0:=HX.o.cell 0;simp only[aB,aA] at x0;rw[←qjt] at HT;cases o2b
   ·have tE:=cR.o Ac;go_wp2_with fail;go_roundw
    case rel=>exact⟨k+1,_,_,by omega,by go_num,rfl,rfl,by rw[tE];exact HT⟩
    simp[intOf];omega
   have hye:=qp.o Ac;have HT:=zh (HT.o.grow ((yB _ w5).alloc (yA _) (.cells #[.int .i64 2,.string ib] 49)));have jD:=zh (yL (Blk.new w5 49 #[.int .i64 2,.string ib]));have fO:=HT.o.bel.size;go_wp2_with (at_builtin;refine wpList_append_own_at _ rfl _ _ 39 rfl w2.heap.size 49 iF (.agg #[.int .i64 0,.string ⟨#[]⟩]) 2 24 Tryz.underlying39 tY kO kN kM rfl (by decide) _ _ _ rfl HT.o.rowS ⟨w5.heap.size,0,none⟩ 1 1 [.int .i64 2,.string ib] rfl rfl jD.o (by simp[Value.oneCell']) (by unfold maxLen;omega) (by omega) fO ?_;intro v8 w8 fK dA _ nP;have HT:=zh (HT.o.pushS (y:=⟨2,ib⟩) fK dA nP);clear fK dA nP)
   go_roundw
   case rel=>exact⟨k+1,_,_,by omega,by go_num,rfl,rfl,by rw[hye];exact HT⟩
   simp[intOf];omega
  have qjl:=oV.o ho1;go_upto_region 11 with (first|(go_at_call 63;refine hov.mono ?_;rintro e w5 ⟨rfl,w4,bP,rfl⟩));have HT:=zh (yo (ok:=ok) HA.o bP);rw[←hes] at HT;have HX:=zh ((HX.o.below bP HX.o.lt).errW (ok:=ok) xY);generalize errW ok w2.heap.size w4=w5 at*;clear bP HA x0 x1 c0 z9 z0;have x0:=HX.o.cell 0;simp only[aB,aA] at x0;have HT:=zh (HT.o.grow ((yB _ w5).alloc (yA _) (.cells #[.int .i64 1,.string ib] 49)))
  have HX:=zh (HX.o.alloc (.cells #[.int .i64 1,.string ib] 49));have jD:=zh (yL (Blk.new w5 49 #[.int .i64 1,.string ib]));have fO:=HT.o.bel.size;go_upto_region 12 with (at_builtin;refine wpList_append_own_at _ rfl _ _ 39 rfl w2.heap.size 49 iF (.agg #[.int .i64 0,.string ⟨#[]⟩]) 2 24 Tryz.underlying39 tY kO kN kM rfl (by decide) _ _ _ rfl HT.o.rowO ⟨w5.heap.size,0,none⟩ 1 1 [.int .i64 1,.string ib] rfl rfl jD.o (by simp[Value.oneCell']) (by unfold maxLen;omega) (by omega) fO ?_;intro v8 w8 fK dA _ nP;have HT:=zh (HT.o.pushO (y:=⟨1,ib⟩) fK dA nP);have HX:=zh (HX.o.kept dA He.symm);have x0:=HX.o.cell 0;simp only[aB,aA] at x0;clear fK dA nP)
  rw[←qjl] at HT;cases o2b
  ·have tE:=cR.o Ac;go_wp2_with fail;go_roundw
   case rel=>exact⟨k+1,_,_,by omega,by go_num,rfl,rfl,by rw[tE];exact HT⟩
   simp[intOf];omega
  have hye:=qp.o Ac;have HT:=zh (HT.o.grow ((yB _ w8).alloc (yA _) (.cells #[.int .i64 2,.string ib] 49)));have jD:=zh (yL (Blk.new w8 49 #[.int .i64 2,.string ib]));have fO:=HT.o.bel.size;go_wp2_with (at_builtin;refine wpList_append_own_at _ rfl _ _ 39 rfl w2.heap.size 49 iF (.agg #[.int .i64 0,.string ⟨#[]⟩]) 2 24 Tryz.underlying39 tY kO kN kM rfl (by decide) _ _ _ rfl HT.o.rowS ⟨w8.heap.size,0,none⟩ 1 1 [.int .i64 2,.string ib] rfl rfl jD.o (by simp[Value.oneCell']) (by unfold maxLen;omega) (by omega) fO ?_;intro v8 w8 fK dA _ nP;have HT:=zh (HT.o.pushS (y:=⟨2,ib⟩) fK dA nP);clear fK dA nP)
  go_roundw
  case rel=>exact⟨k+1,_,_,by omega,by go_num,rfl,rfl,by rw[hye];exact HT⟩
  simp[intOf];omega
 obtain rfl:k=l.length:=by omega
 have HT:=HT;rw[HEA.o] at HT;have c2:=HT.o.chk.cell 2;simp only[aB,aD,aA] at c2;by_cases xq:eS f l=true
 ·rw[if_pos xq] at HT c2;have M9:Y0 (cM s f=0):=by unfold Y0;rw[Bt.o,if_pos xq]
  obtain⟨Ao,co,hov,-⟩:=Flat.of_own HT.o.rowO;obtain⟨As,cs,hsv,-⟩:=Flat.of_own HT.o.rowS;subst hov hsv;have vqF:(dj 1 (cB s.most f) l l.length).length≤100:=by omega
  have vqE:(dj 2 et l l.length).length≤100:=by omega
  have VU:Y0 (dj 1 (cB s.most f) l l.length++dj 2 et l l.length=mD s.most f l):=HFn.o.symm;generalize dj 1 (cB s.most f) l l.length=F1 at*;generalize dj 2 et l l.length=F2 at*;obtain⟨N1,oF⟩:=zo (F1.length);obtain⟨N2,rJ⟩:=zo (F2.length);have X7:=fun W (hb:Below wr.heap.size wr W) G (hk:Blk W G 39 #[.slice Ao F1.length co,.slice As F2.length cs])=>Ip _ _ F1 F2 G 2 w2.heap.size w2.heap.size W (bR HT.o.rowO hb) (bR HT.o.rowS hb) (by omega) hk
  have eH:=X7 _ ((yB _ wr).alloc (yA _) (.cells #[.slice Ao F1.length co,.slice As F2.length cs] 39)) wr.heap.size (Blk.new _ _ _);have dw:=zh (dV.o.trans ((HT.o.bel.alloc HT.o.bel.size (.cells #[.slice Ao F1.length co,.slice As F2.length cs] 39)).mono dV.o.size));rw[oF,rJ] at eH dw⊢;clear X7 xq oF rJ;go_wp2_with (first|(go_at_call 64;refine eH.mono ?_;rintro e w9 ⟨v9,rfl,hF9,fC⟩));go_ret2;exact⟨dw.o.trans (fC.mono dw.o.size),.inl ⟨M9.o,v9,rfl,by rw[←VU.o];exact hF9⟩⟩
 rw[if_neg xq] at HT c2;have x7:Y0 (cM s f=5):=by unfold Y0;rw[Bt.o,if_neg xq]
 have dw:=zh (dV.o.trans (HT.o.bel.mono dV.o.size));clear xq;go_wp2_with (exact zX);go_quiet (fail);go_wp2_with fail;go_ret2;exact⟨Zf dw.o _,.inr ⟨by rw[x7.o];decide,by rw[x7.o];rfl⟩⟩
