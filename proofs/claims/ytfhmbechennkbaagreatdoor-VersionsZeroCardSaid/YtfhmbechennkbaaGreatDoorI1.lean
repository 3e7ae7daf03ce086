/- Lemmas. -/
import Derived.Lib.AppendIntMem
import Derived.Lib.ItoaLen
import Derived.Lib.SmallJoins
import Derived.Shelf.Strings.Count
import Derived.Shelf.Strings.OnBuilder
import Derived.Shelf.Strings.Prefix
import Derived.Test.YtfhmbechennkbaaGreatDoorD5
namespace Go.Proofs.YtfhmbechennkbaaGreatDoor
set_option maxRecDepth 100000
set_option maxHeartbeats 40000000
open Go.RowKit Go.Shelf
inductive Wd where
 | s (b:ByteArray)
 | n (i:Int)
def Wd.tok:Wd→List UInt8
 | .s b=>b.data.toList
 | .n i=>Lib.itoa i
def qG (l:List (List UInt8)):List UInt8:=Lib.join l [32]++[10]
def iX (t:List UInt8):Prop:=∀ c∈t,c≠32∧c≠10
theorem pP {x y:List UInt8} {c d:UInt8} {r s:List UInt8} (hx:iX x) (hy:iX y) (hc:c=32∨c=10) (hd:d=32∨d=10) (h:x++c::r=y++d::s):x=y∧c=d∧r=s:=by
 induction x generalizing y with
 | nil=>
  cases y with
  | nil=>simpa using h
  | cons b y=>
   have e:c=b:=by simpa using congrArg List.head? h
   have:=hy b (by simp)
   rcases hc with hc | hc <;> simp_all
 | cons a x ih=>
  cases y with
  | nil=>
   have e:a=d:=by simpa using congrArg List.head? h
   have:=hx a (by simp)
   rcases hd with hd | hd <;> simp_all
  | cons b y=>
   rw[List.cons_append,List.cons_append,List.cons.injEq] at h
   obtain⟨h1,h2⟩:=h
   obtain⟨k1,k2,k3⟩:=ih (fun c hc=>hx c (by simp[hc])) (fun c hc=>hy c (by simp[hc])) h2
   exact⟨by rw[h1,k1],k2,k3⟩
theorem gS (y:List UInt8) (r:List (List UInt8)):Lib.joinTail [32] (y::r)=32::(y++Lib.joinTail [32] r):=by
 simp[Lib.joinTail]
theorem I9:∀ (l m:List (List UInt8)) (x y:List UInt8) (r s:List UInt8),iX x→iX y→(∀ t∈l,iX t)→(∀ t∈m,iX t) →
  x++(Lib.joinTail [32] l++10::r)=y++(Lib.joinTail [32] m++10::s)→x=y∧l=m∧r=s
 | [],[],x,y,r,s,hx,hy,_,_,h=>by
  have h':x++10::r=y++10::s:=by simpa[Lib.joinTail] using h
  obtain⟨k1,-,k3⟩:=pP hx hy (.inr rfl) (.inr rfl) h'
  exact⟨k1,rfl,k3⟩
 | [],b::m,x,y,r,s,hx,hy,_,_,h=>by
  rw[gS] at h
  have h':x++10::r=y++32::(b++Lib.joinTail [32] m++10::s):=by simpa[Lib.joinTail] using h
  obtain⟨-,k,-⟩:=pP hx hy (.inr rfl) (.inl rfl) h'
  exact absurd k (by decide)
 | a::l,[],x,y,r,s,hx,hy,_,_,h=>by
  rw[gS] at h
  have h':x++32::(a++Lib.joinTail [32] l++10::r)=y++10::s:=by simpa[Lib.joinTail] using h
  obtain⟨-,k,-⟩:=pP hx hy (.inl rfl) (.inr rfl) h'
  exact absurd k (by decide)
 | a::l,b::m,x,y,r,s,hx,hy,hl,hm,h=>by
  rw[gS,gS] at h
  have h':x++32::(a++(Lib.joinTail [32] l++10::r))=y++32::(b++(Lib.joinTail [32] m++10::s)):=by simpa using h
  obtain⟨k1,-,k3⟩:=pP hx hy (.inl rfl) (.inl rfl) h'
  obtain⟨j1,j2,j3⟩:=I9 l m a b r s (hl a (by simp)) (hm b (by simp)) (fun t ht=>hl t (by simp[ht])) (fun t ht=>hm t (by simp[ht])) k3
  exact⟨k1,by rw[j1,j2],j3⟩
def mC (L:List (List (List UInt8))):List UInt8:=L.flatMap qG
def MG (L:List (List (List UInt8))):Prop:=∀ l∈L,l≠[]∧∀ t∈l,iX t
theorem Gc:∀ (L M:List (List (List UInt8))),MG L→MG M→mC L=mC M→L=M
 | [],[],_,_,_=>rfl
 | [],b::M,_,_,h=>by simp[mC,qG] at h
 | a::L,[],_,_,h=>by simp[mC,qG] at h
 | a::L,b::M,hL,hM,h=>by
  obtain⟨ha,hca⟩:=hL a (by simp)
  obtain⟨hb,hcb⟩:=hM b (by simp)
  cases a with
  | nil=>exact absurd rfl ha
  | cons x l=>
   cases b with
   | nil=>exact absurd rfl hb
   | cons y m=>
    have h':x++(Lib.joinTail [32] l++10::mC L)=y++(Lib.joinTail [32] m++10::mC M):=by
     simpa[mC,qG,Lib.join_cons] using h
    obtain⟨k1,k2,k3⟩:=I9 l m x y _ _ (hca x (by simp)) (hcb y (by simp)) (fun t ht=>hca t (by simp[ht])) (fun t ht=>hcb t (by simp[ht])) h'
    have:=Gc L M (fun l hl=>hL l (by simp[hl])) (fun l hl=>hM l (by simp[hl])) k3
    rw[k1,k2,this]
theorem sC (d:Nat) (h:d<10):(UInt8.ofNat (48+d)).toNat=48+d:=by
 rw[UInt8.toNat_ofNat']
 omega
theorem kH (u:Nat) (h:u<10):Lib.decDigits u=[UInt8.ofNat (48+u)]:=Lib.decDigits_one h
theorem mn (u:Nat) (h:¬ u<10):Lib.decDigits u=Lib.decDigits (u / 10)++[UInt8.ofNat (48+u % 10)]:=by
 rw[Lib.decDigits,dif_neg h]
theorem tL (u:Nat):∀ c∈Lib.decDigits u,48≤c.toNat∧c.toNat≤57:=by
 induction u using Nat.strongRecOn with
 | _ u ih=>
  by_cases h:u<10
  ·rw[kH u h]
   intro c hc
   rw[List.mem_singleton] at hc
   subst hc
   rw[sC u h]
   omega
  rw[mn u h]
  intro c hc
  rcases List.mem_append.1 hc with hc | hc
  ·exact ih (u / 10) (by omega) c hc
  rw[List.mem_singleton] at hc
  subst hc
  rw[sC _ (by omega)]
  omega
theorem X3 (u:Nat):Lib.decDigits u≠[]:=by
 by_cases h:u<10
 ·rw[kH u h];simp
 rw[mn u h];simp
theorem NU:∀ (u v:Nat),Lib.decDigits u=Lib.decDigits v→u=v:=by
 intro u
 induction u using Nat.strongRecOn with
 | _ u ih=>
  intro v h
  have one:∀ a b:Nat,a<10→b<10→UInt8.ofNat (48+a)=UInt8.ofNat (48+b)→a=b:=by
   intro a b ha hb e
   have:=congrArg UInt8.toNat e
   rw[sC a ha,sC b hb] at this
   omega
  by_cases hu:u<10 <;> by_cases hv:v<10
  ·rw[kH u hu,kH v hv] at h
   exact one u v hu hv (by simpa using h)
  ·rw[kH u hu,mn v hv] at h
   have h2:=congrArg List.length h
   have h3:0<(Lib.decDigits (v / 10)).length:=List.length_pos_iff.2 (X3 (v / 10))
   rw[yQ,List.length_singleton,List.length_singleton] at h2
   omega
  ·rw[mn u hu,kH v hv] at h
   have h2:=congrArg List.length h
   have h3:0<(Lib.decDigits (u / 10)).length:=List.length_pos_iff.2 (X3 (u / 10))
   rw[yQ,List.length_singleton,List.length_singleton] at h2
   omega
  rw[mn u hu,mn v hv] at h
  obtain⟨h1,h2⟩:=List.append_inj' h rfl
  have e1:=ih (u / 10) (by omega) (v / 10) h1
  have e2:=one (u % 10) (v % 10) (by omega) (by omega) (by simpa using h2)
  omega
theorem L8 (n:Int):∀ c∈Lib.itoa n,c.toNat=45∨(48≤c.toNat∧c.toNat≤57):=by
 intro c hc
 unfold Lib.itoa at hc
 split at hc
 ·rcases List.mem_cons.1 hc with rfl | hc
  ·exact .inl rfl
  exact .inr (tL _ c hc)
 exact .inr (tL _ c hc)
theorem L6 (n:Int):iX (Lib.itoa n):=by
 intro c hc
 have:=L8 n c hc
 constructor
 ·rintro rfl
  exact absurd this (by decide)
 rintro rfl
 exact absurd this (by decide)
theorem cS {a b:Int} (h:Lib.itoa a=Lib.itoa b):a=b:=by
 unfold Lib.itoa at h
 have hd:∀ (u:Nat) (r:List UInt8),Lib.decDigits u≠45::r:=by
  intro u r e
  have:=tL u 45 (by rw[e];simp)
  exact absurd this (by decide)
 split at h <;> split at h
 ·have:=NU _ _ (by simpa using h)
  omega
 ·exact absurd h.symm (hd _ _)
 ·exact absurd h (hd _ _)
 have:=NU _ _ h
 omega
def twSet:List UInt8:=[115,101,116]
def twDepth:List UInt8:=[100,101,112,116,104]
def twLow:List UInt8:=[108,111,119]
def twHigh:List UInt8:=[104,105,103,104]
def twLength:List UInt8:=[108,101,110,103,116,104]
def twPipe:List UInt8:=[112,105,112,101]
def twArbor:List UInt8:=[97,114,98,111,114]
def twPurchase:List UInt8:=[112,117,114,99,104,97,115,101]
def twMost:List UInt8:=[109,111,115,116]
def twBrake:List UInt8:=[98,114,97,107,101]
def twLines:List UInt8:=[108,105,110,101,115]
def twItem:List UInt8:=[105,116,101,109]
def twAt:List UInt8:=[97,116]
def twWidth:List UInt8:=[119,105,100,116,104]
def twWeight:List UInt8:=[119,101,105,103,104,116]
def twHang:List UInt8:=[104,97,110,103]
def twFront:List UInt8:=[102,114,111,110,116]
def twBack:List UInt8:=[98,97,99,107]
def twBrick:List UInt8:=[98,114,105,99,107]
def twCount:List UInt8:=[99,111,117,110,116]
def oL (s:SetT):List Wd:=[.s ⟨twSet.toArray⟩,.s s.name,.s ⟨twDepth.toArray⟩,.n s.depth,.s ⟨twLow.toArray⟩,.n s.low,.s ⟨twHigh.toArray⟩,.n s.high,.s ⟨twLength.toArray⟩,.n s.len,.s ⟨twPipe.toArray⟩,.n s.pipe,.s ⟨twArbor.toArray⟩,.n s.arbor,.s ⟨twPurchase.toArray⟩,.n s.purch,.s ⟨twMost.toArray⟩,.n s.most,.s ⟨twBrake.toArray⟩,.n s.brake]
def eG (l:List Int):List Wd:=.s ⟨twLines.toArray⟩::l.map .n
def iK (x:ItemT):List Wd:=[.s ⟨twItem.toArray⟩,.s x.name,.s ⟨twAt.toArray⟩,.n x.pos,.s ⟨twWidth.toArray⟩,.n x.width,.s ⟨twWeight.toArray⟩,.n x.wt,.s ⟨twHang.toArray⟩,.n x.hang,.s ⟨twFront.toArray⟩,.n x.front,.s ⟨twBack.toArray⟩,.n x.back]
def dC (x:BrickT):List Wd:=[.s ⟨twBrick.toArray⟩,.s x.name,.s ⟨twWeight.toArray⟩,.n x.wt,.s ⟨twCount.toArray⟩,.n x.cnt]
def fM (l:List Wd):List (List UInt8):=l.map Wd.tok
def fS (l:List Wd):List UInt8:=qG (fM l)
def Gk (s:SetT):List (List (List UInt8)):=fM (oL s)::fM (eG s.lines)::(s.items.map (fun x=>fM (iK x))++s.bricks.map (fun x=>fM (dC x)))
def eu (s:SetT):List UInt8:=mC (Gk s)
def F6 (s:SetT):Prop:=iX s.name.data.toList∧(∀ x∈s.items,iX x.name.data.toList)∧∀ x∈s.bricks,iX x.name.data.toList
theorem Rh:∀ t∈[twSet,twDepth,twLow,twHigh,twLength,twPipe,twArbor,twPurchase,twMost,twBrake,twLines,twItem,twAt,twWidth,twWeight,twHang,twFront,twBack,twBrick,twCount],iX t:=by
 unfold iX
 decide
theorem uh {s:SetT} (h:F6 s):MG (Gk s):=by
 have hw:=Rh
 have hi:=L6
 obtain⟨h1,h2,h3⟩:=h
 intro l hl
 simp only[Gk,List.mem_cons,List.mem_append,List.mem_map] at hl
 rcases hl with rfl | rfl | ⟨x,hx,rfl⟩ | ⟨x,hx,rfl⟩
 ·refine⟨by simp[fM,oL],?_⟩
  intro t ht
  simp only[fM,oL,List.map_cons,List.map_nil,List.mem_cons,List.not_mem_nil,or_false,Wd.tok] at ht
  simp only[List.mem_cons,List.not_mem_nil,or_false,forall_eq_or_imp,forall_eq] at hw
  rcases ht with rfl | rfl | rfl | rfl | rfl | rfl | rfl | rfl | rfl | rfl | rfl | rfl | rfl | rfl | rfl | rfl | rfl | rfl | rfl | rfl <;> first | exact h1 | exact hi _ | simp_all
 ·refine⟨by simp[fM,eG],?_⟩
  intro t ht
  simp only[fM,eG,List.map_cons,List.map_map,List.mem_cons,List.mem_map,Wd.tok] at ht
  rcases ht with rfl | ⟨n,_,rfl⟩
  ·exact hw _ (by simp)
  exact hi _
 ·have hn:=h2 x hx
  refine⟨by simp[fM,iK],?_⟩
  intro t ht
  simp only[fM,iK,List.map_cons,List.map_nil,List.mem_cons,List.not_mem_nil,or_false,Wd.tok] at ht
  simp only[List.mem_cons,List.not_mem_nil,or_false,forall_eq_or_imp,forall_eq] at hw
  rcases ht with rfl | rfl | rfl | rfl | rfl | rfl | rfl | rfl | rfl | rfl | rfl | rfl | rfl | rfl <;> first | exact hn | exact hi _ | simp_all
 have hn:=h3 x hx
 refine⟨by simp[fM,dC],?_⟩
 intro t ht
 simp only[fM,dC,List.map_cons,List.map_nil,List.mem_cons,List.not_mem_nil,or_false,Wd.tok] at ht
 simp only[List.mem_cons,List.not_mem_nil,or_false,forall_eq_or_imp,forall_eq] at hw
 rcases ht with rfl | rfl | rfl | rfl | rfl | rfl <;> first | exact hn | exact hi _ | simp_all
theorem qW {a b:ByteArray} (h:a.data.toList=b.data.toList):a=b:=by
 cases a;cases b
 simpa using h
theorem VP {x y:ItemT} (h:fM (iK x)=fM (iK y)):x=y:=by
 obtain⟨n1,a1,b1,c1,d1,e1,f1⟩:=x
 obtain⟨n2,a2,b2,c2,d2,e2,f2⟩:=y
 simp only[fM,iK,List.map_cons,List.map_nil,Wd.tok,List.cons.injEq,and_true,true_and] at h
 obtain⟨h0,h1,h2,h3,h4,h5,h6⟩:=h
 rw[qW h0,cS h1,cS h2,cS h3,cS h4,cS h5,cS h6]
theorem Qj {x y:BrickT} (h:fM (dC x)=fM (dC y)):x=y:=by
 obtain⟨n1,a1,b1⟩:=x
 obtain⟨n2,a2,b2⟩:=y
 simp only[fM,dC,List.map_cons,List.map_nil,Wd.tok,List.cons.injEq,and_true,true_and] at h
 obtain⟨h0,h1,h2⟩:=h
 rw[qW h0,cS h1,cS h2]
theorem AQ {α β:Type} {f:α→β} (hf:∀ x y,f x=f y→x=y):∀ {l m:List α},l.map f=m.map f→l=m
 | [],[],_=>rfl
 | [],_::_,h=>by simp at h
 | _::_,[],h=>by simp at h
 | a::l,b::m,h=>by
  simp only[List.map_cons,List.cons.injEq] at h
  rw[hf _ _ h.1,AQ hf h.2]
theorem Gm:∀ {l m:List ItemT} {p q:List BrickT},l.map (fun x=>fM (iK x))++p.map (fun x=>fM (dC x))=m.map (fun x=>fM (iK x))++q.map (fun x=>fM (dC x))→l=m ∧ p=q
 | [],[],p,q,h=>⟨rfl,AQ (fun _ _=>Qj) (by simpa using h)⟩
 | [],b::m,p,q,h=>by
  cases p with
  | nil=>simp at h
  | cons a p=>
   have:=congrArg List.head? h
   simp[fM,iK,dC,Wd.tok,twItem,twBrick] at this
 | a::l,[],p,q,h=>by
  cases q with
  | nil=>simp at h
  | cons b q=>
   have:=congrArg List.head? h
   simp[fM,iK,dC,Wd.tok,twItem,twBrick] at this
 | a::l,b::m,p,q,h=>by
  simp only[List.map_cons,List.cons_append,List.cons.injEq] at h
  obtain⟨e1,e2⟩:=Gm h.2
  exact⟨by rw[VP h.1,e1],e2⟩
theorem Gj {s t:SetT} (hs:F6 s) (ht:F6 t) (h:eu s=eu t):s=t:=by
 have hL:=Gc _ _ (uh hs) (uh ht) h
 unfold Gk at hL
 simp only[List.cons.injEq] at hL
 obtain⟨h1,h2,h3⟩:=hL
 obtain⟨e1,e2⟩:=Gm h3
 obtain⟨n1,a1,b1,c1,d1,l1,f1,g1,i1,j1,k1,x1,y1⟩:=s
 obtain⟨n2,a2,b2,c2,d2,l2,f2,g2,i2,j2,k2,x2,y2⟩:=t
 simp only at e1 e2
 have e3:l1=l2:=by
  simp only[fM,eG,List.map_cons,List.map_map,List.cons.injEq] at h2
  exact AQ (fun a b h=>cS h) h2.2
 simp only[fM,oL,List.map_cons,List.map_nil,Wd.tok,List.cons.injEq,and_true,true_and] at h1
 obtain⟨h0,h1,h2,h3,h4,h5,h6,h7,h8,h9⟩:=h1
 rw[qW h0,cS h1,cS h2,cS h3,cS h4,cS h5,cS h6,cS h7,cS h8,cS h9,e1,e2,e3]
theorem itoaLaysM:LaysM.n171 Tryz.prog Nz:={ VO with
 i0:=by kernel_rfl
 i2:=by kernel_rfl
 i3:=by kernel_rfl
 i4:=by kernel_rfl
 i5:=by kernel_rfl
 i9:=by kernel_rfl
 i20:=by kernel_rfl
 i37:=by kernel_rfl
 i46:=by kernel_rfl
 i51:=by kernel_rfl
 i53:=by kernel_rfl
 i171:=by kernel_rfl
 i173:=by kernel_rfl
 i212:=by kernel_rfl
 i232:=by kernel_rfl
 i233:=by kernel_rfl
 m17:=by kernel_rfl
 m18:=by kernel_rfl
 m19:=by kernel_rfl }
def Tab (w:World):Prop:=Lib.TabIs Tryz.prog w "internal/strconv.uint64pow10" .u64 Lib.pow10Tab
theorem Tab.below {w w':World} (h:Tab w) (hb:Below w.heap.size w w'):Tab w':=Joins.tab_stays itoaLaysM.m17 h hb (yA _)
def ID (n:Int):ByteArray:=⟨(Lib.itoa n).toArray⟩
theorem qqc (n:Int) (h0 : -9223372036854775808≤n) (h1:n≤9223372036854775807) (w:World) (ht:Tab w) :
  Calls Tryz.prog 37 #[.int .i64 n] w fun e w'=>e = .returned (.string (ID n))∧Below w.heap.size w w' :=
 (Any.strconv_Itoa itoaLaysM n h0 h1 w ht).mono fun _ _ ⟨he,k,os,hw⟩=>⟨he,hw▸Lib.below_grow w.heap.size w (yA _) k os⟩
def Ny:Ren:=⟨fun | 156=>141 | 165=>180 | 166=>181 | 169=>182 | 240=>211 | 241=>212 | 276=>223 | 277=>224 | n=>n,fun | 0=>0 | 3=>3 | 4=>4 | 9=>9 | 20=>20 | 31=>68 | 37=>206 | 70=>216 | 72=>218 | 75=>221 | 76=>222 | 127=>252 | 164=>259 | 80=>224 | n=>n,fun n=>n⟩
theorem IC:Lays.n156 Tryz.prog Ny:={
 mixed:=by kernel_rfl
 f156:=Tryz.func141.trans (congrArg some (by kernel_rfl))
 f165:=Tryz.func180.trans (congrArg some (by kernel_rfl))
 f166:=Tryz.func181.trans (congrArg some (by kernel_rfl))
 f169:=Tryz.func182.trans (congrArg some (by kernel_rfl))
 f240:=Tryz.func211.trans (congrArg some (by kernel_rfl))
 f241:=Tryz.func212.trans (congrArg some (by kernel_rfl))
 f276:=Tryz.func223.trans (congrArg some (by kernel_rfl))
 f277:=Tryz.func224.trans (congrArg some (by kernel_rfl))
 t0:=Tryz.underlying0
 a0:=Tryz.isAgg0
 z0:=Tryz.sizeOf0
 v0:=Tryz.zeroValue0
 t3:=Tryz.underlying3
 a3:=Tryz.isAgg3
 z3:=Tryz.sizeOf3
 v3:=Tryz.zeroValue3
 t4:=Tryz.underlying4
 a4:=Tryz.isAgg4
 z4:=Tryz.sizeOf4
 v4:=Tryz.zeroValue4
 t9:=Tryz.underlying9
 a9:=Tryz.isAgg9
 z9:=Tryz.sizeOf9
 v9:=Tryz.zeroValue9
 t20:=Tryz.underlying20
 a20:=Tryz.isAgg20
 z20:=Tryz.sizeOf20
 v20:=Tryz.zeroValue20
 t31:=Tryz.underlying68
 a31:=Tryz.isAgg68
 z31:=Tryz.sizeOf68
 v31:=Tryz.zeroValue68
 t37:=Tryz.underlying206
 a37:=Tryz.isAgg206
 z37:=Tryz.sizeOf206
 v37:=Tryz.zeroValue206
 t70:=Tryz.underlying216
 a70:=Tryz.isAgg216
 z70:=Tryz.sizeOf216
 v70:=Tryz.zeroValue216
 t72:=Tryz.underlying218
 a72:=Tryz.isAgg218
 z72:=Tryz.sizeOf218
 v72:=Tryz.zeroValue218
 t75:=Tryz.underlying221
 a75:=Tryz.isAgg221
 z75:=Tryz.sizeOf221
 v75:=Tryz.zeroValue221
 t76:=Tryz.underlying222
 a76:=Tryz.isAgg222
 z76:=Tryz.sizeOf222
 v76:=Tryz.zeroValue222
 t127:=Tryz.underlying252
 a127:=Tryz.isAgg252
 z127:=Tryz.sizeOf252
 v127:=Tryz.zeroValue252
 t164:=Tryz.underlying259
 a164:=Tryz.isAgg259
 z164:=Tryz.sizeOf259
 v164:=Tryz.zeroValue259 }
theorem Dm:Builder.Extra Tryz.prog Ny:={
 sizeBuilder:=by kernel_rfl
 liesBuilder:=by kernel_rfl
 t5:=Tryz.underlying5
 a5:=Tryz.isAgg5
 z5:=Tryz.sizeOf5
 v5:=Tryz.zeroValue5
 infoByte:=by kernel_rfl
 cellsByte:=by kernel_rfl
 sizeByte:=by kernel_rfl
 neB5:=by decide }
theorem Rt (v:Value) (xs:List ByteArray) (sep:ByteArray) (w:World) (hv:Mx w w.heap.size v xs) (bL:(Lib.join (xs.map (·.data.toList)) sep.data.toList).length≤140737488355328) (hn:xs.length≤1000000) :
  Calls Tryz.prog 141 #[v,.string sep] w fun e w'=>e = .returned (.string ⟨(Lib.join (xs.map (·.data.toList)) sep.data.toList).toArray⟩)∧Below w.heap.size w w':=by
 obtain⟨A,c,rfl,h1,h2,h3⟩:=hv
 cases xs with
 | nil=>exact (Any.strings_Join_none IC Dm A c sep w).mono fun _ _ ⟨he,hw⟩=>⟨he,hw▸yB _ _⟩
 | cons x xs=>
  obtain⟨b,off,rfl,hb,hc⟩:=h3 (by simp)
  refine Any.strings_Join IC Dm b off c (x::xs) sep w (fun j y hj=>hc j _ ?_) hb (by omega) h1 bL
  rw[YD,hj]
  rfl
theorem mc:(Tryz.prog.info? 9).map (fun i=>(i.zero,i.size,i.bytes))=some (some (.string ⟨#[]⟩),1,16):=by kernel_rfl
theorem bQ {w w':World} {B e s n:Nat} {v:Value} {xs:List Value} (h:w.ownsRow B e s v n xs) (hb:Below w.heap.size w w'):w'.ownsRow B e s v n xs:=by
 obtain⟨hl,h0 | ⟨g,cap,cur,hv,Za,hh,r⟩⟩:=h
 ·exact⟨hl,.inl h0⟩
 exact⟨hl,.inr ⟨g,cap,cur,hv,Za,(hb.block g (Array.getElem?_eq_some_iff.1 hh).1).trans hh,r⟩⟩
def Wd.val:Wd→Value
 | .s b=>.iface 9 (.string b)
 | .n i=>.iface 3 (.int .i64 i)
def Wd.okW:Wd→Prop
 | .s b=>b.size≤100
 | .n i=>-9223372036854775808≤i∧i≤9223372036854775807
abbrev qv4:=@RowAt Wd Wd.val
def Wd.str:Wd→ByteArray
 | .s b=>b
 | .n i=>ID i
theorem ZD (x:Wd):x.str.data.toList=x.tok:=by
 cases x with
 | s b=>rfl
 | n i=>simp[Wd.str,Wd.tok,ID]
theorem Ge (l:List Wd):(l.map Wd.str).map (·.data.toList)=fM l:=by
 unfold fM
 rw[List.map_map]
 exact List.map_congr_left fun x _=>ZD x
theorem Rf {x:Wd} (h:x.okW):x.tok.length≤100:=by
 cases x with
 | s b=>exact h
 | n i=>exact yH (Lib.itoa_length_le i h.1 h.2) (by decide)
theorem IB (L:List (List UInt8)) (h:∀ t∈L,t.length≤100):(Lib.joinTail [32] L).length≤101*L.length:=by
 induction L with
 | nil=>simp[Lib.joinTail]
 | cons a L ih=>
  rw[gS,List.length_cons,yQ,List.length_cons]
  have:=ih (fun t ht=>h t (by simp[ht]))
  have:=h a (by simp)
  omega
theorem Nx (l:List Wd) (h:∀ x∈l,x.okW):(Lib.join (fM l) [32]).length≤101*l.length:=by
 cases l with
 | nil=>simp[fM,Lib.join_nil]
 | cons a l=>
  show (Lib.join (a.tok::fM l) [32]).length≤_
  rw[Lib.join_cons,yQ,List.length_cons]
  have h1:=Rf (h a (by simp))
  have h2:=IB (fM l) (fun t ht=>by
   obtain⟨x,hx,rfl⟩:=List.mem_map.1 ht
   exact Rf (h x (by simp[hx])))
  rw[show (fM l).length=l.length by simp[fM]] at h2
  omega
theorem wb {P:Program} {xT t:TypeId} (hu:∀ ms,P.underlying t≠some (.interface ms)) {u:TypeDesc} (hs:P.underlying t=some u) (v:Value) (w:World) :
  (Instr.typeAssert (.iface t v) xT t true).run P w = .ok (.tuple #[v,.bool true]) w:=by
 cases u <;> simp_all [Instr.typeAssert,run_underlying hs]
theorem OB {P:Program} {xT t t':TypeId} {z:Value} (hu:∀ ms,P.underlying t'≠some (.interface ms)) {u:TypeDesc} (hs:P.underlying t'=some u) (fB:t≠t') (v:Value) (w:World) (hz:(zeroValue t').run P w = .ok z w) :
  (Instr.typeAssert (.iface t v) xT t' true).run P w = .ok (.tuple #[z,.bool false]) w:=by
 cases u <;> simp_all [Instr.typeAssert,run_underlying hs]
theorem VI (v:Value) (l:List Wd) (w:World) (ht:Tab w) (hv:qv4 w w.heap.size v l) (hn:l.length≤1000) (aK:∀ x∈l,x.okW) :
  Calls Tryz.prog 106 #[v] w fun e w'=>e = .returned (.string ⟨(fS l).toArray⟩)∧Below w.heap.size w w':=by
 obtain⟨A,c,rfl,gC,dr,ah⟩:=hv.open_
 unfold maxLen at dr
 have HC:=zh ah
 have HO:=zh aK
 have HT:=zh ht
 clear ah aK hv ht
 go_enter Tryz.func106,Tryz.ntmps106
 go_wp2_with fail
 go_loopw [3,10] (fun o ix wr=>∃ k:Nat,k≤l.length∧ix = .int .i64 k∧Below w.heap.size w wr∧wr.ownsRow w.heap.size 9 1 o k (((l.take k).map Wd.str).map Value.string)) (fun _ ix _=>l.length-(intOf ix).toNat)
 case atStart=>exact⟨0,yI _,rfl,yB _ _,yJ _ _ _ _⟩
 obtain⟨k,hk,rfl,av,az⟩:=hrel
 have k0:(0:Int)≤(k:Int):=yE _
 by_cases aB:k<l.length
 ·have k1:(k:Int)<(l.length:Int):=by omega
  obtain⟨b1,o1,rfl,ao,hx⟩:=HC.o k aB
  have y0:=(av.cell (p:=⟨b1,o1+k,none⟩) ao).trans (hx k aB)
  have ho:=HO.o _ (yV aB)
  have HN:Y0 ((l.take (k+1)).map Wd.str=(l.take k).map Wd.str++[l[k].str]):=by unfold Y0;rw[aC l k aB,List.map_append];rfl
  have dK:=av.size
  clear hx
  generalize l[k]=wd at *
  cases wd with
  | s b=>
   have e1:Y0 (Wd.str (.s b)=b):=rfl
   change wr.cell? _=some (.iface 9 (.string b)) at y0
   have hta:=fun W=>wb (P:=Tryz.prog) (xT:=20) (t:=9) (by intro ms h;rw[Tryz.underlying9] at h;cases h) Tryz.underlying9 (.string b) W
   go_wp2_with (at_builtin;refine cA _ rfl (.tmp 18) (.tmp 20) 68 rfl w.heap.size 9 mc Tryz.underlying68 rfl _ k _ rfl az (.string b) rfl rfl (by unfold maxLen;omega) (by omega) (by omega) ?_;intro g3 bF w3 jN fW vB jA)
   have bh:w3.ownsRow w.heap.size 9 1 (.slice (some ⟨g3,0,none⟩) (k+1) bF) (k+1) (((l.take (k+1)).map Wd.str).map Value.string):=by rw[HN.o,e1.o,yS];exact jN
   have cO:=av.grown fW av.size (fun k hk=>(az.lt k hk).1)
   clear jN fW jA az HN y0 av hta
   go_roundw
   case rel=>exact⟨k+1,by omega,by go_num,cO,bh⟩
   simp[intOf];omega
  | n i=>
   have e1:Y0 (Wd.str (.n i)=ID i):=rfl
   change wr.cell? _=some (.iface 3 (.int .i64 i)) at y0
   obtain⟨i0,i1⟩ : -9223372036854775808≤i∧i≤9223372036854775807:=ho
   have hta:=fun W=>OB (P:=Tryz.prog) (xT:=20) (t:=3) (t':=9) (by intro ms h;rw[Tryz.underlying9] at h;cases h) Tryz.underlying9 (by decide) (.int .i64 i) W (Tryz.zeroValue9 W)
   have htb:=fun W=>wb (P:=Tryz.prog) (xT:=20) (t:=3) (by intro ms h;rw[Tryz.underlying3] at h;cases h) Tryz.underlying3 (.int .i64 i) W
   have htw:=HT.o.below av
   go_wp2_with fail
   refine (qqc i i0 i1 wr htw).mono ?_
   rintro e w1 ⟨rfl,ao⟩
   have dG:=bQ az ao
   have D4:=av.trans (ao.mono dK)
   have vqE:=D4.size
   clear az av htw hta htb ao y0
   go_wp2_with (at_builtin;refine cA _ rfl (.tmp 25) (.tmp 28) 68 rfl w.heap.size 9 mc Tryz.underlying68 rfl _ k _ rfl dG (.string (ID i)) rfl rfl (by unfold maxLen;omega) (by omega) (by omega) ?_;intro g3 bF w3 jN fW vB jA)
   have bh:w3.ownsRow w.heap.size 9 1 (.slice (some ⟨g3,0,none⟩) (k+1) bF) (k+1) (((l.take (k+1)).map Wd.str).map Value.string):=by rw[HN.o,e1.o,yS];exact jN
   have cO:=D4.grown fW D4.size (fun k hk=>(dG.lt k hk).1)
   clear jN fW jA dG HN D4
   go_roundw
   case rel=>exact⟨k+1,by omega,by go_num,cO,bh⟩
   simp[intOf];omega
 obtain rfl:k=l.length:=by omega
 have HJ:=zh (Nx l HO.o)
 rw[yT] at az
 have Bf:=RowAt.of_own (enc:=Value.string) az
 have Wr:(Lib.join ((l.map Wd.str).map (·.data.toList)) [32]).length≤101*l.length:=by rw[Ge];exact HJ.o
 have eo:=Rt _ (l.map Wd.str) ⟨#[32]⟩ wr Bf (by show (Lib.join _ [32]).length≤_;omega) (by rw[yP];omega)
 have Zi:=fun W=>run_string_add_sum (P:=Tryz.prog) W ⟨(Lib.join ((l.map Wd.str).map (·.data.toList)) [32]).toArray⟩ ⟨#[10]⟩ (by show (Lib.join _ [32]).toArray.size+1≤_;rw[List.size_toArray];omega)
 have HE:Y0 ((⟨(Lib.join ((l.map Wd.str).map (·.data.toList)) [32]).toArray⟩:ByteArray)++⟨#[10]⟩=⟨(fS l).toArray⟩):=by
  unfold Y0 fS qG
  rw[Ge]
  apply qW
  simp
 have dK:=av.size
 clear Wr Bf az HJ
 generalize (⟨(Lib.join ((l.map Wd.str).map (·.data.toList)) [32]).toArray⟩:ByteArray)=jn at *
 rw[HE.o] at Zi
 go_wp2_with fail
 refine eo.mono ?_
 rintro e w1 ⟨rfl,ao⟩
 have D4:=av.trans (ao.mono dK)
 clear ao
 go_wp2_with fail
 go_ret
 exact⟨rfl,D4⟩
open Go.RowKit Go.Shelf Go.PlainAid
theorem qD {s:ByteArray} (h:da s=true):iX s.data.toList:=by
 unfold da at h
 rw[yO] at h
 obtain⟨-,-,-,h⟩:=h
 intro c hc
 obtain⟨i,hi,rfl⟩:=List.getElem_of_mem hc
 have hi':i<s.size:=by simpa using hi
 have h1:=h i hi'
 have h2:bt s i=((s.data.toList[i].toNat:Nat):Int):=by
  unfold bt
  rw[dif_pos hi']
  rfl
 rw[h2] at h1
 unfold eJ de lN at h1
 simp only[Bool.or_eq_true,decide_eq_true_eq] at h1
 constructor
 ·intro e
  rw[e] at h1
  exact absurd h1 (by decide)
 intro e
 rw[e] at h1
 exact absurd h1 (by decide)
theorem gn {s:ByteArray} (h:da s=true):s.size≤20:=by
 unfold da at h
 rw[yO] at h
 exact h.2.1
theorem py {s:SetT} (h:bS s=true):da s.name=true:=by
 unfold bS at h
 simp only[Bool.and_eq_true] at h
 exact h.1
theorem mW {x:ItemT} (h:eZ x=true):da x.name=true:=by
 unfold eZ at h
 simp only[Bool.and_eq_true] at h
 exact h.1
theorem lG {x:BrickT} (h:eH x=true):da x.name=true∧(1≤x.wt∧x.wt≤1048576)∧(0≤x.cnt∧x.cnt≤60):=by
 unfold eH at h
 simp only[Bool.and_eq_true] at h
 exact⟨h.1,Zh h.2.1,Zh h.2.2⟩
theorem dY {s:SetT} (h:bS s=true):s.bricks.length≤8∧∀ x∈s.bricks,eH x=true:=by
 have h1:=(Zm h).bricks
 unfold dB at h1
 simp only[Bool.and_eq_true,decide_eq_true_eq,List.all_eq_true] at h1
 exact⟨h1.1,h1.2.2.1⟩
theorem wa {s:SetT} (h:bS s=true):F6 s :=
 ⟨qD (py h),fun x hx=>qD (mW ((Zm h).wts.2 x hx).1),fun x hx=>qD (lG ((dY h).2 x hx)).1⟩
theorem jL {s:SetT} (h:bS s=true):s.lines.length≤10∧∀ x∈s.lines,0≤x∧x≤1048576:=by
 have hk:=Zm h
 have hl:=hk.lines
 unfold fp at hl
 simp only[Bool.and_eq_true,Bool.not_eq_true',decide_eq_false_iff_not] at hl
 obtain⟨l1,l2,l3,l4⟩:=hl
 have hb:=Zh l1
 have bL:=hk.len
 refine⟨by omega,fun x hx=>?_⟩
 obtain⟨i,hi,rfl⟩:=List.getElem_of_mem hx
 have e1:=Bc l4 i 0 (by omega)
 have e2:=Bc l4 (s.lines.length-1-i) i (by omega)
 rw[yR] at e1
 rw[show i+(s.lines.length-1-i)=s.lines.length-1 by omega] at e2
 have e3:jQ s.lines i=s.lines[i]:=by simp[jQ,hi]
 omega
theorem okN {i:Int} (h0 : -67108864≤i) (h1:i≤67108864):(Wd.n i).okW:=⟨by omega,by omega⟩
theorem EP {s:SetT} (h:bS s=true):∀ x∈oL s,x.okW:=by
 have hk:=Zm h
 obtain⟨h1,h2,h3,h4,h5,h6,h7,h8,-,-,-⟩:=hk
 have h9:=gn (py h)
 intro x hx
 simp only[oL,List.mem_cons,List.not_mem_nil,or_false] at hx
 rcases hx with rfl | rfl | rfl | rfl | rfl | rfl | rfl | rfl | rfl | rfl | rfl | rfl | rfl | rfl | rfl | rfl | rfl | rfl | rfl | rfl <;> first | exact okN (by omega) (by omega) | (show _≤100;first | omega | decide)
theorem tu {s:SetT} (h:bS s=true):∀ x∈eG s.lines,x.okW:=by
 intro x hx
 simp only[eG,List.mem_cons,List.mem_map] at hx
 rcases hx with rfl | ⟨n,hn,rfl⟩
 ·show _≤100
  decide
 have:=(jL h).2 n hn
 exact okN (by omega) (by omega)
theorem IE {s:SetT} (h:bS s=true) {y:ItemT} (hy:y∈s.items):∀ x∈iK y,x.okW:=by
 obtain⟨h1,h2⟩:=(Zm h).wts.2 y hy
 have h9:=gn (mW h1)
 have h3:=pI h2
 have h4:=(Zm h).len
 unfold eZ at h1
 simp only[Bool.and_eq_true] at h1
 have k1:=Zh h1.2.1
 have k2:=Zh h1.2.2.1
 have k3:=Zh h1.2.2.2.1
 have k4:=Zh h1.2.2.2.2
 intro x hx
 simp only[iK,List.mem_cons,List.not_mem_nil,or_false] at hx
 rcases hx with rfl | rfl | rfl | rfl | rfl | rfl | rfl | rfl | rfl | rfl | rfl | rfl | rfl | rfl <;> first | exact okN (by omega) (by omega) | (show _≤100;first | omega | decide)
theorem BN {s:SetT} (h:bS s=true) {y:BrickT} (hy:y∈s.bricks):∀ x∈dC y,x.okW:=by
 obtain⟨h1,h2,h3⟩:=lG ((dY h).2 y hy)
 have h9:=gn h1
 intro x hx
 simp only[dC,List.mem_cons,List.not_mem_nil,or_false] at hx
 rcases hx with rfl | rfl | rfl | rfl | rfl | rfl <;> first | exact okN (by omega) (by omega) | (show _≤100;first | omega | decide)
def jl (s:SetT) (k j:Nat):List UInt8:=fS (oL s)++fS (eG s.lines)++((s.items.take k).map (fun x=>fS (iK x))).flatten++((s.bricks.take j).map (fun x=>fS (dC x))).flatten
theorem vX (s:SetT):jl s s.items.length s.bricks.length=eu s:=by
 unfold jl eu Gk mC
 rw[yT,yT]
 simp only[fS,List.flatMap_def]
 simp
 rfl
theorem ub (s:SetT) (k:Nat) (hk:k<s.items.length):jl s (k+1) 0=jl s k 0++fS (iK s.items[k]):=by
 unfold jl
 rw[aC _ k hk,yS,List.flatten_append]
 simp only[List.map_cons,List.map_nil,List.flatten_cons,List.flatten_nil,List.append_nil,aT,List.append_assoc]
theorem rC (s:SetT) (i k:Nat) (hk:k<s.bricks.length):jl s i (k+1)=jl s i k++fS (dC s.bricks[k]):=by
 unfold jl
 rw[aC _ k hk,yS,List.flatten_append]
 simp only[List.map_cons,List.map_nil,List.flatten_cons,List.flatten_nil,List.append_nil,List.append_assoc]
theorem oB {l:List Wd} (h:∀ x∈l,x.okW):(fS l).length≤101*l.length+1:=by
 unfold fS qG
 rw[yQ]
 have:=Nx l h
 simp only[List.length_singleton]
 omega
theorem pw {s:SetT} (h:bS s=true):∀ k j,k ≤ s.items.length→j ≤ s.bricks.length→(jl s k j).length ≤ 5000 + 1500 * k + 700 * j
 | 0,0,_,_=>by
  have h1:=oB (EP h)
  have h2:=oB (tu h)
  have h3:=(jL h).1
  unfold jl
  simp only[aT,List.map_nil,List.flatten_nil,List.append_nil,List.length_append]
  have e1:(oL s).length=20:=rfl
  have e2:(eG s.lines).length=s.lines.length+1:=by simp[eG]
  rw[e1] at h1
  rw[e2] at h2
  omega
 | k+1,0,hk,hj=>by
  have h1:=pw h k 0 (by omega) hj
  rw[ub s k hk,yQ]
  have h2:=oB (IE h (yV hk))
  have e1:(iK s.items[k]).length=14:=rfl
  rw[e1] at h2
  omega
 | k,j+1,hk,hj=>by
  have h1:=pw h k j hk (by omega)
  rw[rC s k j hj,yQ]
  have h2:=oB (BN h (yV hj))
  have e1:(dC s.bricks[j]).length=6:=rfl
  rw[e1] at h2
  omega
open Go.RowKit Go.Shelf
theorem VR:(Tryz.prog.info? 20).map (fun i=>(i.zero,i.size,i.bytes))=some (some .nilIface,1,16):=by kernel_rfl
theorem ZT {w:World} {B g:Nat} {t:TypeId} {x:Value} (h:Blk w g t #[x]) (hB:B≤g):w.ownsRow B t 1 (.slice (some ⟨g,0,none⟩) 1 1) 1 [x] :=
 ⟨rfl,.inr ⟨g,1,#[x],rfl,hB,h,yA _,by decide,rfl,rfl⟩⟩
theorem OW {w:World} {B e s n:Nat} {v:Value} {L:List Value} (h:w.ownsRow B e s v n L):∃ A c,v = .slice A n c:=by
 rcases h.2 with⟨rfl,rfl⟩ | ⟨g,cap,cur,rfl,_⟩
 ·exact⟨none,0,rfl⟩
 exact⟨_,cap,rfl⟩
theorem tt (W:World) (l:List Wd) (g n:Nat) (A:Array Value) (hA:A=(l.map Wd.val).toArray) (hg:g=W.heap.size) (hn:n=l.length) (qjQ:l.length≤1000) (ht:Tab W) (aK:∀ x∈l,x.okW) :
  Calls Tryz.prog 106 #[.slice (some ⟨g,0,none⟩) n n] (W.alloc (.cells A 20)) fun e w'=>e = .returned (.string ⟨(fS l).toArray⟩)∧Below W.heap.size W w':=by
 subst hA hg hn
 have hb:Below W.heap.size W (W.alloc (.cells (l.map Wd.val).toArray 20)):=(yB _ _).alloc (yA _) _
 have hk:=Blk.new W 20 (l.map Wd.val).toArray
 refine (VI _ l _ (ht.below hb) ⟨_,_,rfl,yA _,by unfold maxLen;omega,fun _=>⟨_,_,rfl,hk.lt,fun j u hu=>?_⟩⟩ qjQ aK).mono fun e w' ⟨he,gZ⟩=>⟨he,hb.trans (gZ.mono hb.size)⟩
 rw[yR,hk.cell,List.getElem?_toArray]
 exact hu
def qv (s:SetT) (k j:Nat):ByteArray:=⟨(jl s k j).toArray⟩
theorem CJ {s:SetT} (h:bS s=true) {k j:Nat} (hk:k≤s.items.length) (hj:j≤s.bricks.length):(qv s k j).size≤100000:=by
 have h1:=pw h k j hk hj
 have h2:=(Zm h).wts.1
 have h3:=(dY h).1
 show (jl s k j).toArray.size≤_
 rw[List.size_toArray]
 omega
theorem mM {l:List Wd} (h:∀ x∈l,x.okW) (hl:l.length≤40):(⟨(fS l).toArray⟩:ByteArray).size≤5000:=by
 have h1:=oB h
 show (fS l).toArray.size≤_
 rw[List.size_toArray]
 omega
theorem Ov (s:SetT):(⟨(fS (oL s)).toArray⟩:ByteArray)++⟨(fS (eG s.lines)).toArray⟩=qv s 0 0:=by
 apply qW
 unfold qv jl
 simp
theorem Rk (s:SetT) (k:Nat) (hk:k<s.items.length):qv s k 0++⟨(fS (iK s.items[k])).toArray⟩=qv s (k+1) 0:=by
 apply qW
 unfold qv
 rw[ub s k hk]
 simp
theorem Ow (s:SetT) (i k:Nat) (hk:k<s.bricks.length):qv s i k++⟨(fS (dC s.bricks[k])).toArray⟩=qv s i (k+1):=by
 apply qW
 unfold qv
 rw[rC s i k hk]
 simp
theorem VH (v:Value) (s:SetT) (w:World) (hv:SetAt w w.heap.size v s) (hn:SetNames s) (ht:Tab w) :
  Calls Tryz.prog 67 #[v] w fun e w'=>e = .returned (if bS s=true then .tuple #[.string ⟨(eu s).toArray⟩,.int .i64 0] else .tuple #[.string ⟨#[]⟩,.int .i64 1])∧Below w.heap.size w w':=by
 have JK:=fun W (hb:Below w.heap.size w W)=>BQ v s W ((hv.below hb (yA _)).mono hb.size) hn
 obtain⟨Al,cl,Ai,ci,Ab,cb,rfl,hL,hI,hB⟩:=hv
 have HL:=zh hL
 have HI:=zh hI
 have HK:=zh hB
 have HT:=zh ht
 have HD:=zh (Blk.new w 26 (zA s Al cl Ai ci Ab cb))
 have bZ:=zh ((yB _ w).alloc (yA _) (.cells (zA s Al cl Ai ci Ab cb) 26))
 clear hn hL hI hB ht
 have Cf:=JK _ bZ.o
 clear JK
 unfold aL at *
 rcases yL (bS s) with aK | aK
 ·have Qy:=zh aK
  rw[aK] at Cf
  rw[if_pos aK]
  clear aK
  go_enter Tryz.func67,Tryz.ntmps67
  go_wp2_with (go_at_call 69;refine Cf.mono ?_;rintro e w2 ⟨rfl,bE⟩;have hbx:=bZ.o.trans (bE.mono bZ.o.size);have cF:=zh (HD.o.below bE HD.o.lt);have z0:=cF.o.cell 0;have z1:=cF.o.cell 1;have z2:=cF.o.cell 2;have z3:=cF.o.cell 3;have z4:=cF.o.cell 4;have z5:=cF.o.cell 5;have z6:=cF.o.cell 6;have z7:=cF.o.cell 7;have z8:=cF.o.cell 8;have z9:=cF.o.cell 9;have jg:=cF.o.cell 10;have fc:=cF.o.cell 11;have gU:=cF.o.cell 12;simp only[aP,aQ,aO] at z0 z1 z2 z3 z4 z5 z6 z7 z8 z9 jg fc gU)
  have ia:=zh (HT.o.below hbx)
  have HBX:=zh hbx
  refine (tt w2 (oL s) _ _ _ rfl rfl rfl (by show 20≤1000;decide) ia.o (EP Qy.o)).mono ?_
  rintro e w3 ⟨rfl,cO⟩
  have HH:=zh (mM (EP Qy.o) (by show 20≤40;decide))
  have qm:=zh (Ov s)
  have bY:=zh cO
  have iD:=zh (cF.o.below cO cF.o.lt)
  have HN3:Y0 (∀ x,(w3.alloc (.cells #[x] 20)).ownsRow w2.heap.size 20 1 (.slice (some ⟨w3.heap.size,0,none⟩) 1 1) 1 [x]):=fun x=>ZT (Blk.new w3 20 #[x]) cO.size
  have q:=fun o=>iD.o.alloc o
  have z:=fun o=>(q o).cell 5
  simp only[aP,aQ,aO] at z
  clear z0 z1 z2 z3 z4 z5 z6 z7 z8 z9 jg fc gU q bE cO hbx Cf HD bZ
  generalize (⟨(fS (oL s)).toArray⟩:ByteArray)=hd at *
  obtain⟨AL,cL,eL,vqL,qzj,ah⟩:=HL.o.open_
  injection eL with eA _ eC
  subst eA eC
  have HC:=zh ah
  unfold maxLen at qzj
  clear ah
  have qjA:=(jL Qy.o).1
  go_wp2_with fail
  go_loopw [5,62] (fun o ix wr=>∃ k:Nat,k≤s.lines.length∧ix = .int .i64 k∧Below w2.heap.size w2 wr∧wr.ownsRow w2.heap.size 20 1 o (k+1) ((eG (s.lines.take k)).map Wd.val)) (fun _ ix _=>s.lines.length-(intOf ix).toNat)
  case atStart=>exact⟨0,yI _,rfl,bY.o.trans (((yB _ _).alloc (yA _) _).mono bY.o.size),HN3.o _⟩
  obtain⟨k,hk,rfl,av,az⟩:=hrel
  clear z HN3
  have k0:(0:Int)≤(k:Int):=yE _
  by_cases aB:k<s.lines.length
  ·have k1:(k:Int)<(s.lines.length:Int):=by omega
   obtain⟨b1,o1,rfl,ao,hx⟩:=HC.o k aB
   have y0:=(av.cell (p:=⟨b1,o1+k,none⟩) (yK ao HBX.o.size)).trans ((HBX.o.cell (p:=⟨b1,o1+k,none⟩) ao).trans (hx k aB))
   have HN:Y0 ((eG (s.lines.take (k+1))).map Wd.val=(eG (s.lines.take k)).map Wd.val++[Wd.val (.n s.lines[k])]):=by unfold Y0 eG;rw[aC _ k aB,List.map_append,List.map_cons,List.map_append];rfl
   have dK:=av.size
   clear hx
   generalize s.lines[k]=ln at *
   go_wp2_with (at_builtin;refine cA _ rfl (.tmp 66) (.tmp 69) 148 rfl w2.heap.size 20 VR Tryz.underlying148 rfl _ (k+1) _ rfl az (.iface 3 (.int .i64 ln)) rfl rfl (by unfold maxLen;omega) (by omega) (by omega) ?_;intro g3 bF w4 jN fW vB jA)
   have bh:w4.ownsRow w2.heap.size 20 1 (.slice (some ⟨g3,0,none⟩) (k+1+1) bF) (k+1+1) ((eG (s.lines.take (k+1))).map Wd.val):=by rw[HN.o];exact jN
   have cD:=av.grown fW av.size (fun k hk=>(az.lt k hk).1)
   clear jN fW jA az HN y0 av
   go_roundw
   case rel=>exact⟨k+1,by omega,by go_num,cD,bh⟩
   simp[intOf];omega
  obtain rfl:k=s.lines.length:=by omega
  rw[yT] at az
  obtain⟨Ao,co,rfl⟩:=OW az
  have Bf:=RowAt.of_own (enc:=Wd.val) (l:=eG s.lines) az
  have hT4:=ia.o.below av
  have hll:(eG s.lines).length=s.lines.length+1:=by simp[eG]
  have eo:=VI _ (eG s.lines) wr hT4 Bf (by omega) (tu Qy.o)
  have HLs:=zh (mM (tu Qy.o) (by omega))
  clear Bf hT4 hll
  generalize (⟨(fS (eG s.lines)).toArray⟩:ByteArray)=ls at *
  have Zi:=fun W=>run_string_add_sum (P:=Tryz.prog) W hd ls (by have:=HH.o;have:=HLs.o;omega)
  rw[qm.o] at Zi
  have lR:=zh (cF.o.below av cF.o.lt)
  have ip:=zh av
  clear az av
  go_wp2_with fail
  refine eo.mono ?_
  rintro e w5 ⟨rfl,bg⟩
  have cN:=zh (ip.o.trans (bg.mono ip.o.size))
  have pS:=zh (lR.o.below bg lR.o.lt)
  have fc:=pS.o.cell 11
  simp only[aP,aQ,aO] at fc
  clear ip lR bg qm HH HLs HC iD bY
  obtain⟨AI,cI,eI,vqM,qkP,ah⟩:=HI.o.open_
  injection eI with eA _ eC
  subst eA eC
  have HC:=zh ah
  unfold maxLen at qkP
  clear ah
  have vqK:=(Zm Qy.o).wts.1
  go_wp2_with fail
  go_loopw [4,79] (fun tv ix wr=>∃ k:Nat,k≤s.items.length∧ix = .int .i64 k∧tv = .string (qv s k 0)∧Below w2.heap.size w2 wr) (fun _ ix _=>s.items.length-(intOf ix).toNat)
  case atStart=>exact⟨0,yI _,rfl,rfl,cN.o⟩
  obtain⟨k,hk,rfl,rfl,av⟩:=hrel
  clear fc pS cN
  have k0:(0:Int)≤(k:Int):=yE _
  by_cases aB:k<s.items.length
  ·have k1:(k:Int)<(s.items.length:Int):=by omega
   obtain⟨b1,o1,rfl,ao,hx⟩:=HC.o k aB
   have F8:=fun i u (h:w.cell? ⟨b1,o1+k*7+i,none⟩=some u)=>(av.cell (p:=⟨b1,o1+k*7+i,none⟩) (yK ao HBX.o.size)).trans ((HBX.o.cell (p:=⟨b1,o1+k*7+i,none⟩) ao).trans h)
   obtain⟨x0,x1,x2,x3,x4,x5,x6⟩:=hx k aB
   have y0:=F8 0 _ x0
   have y1:=F8 1 _ x1
   have y2:=F8 2 _ x2
   have y3:=F8 3 _ x3
   have y4:=F8 4 _ x4
   have y5:=F8 5 _ x5
   have y6:=F8 6 _ x6
   rw[Nat.add_zero] at y0
   have LG:=IE Qy.o (yV aB)
   have Oc:=zh (Rk s k aB)
   have HZ:=zh (CJ Qy.o hk (yI _))
   clear hx x0 x1 x2 x3 x4 x5 x6 F8
   generalize s.items[k]=x at *
   have hT4:=ia.o.below av
   have qp:=zh ((yB wr.heap.size wr).alloc (yA _) (.cells #[.string x.name,.int .i64 x.pos,.int .i64 x.width,.int .i64 x.wt,.int .i64 x.hang,.int .i64 x.front,.int .i64 x.back] 118))
   have eo:=tt (wr.alloc (.cells #[.string x.name,.int .i64 x.pos,.int .i64 x.width,.int .i64 x.wt,.int .i64 x.hang,.int .i64 x.front,.int .i64 x.back] 118)) (iK x) (wr.heap.size+1) 14 (((iK x).map Wd.val).toArray) rfl (by simp) rfl (by show 14≤1000;decide) (hT4.below qp.o) LG
   have HLs:=zh (mM LG (by show 14≤40;decide))
   have HBS:=zh av
   clear hT4 LG av
   generalize (⟨(fS (iK x)).toArray⟩:ByteArray)=ls at *
   have Zi:=fun W=>run_string_add_sum (P:=Tryz.prog) W (qv s k 0) ls (by have:=HZ.o;have:=HLs.o;omega)
   rw[Oc.o] at Zi
   go_wp2_with fail
   refine eo.mono ?_
   rintro e w6 ⟨rfl,iq⟩
   have na:=HBS.o.trans ((qp.o.trans (iq.mono qp.o.size)).mono HBS.o.size)
   go_wp2_with fail
   go_roundw
   case rel=>exact⟨k+1,by omega,by go_num,rfl,na⟩
   simp[intOf];omega
  obtain rfl:k=s.items.length:=by omega
  have Ck:=zh (cF.o.below av cF.o.lt)
  have gU:=Ck.o.cell 12
  simp only[aP,aQ,aO] at gU
  have lK:=zh av
  clear HC av
  obtain⟨AB,cB,eB,vqN,qkQ,ah⟩:=HK.o.open_
  injection eB with eA _ eC
  subst eA eC
  have HC:=zh ah
  unfold maxLen at qkQ
  clear ah
  have aM:=(dY Qy.o).1
  go_wp2_with fail
  go_loopw [4,119] (fun tv ix wr=>∃ k:Nat,k≤s.bricks.length∧ix = .int .i64 k∧tv = .string (qv s s.items.length k)∧Below w2.heap.size w2 wr) (fun _ ix _=>s.bricks.length-(intOf ix).toNat)
  case atStart=>exact⟨0,yI _,rfl,rfl,lK.o⟩
  obtain⟨k,hk,rfl,rfl,av⟩:=hrel
  clear gU Ck lK
  have k0:(0:Int)≤(k:Int):=yE _
  by_cases aB:k<s.bricks.length
  ·have k1:(k:Int)<(s.bricks.length:Int):=by omega
   obtain⟨b1,o1,rfl,ao,hx⟩:=HC.o k aB
   have F8:=fun i u (h:w.cell? ⟨b1,o1+k*3+i,none⟩=some u)=>(av.cell (p:=⟨b1,o1+k*3+i,none⟩) (yK ao HBX.o.size)).trans ((HBX.o.cell (p:=⟨b1,o1+k*3+i,none⟩) ao).trans h)
   obtain⟨x0,x1,x2⟩:=hx k aB
   have y0:=F8 0 _ x0
   have y1:=F8 1 _ x1
   have y2:=F8 2 _ x2
   rw[Nat.add_zero] at y0
   have LG:=BN Qy.o (yV aB)
   have Oc:=zh (Ow s s.items.length k aB)
   have HZ:=zh (CJ Qy.o (yA _) hk)
   clear hx x0 x1 x2 F8
   generalize s.bricks[k]=x at *
   have hT4:=ia.o.below av
   have qp:=zh ((yB wr.heap.size wr).alloc (yA _) (.cells #[.string x.name,.int .i64 x.wt,.int .i64 x.cnt] 87))
   have eo:=tt (wr.alloc (.cells #[.string x.name,.int .i64 x.wt,.int .i64 x.cnt] 87)) (dC x) (wr.heap.size+1) 6 (((dC x).map Wd.val).toArray) rfl (by simp) rfl (by show 6≤1000;decide) (hT4.below qp.o) LG
   have HLs:=zh (mM LG (by show 6≤40;decide))
   have HBS:=zh av
   clear hT4 LG av
   generalize (⟨(fS (dC x)).toArray⟩:ByteArray)=ls at *
   have Zi:=fun W=>run_string_add_sum (P:=Tryz.prog) W (qv s s.items.length k) ls (by have:=HZ.o;have:=HLs.o;omega)
   rw[Oc.o] at Zi
   go_wp2_with fail
   refine eo.mono ?_
   rintro e w6 ⟨rfl,iq⟩
   have na:=HBS.o.trans ((qp.o.trans (iq.mono qp.o.size)).mono HBS.o.size)
   go_wp2_with fail
   go_roundw
   case rel=>exact⟨k+1,by omega,by go_num,rfl,na⟩
   simp[intOf];omega
  obtain rfl:k=s.bricks.length:=by omega
  have HE:Y0 (qv s s.items.length s.bricks.length=⟨(eu s).toArray⟩):=by unfold Y0 qv;rw[vX]
  have ja:=HBX.o.trans (av.mono HBX.o.size)
  go_wp2_with fail
  go_ret2
  exact⟨by rw[← HE.o];rfl,ja⟩
 rw[aK] at Cf
 rw[if_neg (by rw[aK];simp)]
 clear aK
 go_enter Tryz.func67,Tryz.ntmps67
 go_wp2_with (go_at_call 69;refine Cf.mono ?_;rintro e w2 ⟨rfl,bE⟩)
 go_ret2
 exact⟨rfl,bZ.o.trans (bE.mono bZ.o.size)⟩
end Go.Proofs.YtfhmbechennkbaaGreatDoor
