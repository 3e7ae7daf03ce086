/- Lemmas. -/
import Derived.Test.YtmmhehgajkaniaaGreatDoorY3
namespace Go.Proofs.YtmmhehgajkaniaaGreatDoor
set_option maxRecDepth 100000
set_option maxHeartbeats 40000000
open Go.RowKit Go.Shelf
def zG (l:List Task) (c p:Int) (w:World) (e:Ending) (w':World):Prop :=
 Below w.heap.size w w'∧(bE l c p≠0∧e=.returned (.tuple #[.int .i64 0,.slice none 0 0,.int .i64 (bE l c p)]) ∨
  bE l c p=0∧∃(L:Int) (s:Nat) (v:Value),Heavy l c p (2^l.length) L s∧e=.returned (.tuple #[.int .i64 L,v,.int .i64 0])∧w'.ownsRow w.heap.size 9 1 v (ek s l.length).length ((ny l (ek s l.length)).map Value.string))
theorem Vy:∀args w,(callFunc 122 args).run Tryz.prog w=.ok (.enter 122 args) w:=enters_of Tryz.func122 (by kernel_rfl) rfl
theorem Dd (v:Value) (l:List Task) (c p:Int) (w:World) (hl:TasksAt w w.heap.size v l) :
  Calls Tryz.prog 68 #[v,.int .i64 c,.int .i64 p] w (zG l c p w):=by
 have HL:=zh hl;obtain⟨A,cc,rfl,Za,FR,-⟩:=hl.open_;unfold maxLen at FR;clear hl;have eH:∀o1 o2 o3,Below w.heap.size w (((w.alloc o1).alloc o2).alloc o3):=fun o1 o2 o3=>(((yB _ _).alloc (yA _) o1).alloc (by simp) o2).alloc (by simp;omega) o3;have hG:∀o1 o2 o3,Calls Tryz.prog 117 #[.slice A l.length cc,.int .i64 c,.int .i64 p] (((w.alloc o1).alloc o2).alloc o3) fun e w'=>e=.returned (.int .i64 (bE l c p))∧Below (((w.alloc o1).alloc o2).alloc o3).heap.size (((w.alloc o1).alloc o2).alloc o3) w':=fun o1 o2 o3=>
  uL _ l c p _ ((HL.o.below (eH o1 o2 o3) (yA _)).mono (by simp;omega))
 have q0:(((w.alloc (.cells #[.slice A l.length cc] 49)).alloc (.cells #[.int .i64 c] 3)).alloc (.cells #[.int .i64 p] 3)).cell? ⟨w.heap.size,0,none⟩=some (.slice A l.length cc):=by
  rw[World.cell?_alloc_lt _ _ _ (by simp;omega),World.cell?_alloc_lt _ _ _ (by simp),World.cell?_alloc_new];rfl
 have q1:(((w.alloc (.cells #[.slice A l.length cc] 49)).alloc (.cells #[.int .i64 c] 3)).alloc (.cells #[.int .i64 p] 3)).cell? ⟨w.heap.size+1,0,none⟩=some (.int .i64 c):=by
  rw[World.cell?_alloc_lt _ _ _ (by simp),show w.heap.size+1=(w.alloc (.cells #[.slice A l.length cc] 49)).heap.size by simp,World.cell?_alloc_new];rfl
 have q2:(((w.alloc (.cells #[.slice A l.length cc] 49)).alloc (.cells #[.int .i64 c] 3)).alloc (.cells #[.int .i64 p] 3)).cell? ⟨w.heap.size+1+1,0,none⟩=some (.int .i64 p):=by
  rw[show w.heap.size+1+1=((w.alloc (.cells #[.slice A l.length cc] 49)).alloc (.cells #[.int .i64 c] 3)).heap.size by simp,World.cell?_alloc_new];rfl
 by_cases hg:bE l c p=0
 ·rw[hg] at hG;have Hg:=zh hg;clear hg;obtain⟨hR,-⟩:=lg Hg.o;have h8:=hR.len;have uR:=zh hR;have hco:∀w1,Below w.heap.size w w1→Calls Tryz.prog 121 #[.slice A l.length cc] w1 (BW l w1):=fun w1 hb=>G0 _ l w1 ((HL.o.below hb (yA _)).mono hb.size) h8;clear hR;go_enter Tryz.func68,Tryz.ntmps68;go_wp2_with fail;go_step3;have hG':=hG (.cells #[.slice A l.length cc] 49) (.cells #[.int .i64 c] 3) (.cells #[.int .i64 p] 3)
  have UI:=eH (.cells #[.slice A l.length cc] 49) (.cells #[.int .i64 c] 3) (.cells #[.int .i64 p] 3);have vvO:(((w.alloc (.cells #[.slice A l.length cc] 49)).alloc (.cells #[.int .i64 c] 3)).alloc (.cells #[.int .i64 p] 3)).heap.size=w.heap.size+1+1+1:=by simp only[World.size_alloc]
  clear hG eH;generalize (((w.alloc (.cells #[.slice A l.length cc] 49)).alloc (.cells #[.int .i64 c] 3)).alloc (.cells #[.int .i64 p] 3))=w0 at*;have hw1:w.heap.size<w0.heap.size:=by omega
  have GX:w.heap.size+1<w0.heap.size:=by omega
  have hw3:w.heap.size+1+1<w0.heap.size:=by omega
  go_wp2_with (first
   | (go_at_call 117;refine hG'.mono ?_;rintro e w1 ⟨rfl,ak⟩;have z1:=(ak.cell (p:=⟨w.heap.size,0,none⟩) hw1).trans q0;have z2:=(ak.cell (p:=⟨w.heap.size+1,0,none⟩) GX).trans q1;have z3:=(ak.cell (p:=⟨w.heap.size+1+1,0,none⟩) hw3).trans q2)
   | (go_at_call 121;refine (hco _ (UI.trans (ak.mono (by omega)))).mono ?_;rintro e w2 ⟨aU,M,D,b,rfl,hM,HS⟩))
  go_step3;have mW:=UI.trans (ak.mono (by omega));have hbc:=mW.trans (aU.mono mW.size);have y1:=aU.cell (p:=⟨w.heap.size,0,none⟩) (by have:=ak.size;simp only;omega) |>.trans z1;have y2:=aU.cell (p:=⟨w.heap.size+1,0,none⟩) (by have:=ak.size;simp only;omega) |>.trans z2;have y3:=aU.cell (p:=⟨w.heap.size+1+1,0,none⟩) (by have:=ak.size;simp only;omega) |>.trans z3;have kZ:=ak.size;have jT:=aU.size;have vzj:w.heap.size<w2.heap.size:=by omega
  have vzi:w.heap.size+1<w2.heap.size:=by omega
  have vzh:w.heap.size+1+1<w2.heap.size:=by omega
  go_wp2_with fail;have vxl:=Tx h8;have vq1:=Ba h8;rw[vxl];have HP:=zh (rfl:2^l.length=2^l.length);obtain⟨N,hNe⟩:∃N:Nat,N=2^l.length:=⟨_,rfl⟩;rw[←hNe] at vq1⊢;have HN:=zh hNe;have Uq:=World.cell?_alloc_new w2 #[.slice (some ⟨M,0,none⟩) l.length l.length] 169 0;have x1:=(World.cell?_alloc_lt w2 (.cells #[.slice (some ⟨M,0,none⟩) l.length l.length] 169) ⟨w.heap.size,0,none⟩ vzj).trans y1;have x2:=(World.cell?_alloc_lt w2 (.cells #[.slice (some ⟨M,0,none⟩) l.length l.length] 169) ⟨w.heap.size+1,0,none⟩ vzi).trans y2
  have x3:=(World.cell?_alloc_lt w2 (.cells #[.slice (some ⟨M,0,none⟩) l.length l.length] 169) ⟨w.heap.size+1+1,0,none⟩ vzh).trans y3;have Ms:=hM.alloc (.cells #[.slice (some ⟨M,0,none⟩) l.length l.length] 169);have bM:=hbc.alloc hbc.size (.cells #[.slice (some ⟨M,0,none⟩) l.length l.length] 169);generalize w2.alloc (.cells #[.slice (some ⟨M,0,none⟩) l.length l.length] 169)=w3 at*;generalize w2.heap.size=P at*
  clear vxl hNe q0 q1 q2 z1 z2 z3 y1 y2 y3 hM mW hbc hG' hco;have HM:=zh Ms;go_loopg [34,12,13] N (fun g s most best wr=>∃(S bs:Nat) (L:Int),S+g=N∧s=.int .i64 S∧most=.int .i64 L∧best=.int .i64 bs∧bs<N∧L≤80000∧Y0 (Heavy l c p S L bs)∧∃q,wr=w3.drewN q)
  case atStart=>exact⟨0,0,0,by omega,rfl,rfl,rfl,by rw[HN.o];exact Nat.two_pow_pos _,by omega,Heavy.start l c p,0,rfl⟩
  obtain⟨S,bs,L,hSg,rfl,rfl,rfl,gg,hL,HH,q,rfl⟩:=hrel
  cases gk with
  | zero=>
   have hSe:S=N:=by omega
   subst hSe;have hbq:=Zf bM q;go_wp2_with fail;go_loopg [80,18] l.length (fun g s o wr=>∃i:Nat,i+g=l.length∧s=.int .i64 i∧wr.ownsRow w.heap.size 9 1 o (ek bs i).length ((ny l (ek bs i)).map Value.string)∧Below w.heap.size w wr)
   case atStart=>exact⟨0,by omega,rfl,by simpa[ek,ny] using yJ _ _ _ _,hbq⟩
   clear hbq;obtain⟨i,hig,rfl,aK,ai⟩:=hrel
   cases gk with
   | zero=>
    have xQ:i=l.length:=by omega
    subst xQ;go_wp2_with fail
    try rw[Exit.noGoto_ret]
    refine YF (results_tmp3 rfl _ _ _) (by rfl) ?_;refine⟨ai,.inr ⟨Hg.o,L,bs,_,?_,rfl,aK⟩⟩;rw[←HN.o];exact HH.o
   | succ g2=>
    have ff:i<l.length:=by omega
    have vvZ:(i:Int)<(l.length:Int):=by omega
    have HT:=HL.o.below ai (yA _);obtain⟨b0,off,e0,eH,aj⟩:=HT.cells ff;subst e0;obtain⟨t0,t1,t2,t3,t4⟩:=aj i ff;clear aj;have de:=ai.size;have GY:(ek bs i).length≤8:=by
     have:=List.length_filter_le (fun i=>bs.testBit i) (List.range i);rw[List.length_range] at this;unfold ek;omega
    have ic:=ai.alloc ai.size (.cells #[.string l[i].name,.int .i64 l[i].len,.int .i64 l[i].crew,.int .i64 l[i].pow,.slice l[i].ba l[i].bef.length l[i].bc] 48);cases hb:bs.testBit i
    ·have hbz:=MI hb;have Hm:Y0 (ek bs (i+1)=ek bs i):=by unfold Y0;rw[p5,hb];rfl
     clear hb;have Md:=aK.alloc (.cells #[.string l[i].name,.int .i64 l[i].len,.int .i64 l[i].crew,.int .i64 l[i].pow,.slice l[i].ba l[i].bef.length l[i].bc] 48);go_wp2_with fail;go_roundg g2
     case rel=>exact⟨i+1,by omega,by go_num,by rw[Hm.o];exact Md,ic⟩
     omega
    have hbz:=G6 hb;have Hm:Y0 (ek bs (i+1)=ek bs i++[i]):=by unfold Y0;rw[p5,hb];rfl
    clear hb;have Md:=aK.alloc (.cells #[.string l[i].name,.int .i64 l[i].len,.int .i64 l[i].crew,.int .i64 l[i].pow,.slice l[i].ba l[i].bef.length l[i].bc] 48);go_wp2_with (at_builtin;refine rk _ rfl (.tmp 90) (.tmp 93) 46 rfl w.heap.size 9 F6 Tryz.underlying46 rfl _ (ek bs i).length _ rfl Md (.string l[i].name) rfl (wr.heap.size+1) (by simp) rfl (by unfold maxLen;omega) (by omega) ic.size ?_;intro g3 jn w4 lU fD xW vi)
    have bC:w4.ownsRow w.heap.size 9 1 (.slice (some ⟨g3,0,none⟩) ((ek bs i).length+1) jn) ((ek bs i).length+1) ((ny l (ek bs (i+1))).map Value.string):=by rw[Hm.o,xv l _ ff,yS];exact lU
    have bU:=ic.grown fD ic.size (fun k hk=>(Md.lt k hk).1);go_roundg g2
    case rel=>exact⟨i+1,by omega,by go_num,by rw[Hm.o,yQ,←Hm.o];exact bC,bU⟩
    omega
  | succ g=>
   have hSN:(S:Int)<(N:Int):=by omega
   go_wp2_with fail;obtain⟨wo,rfl⟩:∃wo:World,wo=w3.drewN q:=⟨_,rfl⟩;go_loopg [39,15] l.length (fun g2 s sum wr=>∃i:Nat,i+g2=l.length∧s=.int .i64 i∧sum=.int .i64 (bo l (ek S i))∧Y0 (ji l c p S i)∧∃q,wr=w3.drewN q)
   case atStart=>exact⟨0,by omega,rfl,rfl,fun i k h=>absurd h (Nat.not_lt_zero i),_,rfl⟩
   obtain⟨i,hig,rfl,rfl,HC,q2,rfl⟩:=hrel
   cases gk with
   | zero=>
    have xQ:i=l.length:=by omega
    subst xQ;have hsb:=lL uR.o (ek S l.length);have GY:(ek S l.length).length≤8:=by
     have:=List.length_filter_le (fun i=>S.testBit i) (List.range l.length);rw[List.length_range] at this;unfold ek;omega
    by_cases ao:L<bo l (ek S l.length)
    ·have HH':=zh (HH.o.more (by rw[←HN.o];omega) HC.o ao);go_wp2_with fail;go_roundg g
     case rel=>exact⟨S+1,S,_,by omega,by go_num,rfl,rfl,by omega,by omega,HH',_,rfl⟩
     omega
    have HH':=zh (HH.o.less ao);have vvU:decide (L<bo l (ek S l.length))=false:=by simpa using ao
    go_wp2_with fail;go_roundg g
    case rel=>exact⟨S+1,bs,L,by omega,by go_num,rfl,rfl,gg,hL,HH',_,rfl⟩
    omega
   | succ g2=>
    have ff:i<l.length:=by omega
    cases hb:S.testBit i
    ·have nK:=ZL hb;have HC':Y0 (ji l c p S (i+1)):=fun x y hx hy hxs Ps=>by
      rcases (show x<i∨x=i by omega) with h|rfl
      ·exact HC.o x y h hy hxs Ps
      rw[hb] at hxs;cases hxs
     have Hs:Y0 (bo l (ek S (i+1))=bo l (ek S i)):=by unfold Y0;rw[p5,hb];rfl
     clear hb;go_wp2_with fail;go_roundg g2
     case rel=>exact⟨i+1,by omega,by go_num,by rw[Hs.o],HC',_,rfl⟩
     omega
    have nK:=VR hb;have OZ:=HL.o.below (Zf bM q2) (yA _);obtain⟨b0,off,e0,eH,aj⟩:=OZ.cells ff;subst e0;obtain⟨-,t1,-,-,-⟩:=aj i ff;have cI:=dF (uR.o.field i ff);have Hs:Y0 (bo l (ek S (i+1))=bo l (ek S i)+l[i].len):=by unfold Y0;rw[p5,hb,if_pos rfl,qh,eV ff]
    have hsb:=lL uR.o (ek S i);have GY:(ek S i).length≤8:=by
     have:=List.length_filter_le (fun i=>S.testBit i) (List.range i);rw[List.length_range] at this;unfold ek;omega
    obtain⟨rV,sO⟩:=cI;have Hb:=zh hb;clear aj hb;go_wp2_with fail;obtain⟨wi,rfl⟩:∃wi:World,wi=w3.drewN q2:=⟨_,rfl⟩;go_loopg [55] i (fun g3 s wr=>∃k:Nat,k+g3=i∧s=.int .i64 k∧Y0 (∀y,y<k→S.testBit y=true→Vr l c p i y)∧∃q,wr=w3.drewN q)
    case atStart=>exact⟨0,by omega,rfl,fun y hy=>absurd hy (Nat.not_lt_zero y),_,rfl⟩
    obtain⟨k,hkg,rfl,HE,q3,rfl⟩:=hrel
    cases gk with
    | zero=>
     have FG:k=i:=by omega
     subst FG;have HC':Y0 (ji l c p S (k+1)):=fun x y hx hy hxs Ps=>by
      rcases (show x<k∨x=k by omega) with h|rfl
      ·exact HC.o x y h hy hxs Ps
      exact HE.o y hy Ps
     go_wp2_with fail;go_roundg g2
     case rel=>exact⟨k+1,by omega,by go_num,by rw[Hs.o],HC',_,rfl⟩
     omega
    | succ g3=>
     have Mj:(k:Int)<(i:Int):=by omega
     have ay:k<l.length:=by omega
     cases Xf:S.testBit k
     ·have hbz:=MI Xf;have HE':Y0 (∀y,y<k+1→S.testBit y=true→Vr l c p i y):=fun y hy Ps=>by
       rcases (show y<k∨y=k by omega) with h|rfl
       ·exact HE.o y h Ps
       rw[Xf] at Ps;cases Ps
      clear Xf;go_wp2_with fail;go_roundg g3
      case rel=>exact⟨k+1,by omega,by go_num,HE',_,rfl⟩
      omega
     have hbz:=G6 Xf;have Hbk:=zh Xf;clear Xf;have eG:=An _ l c p P w.heap.size (w.heap.size+1) (w.heap.size+1+1) w.heap.size _ M D b i k (w3.drewN q3) uR.o ⟨by simpa using Uq,x1,x2,x3⟩ (HL.o.below (Zf bM q3) (yA _)) (HM.o.drewN q3) ff ay;have eg:=Vy;cases hex:Gf b l[i] l[k] c p i k
     case true=>
      rw[hex] at eG;have HE':Y0 (∀y,y<k+1→S.testBit y=true→Vr l c p i y):=fun y hy Ps=>by
       rcases (show y<k∨y=k by omega) with h|rfl
       ·exact HE.o y h Ps
       exact (BA HS ff ay).1 hex
      clear hex;go_wp2_with (go_at_fn 122;refine eG.mono ?_;rintro e w9 ⟨rfl,q9,rfl⟩);go_roundg g3
      case rel=>exact⟨k+1,by omega,by go_num,HE',_,rfl⟩
      omega
     rw[hex] at eG;have HH':=zh (HH.o.no (fun hc=>by
      have:=(BA HS ff ay).2 (hc i k ff (by omega) Hb.o Hbk.o);rw[hex] at this;cases this))
     clear hex;go_wp2_with (go_at_fn 122;refine eG.mono ?_;rintro e w9 ⟨rfl,q9,rfl⟩);go_roundg g
     case rel=>exact⟨S+1,bs,L,by omega,by go_num,rfl,rfl,gg,hL,HH',_,rfl⟩
     omega
 have Hg:=zh hg;generalize hx:bE l c p=x at*;have hxb:(x==0)=false:=by simpa using Hg.o
 have Hx:=zh hx;clear hg hx;go_enter Tryz.func68,Tryz.ntmps68;go_wp2_with fail;go_step3;have hG':=hG (.cells #[.slice A l.length cc] 49) (.cells #[.int .i64 c] 3) (.cells #[.int .i64 p] 3);have UI:=eH (.cells #[.slice A l.length cc] 49) (.cells #[.int .i64 c] 3) (.cells #[.int .i64 p] 3);clear hG eH;generalize (((w.alloc (.cells #[.slice A l.length cc] 49)).alloc (.cells #[.int .i64 c] 3)).alloc (.cells #[.int .i64 p] 3))=w0 at*
 go_wp2_with (go_at_call 117;refine hG'.mono ?_;rintro e w1 ⟨rfl,ak⟩)
 try rw[Exit.noGoto_ret]
 refine YF (results_tmp3 rfl _ _ _) (by rfl) ?_;refine⟨UI.trans (ak.mono UI.size),.inl ⟨by rw[Hx.o];exact Hg.o,?_⟩⟩;rw[Hx.o];rfl
def TW (a b c:Int):Int:=if (if a<b then b else a)<c then c else (if a<b then b else a)
def WT (l:List Task) (c p:Int) (w:World) (e:Ending) (w':World):Prop :=
 Below w.heap.size w w'∧(bE l c p≠0∧e=.returned (.tuple #[.int .i64 0,.int .i64 (bE l c p)]) ∨
  bE l c p=0∧∃(L K:Int) (y:List Nat) (s:Nat),Covers l [l.length] L y∧Heavy l c p (2^l.length) K s∧e=.returned (.tuple #[.int .i64 (TW (tU l c p) L K),.int .i64 0]))
theorem zl (v:Value) (l:List Task) (c p:Int) (w:World) (hl:TasksAt w w.heap.size v l) :
  Calls Tryz.prog 32 #[v,.int .i64 c,.int .i64 p] w (WT l c p w):=by
 have hW:=KN v l c p w hl;have HP:∀w1,Below w.heap.size w w1→Calls Tryz.prog 67 #[v] w1 (GB l w1):=fun w1 hb=>KO v l w1 ((hl.below hb (yA _)).mono hb.size);have HC:∀w1,Below w.heap.size w w1→Calls Tryz.prog 68 #[v,.int .i64 c,.int .i64 p] w1 (zG l c p w1):=fun w1 hb=>Dd v l c p w1 ((hl.below hb (yA _)).mono hb.size);clear hl;by_cases hg:bE l c p=0
 ·have Xi:=(lg hg).1;have hr:=(iJ l).2 Xi;unfold zu at hW;rw[hg,if_pos rfl] at hW;have Hg:=zh hg;have HP':∀w1,Below w.heap.size w w1→Calls Tryz.prog 67 #[v] w1 fun e w2=>∃L y v2,e=.returned (.tuple #[.int .i64 L,v2,.int .i64 0])∧Y0 (Covers l [l.length] L y)∧Below w.heap.size w w2:=fun w1 hb=>(HP w1 hb).mono fun e w2 h=>by
   obtain⟨aU,⟨ky,_⟩|⟨_,L,y,v2,hc,rfl,_⟩⟩:=h
   ·rw[hr] at ky;cases ky
   exact⟨L,y,v2,rfl,hc,hb.trans (aU.mono hb.size)⟩
  have HC':∀w1,Below w.heap.size w w1→Calls Tryz.prog 68 #[v,.int .i64 c,.int .i64 p] w1 fun e w2=>∃K s v2,e=.returned (.tuple #[.int .i64 K,v2,.int .i64 0])∧Y0 (Heavy l c p (2^l.length) K s)∧Below w.heap.size w w2:=fun w1 hb=>(HC w1 hb).mono fun e w2 h=>by
   obtain⟨aU,⟨ky,_⟩|⟨_,L,s,v2,hc,rfl,_⟩⟩:=h
   ·exact absurd Hg.o ky
   exact⟨L,s,v2,rfl,hc,hb.trans (aU.mono hb.size)⟩
  clear hg Xi hr HP HC;go_enter Tryz.func32,Tryz.ntmps32;go_wp2_with (first
   | (go_at_call 66;refine hW.mono ?_;rintro e w1 ⟨rfl,ak⟩)
   | (go_at_call 67;refine (HP' _ ak).mono ?_;rintro e w2 ⟨L,y,v2,rfl,hc,aU⟩)
   | (go_at_call 68;refine (HC' _ aU).mono ?_;rintro e w3 ⟨K,s,v3,rfl,hh,bM⟩))
  all_goals
   have HX:∀x,x=TW (tU l c p) L K→Ending.returned (.tuple #[.int .i64 x,.int .i64 0])=.returned (.tuple #[.int .i64 (TW (tU l c p) L K),.int .i64 0]):=fun x e=>by rw[e]
   refine YF (results_tmp2 rfl _ _ _) (by rfl) ?_;refine⟨bM,.inr ⟨Hg.o,L,K,y,s,hc,hh,HX _ ?_⟩⟩;unfold TW
   repeat' split
   all_goals omega
 unfold zu at hW;rw[if_neg hg] at hW;have Hg:=zh hg;generalize hx:bE l c p=x at*;have hxb:(x==0)=false:=by simpa using Hg.o
 have Hx:=zh hx;clear hg hx HP HC;go_enter Tryz.func32,Tryz.ntmps32;go_wp2_with (go_at_call 66;refine hW.mono ?_;rintro e w1 ⟨rfl,ak⟩);refine YF (results_tmp2 rfl _ _ _) (by rfl) ?_;exact⟨ak,.inl ⟨by rw[Hx.o];exact Hg.o,by rw[Hx.o];rfl⟩⟩
noncomputable def qv2 (l:List Task):Int:=Classical.epsilon fun L=>∃y,Covers l [l.length] L y
noncomputable def M7 (l:List Task) (c p:Int):Int:=Classical.epsilon fun L=>∃s,Heavy l c p (2^l.length) L s
noncomputable def oU (l:List Task) (c p:Int):Int:=TW (tU l c p) (qv2 l) (M7 l c p)
theorem xo {l:List Task} {L:Int} {y:List Nat} (h:Covers l [l.length] L y):qv2 l=L:=by
 obtain⟨y',h'⟩:=Classical.epsilon_spec (p:=fun L=>∃y,Covers l [l.length] L y) ⟨L,y,h⟩;exact (h'.uniq h).1
theorem qR {l:List Task} {c p L:Int} {s:Nat} (h:Heavy l c p (2^l.length) L s):M7 l c p=L:=by
 obtain⟨s',h'⟩:=Classical.epsilon_spec (p:=fun L=>∃s,Heavy l c p (2^l.length) L s) ⟨L,s,h⟩;exact (h'.uniq h).1
theorem VU (v:Value) (l:List Task) (c p:Int) (w:World) (hl:TasksAt w w.heap.size v l) :
  Calls Tryz.prog 32 #[v,.int .i64 c,.int .i64 p] w fun e w'=>e=.returned (.tuple #[.int .i64 (if bE l c p=0 then oU l c p else 0),.int .i64 (bE l c p)])∧Below w.heap.size w w' :=
 (zl v l c p w hl).mono fun e w' h=>by
  obtain⟨hb,⟨ky,rfl⟩|⟨hz,L,K,y,s,hc,hh,rfl⟩⟩:=h
  ·rw[if_neg ky];exact⟨rfl,hb⟩
  rw[if_pos hz,hz];unfold oU;rw[xo hc,qR hh];exact⟨rfl,hb⟩
theorem qjA (v:Value) (l:List Task) (c p:Int) (w:World) (hl:TasksAt w w.heap.size v l) (hg:bE l c p≠0) :
  Calls Tryz.prog 32 #[v,.int .i64 c,.int .i64 p] w fun e w'=>e=.returned (.tuple #[.int .i64 0,.int .i64 (bE l c p)])∧Below w.heap.size w w':=by
 have:=VU v l c p w hl;rw[if_neg hg] at this;exact this
def lH (s:List Int) (i:Nat):Int:=s.getD i 0
def kt (l:List Task) (s:List Int) (i:Nat):Int:=lH s i+gD l i
def TF (l:List Task) (s:List Int) (t:Int) (i:Nat):Bool:=decide (0≤lH s i)&&decide (lH s i≤t)&&decide (t<kt l s i)
def Z1 (f:Task→Int) (l:List Task) (i:Nat):Int:=(l.map f).getD i 0
def bJ (f:Task→Int) (l:List Task) (s:List Int) (t:Int):Nat→Int
 | 0=>0
 | k+1=>bJ f l s t k+if TF l s t k then Z1 f l k else 0
def uD (l:List Task) (c p:Int) (s:List Int) (t:Int):Bool:=decide (bJ Task.crew l s t l.length≤c)&&decide (bJ Task.pow l s t l.length≤p)
def Dj (l:List Task) (c p:Int) (s:List Int) (i:Nat) (x:Int):Bool:=decide (lH s i<x)&&decide (x<kt l s i) && !uD l c p s x
def jY (l:List Task) (c p:Int) (s:List Int) (i:Nat):Bool:=uD l c p s (lH s i) && !s.any (Dj l c p s i)
theorem lk {s:List Int} {i:Nat} (h:i<s.length):lH s i=s[i]:=by
 unfold lH;rw[yN,yM h];rfl
theorem CV {f:Task→Int} {l:List Task} {i:Nat} (h:i<l.length):Z1 f l i=f l[i]:=by
 unfold Z1;rw[yN,YC,yM h];rfl
theorem sX {f:Task→Int} {l:List Task} {s:List Int} {t:Int} (hf:∀i,i < l.length→0 ≤ Z1 f l i ∧ Z1 f l i ≤ 100):∀k,k ≤ l.length→0 ≤ bJ f l s t k ∧ bJ f l s t k ≤ 100 * k
 | 0,_=>by simp[bJ]
 | k+1,hk=>by
  have h1:=sX (s:=s) (t:=t) hf k (by omega);have h2:=hf k (by omega);unfold bJ;split <;> omega
theorem ZD {l:List Task} (hR:RightT l) (i:Nat) (hi:i<l.length):0≤Z1 Task.crew l i∧Z1 Task.crew l i≤100:=by rw[CV hi];exact jl (hR.field i hi)
theorem qvY {l:List Task} (hR:RightT l) (i:Nat) (hi:i<l.length):0≤Z1 Task.pow l i∧Z1 Task.pow l i≤100:=by rw[CV hi];exact kr (hR.field i hi)
structure PlanR (w:World) (B g:Nat) (l:List Task) (c p:Int) (tv bv sv:Value) (s:List Int):Prop where
 blk:Blk w g 119 #[tv,bv,.int .i64 c,.int .i64 p,sv]
 hg:g<B
 tasks:TasksAt w B tv l
 starts:bg w B sv s
 len:s.length=l.length
 bd:∀x∈s,-1≤x∧x≤1000000
theorem PlanR.below {w w':World} {B g:Nat} {l:List Task} {c p:Int} {tv bv sv:Value} {s:List Int} (h:PlanR w B g l c p tv bv sv s) (hb:Below B w w'):PlanR w' B g l c p tv bv sv s :=
 ⟨h.blk.below hb h.hg,h.hg,h.tasks.below hb (yA _),h.starts.below hb (yA _),h.len,h.bd⟩
theorem PlanR.mono {w:World} {B B' g:Nat} {l:List Task} {c p:Int} {tv bv sv:Value} {s:List Int} (h:PlanR w B g l c p tv bv sv s) (hB:B≤B'):PlanR w B' g l c p tv bv sv s :=
 ⟨h.blk,yK h.hg hB,h.tasks.mono hB,h.starts.mono hB,h.len,h.bd⟩
theorem PlanR.drewN {w:World} {B g:Nat} {l:List Task} {c p:Int} {tv bv sv:Value} {s:List Int} (h:PlanR w B g l c p tv bv sv s) (q:Nat):PlanR (w.drewN q) B g l c p tv bv sv s:=h.below (Zf (yB _ _) q)
theorem PlanR.endBd {w:World} {B g:Nat} {l:List Task} {c p:Int} {tv bv sv:Value} {s:List Int} (h:PlanR w B g l c p tv bv sv s) (hR:RightT l) {i:Nat} (hi:i<l.length) : -1≤lH s i∧lH s i≤1000000∧1≤gD l i∧gD l i≤10000:=by
 have hl:=h.len;have h1:=h.bd _ (yV (show i<s.length by omega));have h2:=dF (hR.field i hi);rw[lk (by omega),eV hi];exact⟨h1.1,h1.2,h2.1,h2.2⟩
theorem PlanR.cellS {w:World} {B g:Nat} {l:List Task} {c p:Int} {tv bv sv:Value} {s:List Int} (h:PlanR w B g l c p tv bv sv s) {i:Nat} (hi:i<l.length) :
  ∃b off cap,sv=.slice (some ⟨b,off,none⟩) l.length cap∧b<B∧l.length≤cap∧cap≤9223372036854775807∧∀j,j<l.length→w.cell? ⟨b,off+j,none⟩=some (.int .i64 (lH s j)):=by
 have hl:=h.len;obtain⟨A,cap,rfl,h1,h2,h3⟩:=h.starts.open_;unfold maxLen at h2;obtain⟨b,off,rfl,hb,hc⟩:=h3 i (by omega);exact⟨b,off,cap,by rw[hl],hb,by omega,h2,fun j hj=>by rw[lk (by omega)];exact hc j (by omega)⟩
theorem Cy (B g:Nat) (l:List Task) (c p:Int) (tv bv sv:Value) (s:List Int) (i:Nat) (w:World) (hR:RightT l) (h:PlanR w B g l c p tv bv sv s) (hi:i<l.length) :
  Calls Tryz.prog 75 #[.pointer (some ⟨g,0,none⟩),.int .i64 i] w fun e w'=>e=.returned (.int .i64 (kt l s i))∧∃q,w.drewN q=w':=by
 have sQ:=h.endBd hR hi;obtain⟨A,cc,rfl,Za,FR,-⟩:=h.tasks.open_;obtain⟨b0,vxe,rfl,eH,aj⟩:=h.tasks.cells hi;obtain⟨-,t1,-,-,-⟩:=aj i hi;obtain⟨b1,bX,vwK,rfl,ak,rV,sO,hs⟩:=h.cellS hi;have h1:=hs i hi;have p0:=h.blk.cell 0;have p4:=h.blk.cell 4;simp only[aG,aH,aD] at p0 p4;rw[←eV hi] at t1;have i1:(0:Int)≤(i:Int):=yE _;have i2:(i:Int)<(l.length:Int):=by omega
 have hw:IntKind.i64.wrap (lH s i+gD l i)=lH s i+gD l i:=yF _ (by omega);have HE:Y0 (kt l s i=lH s i+gD l i):=rfl;unfold maxLen at FR;clear aj hs h sQ;generalize lH s i=x at*;generalize gD l i=y at*;go_enter Tryz.func75,Tryz.ntmps75;go_wp2_with fail;go_quiet (fail);go_wp2;go_ret;exact⟨eK HE.o.symm,_,rfl⟩
theorem AF {f:Task→Int} {l:List Task} {s:List Int} {t:Int} {k:Nat} (hk:k<l.length) (h:TF l s t k=true):bJ f l s t (k+1)=bJ f l s t k+f l[k]:=by
 rw[bJ,if_pos h,CV hk]
theorem iD {f:Task→Int} {l:List Task} {s:List Int} {t:Int} {k:Nat} (h:TF l s t k=false):bJ f l s t (k+1)=bJ f l s t k:=by
 rw[bJ,h];simp
theorem TA (g:Nat) (l:List Task) (c p:Int) (tv bv sv:Value) (s:List Int) (t:Int) (w:World) (hR:RightT l) (h:PlanR w w.heap.size g l c p tv bv sv s) (_ht : -1≤t∧t≤1000000) :
  Calls Tryz.prog 126 #[.pointer (some ⟨g,0,none⟩),.int .i64 t] w fun e w'=>e=.returned (.bool (uD l c p s t))∧Below w.heap.size w w':=by
 have HP:=zh h;have uR:=zh hR;have h8:=hR.len;have HE:Y0 (∀(k:Nat) (w':World),k<l.length→Below w.heap.size w w'→Calls Tryz.prog 75 #[.pointer (some ⟨g,0,none⟩),.int .i64 k] w' fun e fV=>e=.returned (.int .i64 (kt l s k))∧∃q,w'.drewN q=fV):=fun k w' hk hb=>
  Cy w.heap.size g l c p tv bv sv s k w' hR (h.below hb) hk
 obtain⟨A,cc,rfl,Za,FR,-⟩:=h.tasks.open_;have p0:=h.blk.cell 0;simp only[aG,aD] at p0;unfold maxLen at FR;clear h hR;go_enter Tryz.func126,Tryz.ntmps126;go_wp2;go_loopw [14,5,6] (fun i a b wr=>∃k:Nat,k≤l.length∧i=.int .i64 k∧a=.int .i64 (bJ Task.crew l s t k)∧b=.int .i64 (bJ Task.pow l s t k)∧Below w.heap.size w wr) (fun i _ _ _=>l.length-(intOf i).toNat)
 case atStart=>exact⟨0,yI _,rfl,rfl,rfl,yB _ _⟩
 clear p0;obtain⟨k,hk,rfl,rfl,rfl,ai⟩:=hrel;have Xq:=HP.o.below ai;have p0:=Xq.blk.cell 0;have p2:=Xq.blk.cell 2;have p3:=Xq.blk.cell 3;have p4:=Xq.blk.cell 4;simp only[aG,aH,aD] at p0 p2 p3 p4;have hbA:=sX (s:=s) (t:=t) (ZD uR.o) k hk;have hbB:=sX (s:=s) (t:=t) (qvY uR.o) k hk;by_cases ay:k<l.length
 ·obtain⟨b0,vxe,rfl,eH,aj⟩:=Xq.tasks.cells ay;obtain⟨t0,t1,t2,t3,t4⟩:=aj k ay;obtain⟨b1,bX,vwK,rfl,ak,rV,sO,hs⟩:=Xq.cellS ay;have h1:=hs k ay;have sQ:=Xq.endBd uR.o ay;have de:=ai.size;have ic:=ai.alloc ai.size (.cells #[.string l[k].name,.int .i64 l[k].len,.int .i64 l[k].crew,.int .i64 l[k].pow,.slice l[k].ba l[k].bef.length l[k].bc] 48);have bH:=HE.o k _ ay ic;have DC:=jl (uR.o.field k ay);have hpw:=kr (uR.o.field k ay)
  have i1:(0:Int)≤(k:Int):=yE _;have i2:(k:Int)<(l.length:Int):=by omega
  have Ml:g<wr.heap.size:=yK Xq.hg de;have hbl:b1<wr.heap.size:=yK ak de;clear aj hs Xq;by_cases d1:0≤lH s k
  ·by_cases d2:lH s k≤t
   ·by_cases d3:t<kt l s k
    ·have HA:Y0 (bJ Task.crew l s t (k+1)=bJ Task.crew l s t k+l[k].crew):=AF ay (by unfold TF;simp[d1,d2,d3]);have HB:Y0 (bJ Task.pow l s t (k+1)=bJ Task.pow l s t k+l[k].pow):=AF ay (by unfold TF;simp[d1,d2,d3]);have w1:IntKind.i64.wrap (bJ Task.crew l s t k+l[k].crew)=bJ Task.crew l s t k+l[k].crew:=yF _ (by omega);have w2:IntKind.i64.wrap (bJ Task.pow l s t k+l[k].pow)=bJ Task.pow l s t k+l[k].pow:=yF _ (by omega)
     have hy:=World.cell?_alloc_new wr #[.string l[k].name,.int .i64 l[k].len,.int .i64 l[k].crew,.int .i64 l[k].pow,.slice l[k].ba l[k].bef.length l[k].bc] 48;have y2:=hy 2;have y3:=hy 3;simp only[aG,aH,aD] at y2 y3;clear hy sQ;go_wp2_with fail;refine bH.mono ?_;rintro e w' ⟨rfl,q,rfl⟩;generalize wr.alloc (.cells #[.string l[k].name,.int .i64 l[k].len,.int .i64 l[k].crew,.int .i64 l[k].pow,.slice l[k].ba l[k].bef.length l[k].bc] 48)=wt at*
     clear bH;go_wp2_with fail;go_quiet (fail);go_wp2_with fail;go_roundw
     case rel=>exact⟨k+1,by omega,by go_num,by rw[HA.o],by rw[HB.o],Zf ic _⟩
     simp[intOf];omega
    have HA:Y0 (bJ Task.crew l s t (k+1)=bJ Task.crew l s t k):=iD (by unfold TF;simp[d3]);have HB:Y0 (bJ Task.pow l s t (k+1)=bJ Task.pow l s t k):=iD (by unfold TF;simp[d3]);have d3b:decide (t<kt l s k)=false:=by simpa using d3
    clear sQ;go_wp2_with fail;refine bH.mono ?_;rintro e w' ⟨rfl,q,rfl⟩;go_wp2_with fail;go_roundw
    case rel=>exact⟨k+1,by omega,by go_num,by rw[HA.o],by rw[HB.o],Zf ic _⟩
    simp[intOf];omega
   have HA:Y0 (bJ Task.crew l s t (k+1)=bJ Task.crew l s t k):=iD (by unfold TF;simp[d2]);have HB:Y0 (bJ Task.pow l s t (k+1)=bJ Task.pow l s t k):=iD (by unfold TF;simp[d2]);have d2b:decide (lH s k≤t)=false:=by simpa using d2
   clear bH sQ;go_wp2_with fail;go_roundw
   case rel=>exact⟨k+1,by omega,by go_num,by rw[HA.o],by rw[HB.o],ic⟩
   simp[intOf];omega
  have HA:Y0 (bJ Task.crew l s t (k+1)=bJ Task.crew l s t k):=iD (by unfold TF;simp[d1]);have HB:Y0 (bJ Task.pow l s t (k+1)=bJ Task.pow l s t k):=iD (by unfold TF;simp[d1]);have d1b:decide (0≤lH s k)=false:=by simpa using d1
  clear bH sQ;go_wp2_with fail;go_roundw
  case rel=>exact⟨k+1,by omega,by go_num,by rw[HA.o],by rw[HB.o],ic⟩
  simp[intOf];omega
 have FG:k=l.length:=by omega
 subst FG;have HV:Y0 (uD l c p s t=(decide (bJ Task.crew l s t l.length≤c)&&decide (bJ Task.pow l s t l.length≤p))):=rfl;clear Xq;generalize bJ Task.crew l s t l.length=x at*;generalize bJ Task.pow l s t l.length=y at*;by_cases e1:x≤c
 ·have e1b:decide (x≤c)=true:=by simpa using e1
  rw[e1b,Bool.true_and] at HV;go_wp2_with fail;go_ret;exact⟨Ze HV.o.symm,ai⟩
 have e1b:decide (x≤c)=false:=by simpa using e1
 rw[e1b,Bool.false_and] at HV;go_wp2_with fail;go_ret;exact⟨Ze HV.o.symm,ai⟩
theorem Wi {α:Type} {f:α→Bool} {l:List α} {k:Nat} (hk:k<l.length) (h:(l.take k).any f=false) (hf:f l[k]=false):(l.take (k+1)).any f=false:=by
 rw[aY l k hk,List.any_append,h];simpa using hf
theorem ZQ {α:Type} {f:α→Bool} {l:List α} {k:Nat} (hk:k<l.length) (hf:f l[k]=true):l.any f=true:=List.any_eq_true.2 ⟨_,yV hk,hf⟩
theorem NB (g:Nat) (l:List Task) (c p:Int) (tv bv sv:Value) (s:List Int) (i:Nat) (w:World) (hR:RightT l) (h:PlanR w w.heap.size g l c p tv bv sv s) (hi:i<l.length) :
  Calls Tryz.prog 72 #[.pointer (some ⟨g,0,none⟩),.int .i64 i] w fun e w'=>e=.returned (.bool (jY l c p s i))∧Below w.heap.size w w':=by
 have HP:=zh h;have h8:=hR.len;have HE:Y0 (∀(w':World),Below w.heap.size w w'→Calls Tryz.prog 75 #[.pointer (some ⟨g,0,none⟩),.int .i64 i] w' fun e fV=>e=.returned (.int .i64 (kt l s i))∧∃q,w'.drewN q=fV):=fun w' hb=>
  Cy w.heap.size g l c p tv bv sv s i w' hR (h.below hb) hi
 have HF:Y0 (∀(t:Int) (w':World),-1≤t∧t≤1000000→Below w.heap.size w w'→Calls Tryz.prog 126 #[.pointer (some ⟨g,0,none⟩),.int .i64 t] w' fun e fV=>e=.returned (.bool (uD l c p s t))∧Below w'.heap.size w' fV):=fun t w' ht hb=>
  TA g l c p tv bv sv s t w' hR ((h.below hb).mono hb.size) ht
 have cI:=h.len;have p4:=h.blk.cell 4;simp only[aG,aH,aD] at p4;obtain⟨b1,bX,vwK,rfl,ak,rV,sO,hs⟩:=h.cellS hi;have h1:=hs i hi;have sQ:=h.bd;have nK:=h.endBd hR hi;have hf0:=HF.o (lH s i) w ⟨nK.1,nK.2.1⟩ (yB _ _);have Hbd:=zh sQ;have Hs:=zh hs;have i1:(0:Int)≤(i:Int):=yE _;have i2:(i:Int)<(l.length:Int):=by omega
 clear h hR hs sQ;cases hq:uD l c p s (lH s i)
 ·have HV:Y0 (jY l c p s i=false):=by unfold Y0 jY;rw[hq];rfl
  rw[hq] at hf0;clear hq;go_enter Tryz.func72,Tryz.ntmps72;go_wp2_with fail;refine hf0.mono ?_;rintro e w1 ⟨rfl,ak⟩;go_wp2_with fail;go_ret;exact⟨Ze HV.o.symm,ak⟩
 have HV:Y0 (jY l c p s i = !s.any (Dj l c p s i)):=by unfold Y0 jY;rw[hq];rfl
 rw[hq] at hf0;clear hq;go_enter Tryz.func72,Tryz.ntmps72;go_wp2_with fail;refine hf0.mono ?_;rintro e w1 ⟨rfl,lB⟩;have p4':=(lB.cell (p:=⟨g,4,none⟩) HP.o.hg).trans p4;clear hf0 p4 h1;go_wp2_with fail;go_loopw [22] (fun x wr=>∃k:Nat,k≤s.length∧x=.int .i64 k∧Y0 ((s.take k).any (Dj l c p s i)=false)∧Below w.heap.size w wr) (fun x _=>s.length-(intOf x).toNat)
 case atStart=>exact⟨0,yI _,rfl,by unfold Y0;simp,lB⟩
 clear p4' lB;obtain⟨k,hk,rfl,HN,ai⟩:=hrel;by_cases ay:k<s.length
 ·have vzA:k<l.length:=by omega
  have Mj:(k:Int)<(l.length:Int):=by omega
  have p4:=(ai.cell (p:=⟨g,4,none⟩) HP.o.hg).trans (HP.o.blk.cell 4);simp only[aG,aH,aD] at p4;have hsk:=(ai.cell (p:=⟨b1,bX+k,none⟩) ak).trans (Hs.o k vzA);have Pu:=(ai.cell (p:=⟨b1,bX+i,none⟩) ak).trans (Hs.o i hi);have Xf:=Hbd.o _ (yV ay);rw[lk ay] at hsk;have hcE:=HE.o wr ai;have hcF:=fun q=>HF.o s[k] (wr.drewN q) Xf (Zf ai q);have de:=ai.size;have HK:Y0 (Dj l c p s i s[k]=false→(s.take (k+1)).any (Dj l c p s i)=false):=fun h=>Wi ay HN.o h
  have HY:Y0 (Dj l c p s i s[k]=true→s.any (Dj l c p s i)=true):=fun h=>ZQ ay h;have HB:Y0 (Dj l c p s i s[k]=(decide (lH s i<s[k])&&decide (s[k]<kt l s i) && !uD l c p s s[k])):=rfl;clear HN Xf;generalize Dj l c p s i s[k]=bb at*;generalize s[k]=x at*;by_cases d1:lH s i<x
  ·by_cases d2:x<kt l s i
   ·cases hq:uD l c p s x with
    | true=>
     have HK':=zh (HK.o (by rw[HB.o,hq];simp));rw[hq] at hcF;clear hq HK HY HB;go_wp2_with (first|(go_at_call 75;refine hcE.mono ?_;rintro e w2 ⟨rfl,q,rfl⟩)|(go_at_call 126;refine (hcF _).mono ?_;rintro e w3 ⟨rfl,bM⟩));go_roundw
     case rel=>exact⟨k+1,by omega,by go_num,HK',(Zf ai _).trans (bM.mono (by simpa using de))⟩
     simp[intOf];omega
    | false=>
     have HV':Y0 (jY l c p s i=false):=by unfold Y0;rw[HV.o,HY.o (by rw[HB.o,hq];simp[d1,d2])];rfl
     rw[hq] at hcF;clear hq HK HY HB;go_wp2_with (first|(go_at_call 75;refine hcE.mono ?_;rintro e w2 ⟨rfl,q,rfl⟩)|(go_at_call 126;refine (hcF _).mono ?_;rintro e w3 ⟨rfl,bM⟩));go_ret;exact⟨Ze HV'.o.symm,(Zf ai _).trans (bM.mono (by simpa using de))⟩
   have HK':=zh (HK.o (by rw[HB.o];simp[d2]));have d2b:decide (x<kt l s i)=false:=by simpa using d2
   clear HK HY HB hcF;go_wp2_with (go_at_call 75;refine hcE.mono ?_;rintro e w2 ⟨rfl,q,rfl⟩);go_roundw
   case rel=>exact⟨k+1,by omega,by go_num,HK',Zf ai _⟩
   simp[intOf];omega
  have HK':=zh (HK.o (by rw[HB.o];simp[d1]));have d1b:decide (lH s i<x)=false:=by simpa using d1
  clear HK HY HB hcF hcE;go_wp2_with fail;go_roundw
  case rel=>exact⟨k+1,by omega,by go_num,HK',ai⟩
  simp[intOf];omega
 have FG:k=s.length:=by omega
 subst FG;have HV':Y0 (jY l c p s i=true):=by
  have:=HN.o;rw[yT] at this;unfold Y0;rw[HV.o,this];rfl
 go_wp2_with fail;go_ret;exact⟨Ze HV'.o.symm,ai⟩
