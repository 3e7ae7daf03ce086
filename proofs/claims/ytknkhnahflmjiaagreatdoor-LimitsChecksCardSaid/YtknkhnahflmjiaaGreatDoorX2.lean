/- L -/
import Derived.Lib.AppendIntMem
import Derived.Lib.ItoaLen
import Derived.Lib.SmallJoins
import Derived.Shelf.Strings.Count
import Derived.Shelf.Strings.OnBuilder
import Derived.Shelf.Strings.Prefix
import Derived.Test.YtknkhnahflmjiaaGreatDoorR6
import Derived.Test.YtknkhnahflmjiaaGreatDoorR9
namespace Go.Proofs.YtknkhnahflmjiaaGreatDoor
set_option maxRecDepth 100000
set_option maxHeartbeats 40000000
open Go.RowKit Go.Shelf
theorem BO (x:ItemT) (w:World) (hx:0≤x.pos∧x.pos≤1048576∧1≤x.width∧x.width≤1048576) :
  Calls Tryz.prog 203 #[x.val] w fun e w'=>e=.returned (.int .i64 (zY x))∧w.alloc (.cells #[.string x.name,.int .i64 x.pos,.int .i64 x.width,.int .i64 x.wt,.int .i64 x.hang,.int .i64 x.front,.int .i64 x.back] 125)=w':=by
 have HV:Y0 (zY x=x.pos+x.width/2):=rfl;obtain⟨h1,h2,h3,h4⟩:=hx;have v1:IntKind.i64.wrap (x.width/2)=x.width/2:=yF _ (by omega);have v2:IntKind.i64.wrap (x.pos+x.width/2)=x.pos+x.width/2:=yF _ (by omega);have v3:x.width.tdiv 2=x.width/2:=Int.tdiv_eq_ediv_of_nonneg (by omega);clear h1 h2 h3 h4;go_enter Tryz.func203,Tryz.ntmps203;go_wp2;go_ret;exact⟨by rw[HV.o];rfl,rfl⟩
def gNl:GPost:=⟨fun v=>∃g,v=.slice (some ⟨g,0,none⟩) 0 0,fun _ _=>True,⟨_,0,rfl⟩,fun _ _ _ _ _=>trivial,false⟩
theorem Vi {P:Program} {o:Oper} {a:Act} {w:World} {T:TypeId} {fz:Nat×Nat} (h:(execOp a.eval o).run P w=.ok (.value (.slice (some ⟨w.heap.size,0,none⟩) 0 0)) (w.alloc (.cells #[] T fz))):jv P o a gNl w :=
 ⟨_,_,h,(yB _ _).alloc (yA _) _,⟨_,rfl⟩,trivial,fun h=>by cases h⟩
theorem L9 {o:Oper} {a:Act} {w:World} {B g:Nat} {s x:Operand} {v:Value} {l:List Int} (ho:o.op=.call { callee := .builtin .append,args := #[s,x],argTypes := #[33,33] }) (hs:a.eval s=.slice (some ⟨g,0,none⟩) 0 0) (hx:a.eval x=v)
  (hl:ct w w.heap.size v l) (h0:0<l.length) (dD:l.length≤1000000) (hB:B≤w.heap.size):jv Tryz.prog o a (gO B l) w:=by
 obtain⟨A,c,rfl,kG,eH,aL⟩:=hl.open_;obtain⟨b,off,rfl,hb,oR⟩:=aL 0 h0;obtain⟨i0,m9,kg,lP,mX⟩:=info_parts sj;obtain⟨v',w',hr,bO,hg⟩ := run_append_arg_grows (P := Tryz.prog) w 33 o.type 3 i0 _ 1 8 Tryz.underlying33 m9 kg lP mX rfl (by decide) ⟨g,0,none⟩ 0 0 [] rfl (fun j u hu=>by simp at hu)
  ⟨b,off,none⟩ l.length c (l.map (Value.int .i64)) (by simp) (fun j u hu=>by
   rw[YC,Option.map_eq_some_iff] at hu;obtain⟨z,hz,rfl⟩:=hu;obtain⟨hj,rfl⟩:=List.getElem?_eq_some_iff.1 hz;rw[Addr.add_lit];exact oR j hj) (by omega) (by unfold maxLen;omega) (by omega)
 rw[yS,List.nil_append] at bO;exact⟨v',w',mG ho hs hx hr,DU hg,lx bO,C6 bO hB,fun h=>by cases h⟩
def I5 (s:SetT) (w:World) (e:Ending) (w':World):Prop:=Below w.heap.size w w'∧∃v,e=.returned v∧BeamAt w' w'.heap.size v (fi s)
theorem KA (v:Value) (s:SetT) (w:World) (hv:SetAt w w.heap.size v s) (bM:cA s=true):Calls Tryz.prog 152 #[v] w (I5 s w):=by
  have hk:=Zm bM;have HX:=zh fun x (hx:x∈s.items)=>si (hk.wts.2 x hx).2;have dD:=hk.len;have h40:=hk.wts.1;have h2:0<s.lines.length:=(j9 (nZ bM)).sup1.1;have Bg:s.lines.length≤1000:=by
    have:=(j9 (nZ bM)).sup1;exact yH this.2 (by decide)
  clear hk bM;obtain⟨Al,cl,Ai,ci,Ab,cb,rfl,hL,hI,-⟩:=hv;have HL:=zh hL;obtain⟨_,_,e,Ms,X3,Rh⟩:=hI.open_;injection e with e1 _ e2;subst e1 e2;have HI:=zh Rh;unfold maxLen at X3;clear hL hI Rh;unfold dO at*;go_enter Tryz.func152,Tryz.ntmps152;go_wp2_with (exact zX);have X6:=(Blk.new w 37 (zA s Al cl Ai ci Ab cb)).alloc (.cells #[.string ⟨#[]⟩,.int .i64 0,.slice none 0 0,.slice none 0 0,.int .i64 0] 117)
  have qo:=Blk.new (w.alloc (.cells (zA s Al cl Ai ci Ab cb) 37)) 117 #[.string ⟨#[]⟩,.int .i64 0,.slice none 0 0,.slice none 0 0,.int .i64 0];rw[yZ] at qo;have wT:=((yB _ w).alloc (yA _) (.cells (zA s Al cl Ai ci Ab cb) 37)).alloc (by simp) (.cells #[.string ⟨#[]⟩,.int .i64 0,.slice none 0 0,.slice none 0 0,.int .i64 0] 117);have lQ:((w.alloc (.cells (zA s Al cl Ai ci Ab cb) 37)).alloc (.cells #[.string ⟨#[]⟩,.int .i64 0,.slice none 0 0,.slice none 0 0,.int .i64 0] 117)).heap.size=w.heap.size+1+1:=by simp
  generalize (w.alloc (.cells (zA s Al cl Ai ci Ab cb) 37)).alloc (.cells #[.string ⟨#[]⟩,.int .i64 0,.slice none 0 0,.slice none 0 0,.int .i64 0] 117)=W2 at*;have tz:=zh X6;have rE:=zh qo;have dV:=zh wT;have gQ:=zh lQ;clear X6 qo wT lQ;have y0:=tz.o.cell 0;have y4:=tz.o.cell 4;have y5:=tz.o.cell 5;have y6:=tz.o.cell 6;simp only[aB,aD,aA] at y0 y4 y5 y6;have u0:=YL y0;have u4:=YL y4;have u5:=YL y5
  have u6:=YL y6;clear y0 y4 y5 y6;refine af 12 (fun jx=>if jx=4 then some gNl else if jx=7 then some (gO w.heap.size s.lines) else if jx=11 then some (qjT W2.heap.size) else none) (by kernel_rfl) (by kernel_rfl) ?_;simp only[aO,aR,aP,aQ];refine zw 4 ?_;simp only[aO,aR,aP,aQ]
  repeat (go_big_quiet_step (fail))
  refine YE ?_;refine aX rfl rfl (fun w1 ak _=>Vi (T:=3) (fz:=(0,0)) (by go_simp)) ?_;rintro _ ⟨g9,rfl⟩;simp only[Act.put,aw,av,au];refine zw 2 ?_;simp only[aO,aR,aP,aQ]
  repeat (go_big_quiet_step (fail))
  refine YE ?_;refine aX rfl rfl ?_ ?_
  · intro w1 ak hk
    have hb:=dV.o.trans (ak.mono dV.o.size);exact L9 (s:=.tmp 9) (x:=.tmp 11) (g:=g9) (B:=w.heap.size) rfl (by go_simp) (by go_simp) (RowAt.mono (RowAt.below HL.o hb (yA _)) hb.size) (by omega) (by omega) hb.size
  rintro _ ⟨A2,c2,rfl⟩;simp only[Act.put,aw,av,au];refine zw 3 ?_;simp only[aO,aR,aP,aQ]
  repeat (go_big_quiet_step (fail))
  refine YE ?_;refine aX rfl rfl (fun w1 ak _=>Dk ak.size (by go_simp)) ?_;rintro _ ⟨G,rfl⟩;simp only[Act.put,aw,av,au];refine Zc ?_;intro w8 aT hF;have tK:w8.ownsRow w.heap.size 3 1 (.slice A2 s.lines.length c2) s.lines.length (s.lines.map (Value.int .i64)):=hF 12;have h3:I7 W2.heap.size (.pointer (some ⟨G,0,none⟩)) w8:=hF 3;obtain⟨_,e3,Rk,b3⟩:=h3;injection e3 with e3;injection e3 with e3;injection e3 with e3 _ _
  subst e3;rw[gQ.o] at Rk;have Tl:=zh (tz.o.below aT tz.o.lt);have Tk:=zh (rE.o.below aT rE.o.lt);have eG:=zh (dV.o.trans (aT.mono dV.o.size));have f0:=b3.frozen 0;have f1:=b3.frozen 1;have f2:=b3.frozen 2;have f3:=b3.frozen 3;have f4:=b3.frozen 4;have c0:=b3.cell 0;have c1:=b3.cell 1;have cc2:=b3.cell 2;have c3:=b3.cell 3;have c4:=b3.cell 4;simp only[aB,aD,aA] at c0 c1 cc2 c3 c4;have h5:=((((b3.set_ 0 (.string s.name)).set_ 1 (.int .i64 s.len)).set_ 2 (.slice A2 s.lines.length c2)).set_ 3 (.slice none 0 0)).set_ 4 (.int .i64 s.pipe)
  have R3:=kp w8 G (.string s.name) (.int .i64 s.len) (.slice A2 s.lines.length c2) (.slice none 0 0) (.int .i64 s.pipe);have hBo:Y0 (BoS w (((((w8.setCell ⟨G,0,none⟩ (.string s.name)).setCell ⟨G,1,none⟩ (.int .i64 s.len)).setCell ⟨G,2,none⟩ (.slice A2 s.lines.length c2)).setCell ⟨G,3,none⟩ (.slice none 0 0)).setCell ⟨G,4,none⟩ (.int .i64 s.pipe)) (zA s Al cl Ai ci Ab cb) s G (.slice A2 s.lines.length c2) (.slice none 0 0) []):=by
    refine⟨Tl.o.kept R3 (by simp; omega),Tk.o.kept R3 (by simp; omega),h5,tK.kept R3 (Zj tK fun r e c f hh=>?_),yJ _ _ _ _,eG.o.grown R3 eG.o.size (fun k e=>by simp at e; omega),by omega⟩;obtain rfl:G=r:=by simpa using e
    have hb:=b3;unfold Blk at hb;rw[hb] at hh;injection hh with hh;injection hh with _ hh _;exact absurd hh (by decide)
  clear tK h5 R3 b3 Rk eG Tl Tk hF aT u0 u4 u5 u6 tz rE dV gQ;have dN:=hBo.o.d0.cell 11;simp only[aB,aD,aA] at dN;go_wp2_with (exact zX);clear f0 f1 f2 f3 f4 c0 c1 cc2 c3 c4;generalize (((((w8.setCell ⟨G,0,none⟩ (.string s.name)).setCell ⟨G,1,none⟩ (.int .i64 s.len)).setCell ⟨G,2,none⟩ (.slice A2 s.lines.length c2)).setCell ⟨G,3,none⟩ (.slice none 0 0)).setCell ⟨G,4,none⟩ (.int .i64 s.pipe))=W9 at*
  have tF:=fun (x:ItemT) (h:0≤x.pos∧x.pos≤1048576∧1≤x.width∧x.width≤1048576) W=>BO x W h;have qkj:=zh tF;clear tF;go_loopw [4] (fun ix wr=>∃k:Nat,k≤s.items.length∧ix=.int .i64 k∧Y0 (∃v3,BoS w wr (zA s Al cl Ai ci Ab cb) s G (.slice A2 s.lines.length c2) v3 ((s.items.map df).take k))) (fun ix _=>s.items.length-(intOf ix).toNat)
  case atStart=>exact⟨0,yI _,rfl,⟨_,hBo.o⟩⟩
  clear hBo dN;obtain⟨k,hk,rfl,XO⟩:=hrel;obtain⟨v3,hT⟩:=XO.o;have HT:=zh hT;clear hT XO;have k0:(0:Int)≤(k:Int):=yE _;by_cases aK:k<s.items.length
  · have k1:(k:Int)<(s.items.length:Int):=by omega
    obtain⟨b1,cQ,rfl,ak,hc⟩:=HI.o k aK;have aG:=HT.o.bel;have y0:=(hc k aK).1;have y1:=(hc k aK).2.1;have y2:=(hc k aK).2.2.1;have y3:=(hc k aK).2.2.2.1;have y4:=(hc k aK).2.2.2.2.1;have y5:=(hc k aK).2.2.2.2.2.1;have y6:=(hc k aK).2.2.2.2.2.2;have hx:=HX.o _ (yV aK);have HY:Y0 ((s.items.map df).take (k+1)=(s.items.map df).take k++[df s.items[k]]):=by
      unfold Y0;rw[bF _ k (by simpa using aK)];simp
    have QQ:((s.items.map df).take k).length≤1000:=by
      rw[YA,yQ];omega
    have pu:Y0 (((s.items.map df).take k).length=k):=by
      unfold Y0;rw[YA,yQ];omega
    have tF:=qkj.o s.items[k] (by omega);generalize s.items[k]=x at*;obtain⟨nm,pos,width,wt,hang,front,back⟩:=x;simp only at y0 y1 y2 y3 y4 y5 y6 tF;have T5:df ⟨nm,pos,width,wt,hang,front,back⟩=⟨zY ⟨nm,pos,width,wt,hang,front,back⟩,wt⟩:=rfl;rw[T5] at HY;clear T5;generalize zY ⟨nm,pos,width,wt,hang,front,back⟩=mid at*;obtain⟨A3,k3,hv3⟩:=lx HT.o.o3;rw[pu.o] at hv3;generalize hys:(s.items.map df).take k=ys at*
    have T0:BoS w wr.drew (zA s Al cl (some ⟨b1,cQ,none⟩) ci Ab cb) s G (.slice A2 s.lines.length c2) v3 ys:=HT.o.below ((yB _ _).drew);have T1:=T0.below ((yB _ _).alloc (yA _) (.cells #[.string nm,.int .i64 pos,.int .i64 width,.int .i64 wt,.int .i64 hang,.int .i64 front,.int .i64 back] 125));have T2:=T1.below ((yB _ _).alloc (yA _) (.cells #[.int .i64 mid,.int .i64 wt] 115));obtain⟨w2,QS⟩:=zo ((wr.drew.alloc (.cells #[.string nm,.int .i64 pos,.int .i64 width,.int .i64 wt,.int .i64 hang,.int .i64 front,.int .i64 back] 125)).alloc (.cells #[.int .i64 mid,.int .i64 wt] 115))
    have hN:Blk w2 (wr.heap.size+1) 115 #[.int .i64 mid,.int .i64 wt]:=by
      have h:=Blk.new (wr.drew.alloc (.cells #[.string nm,.int .i64 pos,.int .i64 width,.int .i64 wt,.int .i64 hang,.int .i64 front,.int .i64 back] 125)) 115 #[.int .i64 mid,.int .i64 wt];rw[yZ,QS] at h;exact h
    rw[QS] at T2;obtain⟨i0,m9,kg,lP,mX⟩:=info_parts mw;have bO:w2.ownsRow w.heap.size 115 2 v3 k (ys.flatMap LoadT.cells):=by have h:=T2.o3; rw[pu.o] at h; exact h
    obtain⟨g3,kP,wz,ki,Ld,nK,-,-⟩ := run_append_lies (P := Tryz.prog) (w := w2) 66 66 w.heap.size 115 i0 _ 2 16 Tryz.underlying66 m9 kg lP mX rfl (by decide)
      v3 k (ys.flatMap LoadT.cells) bO ⟨wr.heap.size+1,0,none⟩ 1 1 [.int .i64 mid,.int .i64 wt] rfl
      (fun j u hu=>by rw[Addr.add_lit,yS]; exact (hN.cell j).trans (by simpa using hu)) (fun u hu=>by simp at hu; rcases hu with rfl|rfl <;> rfl) (by omega) (by unfold maxLen; omega) (by omega) T2.bel.size _ rfl
    have T4:=T2.push (v':=.slice (some ⟨g3,0,none⟩) (k+1) kP) (w1:=wz) (y:=⟨mid,wt⟩) (by rw[pu.o]; exact Ld) nK;have XA:=T4.1;have hbZ:Below w.heap.size w wz:=T2.bel.grown nK T2.bel.size (fun k e=>(bO.lt k e).1);have hZ0:=T2.d0.kept nK (T2.d0.ne_own bO (by decide));rw[hv3] at ki T0 T1 T2 XA;obtain⟨Wd,hW0,tJ,uc,Hu,XB⟩:∃Wd:Nat→World,Wd 0=wr.drew∧Wd 1=wr.drew.alloc (.cells #[.string nm,.int .i64 pos,.int .i64 width,.int .i64 wt,.int .i64 hang,.int .i64 front,.int .i64 back] 125)∧Wd 2=w2∧Wd 3=wz∧Wd 4=wz.setCell ⟨G,3,none⟩ (.slice (some ⟨g3,0,none⟩) (k+1) kP) :=
      ⟨fun m=>if m=0 then wr.drew else if m=1 then wr.drew.alloc (.cells #[.string nm,.int .i64 pos,.int .i64 width,.int .i64 wt,.int .i64 hang,.int .i64 front,.int .i64 back] 125) else if m=2 then w2 else if m=3 then wz else wz.setCell ⟨G,3,none⟩ (.slice (some ⟨g3,0,none⟩) (k+1) kP),rfl,rfl,rfl,rfl,rfl⟩
    have Hr:∀m,m≤4→Below w.heap.size w (Wd m)∧Blk (Wd m) w.heap.size 37 (zA s Al cl (some ⟨b1,cQ,none⟩) ci Ab cb):=fun m hm=>by
      rcases m with _|_|_|_|_|m
      · rw[hW0]; exact⟨T0.bel,T0.d0⟩
      · rw[tJ]; exact⟨T1.bel,T1.d0⟩
      · rw[uc]; exact⟨T2.bel,T2.d0⟩
      · rw[Hu]; exact⟨hbZ,hZ0⟩
      · rw[XB]; exact⟨T4.2.bel,T4.2.d0⟩
      omega
    have Bh:∀m,m≤4→(Wd m).cell? ⟨w.heap.size,11,none⟩=some (.slice (some ⟨b1,cQ,none⟩) s.items.length ci):=fun m hm=>((Hr m hm).2.cell 11).trans rfl;have x0:∀m,m≤4→(Wd m).cell? ⟨b1,cQ+k*7,none⟩=some (.string nm):=fun m hm=>((Hr m hm).1.cell (p:=⟨b1,cQ+k*7,none⟩) ak).trans y0;have x1:∀m,m≤4→(Wd m).cell? ⟨b1,cQ+k*7+1,none⟩=some (.int .i64 pos):=fun m hm=>((Hr m hm).1.cell (p:=⟨b1,cQ+k*7+1,none⟩) ak).trans y1
    have x2:∀m,m≤4→(Wd m).cell? ⟨b1,cQ+k*7+2,none⟩=some (.int .i64 width):=fun m hm=>((Hr m hm).1.cell (p:=⟨b1,cQ+k*7+2,none⟩) ak).trans y2;have x3:∀m,m≤4→(Wd m).cell? ⟨b1,cQ+k*7+3,none⟩=some (.int .i64 wt):=fun m hm=>((Hr m hm).1.cell (p:=⟨b1,cQ+k*7+3,none⟩) ak).trans y3;have x4:∀m,m≤4→(Wd m).cell? ⟨b1,cQ+k*7+4,none⟩=some (.int .i64 hang):=fun m hm=>((Hr m hm).1.cell (p:=⟨b1,cQ+k*7+4,none⟩) ak).trans y4
    have x5:∀m,m≤4→(Wd m).cell? ⟨b1,cQ+k*7+5,none⟩=some (.int .i64 front):=fun m hm=>((Hr m hm).1.cell (p:=⟨b1,cQ+k*7+5,none⟩) ak).trans y5;have x6:∀m,m≤4→(Wd m).cell? ⟨b1,cQ+k*7+6,none⟩=some (.int .i64 back):=fun m hm=>((Hr m hm).1.cell (p:=⟨b1,cQ+k*7+6,none⟩) ak).trans y6;have d3:∀m,m≤2→(Wd m).cell? ⟨G,3,none⟩=some (.slice A3 k k3):=fun m hm=>by
      rcases m with _|_|_|m
      · rw[hW0]; exact (T0.d2.cell 3).trans rfl
      · rw[tJ]; exact (T1.d2.cell 3).trans rfl
      · rw[uc]; exact (T2.d2.cell 3).trans rfl
      omega
    have hz3:wz.cell? ⟨G,3,none⟩=some (.slice A3 k k3):=(XA.cell 3).trans rfl;have hf3:=XA.frozen 3;have W0:=zh hW0;have W4:=zh XB;have tu:=zh T4.2;have H2:=zh QS;have HO0:=zh HT.o.d0;have dN:=HT.o.d0.cell 11;simp only[aB,aD,aA] at dN;clear T0 T1 T2 T4 Hr hZ0 XA hbZ Ld nK hN m9 kg lP mX bO HT QS hys hv3 hc aG hx;go_upto_region 5 with fail;clear dN;refine kT [.pointer (some ⟨G,3,none⟩),.slice A3 k k3,.pointer (some ⟨w.heap.size,11,none⟩),.slice (some ⟨b1,cQ,none⟩) s.items.length ci,.int .i64 k,.pointer (some ⟨b1,cQ+k*7,none⟩),.agg #[.string nm,.int .i64 pos,.int .i64 width,.int .i64 wt,.int .i64 hang,.int .i64 front,.int .i64 back],.int .i64 mid,
      .pointer (some ⟨w.heap.size,11,none⟩),.slice (some ⟨b1,cQ,none⟩) s.items.length ci,.int .i64 k,.pointer (some ⟨b1,cQ+k*7,none⟩),.pointer (some ⟨b1,cQ+k*7+3,none⟩),.int .i64 wt,.agg #[.int .i64 mid,.int .i64 wt],.slice (some ⟨wr.heap.size+1,0,none⟩) 1 1,.slice (some ⟨g3,0,none⟩) (k+1) kP,.pointer (some ⟨G,3,none⟩),undef] Wd [7,15,16,18] (by kernel_rfl) (by kernel_rfl) (by kernel_rfl) (by decide) (by rfl) W0.o ?_ ?_
    · simp only[aY,Act.put,aw,av,au]
      simp only[lL];refine⟨?_,?_,?_,?_,?_,?_,?_,?_,?_,?_,?_,?_,?_,?_,?_,?_,?_,?_,?_,trivial⟩
      · exact .inl ⟨by decide,fun m hm bM=>by go_simp⟩
      · exact .inl ⟨by decide,fun m hm bM=>by
          have Rb:m≤2:=by
            rcases m with _|_|_|_|_|m
            · omega
            · omega
            · omega
            · exact absurd (Eq.trans (a:=false) (by kernel_rfl) bM) Bool.false_ne_true
            · exact absurd (Eq.trans (a:=false) (by kernel_rfl) bM) Bool.false_ne_true
            exact absurd hm (by show ¬m+5≤4; omega)
          have h:=d3 m Rb;go_simp⟩
      · exact .inl ⟨by decide,fun m hm bM=>by go_simp⟩
      · exact .inl ⟨by decide,fun m hm bM=>by have h:=Bh m hm; go_simp⟩
      · exact .inl ⟨by decide,fun m hm bM=>by go_simp⟩
      · exact .inl ⟨by decide,fun m hm bM=>by go_simp⟩
      · exact .inl ⟨by decide,fun m hm bM=>by have h0:=x0 m hm; have h1:=x1 m hm; have h2:=x2 m hm; have h3:=x3 m hm; have h4:=x4 m hm; have h5:=x5 m hm; have h6:=x6 m hm; go_simp⟩
      · exact .inr ⟨0,rfl,.inr (.inr ⟨203,#[.agg #[.string nm,.int .i64 pos,.int .i64 width,.int .i64 wt,.int .i64 hang,.int .i64 front,.int .i64 back]],by rw[W0.o]; go_simp,(tF (Wd 0)).mono fun e w' hp=>⟨hp.1,by rw[←hp.2,W0.o]; exact tJ.symm⟩⟩)⟩
      · exact .inl ⟨by decide,fun m hm bM=>by go_simp⟩
      · exact .inl ⟨by decide,fun m hm bM=>by have h:=Bh m hm; go_simp⟩
      · exact .inl ⟨by decide,fun m hm bM=>by go_simp⟩
      · exact .inl ⟨by decide,fun m hm bM=>by go_simp⟩
      · exact .inl ⟨by decide,fun m hm bM=>by go_simp⟩
      · exact .inl ⟨by decide,fun m hm bM=>by have h:=x3 m hm; go_simp⟩
      · exact .inl ⟨by decide,fun m hm bM=>by go_simp⟩
      · exact .inr ⟨1,rfl,.inr (.inl (by rw[tJ,uc,←H2.o]; go_simp))⟩
      · exact .inr ⟨2,rfl,.inr (.inl (by rw[uc,Hu]; exact mG rfl (by go_simp) (by go_simp) ki))⟩
      · exact .inl ⟨by decide,fun m hm bM=>by go_simp⟩
      exact .inr ⟨3,rfl,.inl ⟨rfl,by rw[Hu,W4.o]; go_simp⟩⟩
    simp only[aY,Act.put,aw,av,au];have eW:Wd (List.length [7,15,16,18])=wz.setCell ⟨G,3,none⟩ (.slice (some ⟨g3,0,none⟩) (k+1) kP):=W4.o;rw[eW];clear eW W4 W0 tJ uc Hu Bh x0 x1 x2 x3 x4 x5 x6 d3 hz3 hf3 ki H2 HO0 tF;generalize wz.setCell ⟨G,3,none⟩ (.slice (some ⟨g3,0,none⟩) (k+1) kP)=W9 at*;go_wp2_with fail;go_roundw
    case rel=>exact⟨k+1,by omega,by go_num,⟨_,by rw[HY.o]; exact tu.o⟩⟩
    simp[intOf]; omega
  obtain rfl:k=s.items.length:=by omega
  have hT:=HT.o;rw[List.take_of_length_le (by simp)] at hT;obtain⟨A3,c3,rfl⟩:=lx hT.o3;have y0:=hT.d2.cell 0;have y1:=hT.d2.cell 1;have y2:=hT.d2.cell 2;have y3:=hT.d2.cell 3;have y4:=hT.d2.cell 4;have x11:=hT.d0.cell 11;simp only[aB,aD,aA] at x11;have z0:=hT.d1.cell 0;have z1:=hT.d1.cell 1;have z2:=hT.d1.cell 2;have z3:=hT.d1.cell 3;have z4:=hT.d1.cell 4;have f0:=hT.d1.frozen 0;have f1:=hT.d1.frozen 1
  have f2:=hT.d1.frozen 2;have f3:=hT.d1.frozen 3;have f4:=hT.d1.frozen 4;simp only[aB,aD,aA] at y0 y1 y2 y3 y4 z0 z1 z2 z3 z4;have HT:=zh hT;clear hT;have UY:Blk (((((wr.setCell ⟨w.heap.size+1,0,none⟩ (.string s.name)).setCell ⟨w.heap.size+1,1,none⟩ (.int .i64 s.len)).setCell ⟨w.heap.size+1,2,none⟩ (.slice A2 s.lines.length c2)).setCell ⟨w.heap.size+1,3,none⟩ (.slice A3 (s.items.map df).length c3)).setCell ⟨w.heap.size+1,4,none⟩ (.int .i64 s.pipe)) (w.heap.size+1) 117 #[.string s.name,.int .i64 s.len,.slice A2 s.lines.length c2,.slice A3 (s.items.map df).length c3,.int .i64 s.pipe]:=((((HT.o.d1.set_ 0 (.string s.name)).set_ 1 (.int .i64 s.len)).set_ 2 (.slice A2 s.lines.length c2)).set_ 3 (.slice A3 (s.items.map df).length c3)).set_ 4 (.int .i64 s.pipe)
  have J4:=kp wr (w.heap.size+1) (.string s.name) (.int .i64 s.len) (.slice A2 s.lines.length c2) (.slice A3 (s.items.map df).length c3) (.int .i64 s.pipe);have hB9 := HT.o.bel.grown J4 HT.o.bel.size (fun k e=>by
   obtain rfl:w.heap.size + 1=k := by simpa using e
   omega)
  have Ac:=HT.o.o2.kept J4 (Zj HT.o.o2 fun r e c f hh=>by
    obtain rfl:w.heap.size+1=r:=by simpa using e
    have h:=HT.o.d1;unfold Blk at h;rw[h] at hh;injection hh with hh;injection hh with _ hh _;exact absurd hh (by decide))
  have ho3:=HT.o.o3.kept J4 (Zj HT.o.o3 fun r e c f hh=>by
    obtain rfl:w.heap.size+1=r:=by simpa using e
    have h:=HT.o.d1;unfold Blk at h;rw[h] at hh;injection hh with hh;injection hh with _ hh _;exact absurd hh (by decide))
  have HO2:=zh Ac;have HO3:=zh ho3;have iW:=zh hB9;have fP:=zh UY;clear Ac ho3 hB9 UY J4;have p0:=fP.o.cell 0;have p1:=fP.o.cell 1;have p2:=fP.o.cell 2;have p3:=fP.o.cell 3;have p4:=fP.o.cell 4;simp only[aB,aD,aA] at p0 p1 p2 p3 p4;rw[yQ] at*;go_wp2_with fail;refine YF (v:=.agg #[.string s.name,.int .i64 s.len,.slice A2 s.lines.length c2,.slice A3 s.items.length c3,.int .i64 s.pipe]) (by simp[results,Tryz.results152,go_sem,p0,p1,p2,p3,p4]) rfl ?_
  exact⟨iW.o,_,rfl,A2,c2,A3,c3,by simp[fi],RowAt.of_own HO2.o,by
    have h:=Flat.of_own HO3.o;unfold LoadsAt;simpa[fi] using h⟩
theorem FracsPost.one {l:List Rat} {w w':World} {e:Ending} (h:FracsPost l w e w'):∃A n c e1,e=.returned (.tuple #[.slice A n c,.int .i64 e1])∧Below w.heap.size w w'∧((gb l=true∧e1=0∧FrsAt w' w'.heap.size (.slice A n c) (l.map dM))∨(gb l=false∧e1=5∧A=none∧n=0∧c=0)):=by
 obtain⟨hb,⟨h1,v,rfl,h2⟩|⟨h1,rfl⟩⟩:=h
 ·have h3:FrsAt w' w'.heap.size v (l.map dM):=by
   have:=Flat.of_own h2;unfold FrsAt;rw[yQ];exact this
  have h4:=h3;obtain⟨A,c,rfl,-⟩:=h4;exact⟨A,_,c,0,rfl,hb,.inl ⟨h1,rfl,h3⟩⟩
 exact⟨none,0,0,5,rfl,hb,.inr ⟨h1,rfl,rfl,rfl,rfl⟩⟩
theorem Fc (v:Value) (s:SetT) (w:World) (hv:SetAt w w.heap.size v s) (hn:SetNames s) (bM:cA s=true):Calls Tryz.prog 108 #[v] w (eF s w):=by
 have hob:=nZ bM;have hb:=j9 hob;have hti:cK (fi s)=true:=BH (zt bM).1;have HT:=zh (fun (u:Value) (w1:World) (h:BeamAt w1 w1.heap.size u (fi s))=>Nc u (fi s) w1 h hb);have HBm:=zh (fun W (h:Below w.heap.size w W)=>KA v s W ((hv.below h (yA _)).mono h.size) bM);have HGi:=zh (fun u W h=>Ui u (fi s) W h hn.name (fun _=>HT.o));have Hb:=zh hb;have SY:=zh hti;have AX:Y0 (qb (fi s)=0):=by
  unfold Y0 qb;rw[if_neg (by rw[hob];decide),if_neg (by rw[hti];decide)]
 have Bi:=zh bM;have vqK:=hb.sup1.2;have HL:Y0 ((dP (fi s)).length≤100):=by
  unfold Y0 dP;simp;omega
 obtain⟨Al,cl,Ai,ci,Ab,cb,rfl,-,-,-⟩:=hv;unfold dO at*;have rE:=zh (Blk.new w 37 (zA s Al cl Ai ci Ab cb));have cw:=zh ((yB _ w).alloc (yA _) (.cells (zA s Al cl Ai ci Ab cb) 37));clear hob hb hti hn bM vqK;go_enter Tryz.func108,Tryz.ntmps108;go_upto_region 1 with fail;generalize w.alloc (.cells (zA s Al cl Ai ci Ab cb) 37)=W1 at*;obtain⟨z0,z1,z2,z3,z4,z5,z6,z7,z8,z9,fD,dN,fa⟩:=rE.o.c13;go_wp2_with fail
 refine (HBm.o W1 cw.o).mono ?_;rintro e w2 ⟨bg,v2,rfl,hV2⟩;have hV3:=hV2;obtain⟨As,cs,A3,c3,rfl,-⟩:=hV3;have dV:=zh (cw.o.trans (bg.mono cw.o.size));have lS:Below w2.heap.size w2 (w2.alloc (.cells (zC (fi s) As cs A3 c3) 117)):=(yB _ _).alloc (yA _) _;have AU:=zh (hV2.grow lS);have cY:=zh (dV.o.trans (lS.mono dV.o.size));have eJ:=zh (Blk.new w2 117 (zC (fi s) As cs A3 c3));clear bg hV2 lS HBm cw rE dV z0 z1 z2 z3 z4 z5 z6 z7 z8 z9 fD dN fa
 generalize gL:fi s=b at*;have Hbs:=zh gL;clear gL;go_upto_region 2 with fail;generalize w2.alloc (.cells (zC b As cs A3 c3) 117)=W3 at*;obtain⟨y0,y1,y2,y3,y4⟩:=eJ.o.c5;go_wp2_with fail;refine (HGi.o _ W3 AU.o).mono ?_;rintro e w4 ⟨rfl,bP⟩;rw[AX.o];have HV4:=zh (AU.o.grow bP);have fj:=zh (cY.o.trans (bP.mono cY.o.size));have hd4:=eJ.o.below bP eJ.o.lt;clear y0 y1 y2 y3 y4;obtain⟨y0,y1,y2,y3,y4⟩:=hd4.c5
 clear bP hd4 AU cY eJ HGi AX;go_wp2_with fail;refine (BL _ b w4 HV4.o Hb.o SY.o HT.o).mono ?_;rintro e w5 ⟨bf,v5,rfl,H8⟩;have vqP:=H8;obtain⟨A5,c5,e5,-⟩:=vqP;have E6:=zh H8;rw[e5] at E6⊢;have dJ:=zh (fj.o.trans (bf.mono fj.o.size));clear bf H8 e5 y0 y1 y2 y3 y4 fj HV4;go_wp2_with fail;refine (Y6 _ (dP b) 280000 w5 E6.o (by decide) HL.o).mono ?_;rintro e w6 hF6;obtain⟨A6,n6,c6,e6,rfl,fk,hf6⟩:=hF6.one
 have HF6:=zh hf6;have ni:=zh (dJ.o.trans (fk.mono dJ.o.size));clear fk hf6 hF6 dJ E6;have HEr:Y0 (Zs s=if gb (dP b) then 0 else 5):=by
  unfold Y0 Zs;rw[if_pos Bi.o,Hbs.o]
 have HLl:Y0 (ax s=(dP b).map dM):=by
  unfold Y0 ax;rw[Hbs.o]
 go_wp2_with fail;refine YF (results_tmp2 rfl _ _ _) (by rfl) ?_;refine⟨ni.o,?_⟩;rcases HF6.o with⟨h1,rfl,h3⟩|⟨h1,rfl,rfl,rfl,rfl⟩
 ·exact .inl ⟨by rw[HEr.o,h1];rfl,_,rfl,by rw[HLl.o];exact h3⟩
 exact .inr ⟨by rw[HEr.o,h1];decide,by rw[HEr.o,h1];rfl⟩
inductive Wd where
 | s (b:ByteArray)
 | n (i:Int)
theorem itoaLaysM:LaysM.n171 Tryz.prog Jq:={ CJ with
 i0:=by kernel_rfl
 i2:=by kernel_rfl
 i3:=by kernel_rfl
 i4:=by kernel_rfl
 i5:=by kernel_rfl
 i9:=by kernel_rfl
 i20:=by kernel_rfl
 i37:=by kernel_rfl
 i46:=by kernel_rfl
 i51:=by kernel_rfl
 i53:=by kernel_rfl
 i171:=by kernel_rfl
 i173:=by kernel_rfl
 i212:=by kernel_rfl
 i232:=by kernel_rfl
 i233:=by kernel_rfl
 m17:=by kernel_rfl
 m18:=by kernel_rfl
 m19:=by kernel_rfl }
def Tab (w:World):Prop:=Lib.TabIs Tryz.prog w "internal/strconv.uint64pow10" .u64 Lib.pow10Tab
theorem Tab.below {w w':World} (h:Tab w) (hb:Below w.heap.size w w'):Tab w':=Joins.tab_stays itoaLaysM.m17 h hb (yA _)
def Kd (n0 n:Nat) (ds:List UInt8):Prop:=(ds=[]∧n=n0)∨(ds≠[]∧n=0∧ds=Lib.decDigits n0)∨(ds≠[]∧0<n∧Lib.decDigits n++ds=Lib.decDigits n0)
theorem Il {n0 n:Nat} {ds:List UInt8} (h:Kd n0 n ds) (hc:0<n∨ds=[]):Kd n0 (n/10) (UInt8.ofNat (48+n%10)::ds):=by
  have key:Lib.decDigits n++ds=Lib.decDigits n0:=by
    rcases h with⟨h1,h2⟩|⟨h1,h2,h3⟩|⟨h1,h2,h3⟩
    · rw[h1,h2,List.append_nil]
    · exact absurd hc (by
     rintro (h|h);·omega
     exact h1 h)
    exact h3
  by_cases hn:n<10
  · refine .inr (.inl ⟨by simp,by omega,?_⟩)
    rw[←key,Lib.decDigits_one hn,Nat.mod_eq_of_lt hn];rfl
  refine .inr (.inr ⟨by simp,by omega,?_⟩);rw[←key]
  conv=>rhs; rw[Lib.decDigits,dif_neg hn]
  rw[List.append_assoc];rfl
theorem L8 {n0 n:Nat} {ds:List UInt8} (h:Kd n0 n ds) (h1:n=0) (h2:ds≠[]):ds=Lib.decDigits n0:=by
 rcases h with⟨h3,_⟩|⟨_,_,h3⟩|⟨_,h3,_⟩
 ·exact absurd h3 h2
 ·exact h3
 omega
theorem Io (m:Nat) (W:World):(convert 181 9 (.slice (some ⟨W.heap.size,0,none⟩) 1 1)).run Tryz.prog (W.alloc (.cells #[.int .u8 (48+(m:Int)%10)] 5))=.ok (.string ⟨#[UInt8.ofNat (48+m%10)]⟩) (W.alloc (.cells #[.int .u8 (48+(m:Int)%10)] 5)):=by
 refine run_convert_bytes_back (P:=Tryz.prog) _ 181 9 5 ⟨W.heap.size,0,none⟩ 1 [UInt8.ofNat (48+m%10)] Tryz.underlying181 Tryz.underlying5 Tryz.underlying9 ?_;intro j hj;obtain rfl:j=0:=by simp at hj;omega
 rw[Addr.add_lit,(Blk.new W 5 #[.int .u8 (48+(m:Int)%10)]).cell]
 have:(UInt8.ofNat (48+m%10)).toNat=48+m%10:=by
  rw[UInt8.toNat_ofNat'];omega
 simp only[List.getElem_cons_zero,this];simp
def I4 (m:Nat) (ds:List UInt8):Prop:=ds.length≤13∧(0<m→m*10^ds.length≤10^12)
theorem DC {m:Nat} {ds:List UInt8} {c:UInt8} (h:I4 m ds) (hc:0<m∨ds=[]):I4 (m/10) (c::ds):=by
 have hl:ds.length≤12:=by
  rcases hc with hc|hc
  ·have h1:=h.2 hc;rcases Nat.lt_or_ge 12 ds.length with h2|h2
   ·have h3:10^13≤10^ds.length:=Nat.pow_le_pow_right (by decide) h2;have h4:10^ds.length≤m*10^ds.length:=Nat.le_mul_of_pos_left _ hc;have h5:(10:Nat)^12<10^13:=by decide
    omega
   exact h2
  rw[hc];exact yI _
 refine⟨by rw[List.length_cons];omega,fun hm=>?_⟩;have h1:=h.2 (by omega);have h2:m/10*10≤m:=Nat.div_mul_le_self m 10;have h3:=Nat.mul_le_mul_right (10^ds.length) h2;rw[List.length_cons,yW,Nat.mul_comm (10^ds.length) 10,←yY];exact yH h3 h1
theorem K8 (n:Nat) (w:World) (hn:n≤10^12):Calls Tryz.prog 111 #[.int .i64 n,.int .i64 1] w fun e w'=>e=.returned (.string ⟨(Lib.decDigits n).toArray⟩)∧Below w.heap.size w w':=by
 have HN:=zh hn;clear hn;go_enter Tryz.func111,Tryz.ntmps111;go_wp2_with fail;go_loopw [0,5] (fun x y wr=>∃(m:Nat) (ds:List UInt8),m≤n∧x=.int .i64 m∧y=.string ⟨ds.toArray⟩∧Kd n m ds∧I4 m ds∧Below w.heap.size w wr) (fun x y _=>(intOf x).toNat+(match y with|.string s=>if s.size=0 then 1 else 0|_=>0))
 case atStart=>exact⟨n,[],yA _,rfl,rfl,.inl ⟨rfl,rfl⟩,⟨yI _,fun _=>by simpa using HN.o⟩,yB _ _⟩
 obtain⟨m,ds,hm,rfl,rfl,hd,hg,hb⟩:=hrel;have vwQ:(m:Int)≤1000000000000:=by have:=HN.o;omega
 by_cases hc:0<m∨ds=[]
 ·have HD:=zh (Il hd hc);have HG:=zh (DC (c:=UInt8.ofNat (48+m%10)) hg hc);have hl:ds.length≤13:=hg.1;obtain⟨c,hc0⟩:=zo (UInt8.ofNat (48+m%10));rw[hc0] at HD HG;have hcv:=fun W=>Io m W;rw[hc0] at hcv;have X7:∀W,(Op.stringOp .add ⟨#[c]⟩ ⟨ds.toArray⟩).run Tryz.prog W=.ok (.string ⟨(c::ds).toArray⟩) W:=fun W=>run_string_add_lists W [c] ds (by simp) (by omega);have hdm:m/10≤n:=yH (YK _ _) hm;have HB:=zh (hb.alloc hb.size (.cells #[.int .u8 (48+(m:Int)%10)] 5))
  clear hd hg hb hc0;rcases Nat.eq_zero_or_pos m with h0|h0
  ·have UM:ds=[]:=hc.elim (fun h=>absurd h (by omega)) id;have hls:(ds.length:Int)<1:=by rw[UM];simp
   have su:ds.length=0:=by rw[UM];rfl
   have HL0:=zh su;subst h0;rw[show (48:Int)+((0:Nat):Int)%10=48 by decide] at hcv HB;rw[Nat.zero_div] at HD HG;clear hc UM su hl;go_wp2_with fail;go_roundw
   case rel=>exact⟨0,_,yI _,rfl,rfl,HD.o,HG.o,HB.o⟩
   simp[intOf,ByteArray.size,HL0.o]
  have d0:decide (0<m)=true:=yD h0;clear hc;go_wp2_with fail;go_roundw
  case rel=>exact⟨m/10,_,hdm,by go_num,rfl,HD.o,HG.o,HB.o⟩
  simp[intOf,ByteArray.size];omega
 have h0:m=0:=by omega
 have UM:ds≠[]:=fun h=>hc (.inr h);subst h0;have HE:=zh (L8 hd rfl UM);have HB:=zh hb;have hlp:0<ds.length:=List.length_pos_iff.2 UM;have hls:¬((ds.length:Int)<1):=by omega
 clear hd hg hb hc UM;go_wp2_with fail;go_ret;refine⟨?_,HB.o⟩;rw[←HE.o];rfl
theorem Vr {n:Nat} (hn:n≤10^12):(Lib.decDigits n).length≤14:=by
 have:∀k m:Nat,m≤10^k→(Lib.decDigits m).length≤k+2:=fun k=>by
  induction k with
  | zero=>
   intro m hm;rw[Lib.decDigits_one (by simp at hm;omega)];simp
  | succ k ih=>
   intro m hm;by_cases h:m<10
   ·rw[Lib.decDigits_one h];simp
   rw[Lib.decDigits,dif_neg h,yR]
   have:=ih (m/10) (by rw[yW] at hm;omega);simp only[List.length_singleton];omega
 exact this 12 n hn
theorem Fe (n:Nat) (w:World) (hn:n≤10^12):Calls Tryz.prog 73 #[.int .i64 n,.int .i64 0] w fun e w'=>e=.returned (.string ⟨(Lib.decDigits n).toArray⟩)∧Below w.heap.size w w':=by
 have hD:=K8 n w hn;have hz:∀W,(Op.stringOp .add ⟨#[]⟩ ⟨(Lib.decDigits n).toArray⟩).run Tryz.prog W=.ok (.string ⟨(Lib.decDigits n).toArray⟩) W:=fun W=>by
  have h1:=Vr hn;simpa using run_string_add_lists (P:=Tryz.prog) W [] (Lib.decDigits n) (by simp) (by omega)
 have d0:¬((n:Int)<0):=by omega
 clear hn;go_enter Tryz.func73,Tryz.ntmps73;go_wp2_with fail;refine hD.mono ?_;rintro e w2 ⟨rfl,bg⟩;go_wp2_with fail;go_ret;exact⟨rfl,bg⟩
