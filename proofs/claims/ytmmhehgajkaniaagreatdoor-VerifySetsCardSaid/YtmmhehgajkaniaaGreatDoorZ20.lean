/- Lemmas. -/
import Derived.Test.YtmmhehgajkaniaaGreatDoorZ19
namespace Go.Proofs.YtmmhehgajkaniaaGreatDoor
set_option maxRecDepth 100000
set_option maxHeartbeats 40000000
open Go.RowKit Go.Shelf
def LY (m:Int) (f a:FrT):Value:=if bF (dI a*dI f)=true then .tuple #[.bool (!ct m f a),.int .i64 0] else .tuple #[.bool false,.int .i64 5]
theorem qqo (a f:FrT) (m:Int) (w:World) (ha:au a=true) (hf:au f=true) (hm:0≤m∧m≤67108864) :
  Calls Tryz.prog 59 #[a.val,f.val,.int .i64 m] w fun e w'=>e=.returned (LY m f a)∧Below w.heap.size w w':=by
 have hM:=fun W=>Qv a f W ha hf;have HV:Y0 (LY m f a=if bF (dI a*dI f)=true then .tuple #[.bool (!ct m f a),.int .i64 0] else .tuple #[.bool false,.int .i64 5]):=rfl;have jO:Y0 (bF (dI a*dI f)=true→(!ct m f a)=decide (iS (fM (dI a*dI f)) ⟨m,1⟩≤0)):=fun h=>by
  unfold ct;rw[h,Bool.true_and,Bool.eq_iff_iff,Bool.not_eq_true',YD,decide_eq_true_eq];omega
 obtain⟨fx,fy,fz,hv⟩:=yj (dI a*dI f);have HX:Y0 (bF (dI a*dI f)=true→au ⟨fx,fy⟩=true∧fM (dI a*dI f)=⟨fx,fy⟩∧fz=0):=fun h=>by
  have h2:=sj h;rw[hv] at h2;injection h2 with h2;injection h2 with h2;injection h2 with h3 h4;injection h3 with h3;injection h3 with h3;injection h3 with h5 h6;injection h5 with _ h5;injection h6 with h6 _;injection h6 with _ h6;injection h4 with h4 _;injection h4 with _ h4;have e:fM (dI a*dI f)=⟨fx,fy⟩:=by unfold fM;rw[h5,h6]
  exact⟨by rw[←e];exact K8 h,e,h4⟩
 have HN:Y0 (bF (dI a*dI f)=false→fz=5):=fun h=>by
  have h2:=sk h;rw[hv] at h2;injection h2 with h2;injection h2 with h2;injection h2 with h3 h4;injection h4 with h4 _;injection h4 with _ h4
 rw[hv] at hM;have WL:=zh fun W (h:au ⟨fx,fy⟩=true)=>qqr ⟨fx,fy⟩ ⟨m,1⟩ W h (FX (by omega) (by omega)) (by show (0:Int)≤m;omega);have HO:=zh fun W=>vza m W;have HM:=zh hM;generalize ct m f a=ob at*;generalize LY m f a=kv at*;generalize fM (dI a*dI f)=fo at*;generalize bF (dI a*dI f)=ok at*;clear ha hf hm hM hv;obtain⟨an,ad⟩:=a;obtain⟨fn,fd⟩:=f
 try simp only at*
 have vK:=(Blk.new w 29 #[.int .i64 an,.int .i64 ad]).alloc (.cells #[.int .i64 fn,.int .i64 fd] 29);have kC:=Blk.new (w.alloc (.cells #[.int .i64 an,.int .i64 ad] 29)) 29 #[.int .i64 fn,.int .i64 fd];rw[yZ] at kC;have D0:=zh vK;have D1:=zh kC;have HB:=zh (((yB _ w).alloc (yA _) (.cells #[.int .i64 an,.int .i64 ad] 29)).alloc (by simp) (.cells #[.int .i64 fn,.int .i64 fd] 29));clear vK kC;go_enter Tryz.func59,Tryz.ntmps59
 go_upto_region 1 with fail;generalize (w.alloc (.cells #[.int .i64 an,.int .i64 ad] 29)).alloc (.cells #[.int .i64 fn,.int .i64 fd] 29)=W1 at*;have y0:=D0.o.cell 0;have y1:=D0.o.cell 1;have y2:=D1.o.cell 0;have y3:=D1.o.cell 1;simp only[aG,aH,aD] at y0 y1 y2 y3;go_upto_region 2 with (first|(go_at_call 103;refine (HM.o _).mono ?_;rintro e w2 ⟨rfl,aU⟩));clear y0 y1 y2 y3;have jz:=aU.alloc aU.size (.cells #[.int .i64 fx,.int .i64 fy] 29)
 have HB:=zh (HB.o.trans (jz.mono HB.o.size));have kF:=zh (Blk.new w2 29 #[.int .i64 fx,.int .i64 fy]);clear jz aU D0 D1 HM;generalize w2.alloc (.cells #[.int .i64 fx,.int .i64 fy] 29)=W2 at*;generalize w2.heap.size=n1 at kF⊢;cases ok
 ·have hz:=HN.o rfl;subst hz;have HE:Y0 (kv=.tuple #[.bool false,.int .i64 5]):=HV.o;clear HV jO HX HN;go_wp2_with fail;refine YF (results_tmp2 rfl _ _ _) (by rfl) ?_;exact⟨by rw[HE.o];rfl,HB.o⟩
 obtain⟨hg,hfo,hz⟩:=HX.o rfl;subst hfo hz;have HE:Y0 (kv=.tuple #[.bool (!ob),.int .i64 0]):=HV.o;have HO2:Y0 ((!ob)=decide (iS ⟨fx,fy⟩ ⟨m,1⟩≤0)):=jO.o rfl;have WL:=zh fun W=>WL.o W hg;generalize iS ⟨fx,fy⟩ ⟨m,1⟩=c at*;clear HV jO HX HN hg;go_upto_region 4 with fail;obtain⟨y0,y1⟩:=kF.o.c2;have u0:=YL y0;have u1:=YL y1;clear y0 y1;refine af 5 (fun jx=>if jx=2 then some (gV (.agg #[.int .i64 m,.int .i64 1])) else if jx=3 then some (gV (.int .i64 c)) else none) (by kernel_rfl) (by kernel_rfl) ?_
 simp only[aM,aP,aN,aO];refine zw 2 ?_;simp only[aM,aP,aN,aO]
 repeat (go_big_quiet_step (fail))
 refine YE ?_;refine ae rfl rfl (fun w1 _ _=>⟨105,#[.int .i64 m],by go_simp,(HO.o w1).mono fun _ _ ⟨he,hb⟩=>⟨_,he,hb,rfl,trivial⟩⟩) ?_;rintro _ rfl;simp only[Act.put,aC,aB,aA];refine ae rfl rfl (fun w1 _ _=>⟨104,#[.agg #[.int .i64 fx,.int .i64 fy],.agg #[.int .i64 m,.int .i64 1]],by go_simp,(WL.o w1).mono fun _ _ ⟨he,hb⟩=>⟨_,he,hb,rfl,trivial⟩⟩) ?_;rintro _ rfl;simp only[Act.put,aC,aB,aA];refine zw 1 ?_
 simp only[aM,aP,aN,aO]
 repeat (go_big_quiet_step (fail))
 refine YE ?_;refine Zc ?_;intro w4 bU hF;have wd:=zh (HB.o.trans (bU.mono HB.o.size));clear bU hF u0 u1 HB kF WL HO;go_wp2_with fail;refine YF (results_tmp2 rfl _ _ _) (by rfl) ?_;exact⟨by rw[HE.o,HO2.o];rfl,wd.o⟩
theorem wQ (f:FrT) (w:World) (hf:au f=true):Calls Tryz.prog 10 #[f.val] w fun e w'=>e=.returned (.bool (decide (fp f=0)))∧Below w.heap.size w w':=by
 have HE:Y0 (decide (fp f=0)=decide (f.den≤f.num∧f.num≤100∧f.den≤100)):=by
  unfold Y0 fp;rw[if_pos hf,decide_eq_decide];by_cases h:f.den≤f.num∧f.num≤100∧f.den≤100
  ·rw[if_pos h];exact⟨fun _=>h,fun _=>rfl⟩
  rw[if_neg h];exact⟨fun h2=>absurd h2 (by decide),fun h2=>absurd h2 h⟩
 have HB:=zh ((yB _ w).alloc (yA _) (.cells #[.int .i64 f.num,.int .i64 f.den] 29));generalize decide (fp f=0)=b at*;clear hf;obtain⟨n,d⟩:=f;simp only at*;by_cases c1:d≤n
 ·have d1:decide (d≤n)=true:=yD c1;by_cases c2:n≤100
  ·have d2:decide (n≤100)=true:=yD c2;have iq:Y0 (b=decide (d≤100)):=by unfold Y0;rw[HE.o,decide_eq_decide];omega
   clear c1 c2 HE;go_enter Tryz.func10,Tryz.ntmps10;go_wp2_with fail;go_ret;exact⟨Ze iq.o.symm,HB.o⟩
  have d2:decide (n≤100)=false:=yC c2;have iq:Y0 (b=false):=by unfold Y0;rw[HE.o];exact yC (by omega)
  clear c1 c2 HE;go_enter Tryz.func10,Tryz.ntmps10;go_wp2_with fail;go_ret;exact⟨Ze iq.o.symm,HB.o⟩
 have d1:decide (d≤n)=false:=yC c1;have iq:Y0 (b=false):=by unfold Y0;rw[HE.o];exact yC (by omega)
 clear c1 HE;go_enter Tryz.func10,Tryz.ntmps10;go_wp2_with fail;go_ret;exact⟨Ze iq.o.symm,HB.o⟩
theorem En (x:ItemT) (w:World) (hx:0≤x.pos∧x.pos≤1048576∧1≤x.width∧x.width≤1048576) :
  Calls Tryz.prog 138 #[x.val] w fun e w'=>e=.returned (.int .i64 (C3 x))∧w.alloc (.cells #[.string x.name,.int .i64 x.pos,.int .i64 x.width,.int .i64 x.wt,.int .i64 x.hang,.int .i64 x.front,.int .i64 x.back] 52)=w':=by
 have HV:Y0 (C3 x=x.pos+x.width/2):=rfl;obtain⟨h1,h2,h3,h4⟩:=hx;have v1:IntKind.i64.wrap (x.width/2)=x.width/2:=yF _ (by omega);have v2:IntKind.i64.wrap (x.pos+x.width/2)=x.pos+x.width/2:=yF _ (by omega);have v3:x.width.tdiv 2=x.width/2:=Int.tdiv_eq_ediv_of_nonneg (by omega);clear h1 h2 h3 h4;go_enter Tryz.func138,Tryz.ntmps138;go_wp2;go_ret;exact⟨by rw[HV.o];rfl,rfl⟩
def gNl:GPost:=⟨fun v=>∃g,v=.slice (some ⟨g,0,none⟩) 0 0,fun _ _=>True,⟨_,0,rfl⟩,fun _ _ _ _ _=>trivial,false⟩
theorem Zr {P:Program} {o:Oper} {a:Act} {w:World} {T:TypeId} {fz:Nat×Nat} (h:(execOp a.eval o).run P w=.ok (.value (.slice (some ⟨w.heap.size,0,none⟩) 0 0)) (w.alloc (.cells #[] T fz))):kX P o a gNl w :=
 ⟨_,_,h,(yB _ _).alloc (yA _) _,⟨_,rfl⟩,trivial,fun h=>by cases h⟩
theorem OD {o:Oper} {a:Act} {w:World} {B g:Nat} {s x:Operand} {v:Value} {l:List Int} (ho:o.op=.call { callee := .builtin .append,args := #[s,x],argTypes := #[22,22] }) (hs:a.eval s=.slice (some ⟨g,0,none⟩) 0 0) (hx:a.eval x=v)
  (hl:bg w w.heap.size v l) (h0:0<l.length) (cI:l.length≤1000000) (hB:B≤w.heap.size):kX Tryz.prog o a (gO B l) w:=by
 obtain⟨A,c,rfl,fU,cM,aj⟩:=hl.open_;obtain⟨b,off,rfl,hb,jJ⟩:=aj 0 h0;obtain⟨i0,jB,hH,jb,km⟩:=info_parts tx;obtain⟨v',w',hr,aK,hg⟩ := run_append_arg_grows (P := Tryz.prog) w 22 o.type 3 i0 _ 1 8 Tryz.underlying22 jB hH jb km rfl (by decide) ⟨g,0,none⟩ 0 0 [] rfl (fun j u hu=>by simp at hu)
  ⟨b,off,none⟩ l.length c (l.map (Value.int .i64)) (by simp) (fun j u hu=>by
   rw[YC,Option.map_eq_some_iff] at hu;obtain⟨z,hz,rfl⟩:=hu;obtain⟨hj,rfl⟩:=List.getElem?_eq_some_iff.1 hz;rw[Addr.add_lit];exact jJ j hj) (by omega) (by unfold maxLen;omega) (by omega)
 rw[yR,List.nil_append] at aK;exact⟨v',w',ng ho hs hx hr,oV hg,lO aK,jg aK hB,fun h=>by cases h⟩
def Le (s:SetT) (w:World) (e:Ending) (w':World):Prop:=Below w.heap.size w w'∧∃v,e=.returned v∧BeamAt w' w'.heap.size v (eZ s)
theorem N3 (v:Value) (s:SetT) (w:World) (hv:SetAt w w.heap.size v s) (bL:cD s=true):Calls Tryz.prog 99 #[v] w (Le s w):=by
  have hk:=Zm bL;have HX:=zh fun x (hx:x∈s.items)=>tu (hk.wts.2 x hx).2;have cI:=hk.len;have h40:=hk.wts.1;have h2:0<s.lines.length:=(ja (oW bL)).sup1.1;have DI:s.lines.length≤1000:=by
    have:=(ja (oW bL)).sup1;exact yH this.2 (by decide)
  clear hk bL;obtain⟨Al,cl,Ai,ci,Ab,cb,rfl,hL,hI,-⟩:=hv;have HL:=zh hL;obtain⟨_,_,e,Py,hi2,U6⟩:=hI.open_;injection e with e1 _ e2;subst e1 e2;have HI:=zh U6;unfold maxLen at hi2;clear hL hI U6;unfold fc at*;go_enter Tryz.func99,Tryz.ntmps99;go_wp2_with (exact zX);have Y9:=(Blk.new w 26 (zA s Al cl Ai ci Ab cb)).alloc (.cells #[.string ⟨#[]⟩,.int .i64 0,.slice none 0 0,.slice none 0 0,.int .i64 0] 43)
  have pR:=Blk.new (w.alloc (.cells (zA s Al cl Ai ci Ab cb) 26)) 43 #[.string ⟨#[]⟩,.int .i64 0,.slice none 0 0,.slice none 0 0,.int .i64 0];rw[yZ] at pR;have sd:=((yB _ w).alloc (yA _) (.cells (zA s Al cl Ai ci Ab cb) 26)).alloc (by simp) (.cells #[.string ⟨#[]⟩,.int .i64 0,.slice none 0 0,.slice none 0 0,.int .i64 0] 43);have jT:((w.alloc (.cells (zA s Al cl Ai ci Ab cb) 26)).alloc (.cells #[.string ⟨#[]⟩,.int .i64 0,.slice none 0 0,.slice none 0 0,.int .i64 0] 43)).heap.size=w.heap.size+1+1:=by simp
  generalize (w.alloc (.cells (zA s Al cl Ai ci Ab cb) 26)).alloc (.cells #[.string ⟨#[]⟩,.int .i64 0,.slice none 0 0,.slice none 0 0,.int .i64 0] 43)=W2 at*;have zy:=zh Y9;have sL:=zh pR;have dZ:=zh sd;have iw:=zh jT;clear Y9 pR sd jT;have y0:=zy.o.cell 0;have y4:=zy.o.cell 4;have y5:=zy.o.cell 5;have y6:=zy.o.cell 6;simp only[aG,aH,aD] at y0 y4 y5 y6;have u0:=YL y0;have u4:=YL y4;have u5:=YL y5;have u6:=YL y6
  clear y0 y4 y5 y6;refine af 12 (fun jx=>if jx=4 then some gNl else if jx=7 then some (gO w.heap.size s.lines) else if jx=11 then some (vwz W2.heap.size) else none) (by kernel_rfl) (by kernel_rfl) ?_;simp only[aM,aP,aN,aO];refine zw 4 ?_;simp only[aM,aP,aN,aO]
  repeat (go_big_quiet_step (fail))
  refine YE ?_;refine aV rfl rfl (fun w1 ak _=>Zr (T:=3) (fz:=(0,0)) (by go_simp)) ?_;rintro _ ⟨g9,rfl⟩;simp only[Act.put,aC,aB,aA];refine zw 2 ?_;simp only[aM,aP,aN,aO]
  repeat (go_big_quiet_step (fail))
  refine YE ?_;refine aV rfl rfl ?_ ?_
  · intro w1 ak hk
    have hb:=dZ.o.trans (ak.mono dZ.o.size);exact OD (s:=.tmp 9) (x:=.tmp 11) (g:=g9) (B:=w.heap.size) rfl (by go_simp) (by go_simp) (RowAt.mono (RowAt.below HL.o hb (yA _)) hb.size) (by omega) (by omega) hb.size
  rintro _ ⟨A2,c2,rfl⟩;simp only[Act.put,aC,aB,aA];refine zw 3 ?_;simp only[aM,aP,aN,aO]
  repeat (go_big_quiet_step (fail))
  refine YE ?_;refine aV rfl rfl (fun w1 ak _=>Ga ak.size (by go_simp)) ?_;rintro _ ⟨G,rfl⟩;simp only[Act.put,aC,aB,aA];refine Zc ?_;intro w8 aJ hF;have vk:w8.ownsRow w.heap.size 3 1 (.slice A2 s.lines.length c2) s.lines.length (s.lines.map (Value.int .i64)):=hF 12;have h3:Lg W2.heap.size (.pointer (some ⟨G,0,none⟩)) w8:=hF 3;obtain⟨_,e3,U8,b3⟩:=h3;injection e3 with e3;injection e3 with e3;injection e3 with e3 _ _
  subst e3;rw[iw.o] at U8;have WK:=zh (zy.o.below aJ zy.o.lt);have WJ:=zh (sL.o.below aJ sL.o.lt);have ep:=zh (dZ.o.trans (aJ.mono dZ.o.size));have f0:=b3.frozen 0;have f1:=b3.frozen 1;have f2:=b3.frozen 2;have f3:=b3.frozen 3;have f4:=b3.frozen 4;have c0:=b3.cell 0;have c1:=b3.cell 1;have cc2:=b3.cell 2;have c3:=b3.cell 3;have c4:=b3.cell 4;simp only[aG,aH,aD] at c0 c1 cc2 c3 c4;have h5:=((((b3.set_ 0 (.string s.name)).set_ 1 (.int .i64 s.len)).set_ 2 (.slice A2 s.lines.length c2)).set_ 3 (.slice none 0 0)).set_ 4 (.int .i64 s.pipe)
  have US:=kL w8 G (.string s.name) (.int .i64 s.len) (.slice A2 s.lines.length c2) (.slice none 0 0) (.int .i64 s.pipe);have hBo:Y0 (BoS w (((((w8.setCell ⟨G,0,none⟩ (.string s.name)).setCell ⟨G,1,none⟩ (.int .i64 s.len)).setCell ⟨G,2,none⟩ (.slice A2 s.lines.length c2)).setCell ⟨G,3,none⟩ (.slice none 0 0)).setCell ⟨G,4,none⟩ (.int .i64 s.pipe)) (zA s Al cl Ai ci Ab cb) s G (.slice A2 s.lines.length c2) (.slice none 0 0) []):=by
    refine⟨WK.o.kept US (by simp; omega),WJ.o.kept US (by simp; omega),h5,vk.kept US (Zj vk fun r e c f hh=>?_),yJ _ _ _ _,ep.o.grown US ep.o.size (fun k e=>by simp at e; omega),by omega⟩;obtain rfl:G=r:=by simpa using e
    have hb:=b3;unfold Blk at hb;rw[hb] at hh;injection hh with hh;injection hh with _ hh _;exact absurd hh (by decide)
  clear vk h5 US b3 U8 ep WK WJ hF aJ u0 u4 u5 u6 zy sL dZ iw;have fS:=hBo.o.d0.cell 11;simp only[aG,aH,aD] at fS;go_wp2_with (exact zX);clear f0 f1 f2 f3 f4 c0 c1 cc2 c3 c4;generalize (((((w8.setCell ⟨G,0,none⟩ (.string s.name)).setCell ⟨G,1,none⟩ (.int .i64 s.len)).setCell ⟨G,2,none⟩ (.slice A2 s.lines.length c2)).setCell ⟨G,3,none⟩ (.slice none 0 0)).setCell ⟨G,4,none⟩ (.int .i64 s.pipe))=W9 at*
  have vf:=fun (x:ItemT) (h:0≤x.pos∧x.pos≤1048576∧1≤x.width∧x.width≤1048576) W=>En x W h;have vw0:=zh vf;clear vf;go_loopw [4] (fun ix wr=>∃k:Nat,k≤s.items.length∧ix=.int .i64 k∧Y0 (∃v3,BoS w wr (zA s Al cl Ai ci Ab cb) s G (.slice A2 s.lines.length c2) v3 ((s.items.map cU).take k))) (fun ix _=>s.items.length-(intOf ix).toNat)
  case atStart=>exact⟨0,yI _,rfl,⟨_,hBo.o⟩⟩
  clear hBo fS;obtain⟨k,hk,rfl,HTx⟩:=hrel;obtain⟨v3,hT⟩:=HTx.o;have HT:=zh hT;clear hT HTx;have k0:(0:Int)≤(k:Int):=yE _;by_cases ay:k<s.items.length
  · have k1:(k:Int)<(s.items.length:Int):=by omega
    obtain⟨b1,bX,rfl,ak,hc⟩:=HI.o k ay;have ai:=HT.o.bel;have y0:=(hc k ay).1;have y1:=(hc k ay).2.1;have y2:=(hc k ay).2.2.1;have y3:=(hc k ay).2.2.2.1;have y4:=(hc k ay).2.2.2.2.1;have y5:=(hc k ay).2.2.2.2.2.1;have y6:=(hc k ay).2.2.2.2.2.2;have hx:=HX.o _ (yV ay);have HY:Y0 ((s.items.map cU).take (k+1)=(s.items.map cU).take k++[cU s.items[k]]):=by
      unfold Y0;rw[aY _ k (by simpa using ay)];simp
    have GV:((s.items.map cU).take k).length≤1000:=by
      rw[YA,yP];omega
    have BU:Y0 (((s.items.map cU).take k).length=k):=by
      unfold Y0;rw[YA,yP];omega
    have vf:=vw0.o s.items[k] (by omega);generalize s.items[k]=x at*;obtain⟨nm,pos,width,wt,hang,front,back⟩:=x;simp only at y0 y1 y2 y3 y4 y5 y6 vf;have GY:cU ⟨nm,pos,width,wt,hang,front,back⟩=⟨C3 ⟨nm,pos,width,wt,hang,front,back⟩,wt⟩:=rfl;rw[GY] at HY;clear GY;generalize C3 ⟨nm,pos,width,wt,hang,front,back⟩=mid at*;obtain⟨A3,k3,hv3⟩:=lO HT.o.o3;rw[BU.o] at hv3;generalize Ps:(s.items.map cU).take k=ys at*
    have T0:BoS w wr.drew (zA s Al cl (some ⟨b1,bX,none⟩) ci Ab cb) s G (.slice A2 s.lines.length c2) v3 ys:=HT.o.below ((yB _ _).drew);have T1:=T0.below ((yB _ _).alloc (yA _) (.cells #[.string nm,.int .i64 pos,.int .i64 width,.int .i64 wt,.int .i64 hang,.int .i64 front,.int .i64 back] 52));have T2:=T1.below ((yB _ _).alloc (yA _) (.cells #[.int .i64 mid,.int .i64 wt] 40));obtain⟨w2,GX⟩:=zo ((wr.drew.alloc (.cells #[.string nm,.int .i64 pos,.int .i64 width,.int .i64 wt,.int .i64 hang,.int .i64 front,.int .i64 back] 52)).alloc (.cells #[.int .i64 mid,.int .i64 wt] 40))
    have hN:Blk w2 (wr.heap.size+1) 40 #[.int .i64 mid,.int .i64 wt]:=by
      have h:=Blk.new (wr.drew.alloc (.cells #[.string nm,.int .i64 pos,.int .i64 width,.int .i64 wt,.int .i64 hang,.int .i64 front,.int .i64 back] 52)) 40 #[.int .i64 mid,.int .i64 wt];rw[yZ,GX] at h;exact h
    rw[GX] at T2;obtain⟨i0,jB,hH,jb,km⟩:=info_parts mT;have aK:w2.ownsRow w.heap.size 40 2 v3 k (ys.flatMap LoadT.cells):=by have h:=T2.o3; rw[BU.o] at h; exact h
    obtain⟨g3,jn,wz,kA,Oe,vh,-,-⟩ := run_append_lies (P := Tryz.prog) (w := w2) 41 41 w.heap.size 40 i0 _ 2 16 Tryz.underlying41 jB hH jb km rfl (by decide)
      v3 k (ys.flatMap LoadT.cells) aK ⟨wr.heap.size+1,0,none⟩ 1 1 [.int .i64 mid,.int .i64 wt] rfl
      (fun j u hu=>by rw[Addr.add_lit,yR]; exact (hN.cell j).trans (by simpa using hu)) (fun u hu=>by simp at hu; rcases hu with rfl|rfl <;> rfl) (by omega) (by unfold maxLen; omega) (by omega) T2.bel.size _ rfl
    have T4:=T2.push (v':=.slice (some ⟨g3,0,none⟩) (k+1) jn) (w1:=wz) (y:=⟨mid,wt⟩) (by rw[BU.o]; exact Oe) vh;have hZ2:=T4.1;have hbZ:Below w.heap.size w wz:=T2.bel.grown vh T2.bel.size (fun k e=>(aK.lt k e).1);have hZ0:=T2.d0.kept vh (T2.d0.ne_own aK (by decide));rw[hv3] at kA T0 T1 T2 hZ2;obtain⟨Wd,hW0,vj,vJ,Kv,hW4⟩:∃Wd:Nat→World,Wd 0=wr.drew∧Wd 1=wr.drew.alloc (.cells #[.string nm,.int .i64 pos,.int .i64 width,.int .i64 wt,.int .i64 hang,.int .i64 front,.int .i64 back] 52)∧Wd 2=w2∧Wd 3=wz∧Wd 4=wz.setCell ⟨G,3,none⟩ (.slice (some ⟨g3,0,none⟩) (k+1) jn) :=
      ⟨fun m=>if m=0 then wr.drew else if m=1 then wr.drew.alloc (.cells #[.string nm,.int .i64 pos,.int .i64 width,.int .i64 wt,.int .i64 hang,.int .i64 front,.int .i64 back] 52) else if m=2 then w2 else if m=3 then wz else wz.setCell ⟨G,3,none⟩ (.slice (some ⟨g3,0,none⟩) (k+1) jn),rfl,rfl,rfl,rfl,rfl⟩
    have Ku:∀m,m≤4→Below w.heap.size w (Wd m)∧Blk (Wd m) w.heap.size 26 (zA s Al cl (some ⟨b1,bX,none⟩) ci Ab cb):=fun m hm=>by
      rcases m with _|_|_|_|_|m
      · rw[hW0]; exact⟨T0.bel,T0.d0⟩
      · rw[vj]; exact⟨T1.bel,T1.d0⟩
      · rw[vJ]; exact⟨T2.bel,T2.d0⟩
      · rw[Kv]; exact⟨hbZ,hZ0⟩
      · rw[hW4]; exact⟨T4.2.bel,T4.2.d0⟩
      omega
    have c11:∀m,m≤4→(Wd m).cell? ⟨w.heap.size,11,none⟩=some (.slice (some ⟨b1,bX,none⟩) s.items.length ci):=fun m hm=>((Ku m hm).2.cell 11).trans rfl;have x0:∀m,m≤4→(Wd m).cell? ⟨b1,bX+k*7,none⟩=some (.string nm):=fun m hm=>((Ku m hm).1.cell (p:=⟨b1,bX+k*7,none⟩) ak).trans y0;have x1:∀m,m≤4→(Wd m).cell? ⟨b1,bX+k*7+1,none⟩=some (.int .i64 pos):=fun m hm=>((Ku m hm).1.cell (p:=⟨b1,bX+k*7+1,none⟩) ak).trans y1
    have x2:∀m,m≤4→(Wd m).cell? ⟨b1,bX+k*7+2,none⟩=some (.int .i64 width):=fun m hm=>((Ku m hm).1.cell (p:=⟨b1,bX+k*7+2,none⟩) ak).trans y2;have x3:∀m,m≤4→(Wd m).cell? ⟨b1,bX+k*7+3,none⟩=some (.int .i64 wt):=fun m hm=>((Ku m hm).1.cell (p:=⟨b1,bX+k*7+3,none⟩) ak).trans y3;have x4:∀m,m≤4→(Wd m).cell? ⟨b1,bX+k*7+4,none⟩=some (.int .i64 hang):=fun m hm=>((Ku m hm).1.cell (p:=⟨b1,bX+k*7+4,none⟩) ak).trans y4
    have x5:∀m,m≤4→(Wd m).cell? ⟨b1,bX+k*7+5,none⟩=some (.int .i64 front):=fun m hm=>((Ku m hm).1.cell (p:=⟨b1,bX+k*7+5,none⟩) ak).trans y5;have x6:∀m,m≤4→(Wd m).cell? ⟨b1,bX+k*7+6,none⟩=some (.int .i64 back):=fun m hm=>((Ku m hm).1.cell (p:=⟨b1,bX+k*7+6,none⟩) ak).trans y6;have d3:∀m,m≤2→(Wd m).cell? ⟨G,3,none⟩=some (.slice A3 k k3):=fun m hm=>by
      rcases m with _|_|_|m
      · rw[hW0]; exact (T0.d2.cell 3).trans rfl
      · rw[vj]; exact (T1.d2.cell 3).trans rfl
      · rw[vJ]; exact (T2.d2.cell 3).trans rfl
      omega
    have hz3:wz.cell? ⟨G,3,none⟩=some (.slice A3 k k3):=(hZ2.cell 3).trans rfl;have hf3:=hZ2.frozen 3;have W0:=zh hW0;have W4:=zh hW4;have KV:=zh T4.2;have H2:=zh GX;have HO0:=zh HT.o.d0;have fS:=HT.o.d0.cell 11;simp only[aG,aH,aD] at fS;clear T0 T1 T2 T4 Ku hZ0 hZ2 hbZ Oe vh hN jB hH jb km aK HT GX Ps hv3 hc ai hx;go_upto_region 5 with fail;clear fS;refine lI [.pointer (some ⟨G,3,none⟩),.slice A3 k k3,.pointer (some ⟨w.heap.size,11,none⟩),.slice (some ⟨b1,bX,none⟩) s.items.length ci,.int .i64 k,.pointer (some ⟨b1,bX+k*7,none⟩),.agg #[.string nm,.int .i64 pos,.int .i64 width,.int .i64 wt,.int .i64 hang,.int .i64 front,.int .i64 back],.int .i64 mid,
      .pointer (some ⟨w.heap.size,11,none⟩),.slice (some ⟨b1,bX,none⟩) s.items.length ci,.int .i64 k,.pointer (some ⟨b1,bX+k*7,none⟩),.pointer (some ⟨b1,bX+k*7+3,none⟩),.int .i64 wt,.agg #[.int .i64 mid,.int .i64 wt],.slice (some ⟨wr.heap.size+1,0,none⟩) 1 1,.slice (some ⟨g3,0,none⟩) (k+1) jn,.pointer (some ⟨G,3,none⟩),undef] Wd [7,15,16,18] (by kernel_rfl) (by kernel_rfl) (by kernel_rfl) (by decide) (by rfl) W0.o ?_ ?_
    · simp only[bD,Act.put,aC,aB,aA]
      simp only[mq];refine⟨?_,?_,?_,?_,?_,?_,?_,?_,?_,?_,?_,?_,?_,?_,?_,?_,?_,?_,?_,trivial⟩
      · exact .inl ⟨by decide,fun m hm bL=>by go_simp⟩
      · exact .inl ⟨by decide,fun m hm bL=>by
          have Mf:m≤2:=by
            rcases m with _|_|_|_|_|m
            · omega
            · omega
            · omega
            · exact absurd (Eq.trans (a:=false) (by kernel_rfl) bL) Bool.false_ne_true
            · exact absurd (Eq.trans (a:=false) (by kernel_rfl) bL) Bool.false_ne_true
            exact absurd hm (by show ¬m+5≤4; omega)
          have h:=d3 m Mf;go_simp⟩
      · exact .inl ⟨by decide,fun m hm bL=>by go_simp⟩
      · exact .inl ⟨by decide,fun m hm bL=>by have h:=c11 m hm; go_simp⟩
      · exact .inl ⟨by decide,fun m hm bL=>by go_simp⟩
      · exact .inl ⟨by decide,fun m hm bL=>by go_simp⟩
      · exact .inl ⟨by decide,fun m hm bL=>by have h0:=x0 m hm; have h1:=x1 m hm; have h2:=x2 m hm; have h3:=x3 m hm; have h4:=x4 m hm; have h5:=x5 m hm; have h6:=x6 m hm; go_simp⟩
      · exact .inr ⟨0,rfl,.inr (.inr ⟨138,#[.agg #[.string nm,.int .i64 pos,.int .i64 width,.int .i64 wt,.int .i64 hang,.int .i64 front,.int .i64 back]],by rw[W0.o]; go_simp,(vf (Wd 0)).mono fun e w' hp=>⟨hp.1,by rw[←hp.2,W0.o]; exact vj.symm⟩⟩)⟩
      · exact .inl ⟨by decide,fun m hm bL=>by go_simp⟩
      · exact .inl ⟨by decide,fun m hm bL=>by have h:=c11 m hm; go_simp⟩
      · exact .inl ⟨by decide,fun m hm bL=>by go_simp⟩
      · exact .inl ⟨by decide,fun m hm bL=>by go_simp⟩
      · exact .inl ⟨by decide,fun m hm bL=>by go_simp⟩
      · exact .inl ⟨by decide,fun m hm bL=>by have h:=x3 m hm; go_simp⟩
      · exact .inl ⟨by decide,fun m hm bL=>by go_simp⟩
      · exact .inr ⟨1,rfl,.inr (.inl (by rw[vj,vJ,←H2.o]; go_simp))⟩
      · exact .inr ⟨2,rfl,.inr (.inl (by rw[vJ,Kv]; exact ng rfl (by go_simp) (by go_simp) kA))⟩
      · exact .inl ⟨by decide,fun m hm bL=>by go_simp⟩
      exact .inr ⟨3,rfl,.inl ⟨rfl,by rw[Kv,W4.o]; go_simp⟩⟩
    simp only[bD,Act.put,aC,aB,aA];have eW:Wd (List.length [7,15,16,18])=wz.setCell ⟨G,3,none⟩ (.slice (some ⟨g3,0,none⟩) (k+1) jn):=W4.o;rw[eW];clear eW W4 W0 vj vJ Kv c11 x0 x1 x2 x3 x4 x5 x6 d3 hz3 hf3 kA H2 HO0 vf;generalize wz.setCell ⟨G,3,none⟩ (.slice (some ⟨g3,0,none⟩) (k+1) jn)=W9 at*;go_wp2_with fail;go_roundw
    case rel=>exact⟨k+1,by omega,by go_num,⟨_,by rw[HY.o]; exact KV.o⟩⟩
    simp[intOf]; omega
  obtain rfl:k=s.items.length:=by omega
  have hT:=HT.o;rw[List.take_of_length_le (by simp)] at hT;obtain⟨A3,c3,rfl⟩:=lO hT.o3;have y0:=hT.d2.cell 0;have y1:=hT.d2.cell 1;have y2:=hT.d2.cell 2;have y3:=hT.d2.cell 3;have y4:=hT.d2.cell 4;have x11:=hT.d0.cell 11;simp only[aG,aH,aD] at x11;have z0:=hT.d1.cell 0;have z1:=hT.d1.cell 1;have z2:=hT.d1.cell 2;have z3:=hT.d1.cell 3;have z4:=hT.d1.cell 4;have f0:=hT.d1.frozen 0;have f1:=hT.d1.frozen 1
  have f2:=hT.d1.frozen 2;have f3:=hT.d1.frozen 3;have f4:=hT.d1.frozen 4;simp only[aG,aH,aD] at y0 y1 y2 y3 y4 z0 z1 z2 z3 z4;have HT:=zh hT;clear hT;have YY:Blk (((((wr.setCell ⟨w.heap.size+1,0,none⟩ (.string s.name)).setCell ⟨w.heap.size+1,1,none⟩ (.int .i64 s.len)).setCell ⟨w.heap.size+1,2,none⟩ (.slice A2 s.lines.length c2)).setCell ⟨w.heap.size+1,3,none⟩ (.slice A3 (s.items.map cU).length c3)).setCell ⟨w.heap.size+1,4,none⟩ (.int .i64 s.pipe)) (w.heap.size+1) 43 #[.string s.name,.int .i64 s.len,.slice A2 s.lines.length c2,.slice A3 (s.items.map cU).length c3,.int .i64 s.pipe]:=((((HT.o.d1.set_ 0 (.string s.name)).set_ 1 (.int .i64 s.len)).set_ 2 (.slice A2 s.lines.length c2)).set_ 3 (.slice A3 (s.items.map cU).length c3)).set_ 4 (.int .i64 s.pipe)
  have Mt:=kL wr (w.heap.size+1) (.string s.name) (.int .i64 s.len) (.slice A2 s.lines.length c2) (.slice A3 (s.items.map cU).length c3) (.int .i64 s.pipe);have hB9 := HT.o.bel.grown Mt HT.o.bel.size (fun k e=>by
   obtain rfl:w.heap.size + 1=k := by simpa using e
   omega)
  have C8:=HT.o.o2.kept Mt (Zj HT.o.o2 fun r e c f hh=>by
    obtain rfl:w.heap.size+1=r:=by simpa using e
    have h:=HT.o.d1;unfold Blk at h;rw[h] at hh;injection hh with hh;injection hh with _ hh _;exact absurd hh (by decide))
  have ho3:=HT.o.o3.kept Mt (Zj HT.o.o3 fun r e c f hh=>by
    obtain rfl:w.heap.size+1=r:=by simpa using e
    have h:=HT.o.d1;unfold Blk at h;rw[h] at hh;injection hh with hh;injection hh with _ hh _;exact absurd hh (by decide))
  have HO2:=zh C8;have HO3:=zh ho3;have nG:=zh hB9;have zR:=zh YY;clear C8 ho3 hB9 YY Mt;have p0:=zR.o.cell 0;have p1:=zR.o.cell 1;have p2:=zR.o.cell 2;have p3:=zR.o.cell 3;have p4:=zR.o.cell 4;simp only[aG,aH,aD] at p0 p1 p2 p3 p4;rw[yP] at*;go_wp2_with fail;refine YF (v:=.agg #[.string s.name,.int .i64 s.len,.slice A2 s.lines.length c2,.slice A3 s.items.length c3,.int .i64 s.pipe]) (by simp[results,Tryz.results99,go_sem,p0,p1,p2,p3,p4]) rfl ?_
  exact⟨nG.o,_,rfl,A2,c2,A3,c3,by simp[eZ],RowAt.of_own HO2.o,by
    have h:=Flat.of_own HO3.o;unfold LoadsAt;simpa[eZ] using h⟩
def cN (f:Nat→Nat):Nat→Nat
 | 0=>0
 | k+1=>cN f k+16777216^k*f k
def dq (L:List Nat) (i:Nat):Nat:=L.getD i 0
def gv (L:List Nat):Nat:=cN (dq L) L.length
def Gok (L:List Nat):Prop:=∀x∈L,x<16777216
def vxb (L:List Nat):Prop:=L≠[]→dq L (L.length-1)≠0
theorem eX (k:Nat):0<16777216^k:=Nat.pow_pos (by decide)
theorem oQ {L:List Nat} {i:Nat} (h:i<L.length):dq L i=L[i]:=by unfold dq;rw[List.getD_eq_getElem?_getD,List.getElem?_eq_getElem h];rfl
theorem tG {L:List Nat} {i:Nat} (h:L.length≤i):dq L i=0:=by unfold dq;rw[List.getD_eq_getElem?_getD,List.getElem?_eq_none h];rfl
theorem M6 {L:List Nat} (h:Gok L) (i:Nat):dq L i<16777216:=by
 by_cases hi:i<L.length
 ·rw[oQ hi];exact h _ (yV hi)
 rw[tG (by omega)];decide
theorem qJ {f g:Nat→Nat}:∀ {k:Nat},(∀i,i < k→f i=g i)→cN f k=cN g k
 | 0,_=>rfl
 | k+1,h=>by
  show cN f k+_=cN g k+_;rw[qJ (k:=k) fun i hi=>h i (by omega),h k (by omega)]
theorem vL {f:Nat→Nat} (h:∀i,f i < 16777216):∀k,cN f k < 16777216^k
 | 0=>Nat.one_pos
 | k+1=>by
  have ih:=vL h k;have hk:=h k;have h1:16777216^k*f k≤16777216^k*16777215:=Nat.mul_le_mul_left _ (by omega);show cN f k+16777216^k*f k<16777216^(k+1);rw[yW];omega
theorem qjp:gv []=0:=rfl
theorem Gok.take {L:List Nat} (h:Gok L) (k:Nat):Gok (L.take k):=fun x hx=>h x (List.mem_of_mem_take hx)
theorem yy {L:List Nat} {i j x:Nat} (hi:i<L.length):dq (L.set i x) j=if j=i then x else dq L j:=by
 unfold dq;rw[yN,yN,List.getElem?_set];by_cases e:i=j
 ·subst e;simp[hi]
 rw[if_neg e,if_neg (fun h=>e h.symm)]
theorem FU {L:List Nat} {i x:Nat} (hi:i<L.length):∀k,k≤i→cN (dq (L.set i x)) k=cN (dq L) k:=fun k hk=>
 qJ fun j hj=>by rw[yy hi,if_neg (by omega)]
theorem u9 {L:List Nat} {i x:Nat} (hi:i < L.length):∀k,i < k→cN (dq (L.set i x)) k + 16777216^i * dq L i=cN (dq L) k + 16777216^i * x
 | 0,h=>by omega
 | k+1,h=>by
  show cN (dq (L.set i x)) k+16777216^k*dq (L.set i x) k+_=cN (dq L) k+16777216^k*dq L k+_;by_cases e:i=k
  ·subst e;rw[FU hi i (yA _),yy hi,if_pos rfl];omega
  have ih:=u9 (x:=x) hi k (by omega);rw[yy hi,if_neg (by omega)];omega
theorem Gok.set {L:List Nat} (h:Gok L) (i:Nat) {x:Nat} (hx:x<16777216):Gok (L.set i x):=fun y hy=>by
 rcases List.mem_or_eq_of_mem_set hy with h1|h1
 ·exact h y h1
 omega
theorem Gok.zeros (n:Nat):Gok (List.replicate n 0):=fun x hx=>by rw[List.eq_of_mem_replicate hx];decide
theorem KF (n i:Nat):dq (List.replicate n 0) i=0:=by
 by_cases h:i<n
 ·rw[oQ (by simpa using h)];simp
 exact tG (by simpa using h)
theorem yc (n:Nat):∀k,cN (dq (List.replicate n 0)) k=0
 | 0=>rfl
 | k+1=>by
  show cN _ k+16777216^k*dq _ k=0;rw[KF,yc n k,Nat.mul_zero]
theorem Ve {O:List Nat} {n p x y cy R:Nat} (hp:p<O.length) (hn:O.length=n) (h:cN (dq O) n+16777216^p*cy=R) :
  cN (dq (O.set p ((x*y+dq O p+cy)%16777216))) n+16777216^(p+1)*((x*y+dq O p+cy)/16777216)=R+16777216^p*(x*y):=by
 have h1:=u9 (L:=O) (x:=(x*y+dq O p+cy)%16777216) hp n (by omega);have h2:16777216^p*((x*y+dq O p+cy)%16777216)+16777216^(p+1)*((x*y+dq O p+cy)/16777216)=16777216^p*(x*y+dq O p+cy):=by
  rw[yW,yY,←yX];congr 1
  have:=YI (x*y+dq O p+cy) 16777216;omega
 have h3:16777216^p*(x*y+dq O p+cy)=16777216^p*(x*y)+16777216^p*dq O p+16777216^p*cy:=by rw[yX,yX]
 generalize 16777216^p*((x*y+dq O p+cy)%16777216)=u at*;generalize 16777216^(p+1)*((x*y+dq O p+cy)/16777216)=v at*;generalize 16777216^p*(x*y)=z at*;generalize 16777216^p*dq O p=s at*;generalize 16777216^p*cy=t at*;omega
theorem Vf {i k a x y:Nat} {Y:Nat→Nat} (hy:y=Y k):a+16777216^i*(x*cN Y k)+16777216^(i+k)*(x*y)=a+16777216^i*(x*cN Y (k+1)):=by
 have e:cN Y (k+1)=cN Y k+16777216^k*Y k:=rfl;rw[e,hy,yX,yX,Nat.pow_add,Nat.add_assoc];congr 2
 rw[yY,Nat.mul_left_comm x]
theorem B4 {i b:Nat} {X:Nat→Nat}:cN X i*b+16777216^i*(X i*b)=cN X (i+1)*b:=by
 show _=(cN X i+16777216^i*X i)*b;rw[Nat.add_mul,yY]
def ax (Q j:Nat):Nat:=Q/16777216^j%16777216
theorem eP (Q j:Nat):ax Q j<16777216:=YJ _ (by decide)
theorem oL (Q:Nat):∀n,cN (ax Q) n=Q%16777216^n
 | 0=>by show 0=Q%1;omega
 | n+1=>by
  show cN (ax Q) n+16777216^n*ax Q n=_;rw[oL Q n,yW,Nat.mod_mul];rfl
def ag (x:Nat):Nat:=if _h:x=0 then 0 else ag (x/16777216)+1
termination_by x
decreasing_by omega
theorem gH:ag 0=0:=by rw[ag];rfl
theorem yq {x:Nat} (h:x≠0):ag x=ag (x/16777216)+1:=by rw[ag,dif_neg h]
theorem jc (x:Nat):x<16777216^ag x:=by
 induction x using Nat.strongRecOn with
 | _ x ih=>
  by_cases h:x=0
  ·subst h;rw[gH];decide
  rw[yq h,yW]
  have:=ih (x/16777216) (by omega);omega
theorem jd {x k:Nat} (h:x<16777216^k):ag x≤k:=by
 induction k generalizing x with
 | zero=>
  have:x=0:=by rw[Nat.pow_zero] at h;omega
  subst this;rw[gH];exact yA _
 | succ k ih=>
  by_cases hx:x=0
  ·subst hx;rw[gH];omega
  rw[yq hx]
  have:=ih (x:=x/16777216) (by rw[yW] at h;rw[Nat.div_lt_iff_lt_mul (by decide)];exact h);omega
theorem dj {x k:Nat}:x<16777216^k↔ag x≤k:=⟨jd,fun h=>yK (jc x) (Nat.pow_le_pow_right (by decide) h)⟩
def bY (x k:Nat):List Nat:=(List.range k).map (ax x)
def OA (x:Nat):List Nat:=bY x (ag x)
theorem bO (x k:Nat):(bY x k).length=k:=by unfold bY;rw[List.length_map,List.length_range]
theorem yt (x:Nat):(OA x).length=ag x:=bO _ _
theorem Gn (x k:Nat):bY x (k+1)=bY x k++[ax x k]:=by unfold bY;rw[List.range_succ,List.map_append];rfl
theorem BF {x k i:Nat} (h:i<k):dq (bY x k) i=ax x i:=by
 rw[oQ (by rw[bO];exact h)];simp[bY]
theorem CM {x i:Nat} (h:ag x≤i):ax x i=0:=by
 unfold ax;rw[Nat.div_eq_of_lt (dj.2 h)]
theorem M4 (x i:Nat):dq (OA x) i=ax x i:=by
 by_cases h:i<ag x
 ·exact BF h
 rw[tG (by rw[yt];omega),CM (by omega)]
theorem O9 {x k:Nat} (h:ag x≤k):gv (bY x k)=x:=by
 unfold gv;rw[bO,qJ (g:=ax x) (fun i hi=>BF hi),oL,Nat.mod_eq_of_lt (dj.2 h)]
theorem Z6 (x:Nat):gv (OA x)=x:=O9 (yA _)
theorem FV {f:Nat→Nat} (hf:∀i,f i < 16777216) {i:Nat}:∀k,i < k→ax (cN f k) i=f i
 | 0,h=>by omega
 | k+1,h=>by
  have e:cN f (k+1)=cN f k+16777216^k*f k:=rfl;have ao:=vL hf k;by_cases hik:i<k
  ·have ih:=FV hf k hik;unfold ax at*;have hp:16777216^k=16777216^i*(16777216*16777216^(k-i-1)):=by
    rw[←Nat.pow_succ',←Nat.pow_add];congr 1
    omega
   rw[e,hp,yY,Nat.add_mul_div_left _ _ (eX i),yY,Nat.add_mul_mod_self_left,ih]
  obtain rfl:i=k:=by omega
  unfold ax;rw[e,Nat.add_mul_div_left _ _ (eX i),Nat.div_eq_of_lt ao,yR,Nat.mod_eq_of_lt (hf i)]
theorem NR {L:List Nat} (h:Gok L):L=bY (gv L) L.length:=by
 refine List.ext_getElem (by rw[bO]) fun i h1 h2=>?_;have e:(bY (gv L) L.length)[i]=ax (gv L) i:=by simp[bY]
 rw[e];unfold gv;rw[FV (M6 h) _ h1,oQ h1]
theorem Gm {x:Nat}:OA x=[]↔x=0:=by
 constructor
 ·intro h
  have:=Z6 x;rw[h,qjp] at this;exact this.symm
 rintro rfl;unfold OA;rw[gH];rfl
theorem O8 (x:Nat):vxb (OA x):=fun dL=>by
 rw[yt,M4];have hx:x≠0:=fun e=>dL (Gm.2 e);obtain⟨k,hk⟩:∃k,ag x=k+1:=⟨ag (x/16777216),yq hx⟩;rw[hk,Nat.add_sub_cancel];intro h0;have h1:=oL x (k+1);rw[Nat.mod_eq_of_lt (dj.2 (by omega))] at h1;have h2:cN (ax x) (k+1)=cN (ax x) k+16777216^k*ax x k:=rfl;rw[h0,Nat.mul_zero,Nat.add_zero] at h2;have h3:=vL (eP x) k
 have:ag x≤k:=jd (by omega);omega
theorem cj {x y:Nat} (h:x≤y):ag x≤ag y:=jd (Nat.lt_of_le_of_lt h (jc y))
def eo (m n i:Nat):Nat:=(m%16777216^i+n%16777216^i)/16777216^i
theorem KI (m n:Nat):eo m n 0=0:=by unfold eo;rw[Nat.pow_zero,Nat.mod_one,Nat.mod_one]
theorem Gx (m n i:Nat):eo m n i≤1:=by
 unfold eo;have h1:=YJ m (eX i);have h2:=YJ n (eX i)
 have:(m%16777216^i+n%16777216^i)/16777216^i<2:=by
  rw[Nat.div_lt_iff_lt_mul (eX i)];omega
 omega
theorem rO (m i:Nat):m%16777216^(i+1)=m%16777216^i+16777216^i*ax m i:=by
 rw[yW,Nat.mod_mul];rfl
theorem Nn (P m n:Nat) (hP:0<P):(m+n)/P=m/P+n/P+(m%P+n%P)/P:=by
 have e:m+n=(m%P+n%P)+P*(m/P+n/P):=by
  have e1:=YI m P;have e2:=YI n P;rw[yX];omega
 rw[e,Nat.add_mul_div_left _ _ hP];omega
theorem T8 (m n i:Nat):(ax m i+ax n i+eo m n i)%16777216=ax (m+n) i:=by
 unfold ax eo;rw[Nn _ m n (eX i)];omega
theorem Ka (m n i:Nat):(ax m i+ax n i+eo m n i)/16777216=eo m n (i+1):=by
 have e:eo m n (i+1)=(m%16777216^i+n%16777216^i+16777216^i*(ax m i+ax n i))/(16777216^i*16777216):=by
  unfold eo;rw[rO,rO,yW,yX];congr 1
  omega
 rw[e,←YB,Nat.add_mul_div_left _ _ (eX i)];unfold eo;congr 1
 omega
theorem XZ (m n i:Nat):(i<ag m∨i<ag n∨0<eo m n i)↔i<ag (m+n):=by
 have h1:=cj (Nat.le_add_right m n);have h2:=cj (Nat.le_add_left n m);constructor
 ·rintro (h|h|h)
  ·omega
  ·omega
  rcases Nat.lt_or_ge i (ag (m+n)) with h3|h3
  ·exact h3
  exfalso
  have h4:=dj.2 h3;unfold eo at h;rw[Nat.mod_eq_of_lt (by omega),Nat.mod_eq_of_lt (by omega),Nat.div_eq_of_lt h4] at h;exact absurd h (by decide)
 intro h;by_cases h3:i<ag m
 ·exact .inl h3
 by_cases h4:i<ag n
 ·exact .inr (.inl h4)
 refine .inr (.inr ?_);have h5:=dj.2 (show ag m≤i by omega);have h6:=dj.2 (show ag n≤i by omega);unfold eo;rw[Nat.mod_eq_of_lt h5,Nat.mod_eq_of_lt h6];rcases Nat.lt_or_ge (m+n) (16777216^i) with h7|h7
 ·have:=dj.1 h7;omega
 exact Nat.div_pos h7 (eX i)
def fO (m n i:Nat):Nat:=if m%16777216^i<n%16777216^i then 1 else 0
theorem G1 (m n:Nat):fO m n 0=0:=by unfold fO;rw[Nat.pow_zero,Nat.mod_one,Nat.mod_one];rfl
theorem BM (m n i:Nat):fO m n i≤1:=by unfold fO;split <;> omega
theorem Nm (P m n:Nat) (hP:0<P) (h:n≤m):(m-n)/P+n/P+(if m%P<n%P then 1 else 0)=m/P:=by
 have e1:=YI m P;have e2:=YI n P;have e3:=YJ m hP;have e4:=YJ n hP;have e5:=Nat.div_le_div_right (c:=P) h;split
 ·rename_i hb
  have ao:n/P<m/P:=by
   rcases Nat.lt_or_ge (n/P) (m/P) with h1|h1
   ·exact h1
   exfalso
   have:P*(n/P)=P*(m/P):=by rw[show n/P=m/P by omega]
   omega
  obtain⟨k,hk⟩:∃k,m/P=n/P+k+1:=⟨m/P-n/P-1,by omega⟩;have e6:P*(m/P)=P*(n/P)+P*k+P:=by rw[hk,yX,yX,Nat.mul_one]
  have e7:m-n=(P+m%P-n%P)+P*k:=by omega
  rw[e7,Nat.add_mul_div_left _ _ hP,Nat.div_eq_of_lt (by omega)];omega
 rename_i hb
 obtain⟨k,hk⟩:∃k,m/P=n/P+k:=⟨m/P-n/P,by omega⟩;have e6:P*(m/P)=P*(n/P)+P*k:=by rw[hk,yX]
 have e7:m-n=(m%P-n%P)+P*k:=by omega
 rw[e7,Nat.add_mul_div_left _ _ hP,Nat.div_eq_of_lt (by omega)];omega
theorem NM {m n:Nat} (h:n≤m) (i:Nat) :
  (ax m i:Int)-ax n i-fO m n i=(ax (m-n) i:Int)-(if (ax m i:Int)-ax n i-fO m n i<0 then 16777216 else 0):=by
 have e:=Nm _ m n (eX i) h;have ko:=BM m n i;unfold ax fO at*;generalize (m-n)/16777216^i=u at*;generalize n/16777216^i=v at*;generalize m/16777216^i=z at*;generalize (if m%16777216^i<n%16777216^i then 1 else 0)=b at*;split <;> omega
theorem C2 {m n:Nat} (i:Nat):fO m n (i+1)=if (ax m i:Int)-ax n i-fO m n i<0 then 1 else 0:=by
 have e1:=YJ m (eX i);have e2:=YJ n (eX i);unfold fO;rw[rO,rO];generalize 16777216^i=P at*;generalize m%P=m0 at*;generalize n%P=n0 at*;rcases Nat.lt_trichotomy (ax m i) (ax n i) with h|h|h
 ·obtain⟨k,hk⟩:∃k,ax n i=ax m i+k+1:=⟨ax n i-ax m i-1,by omega⟩;have e:P*ax n i=P*ax m i+P*k+P:=by rw[hk,yX,yX,Nat.mul_one]
  rw[if_pos (by omega),if_pos (by split <;> omega)]
 ·rw[h];by_cases hb:m0<n0
  ·rw[if_pos (by omega),if_pos hb,if_pos (by omega)]
  rw[if_neg (by omega),if_neg hb,if_neg (by omega)]
 obtain⟨k,hk⟩:∃k,ax m i=ax n i+k+1:=⟨ax m i-ax n i-1,by omega⟩;have e:P*ax m i=P*ax n i+P*k+P:=by rw[hk,yX,yX,Nat.mul_one]
 rw[if_neg (by omega),if_neg (by split <;> omega)]
theorem UM (m i:Nat):(ax m i+m/16777216^(i+1)%2*16777216)/2=ax (m/2) i:=by
 unfold ax;rw[YB,Nat.mul_comm 2,←YB,yW,←YB];generalize m/16777216^i=z;omega
theorem Om (m i:Nat):(ax m i+m/16777216^(i+1)%2*16777216)%2=m/16777216^i%2:=by
 unfold ax;rw[yW,←YB];generalize m/16777216^i=z;omega
theorem qjw {m n i:Nat} (h:m/16777216^(i+1)=n/16777216^(i+1)) (hd:ax m i=ax n i):m/16777216^i=n/16777216^i:=by
 rw[yW,←YB,←YB] at h;unfold ax at hd;omega
theorem VG {m n i:Nat} (h:m/16777216^(i+1)=n/16777216^(i+1)) (hd:ax m i<ax n i):m<n:=by
 rw[yW,←YB,←YB] at h;unfold ax at hd;rcases Nat.lt_or_ge m n with h1|h1
 ·exact h1
 have:=Nat.div_le_div_right (c:=16777216^i) h1;omega
theorem ZH {m n:Nat} (h:ag m<ag n):m<n:=by
 rcases Nat.lt_or_ge m n with h1|h1
 ·exact h1
 have:=cj h1;omega
theorem Vt (m:Nat):ax m 0%2=m%2:=by unfold ax;rw[Nat.pow_zero,Nat.div_one];omega
open Go.RowKit Go.Shelf
def qb (d:Nat):Value:=.int .i64 d
def TyD (w:World) (v:Value):Prop:=∀g,v.ownBlock=some g→∃cs r,w.heap[g]?=some (.cells cs 3 r)
def DgTo (w:World) (B:Nat) (v:Value) (x k:Nat):Prop:=RowAt qb w B v (bY x k)∧(0<k→TyD w v)
def dA (w:World) (B:Nat) (v:Value) (x:Nat):Prop:=DgTo w B v x (ag x)
theorem DgTo.below {w w':World} {B B':Nat} {v:Value} {x k:Nat} (h:DgTo w B v x k) (hb:Below B' w w') (hB:B≤B'):DgTo w' B v x k:=⟨Flat.below h.1 hb hB,fun hk g hg=>by
 obtain⟨cs,r,e⟩:=h.2 hk g hg;obtain⟨A,c,h1,-,-,h4⟩:=h.1;rw[bO] at h4;obtain⟨b,off,eA,ao,-⟩:=h4 hk;rw[h1,eA] at hg;obtain rfl:b=g:=by simpa[Value.ownBlock] using hg
 exact⟨cs,r,(hb.block b (yK ao hB)).trans e⟩⟩
theorem DgTo.mono {w:World} {B B':Nat} {v:Value} {x k:Nat} (h:DgTo w B v x k) (hB:B≤B'):DgTo w B' v x k:=⟨Flat.mono h.1 hB,h.2⟩
theorem DgTo.grow {w w':World} {v:Value} {x k:Nat} (h:DgTo w w.heap.size v x k) (hb:Below w.heap.size w w'):DgTo w' w'.heap.size v x k:=(h.below hb (yA _)).mono hb.size
theorem DgTo.open_ {w:World} {B:Nat} {v:Value} {x k:Nat} (h:DgTo w B v x k):∃A c,v=.slice A k c∧k≤c∧c≤maxLen∧∀i,i<k→∃b off,A=some ⟨b,off,none⟩∧b<B∧∀j,j<k→w.cell? ⟨b,off+j,none⟩=some (.int .i64 (ax x j:Nat)):=by
 obtain⟨A,c,h1,h2,h3,h4⟩:=h.1;rw[bO] at h1 h2 h4;refine⟨A,c,h1,h2,h3,fun i hi=>?_⟩;obtain⟨b,off,e,ao,hc⟩:=h4 (by omega);refine⟨b,off,e,ao,fun j hj=>hc j _ ?_⟩;rw[YC,yM (by rw[bO];exact hj)];simp[bY,qb]
theorem DgTo.take {w:World} {B k c:Nat} {A:Option Addr} {x m:Nat} (h:DgTo w B (.slice A k c) x k) (hm:m≤k):DgTo w B (.slice A m c) x m:=by
 refine⟨?_,fun h0 g hg=>h.2 (by omega) g (by cases A <;> exact hg)⟩;obtain⟨A',c',h1,h2,h3,h4⟩:=h.1;rw[bO] at h1 h2 h4;injection h1 with e1 e2 e3;subst e1 e3;refine⟨A,c,by rw[bO],by rw[bO];omega,h3,fun h0=>?_⟩;rw[bO] at h0;obtain⟨b,off,e,ao,hc⟩:=h4 (by omega);refine⟨b,off,e,ao,fun j u hu=>hc j u ?_⟩;rw[YC] at hu⊢;by_cases hj:j<m
 ·rw[yM (by rw[bO];exact hj)] at hu;rw[yM (by rw[bO];omega)];simp[bY] at hu⊢;exact hu
 rw[List.getElem?_eq_none (by rw[bO];omega)] at hu;simp at hu
theorem DgTo.short {w:World} {B:Nat} {v:Value} {x k m:Nat} (h:DgTo w B v x k) (e:k=m):DgTo w B v x m:=by rw[←e];exact h
theorem DgTo.kept {w w':World} {B e s n x k:Nat} {v u:Value} {xs:List Value} (h:DgTo w w.heap.size v x k) (ho:w.ownsRow B e s u n xs) (hg:w.grownBy w' u.ownBlock) (ht:e≠3):DgTo w' w'.heap.size v x k:=by
 obtain⟨A,c,h1,h2,h3,h4⟩:=h.1;rw[bO] at h1 h2 h4;have dL:∀b off,0<k→A=some ⟨b,off,none⟩→some b≠u.ownBlock:=fun b off hk eA he=>by
  obtain⟨cs,r,e1⟩:=h.2 hk b (by rw[h1,eA];rfl);rcases ho.2 with⟨rfl,_⟩|⟨g',cap,cur,rfl,_,hh,_⟩
  ·simp[Value.ownBlock] at he
  have:b=g':=by simpa[Value.ownBlock] using he
  subst this;rw[e1] at hh;injection hh with hh;injection hh with _ h5;exact ht h5.symm
 refine⟨⟨A,c,by rw[bO];exact h1,by rw[bO];exact h2,h3,fun hk=>?_⟩,fun hk g hgb=>?_⟩
 ·rw[bO] at hk;obtain⟨b,off,eA,ao,hc⟩:=h4 hk;exact⟨b,off,eA,yK ao hg.size,fun j y hy=>(World.cell?_of_block (a:=⟨b,off+j,none⟩) (hg.block b ao (dL b off hk eA))).trans (hc j y hy)⟩
 obtain⟨b,off,eA,ao,-⟩:=h4 hk;obtain⟨cs,r,e1⟩:=h.2 hk g hgb;rw[h1,eA] at hgb;obtain rfl:b=g:=by simpa[Value.ownBlock] using hgb
 exact⟨cs,r,(hg.block b ao (dL b off hk eA)).trans e1⟩
def BigAt (w:World) (B:Nat) (s:Bool) (v:Value) (n:Int):Prop:=s=decide (n<0)∧dA w B v n.natAbs
theorem BigAt.below {w w':World} {B B':Nat} {s:Bool} {v:Value} {n:Int} (h:BigAt w B s v n) (hb:Below B' w w') (hB:B≤B'):BigAt w' B s v n:=⟨h.1,DgTo.below h.2 hb hB⟩
theorem BigAt.mono {w:World} {B B':Nat} {s:Bool} {v:Value} {n:Int} (h:BigAt w B s v n) (hB:B≤B'):BigAt w B' s v n:=⟨h.1,DgTo.mono h.2 hB⟩
theorem BigAt.grow {w w':World} {s:Bool} {v:Value} {n:Int} (h:BigAt w w.heap.size s v n) (hb:Below w.heap.size w w'):BigAt w' w'.heap.size s v n:=(h.below hb (yA _)).mono hb.size
def ExqAt (w:World) (B:Nat) (x:Value) (q:Rat) (K:Nat):Prop :=
 ∃s1 v1 s2 v2 N D,x=.agg #[.bool s1,v1,.bool s2,v2]∧BigAt w B s1 v1 N∧BigAt w B s2 v2 D∧0<D∧ag N.natAbs≤K∧ag D.natAbs≤K∧q=Rat.divInt N D
theorem ExqAt.below {w w':World} {B B':Nat} {x:Value} {q:Rat} {K:Nat} (h:ExqAt w B x q K) (hb:Below B' w w') (hB:B≤B'):ExqAt w' B x q K:=by
 obtain⟨s1,v1,s2,v2,N,D,e,h1,h2,h3⟩:=h;exact⟨s1,v1,s2,v2,N,D,e,h1.below hb hB,h2.below hb hB,h3⟩
theorem ExqAt.mono {w:World} {B B':Nat} {x:Value} {q:Rat} {K:Nat} (h:ExqAt w B x q K) (hB:B≤B'):ExqAt w B' x q K:=by
 obtain⟨s1,v1,s2,v2,N,D,e,h1,h2,h3⟩:=h;exact⟨s1,v1,s2,v2,N,D,e,h1.mono hB,h2.mono hB,h3⟩
theorem ExqAt.grow {w w':World} {x:Value} {q:Rat} {K:Nat} (h:ExqAt w w.heap.size x q K) (hb:Below w.heap.size w w'):ExqAt w' w'.heap.size x q K:=(h.below hb (yA _)).mono hb.size
theorem ExqAt.more {w:World} {B:Nat} {x:Value} {q:Rat} {K K':Nat} (h:ExqAt w B x q K) (hK:K≤K'):ExqAt w B x q K':=by
 obtain⟨s1,v1,s2,v2,N,D,e,h1,h2,h3,h4,h5,h6⟩:=h;exact⟨s1,v1,s2,v2,N,D,e,h1,h2,h3,yH h4 hK,yH h5 hK,h6⟩
theorem ExqAt.kept {w w':World} {B e s n K:Nat} {x u:Value} {q:Rat} {xs:List Value} (h:ExqAt w w.heap.size x q K) (ho:w.ownsRow B e s u n xs) (hg:w.grownBy w' u.ownBlock) (ht:e≠3):ExqAt w' w'.heap.size x q K:=by
 obtain⟨s1,v1,s2,v2,N,D,e,h1,h2,h3⟩:=h;exact⟨s1,v1,s2,v2,N,D,e,⟨h1.1,DgTo.kept h1.2 ho hg ht⟩,⟨h2.1,DgTo.kept h2.2 ho hg ht⟩,h3⟩
theorem im {m n K M:Nat} (h1:ag m≤K) (h2:ag n≤M):ag (m*n)≤K+M:=by
 refine jd ?_;rw[Nat.pow_add];exact Nat.mul_lt_mul'' (dj.2 h1) (dj.2 h2)
theorem s9 {m n K:Nat} (h1:ag m≤K) (h2:ag n≤K):ag (m+n)≤K+1:=by
 refine jd ?_;have h3:=dj.2 h1;have h4:=dj.2 h2;rw[yW];omega
