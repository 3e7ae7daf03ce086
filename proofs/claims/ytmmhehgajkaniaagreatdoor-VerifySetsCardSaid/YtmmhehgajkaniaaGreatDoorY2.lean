/- Lemmas. -/
import Derived.Deep.RegionHeld3
import Derived.Laws.EntriesVeiled
import Derived.Test.YtmmhehgajkaniaaGreatDoorY1
namespace Go.Proofs.YtmmhehgajkaniaaGreatDoor
set_option maxRecDepth 100000
set_option maxHeartbeats 40000000
open Go.RowKit Go.Shelf
theorem F6:(Tryz.prog.info? 9).map (fun i=>(i.zero,i.size,i.bytes))=some (some (.string ⟨#[]⟩),1,16):=by kernel_rfl
theorem Yb (w:World) (base e:Nat) (u:Value) (hb:base≤w.heap.size):(w.alloc (.cells #[u] e)).ownsRow base e 1 (.slice (some ⟨w.heap.size,0,none⟩) 1 1) 1 [u] :=
 ⟨rfl,.inr ⟨w.heap.size,1,#[u],rfl,hb,heap_alloc_new w _,yA _,by unfold maxLen;omega,rfl,rfl⟩⟩
def ny (l:List Task) (y:List Nat):List ByteArray:=y.map fun i=>(dK l).getD i ⟨#[]⟩
theorem xv (l:List Task) (y:List Nat) {i:Nat} (hi:i<l.length):ny l (y++[i])=ny l y++[l[i].name]:=by
 unfold ny dK;rw[yS,List.map_singleton,yN,YC,yM hi];rfl
def GB (l:List Task) (w:World) (e:Ending) (w':World):Prop :=
 Below w.heap.size w w'∧(ft l=false∧e=.returned (.tuple #[.int .i64 0,.slice none 0 0,.int .i64 1]) ∨
  ft l=true∧∃L y v,Covers l [l.length] L y∧e=.returned (.tuple #[.int .i64 L,v,.int .i64 0])∧w'.ownsRow w.heap.size 9 1 v y.length ((ny l y).map Value.string))
theorem GrowSt.fresh {w:World} {B g:Nat} {lv jv dG:Value} {l:List Task} {x y:List Nat} {L:Int} (h:GrowSt w B g lv l x L y jv dG) (i:Nat) :
  GrowSt ((w.alloc (.cells #[.int .i64 (i:Int)] 3)).setCell ⟨g,1,none⟩ (.slice (some ⟨w.heap.size,0,none⟩) 1 1)) B g lv l [i] L y (.slice (some ⟨w.heap.size,0,none⟩) 1 1) dG:=by
 have h':=h.alloc (.cells #[.int .i64 (i:Int)] 3);have bU:=h'.blk.set_ 1 (.slice (some ⟨w.heap.size,0,none⟩) 1 1);have gr4:=h'.blk.setGrown 1 (.slice (some ⟨w.heap.size,0,none⟩) 1 1);have dL:∀ {v:Value} {n:Nat} {xs:List Value},(w.alloc (.cells #[.int .i64 (i:Int)] 3)).ownsRow B 3 1 v n xs→v.ownBlock=none∨v.ownBlock≠some g:=fun {v n xs} ho=>by
  have:=h'.blk.ne_own ho (by decide);exact .inr (fun e=>this e.symm)
 have aK:=Yb w B 3 (.int .i64 (i:Int)) h.size;refine⟨h.hg,bU,aK.kept gr4 (dL aK),h'.best.kept gr4 (dL h'.best),?_,?_,?_⟩
 ·right
  intro e
  have:=(h.best.lt w.heap.size e).2;omega
 ·exact h'.tasks.below ((yB B _).setCell (p:=⟨g,1,none⟩) h.hg _) (yA _)
 have:=h'.size;simp[World.setCell] at this⊢;omega
theorem KO (v:Value) (l:List Task) (w:World) (hl:TasksAt w w.heap.size v l) :
  Calls Tryz.prog 67 #[v] w (GB l w):=by
 have hV:=qi v l 0 0 w hl;rw[PW] at hV;have HL:=zh hl;obtain⟨A,c,rfl,fU,cM,aj⟩:=hl.open_;unfold maxLen at cM;clear hl aj;cases hr:ft l
 ·rw[hr] at hV;have HR:=zh hr;clear hr;go_enter Tryz.func67,Tryz.ntmps67;go_wp2_with (go_at_call 69;refine hV.mono ?_;rintro e w1 ⟨rfl,ak⟩);refine YF (results_tmp3 rfl _ _ _) (by rfl) ?_;exact⟨ak,.inl ⟨HR.o,rfl⟩⟩
 rw[hr] at hV;have HR:=zh hr;have Xi:=(iJ l).1 hr;have h8:=Xi.len;have uR:=zh Xi;clear hr Xi;go_enter Tryz.func67,Tryz.ntmps67;go_wp2_with (go_at_call 69;refine hV.mono ?_;rintro e w1 ⟨rfl,ak⟩);have YV:TasksAt w1 w1.heap.size (.slice A l.length c) l:=(HL.o.below ak (yA _)).mono ak.size;have vn:GrowSt (w1.alloc (.cells #[.slice A l.length c,.slice none 0 0,.slice none 0 0,.int .i64 0] 167)) w1.heap.size w1.heap.size (.slice A l.length c) l [] 0 [] (.slice none 0 0) (.slice none 0 0) :=
  ⟨yA _,Blk.new _ _ _,yJ _ _ _ _,yJ _ _ _ _,.inl rfl,YV.below ((yB _ _).alloc (yA _) _) (yA _),by simp⟩
 have hB0:=ak.alloc ak.size (.cells #[.slice A l.length c,.slice none 0 0,.slice none 0 0,.int .i64 0] 167);have de:=ak.size;clear ak YV hV;generalize w1.alloc (.cells #[.slice A l.length c,.slice none 0 0,.slice none 0 0,.int .i64 0] 167)=w2 at*;generalize w1.heap.size=g at*;go_loopw [19] (fun s wr=>∃(i:Nat) (x:List Nat) (L:Int) (y:List Nat) (nv bv:Value),i≤l.length∧s=.int .i64 i∧Y0 (GrowSt wr g g (.slice A l.length c) l x L y nv bv)∧Y0 (Covers l [i] L y)∧Below w.heap.size w wr) (fun s _=>l.length-(intOf s).toNat)
 case atStart=>exact⟨0,_,_,_,_,_,yI _,rfl,vn,Covers.start l,hB0⟩
 clear vn hB0;obtain⟨i,x,L,y,nv,bv,hi,rfl,HS,HC,ai⟩:=hrel;by_cases ff:i<l.length
 ·obtain⟨b,off,rfl,hb,aj⟩:=HS.o.tasks.cells ff;obtain⟨t0,t1,t2,t3,t4⟩:=aj i ff;clear aj;have vZ:=fun o=>HS.o.alloc o;have vZ:=zh vZ;have Ml:=HS.o.blk.lt;have mW:∀o,Below w.heap.size w (wr.alloc o):=fun o=>ai.alloc ai.size o;obtain⟨h0,h1,h2,h3,f0,f1,f2,f3⟩:=Ap HS.o.blk;have Wr:Y0 (bo l [i]=l[i].len):=by unfold Y0;rw[show bo l [i]=gD l i by simp[bo],eV ff]
  go_wp2_with fail;have hf:=(vZ.o (.cells #[.string l[i].name,.int .i64 l[i].len,.int .i64 l[i].crew,.int .i64 l[i].pow,.slice l[i].ba l[i].bef.length l[i].bc] 48)).fresh i;simp only[World.size_alloc] at hf;rw[World.setCell_alloc_past _ _ _ _ (by simp;omega),World.setCell_alloc_past _ _ _ _ Ml] at hf;have bH:=UZ g g _ l uR.o l.length [i] L y _ bv _ (by simp) (by simp) (Chain.one ff) hf HC.o;rw[Wr.o] at bH
  refine bH.mono ?_;rintro e w5 ⟨rfl,aR,L5,y5,nv5,bv5,dY,MS⟩;have vxc:Below w.heap.size w w5:=(((ai.setCell (p:=⟨g,1,none⟩) de _).alloc (by simp[World.setCell];exact ai.size) _).alloc (by simp[World.setCell];have:=ai.size;omega) _).trans (aR.mono de);have HC6:Y0 (Covers l [i+1] L5 y5):=Covers.next_yes (x:=[]) MS;clear hf bH h0 h1 h2 h3 f0 f1 f2 f3 mW vZ HS HC aR t0 t1 t2 t3 t4 Wr;go_wp2;go_roundw
  case rel=>exact⟨i+1,_,_,_,_,_,by omega,by go_num,dY,HC6,vxc⟩
  simp[intOf];omega
 have xQ:i=l.length:=by omega
 subst xQ;obtain⟨wo,rfl⟩:∃wo:World,wo=wr:=⟨_,rfl⟩;obtain⟨h0,h1,h2,h3,f0,f1,f2,f3⟩:=Ap HS.o.blk;have hbr:bg wo wo.heap.size bv (tt y):=RowAt.of_own (show wo.ownsRow g 3 1 bv y.length ((tt y).map (Value.int .i64)) from HS.o.best);obtain⟨A2,c2,rfl,nB,rS,Pz⟩:=hbr.open_;rw[fB] at*;unfold maxLen at rS;have GV:=HC.o.chain.short uR.o;have Ml:=HS.o.blk.lt;clear hbr;go_wp2;go_loopw [39,8] (fun s o wi=>∃(j:Nat),j≤y.length∧s=.int .i64 j∧wi.ownsRow wo.heap.size 9 1 o j ((ny l (y.take j)).map Value.string)∧Below wo.heap.size wo wi) (fun s _ _=>y.length-(intOf s).toNat)
 case atStart=>exact⟨0,yI _,rfl,yJ _ _ _ _,yB _ _⟩
 obtain⟨j,hj,rfl,aK,nK⟩:=hrel;have hTb:=HS.o.tasks.below nK HS.o.size;by_cases re:j<y.length
 ·obtain⟨b2,vxd,rfl,aU,Pz⟩:=Pz j (by rw[fB];exact re);have hyj:=(nK.cell (p:=⟨b2,vxd+j,none⟩) aU).trans (Pz j (by rw[fB];exact re));clear Pz;have hyn:=HC.o.chain.1 _ (yV re);obtain⟨b,off,rfl,hb,aj⟩:=hTb.cells hyn;obtain⟨t0,-,-,-,-⟩:=aj _ hyn;clear aj;rw[show (tt y)[j]'(by rw[fB];exact re)=((y[j]:Nat):Int) by simp[tt]] at hyj;have HN:Y0 (ny l (y.take (j+1))=ny l (y.take j)++[l[y[j]].name]):=by unfold Y0;rw[aY y j re,xv l _ hyn]
  have Yt:=nK.size;have vvN:=ai.size;go_wp2_with (at_builtin;refine dQ _ rfl (.tmp 43) (.tmp 49) 46 rfl wo.heap.size 9 F6 Tryz.underlying46 rfl _ j _ rfl aK (.string l[y[j]].name) rfl rfl (by unfold maxLen;omega) (by omega) (by omega) ?_;intro g3 jn w3 lU fD xW vi);have bC:w3.ownsRow wo.heap.size 9 1 (.slice (some ⟨g3,0,none⟩) (j+1) jn) (j+1) ((ny l (y.take (j+1))).map Value.string):=by rw[HN.o,yS];exact lU
  have bM:=nK.grown fD nK.size (fun k hk=>(aK.lt k hk).1);clear lU fD vi aK HN t0 hyj nK;go_roundw
  case rel=>exact⟨j+1,by omega,by go_num,bC,bM⟩
  simp[intOf];omega
 have oD:j=y.length:=by omega
 subst oD;rw[yT] at aK;clear Pz;obtain⟨p0,p1,p2,p3,d0,d1,d2,d3⟩:=Ap (HS.o.blk.below nK Ml);go_wp2;refine YF (results_tmp3 rfl _ _ _) (by rfl) ?_;exact⟨ai.trans (nK.mono ai.size),.inr ⟨HR.o,L,y,_,HC.o,rfl,jg aK ai.size⟩⟩
theorem Chain.cons_iff {l:List Task} {i j:Nat} {z:List Nat}:Chain l (i::j::z)↔lZ l i j∧Chain l (j::z):=by
 constructor
 ·intro h;refine⟨h.2 0 (by simp),fun k hk=>h.1 k (List.mem_cons_of_mem _ hk),fun k hk=>?_⟩
  have:=h.2 (k+1) (by simp only[List.length_cons] at hk⊢;omega);simpa using this
 rintro⟨he,h⟩;refine⟨fun k hk=>?_,fun k hk=>?_⟩
 ·rw[List.mem_cons] at hk;rcases hk with rfl|hk
  ·exact he.1
  exact h.1 k hk
 cases k with
 | zero=>exact he
 | succ k=>
  have:=h.2 k (by simp only[List.length_cons] at hk⊢;omega);simpa using this
theorem mA (l:List Task) (i:Nat) (z:List Nat):bo l (i::z)=gD l i+bo l z:=by simp[bo]
structure IsFrom (l:List Task) (i:Nat) (n:Int):Prop where
 has:∃z,Chain l (i::z)∧bo l (i::z)=n
 most:∀z,Chain l (i::z)→bo l (i::z)≤n
theorem IsFrom.uniq {l:List Task} {i:Nat} {n m:Int} (h:IsFrom l i n) (k:IsFrom l i m):n=m:=by
 obtain⟨z,hz,e⟩:=h.has;obtain⟨z',Ma,e'⟩:=k.has;have h1:=h.most z' Ma;have h2:=k.most z hz;omega
theorem IsFrom.bd {l:List Task} (hR:RightT l) {i:Nat} {n:Int} (h:IsFrom l i n):0≤n∧n≤80000:=by
 obtain⟨z,hz,e⟩:=h.has;have h1:=lL hR (i::z);have h2:=hz.short hR;have h3:=hR.len;omega
structure MostTo (l:List Task) (i k:Nat) (n:Int):Prop where
 zero:0≤n
 most:∀j,j<k→lZ l i j→∀m,IsFrom l j m→m≤n
 has:n=0∨∃j,j<k∧lZ l i j∧IsFrom l j n
theorem MostTo.start (l:List Task) (i:Nat):MostTo l i 0 0:=⟨Int.le_refl _,fun j h=>absurd h (Nat.not_lt_zero j),.inl rfl⟩
theorem MostTo.no {l:List Task} {i k:Nat} {n:Int} (h:MostTo l i k n) (ky:¬lZ l i k):MostTo l i (k+1) n:=by
 refine⟨h.zero,fun j hj he m hm=>?_,?_⟩
 ·by_cases e:j=k
  ·subst e;exact absurd he ky
  exact h.most j (by omega) he m hm
 rcases h.has with h|⟨j,h1,h2⟩
 ·exact .inl h
 exact .inr ⟨j,by omega,h2⟩
theorem MostTo.yes {l:List Task} {i k:Nat} {n m:Int} (h:MostTo l i k n) (he:lZ l i k) (hm:IsFrom l k m):MostTo l i (k+1) (if n<m then m else n):=by
 by_cases ao:n<m
 ·rw[if_pos ao];refine⟨by have:=h.zero;omega,fun j hj he' m' Mg=>?_,.inr ⟨k,by omega,he,hm⟩⟩;by_cases e:j=k
  ·subst e;have:=hm.uniq Mg;omega
  have:=h.most j (by omega) he' m' Mg;omega
 rw[if_neg ao];refine⟨h.zero,fun j hj he' m' Mg=>?_,?_⟩
 ·by_cases e:j=k
  ·subst e;have:=hm.uniq Mg;omega
  exact h.most j (by omega) he' m' Mg
 rcases h.has with h|⟨j,h1,h2⟩
 ·exact .inl h
 exact .inr ⟨j,by omega,h2⟩
theorem xJ {l:List Task} {i:Nat} (hi:i<l.length) {n:Int} (h:MostTo l i l.length n) (hex:∀j,lZ l i j→∃m,IsFrom l j m):IsFrom l i (l[i].len+n):=by
 refine⟨?_,fun z hz=>?_⟩
 ·rcases h.has with rfl|⟨j,_,he,hj⟩
  ·exact⟨[],Chain.one hi,by rw[mA,eV hi,iI]⟩
  obtain⟨z,hz,e⟩:=hj.has;exact⟨j::z,Chain.cons_iff.2 ⟨he,hz⟩,by rw[mA,eV hi,e]⟩
 rw[mA,eV hi]
 cases z with
 | nil=>rw[iI];have:=h.zero;omega
 | cons j z=>
  obtain⟨he,Ma⟩:=Chain.cons_iff.1 hz;obtain⟨m,hm⟩:=hex j he;have h1:=hm.most z Ma;have h2:=h.most j he.2.1 he m hm;omega
theorem uF {l:List Task} {i:Nat} (hex:∀j,lZ l i j→∃m,IsFrom l j m):∀k,∃n,MostTo l i k n
 | 0=>⟨0,MostTo.start l i⟩
 | k+1=>by
  obtain⟨n,hn⟩:=uF hex k;by_cases he:lZ l i k
  ·obtain⟨m,hm⟩:=hex k he;exact⟨_,hn.yes he hm⟩
  exact⟨n,hn.no he⟩
theorem uG {l:List Task} (hR:RightT l):∀(f i:Nat),i < l.length→(∀z,Chain l (i::z)→(i::z).length ≤ f)→∃n,IsFrom l i n
 | 0,i,hi,h=>by have:=h [] (Chain.one hi);simp at this
 | f+1,i,hi,h=>by
  have hex:∀j,lZ l i j→∃m,IsFrom l j m:=fun j he=>uG hR f j he.2.1 fun z hz=>by
   have:=h (j::z) (Chain.cons_iff.2 ⟨he,hz⟩);simpa using this
  obtain⟨n,hn⟩:=uF hex l.length;exact⟨_,xJ hi hn hex⟩
theorem rz (l:List Task) (x y:List Nat):bo l (x++y)=bo l x+bo l y:=by simp[bo]
structure MostUp (l:List Task) (k:Nat) (n:Int):Prop where
 zero:0≤n
 most:∀j,j<k→∀m,IsFrom l j m→m≤n
 has:n=0∨∃j,j<k∧IsFrom l j n
theorem MostUp.start (l:List Task):MostUp l 0 0:=⟨Int.le_refl _,fun j h=>absurd h (Nat.not_lt_zero j),.inl rfl⟩
theorem Zv {l:List Task} (hR:RightT l) {i:Nat} (hi:i<l.length):∃n,IsFrom l i n:=uG hR l.length i hi fun _ hz=>hz.short hR
theorem MostUp.all {l:List Task} (hR:RightT l) {n:Int} (h:MostUp l l.length n) (z:List Nat) (hz:Chain l z):bo l z≤n:=by
 cases z with
 | nil=>rw[iI];exact h.zero
 | cons i z=>
  have hi:=hz.1 i (by simp);obtain⟨m,hm⟩:=Zv hR hi;have h1:=hm.most z hz;have h2:=h.most i hi m hm;omega
theorem LX:∀(p z q:List Nat),nz p z→¬p <+: z→nz (p++q) z
 | [],z,q,_,h=>absurd (List.nil_prefix) h
 | a::p,[],q,h,_=>absurd h (fA _)
 | a::p,b::z,q,h,hp=>by
  rcases h with h|⟨rfl,h⟩
  ·exact .inl h
  exact .inr ⟨rfl,LX p z q h fun hh=>hp (by rw[List.cons_prefix_cons];exact⟨rfl,hh⟩)⟩
theorem xA:∀(p q z:List Nat),nz q z→nz (p++q) (p++z)
 | [],_,_,h=>h
 | _::p,q,z,h=>.inr ⟨rfl,xA p q z h⟩
def xx (l:List Task) (p:List Nat) (k:Nat):Prop:=∀hp:p≠[],lZ l (p.getLast hp) k
theorem pG {l:List Task} {k:Nat}:∀ {p z:List Nat},Chain l p→Chain l (k::z)→xx l p k→Chain l (p++k::z)
 | [],z,_,h,_=>h
 | [_],_,_,h,hn=>Chain.cons_iff.2 ⟨hn (by simp),h⟩
 | a::b::p,z,hp,h,hn=>by
  obtain⟨h1,h2⟩:=Chain.cons_iff.1 hp;exact Chain.cons_iff.2 ⟨h1,pG (p:=b::p) h2 h fun hq=>by have:=hn (by simp);rwa [List.getLast_cons hq] at this⟩
theorem qT {l:List Task}:∀ {p z:List Nat},Chain l (p++z)→Chain l z
 | [],_,h=>h
 | [_],[],_=>Chain.nil l
 | [_],_::_,h=>(Chain.cons_iff.1 h).2
 | _::b::p,_,h=>qT (p:=b::p) (Chain.cons_iff.1 h).2
theorem zf {l:List Task} {p z:List Nat} {k:Nat} (h:Chain l (p++k::z)):xx l p k:=fun hp=>by
 have h':Chain l ((p++[k])++z):=by simpa using h
 exact h'.front.last_edge hp
structure Greedy (l:List Task) (M:Int) (p:List Nat) (r:Int):Prop where
 chain:Chain l p
 sum:bo l p+r=M
 left:0≤r
 most:∀z,Chain l z→bo l z≤M
 more:0<r→∃k z,Chain l (p++k::z)∧bo l (k::z)=r
 least:∀z,Chain l z→bo l z=M→p <+: z∨nz p z
theorem Greedy.start {l:List Task} (hR:RightT l) {M:Int} (h:MostUp l l.length M):Greedy l M [] M:=by
 refine⟨Chain.nil l,by simp[iI],h.zero,h.all hR,fun h0=>?_,fun z _ _=>.inl List.nil_prefix⟩;rcases h.has with h|⟨j,_,hj⟩
 ·omega
 obtain⟨z,hz,e⟩:=hj.has;exact⟨j,z,hz,e⟩
theorem Greedy.isFrom {l:List Task} {M r:Int} {p z:List Nat} {k:Nat} (h:Greedy l M p r) (hz:Chain l (p++k::z)) (hs:bo l (k::z)=r):IsFrom l k r:=by
 refine⟨⟨z,qT hz,hs⟩,fun z' Ma=>?_⟩
 have:=h.most _ (pG h.chain Ma (zf hz));rw[rz] at this
 have:=h.sum;omega
theorem Greedy.take {l:List Task} (hR:RightT l) {M r:Int} {p:List Nat} {k:Nat} (h:Greedy l M p r) (h0:0 < r) (hk:k < l.length) (hn:xx l p k) (hf:IsFrom l k r)
  (ky:∀j,j<k→xx l p j→¬IsFrom l j r):Greedy l M (p++[k]) (r-gD l k):=by
 obtain⟨z,hz,hs⟩:=hf.has;have hpz:=pG h.chain hz hn;have hs':=hs;rw[mA] at hs';have hH:=(lL hR z).1;refine⟨(show Chain l ((p++[k])++z) by simpa using hpz).front,by rw[qh];have:=h.sum;omega,by omega,h.most,fun pQ=>?_,fun z' Ma jT=>?_⟩
 ·cases z with
  | nil=>rw[iI] at hs';omega
  | cons k2 z2=>exact⟨k2,z2,by simpa using hpz,by omega⟩
 by_cases hp:p <+: z'
 ·obtain⟨t,rfl⟩:=hp;rw[rz] at jT
  cases t with
  | nil=>rw[iI] at jT;have:=h.sum;omega
  | cons j t=>
   have hj:=h.isFrom Ma (by have:=h.sum;omega);have Hh:¬j<k:=fun ao=>ky j ao (zf Ma) hj;by_cases e:j=k
   ·subst e;exact .inl ⟨t,by simp⟩
   refine .inr (xA p [k] (j::t) (.inl (by omega)))
 rcases h.least z' Ma jT with h'|h'
 ·exact absurd h' hp
 exact .inr (LX p z' [k] h' hp)
theorem Greedy.done {l:List Task} {M r:Int} {p:List Nat} (h:Greedy l M p r) (h0:¬0<r):Covers l [l.length] M p:=by
 have hr:r=0:=by have:=h.left;omega
 subst hr;have vq3:nz p [l.length]:=by
  cases p with
  | nil=>trivial
  | cons a p=>exact .inl (h.chain.1 a (by simp))
 refine⟨h.chain,vq3,by have:=h.sum;omega,fun z hz _=>h.most z hz,fun z hz _ hs=>?_⟩;rcases h.least z hz hs with⟨t,rfl⟩|h'
 ·cases t with
  | nil=>left;simp
  | cons a t=>
   right
   have:=xA p [] (a::t) trivial;rwa [List.append_nil] at this
 exact .inr h'
open Go.RowKit Go.Shelf
theorem O2:∀args w,(callFunc 163 args).run Tryz.prog w=.ok (.enter 163 args) w:=enters_of Tryz.func163 (by kernel_rfl) rfl
def fJ (c p:Int) (t:Task):Bool:=decide (c<t.crew)||decide (p<t.pow)
noncomputable def bE (l:List Task) (c p:Int):Int:=if cK l c p then (if l.any (fJ c p) then 22 else 0) else 1
theorem CL (t:Task) (c p:Int) (D:Nat) (w:World) (hD:D+1<w.heap.size) (hc:w.cell? ⟨D,0,none⟩=some (.int .i64 c)) (hp:w.cell? ⟨D+1,0,none⟩=some (.int .i64 p)) :
  Calls Tryz.prog 163 #[t.val,.pointer (some ⟨D,0,none⟩),.pointer (some ⟨D+1,0,none⟩)] w fun e w'=>e=.returned (.bool (fJ c p t))∧Below w.heap.size w w':=by
 have vK:D<w.heap.size:=by omega
 obtain⟨name,len,crew,pow,ba,bc,bef⟩:=t;unfold Task.val;simp only;by_cases h:c<crew
 ·have HV:Y0 (fJ c p ⟨name,len,crew,pow,ba,bc,bef⟩=true):=by unfold Y0 fJ;simp[h]
  go_enter Tryz.func163,Tryz.ntmps163;go_wp2;go_ret;exact⟨Ze HV.o.symm,(yB _ _).alloc (yA _) _⟩
 have HV:Y0 (fJ c p ⟨name,len,crew,pow,ba,bc,bef⟩=decide (p<pow)):=by unfold Y0 fJ;simp[h]
 have hb:decide (c<crew)=false:=by simpa using h
 go_enter Tryz.func163,Tryz.ntmps163;go_wp2;go_ret;exact⟨Ze HV.o.symm,(yB _ _).alloc (yA _) _⟩
theorem uL (v:Value) (l:List Task) (c p:Int) (w:World) (hl:TasksAt w w.heap.size v l) :
  Calls Tryz.prog 117 #[v,.int .i64 c,.int .i64 p] w fun e w'=>e=.returned (.int .i64 (bE l c p))∧Below w.heap.size w w':=by
 have eH:∀o o',Below w.heap.size w ((w.alloc o).alloc o'):=fun o o'=>((yB _ _).alloc (yA _) _).alloc (by simp) _;have hV:=fun o o'=>qi v l c p ((w.alloc o).alloc o') ((hl.below (eH o o') (yA _)).mono (by simp;omega));have HL:=zh hl;clear hl;cases hv:cK l c p
 ·have HG:Y0 (bE l c p=1):=by unfold Y0 bE;rw[hv];rfl
  rw[hv] at hV;clear hv;go_enter Tryz.func117,Tryz.ntmps117;go_wp2_with (go_at_call 69;refine (hV _ _).mono ?_;rintro e w1 ⟨rfl,ak⟩);go_ret;exact⟨by rw[HG.o];rfl,(eH _ _).trans (ak.mono (by simp;omega))⟩
 have HG:Y0 (bE l c p=if l.any (fJ c p) then 22 else 0):=by unfold Y0 bE;rw[hv];rfl
 rw[hv] at hV;clear hv;have HC:Y0 (∀w1,Below ((w.alloc (.cells #[.int .i64 c] 3)).alloc (.cells #[.int .i64 p] 3)).heap.size ((w.alloc (.cells #[.int .i64 c] 3)).alloc (.cells #[.int .i64 p] 3)) w1 →
   Calls Tryz.prog 162 #[v,.func (.func 163) #[] #[.pointer (some ⟨w.heap.size,0,none⟩),.pointer (some ⟨w.heap.size+1,0,none⟩)]] w1 fun e w'=>e=.returned (.bool (l.any (fJ c p)))∧Below w1.heap.size w1 w'):=fun w1 ak=>by
  have de:=ak.size;simp only[World.size_alloc] at de;have ht1:=(HL.o.below ((eH (.cells #[.int .i64 c] 3) (.cells #[.int .i64 p] 3)).trans (ak.mono (by simp;omega))) (yA _)).mono (show w.heap.size≤w1.heap.size by omega);have fU:=ak.cell (p:=⟨w.heap.size,0,none⟩) (by simp;omega);have D6:=ak.cell (p:=⟨w.heap.size+1,0,none⟩) (by simp);refine tI v l 163 #[.pointer (some ⟨w.heap.size,0,none⟩),.pointer (some ⟨w.heap.size+1,0,none⟩)] (fJ c p) O2 w1 ht1 ?_
  intro t ht w' ev;have vxh:=ev.size;refine CL t c p w.heap.size w' (by omega) ?_ ?_
  ·rw[ev.cell (by simp;omega),fU];simp
  rw[ev.cell (by simp;omega),D6];simp
 generalize hA:l.any (fJ c p)=A at*;clear hA;cases A
 all_goals
  go_enter Tryz.func117,Tryz.ntmps117;go_wp2_with (first|(go_at_call 69;refine (hV _ _).mono ?_;rintro e w1 ⟨rfl,ak⟩)|(go_at_call 162;refine (HC.o _ (by assumption)).mono ?_;rintro e w2 ⟨rfl,aU⟩));go_ret;refine⟨by rw[HG.o];rfl,?_⟩;have de:=ak.size;simp only[World.size_alloc] at de;exact ((eH _ _).trans (ak.mono (by simp;omega))).trans (aU.mono (by omega))
theorem jl {t:Task} (h:eF t=true):0≤t.crew∧t.crew≤100:=by
 unfold eF Zw at h;simp only[Bool.and_eq_true,decide_eq_true_eq] at h;exact h.1.2
theorem kr {t:Task} (h:eF t=true):0≤t.pow∧t.pow≤100:=by
 unfold eF Zw at h;simp only[Bool.and_eq_true,decide_eq_true_eq] at h;exact h.2
def dR (f:Task→Int) (l:List Task):Int:=(l.map fun t=>f t*t.len).sum
def pW (best s jG:Int):Int:=if 0<s then (if best<(s+jG-1)/jG then (s+jG-1)/jG else best) else best
def tU (l:List Task) (c p:Int):Int:=pW (pW 0 (dR Task.crew l) c) (dR Task.pow l) p
theorem Kb (f:Task→Int) (l:List Task) (j:Nat) (hj:j<l.length):dR f (l.take (j+1))=dR f (l.take j)+f l[j]*l[j].len:=by
 unfold dR;rw[aY l j hj,yS,List.sum_append];simp
theorem xy (f:Task→Int):∀(l:List Task),(∀t∈l,0 ≤ f t * t.len ∧ f t * t.len ≤ 1000000)→0 ≤ dR f l ∧ dR f l ≤ 1000000 * l.length
 | [],_=>by simp[dR]
 | t::l,h=>by
  have h1:=h t (by simp);have h2:=xy f l fun t ht=>h t (by simp[ht]);have e:dR f (t::l)=f t*t.len+dR f l:=by simp[dR]
  rw[e,List.length_cons];omega
theorem Kd {a b:Int} (h1:0≤a) (h2:a≤100) (h3:1≤b) (h4:b≤10000):0≤a*b∧a*b≤1000000:=by
 refine⟨Int.mul_nonneg h1 (by omega),?_⟩;have h5:a*b≤100*b:=Int.mul_le_mul_of_nonneg_right h2 (by omega);omega
theorem V0:∀args w,(callFunc 118 args).run Tryz.prog w=.ok (.enter 118 args) w:=enters_of Tryz.func118 (by kernel_rfl) rfl
theorem Vz:∀args w,(callFunc 119 args).run Tryz.prog w=.ok (.enter 119 args) w:=enters_of Tryz.func119 (by kernel_rfl) rfl
theorem PV (t:Task) (w:World):Calls Tryz.prog 118 #[t.val] w fun e w'=>e=.returned (.int .i64 t.crew)∧Below w.heap.size w w':=by
 obtain⟨name,len,crew,pow,ba,bc,bef⟩:=t;unfold Task.val;simp only;go_enter Tryz.func118,Tryz.ntmps118;go_wp2;go_ret;exact⟨rfl,(yB _ _).alloc (yA _) _⟩
theorem Xz (t:Task) (w:World):Calls Tryz.prog 119 #[t.val] w fun e w'=>e=.returned (.int .i64 t.pow)∧Below w.heap.size w w':=by
 obtain⟨name,len,crew,pow,ba,bc,bef⟩:=t;unfold Task.val;simp only;go_enter Tryz.func119,Tryz.ntmps119;go_wp2;go_ret;exact⟨rfl,(yB _ _).alloc (yA _) _⟩
structure WorkRow (l:List Task) (c p:Int) (k:Nat) (jG:Int) (K:Nat) (f:Task→Int):Prop where
 enters:∀args w,(callFunc K args).run Tryz.prog w=.ok (.enter K args) w
 call:∀(t:Task) (w:World),Calls Tryz.prog K #[t.val] w fun e w'=>e=.returned (.int .i64 (f t))∧Below w.heap.size w w'
 bd:∀t∈l,0≤f t∧f t≤100
 fit:∀t∈l,f t≤jG
 limbd:jG≤1000
def lu (l:List Task) (c p:Int):Nat→Int
 | 0=>0
 | 1=>pW 0 (dR Task.crew l) c
 | _=>tU l c p
theorem lg {l:List Task} {c p:Int} (h:bE l c p=0):RightT l∧c≤1000∧p≤1000∧0≤c∧0≤p∧∀t∈l,t.crew≤c∧t.pow≤p:=by
 unfold bE at h;cases hv:cK l c p
 ·rw[hv] at h;simp at h
 rw[hv] at h;cases ha:l.any (fJ c p)
 case true=>rw[ha] at h;simp at h
 unfold cK Zw at hv;simp only[Bool.and_eq_true,decide_eq_true_eq] at hv;refine⟨(iJ l).1 hv.1.1,hv.1.2.2,hv.2.2,hv.1.2.1,hv.2.1,fun t ht=>?_⟩
 have:=List.any_eq_false.1 ha t ht;unfold fJ at this;simp only[Bool.or_eq_true,decide_eq_true_eq,not_or] at this;omega
theorem Yo {l:List Task} {c p jG:Int} {k K:Nat} {f:Task→Int} (h:WorkRow l c p k jG K f) (_hR:RightT l) (hs:0<dR f l):1≤jG:=by
 rcases Int.lt_or_le jG 1 with hl|hl
 ·exfalso
  have:∀l':List Task,(∀t∈l',t∈l)→dR f l'=0:=fun l'=>by
   induction l' with
   | nil=>intro _;rfl
   | cons t l' ih=>
    intro h';have h1:=h.bd t (h' t (by simp));have h2:=h.fit t (h' t (by simp));have e:f t=0:=by omega
    have ih:=ih fun t ht=>h' t (by simp[ht]);have e2:dR f (t::l')=f t*t.len+dR f l':=by simp[dR]
    rw[e2,ih,e];simp
  have:=this l fun t ht=>ht;omega
 exact hl
theorem pC {l:List Task} (hR:RightT l) {t:Task} (ht:t∈l):eF t=true:=by
 obtain⟨i,hi,rfl⟩:=List.getElem_of_mem ht;exact hR.field i hi
def zu (l:List Task) (c p:Int) (w:World) (e:Ending) (w':World):Prop :=
 e=.returned (.tuple #[.int .i64 (if bE l c p=0 then tU l c p else 0),.int .i64 (bE l c p)])∧Below w.heap.size w w'
theorem KN (v:Value) (l:List Task) (c p:Int) (w:World) (hl:TasksAt w w.heap.size v l) :
  Calls Tryz.prog 66 #[v,.int .i64 c,.int .i64 p] w (zu l c p w):=by
 have hG:=uL v l c p w hl;have HL:=zh hl;clear hl;by_cases hg:bE l c p=0
 ·obtain⟨hR,fU,D6,hc0,hp0,lA⟩:=lg hg;rw[hg] at hG;have Hg:=zh hg;have h8:=hR.len;have nt:Y0 (∀k:Nat,k<2→∃jG K f,WorkRow l c p k jG K f∧(Value.int .i64 jG,Value.func (.func K) #[] #[])=(if k=0 then (Value.int .i64 c,Value.func (.func 118) #[] #[]) else (Value.int .i64 p,Value.func (.func 119) #[] #[]))∧lu l c p (k+1)=pW (lu l c p k) (dR f l) jG):=fun k hk=>by
   rcases (show k=0∨k=1 by omega) with rfl|rfl
   ·exact⟨c,_,Task.crew,⟨V0,PV,fun t ht=>jl (pC hR ht),fun t ht=>(lA t ht).1,fU⟩,rfl,rfl⟩
   exact⟨p,_,Task.pow,⟨Vz,Xz,fun t ht=>kr (pC hR ht),fun t ht=>(lA t ht).2,D6⟩,rfl,rfl⟩
  have uR:=zh hR;obtain⟨A,cc,rfl,Za,FR,-⟩:=HL.o.open_;unfold maxLen at FR;clear hg hR lA;go_enter Tryz.func66,Tryz.ntmps66;go_wp2_with (go_at_call 117;refine hG.mono ?_;rintro e w1 ⟨rfl,ak⟩);have hN:=World.cell?_alloc_new w1 #[.int .i64 c,.func (.func 118) #[] #[],.int .i64 p,.func (.func 119) #[] #[]] 163;have Ml:w1.heap.size<(w1.alloc (.cells #[.int .i64 c,.func (.func 118) #[] #[],.int .i64 p,.func (.func 119) #[] #[]] 163)).heap.size:=by simp
  have Mp:=ak.alloc ak.size (.cells #[.int .i64 c,.func (.func 118) #[] #[],.int .i64 p,.func (.func 119) #[] #[]] 163);have vw4:Y0 (∀(k jG:Int) (K:Nat),True):=fun _ _ _=>trivial;generalize w1.alloc (.cells #[.int .i64 c,.func (.func 118) #[] #[],.int .i64 p,.func (.func 119) #[] #[]] 163)=w2 at*;generalize w1.heap.size=g at*;clear ak hG;have qjQ:Y0 (∀k,k<2→∃jG K f,WorkRow l c p k jG K f∧w2.cell? ⟨g,k*2,none⟩=some (.int .i64 jG)∧w2.cell? ⟨g,k*2+1,none⟩=some (.func (.func K) #[] #[])∧lu l c p (k+1)=pW (lu l c p k) (dR f l) jG):=fun k hk=>by
   obtain⟨jG,K,f,h1,h2,h3⟩:=nt.o k hk;refine⟨jG,K,f,h1,?_,?_,h3⟩
   ·rcases (show k=0∨k=1 by omega) with rfl|rfl
    ·rw[if_pos rfl] at h2;injection h2 with h2 _;rw[hN,h2];rfl
    rw[if_neg (by decide)] at h2;injection h2 with h2 _;rw[hN,h2];rfl
   rcases (show k=0∨k=1 by omega) with rfl|rfl
   ·rw[if_pos rfl] at h2;injection h2 with _ h2;rw[hN,h2];rfl
   rw[if_neg (by decide)] at h2;injection h2 with _ h2;rw[hN,h2];rfl
  clear hN nt vw4;go_loopw [28,9] (fun s b wr=>∃k:Nat,k≤2∧s=.int .i64 k∧b=.int .i64 (lu l c p k)∧Below w.heap.size w wr∧Below w2.heap.size w2 wr) (fun s _ _=>2-(intOf s).toNat)
  case atStart=>exact⟨0,by omega,rfl,rfl,Mp,yB _ _⟩
  obtain⟨k,hk,rfl,rfl,ai,xY⟩:=hrel;by_cases GZ:k<2
  ·obtain⟨jG,K,f,kn,vxv,YN,ly⟩:=qjQ.o k GZ;have rV:=(xY.cell (p:=⟨g,k*2,none⟩) Ml).trans vxv;have sO:=(xY.cell (p:=⟨g,k*2+1,none⟩) Ml).trans YN;have PD:=zh ly;have de:=ai.size;have Yt:=xY.size;have vvX:(k:Int)<2:=by omega
   clear vxv YN ly;go_wp2_with fail;have hq0:=World.cell?_alloc_new wr #[.int .i64 jG,.func (.func K) #[] #[]] 163 0;have hq1:=World.cell?_alloc_new wr #[.int .i64 jG,.func (.func K) #[] #[]] 163 1;have hxl:wr.heap.size<(wr.alloc (.cells #[.int .i64 jG,.func (.func K) #[] #[]] 163)).heap.size:=by simp
   have ic:=ai.alloc ai.size (.cells #[.int .i64 jG,.func (.func K) #[] #[]] 163);have YP:=xY.alloc xY.size (.cells #[.int .i64 jG,.func (.func K) #[] #[]] 163);generalize wr.alloc (.cells #[.int .i64 jG,.func (.func K) #[] #[]] 163)=wx at*;generalize wr.heap.size=x at*;clear rV sO;obtain⟨eg,bH,hfb,hff,hlb⟩:=kn;go_loopw [34,12] (fun s b wi=>∃j:Nat,j≤l.length∧s=.int .i64 j∧b=.int .i64 (dR f (l.take j))∧Below wx.heap.size wx wi) (fun s _ _=>l.length-(intOf s).toNat)
   case atStart=>exact⟨0,by omega,rfl,rfl,yB _ _⟩
   obtain⟨j,hj,rfl,rfl,nK⟩:=hrel;by_cases re:j<l.length
   ·have HT:=HL.o.below ((ic.trans (nK.mono ic.size))) (yA _);obtain⟨b,off,rfl,hb,aj⟩:=HT.cells re;obtain⟨t0,t1,t2,t3,t4⟩:=aj j re;clear aj HT;have cB:=(nK.cell (p:=⟨x,1,none⟩) hxl).trans hq1;simp only[aG,aH,aD] at cB;have vvL:=nK.size;have vvK:=ic.size;clear hb;go_wp2_with fail;have hy:=World.cell?_alloc_new wr #[.string l[j].name,.int .i64 l[j].len,.int .i64 l[j].crew,.int .i64 l[j].pow,.slice l[j].ba l[j].bef.length l[j].bc] 48
    have y0:=hy 0;have y1:=hy 1;have y2:=hy 2;have y3:=hy 3;have y4:=hy 4;simp only[aG,aH,aD] at y0 y1 y2 y3 y4;have hxt:=(World.cell?_alloc_past (.cells #[.string l[j].name,.int .i64 l[j].len,.int .i64 l[j].crew,.int .i64 l[j].pow,.slice l[j].ba l[j].bef.length l[j].bc] 48) x 1 (by omega:x<wr.heap.size)).trans cB;have rf:=(nK.alloc nK.size (.cells #[.string l[j].name,.int .i64 l[j].len,.int .i64 l[j].crew,.int .i64 l[j].pow,.slice l[j].ba l[j].bef.length l[j].bc] 48))
    have sQ:=rf.drew;clear hy t0 t1 t2 t3 t4 cB;generalize wr.alloc (.cells #[.string l[j].name,.int .i64 l[j].len,.int .i64 l[j].crew,.int .i64 l[j].pow,.slice l[j].ba l[j].bef.length l[j].bc] 48)=wt at*;generalize wr.heap.size=gt at*;obtain⟨hf1,hf2⟩:=hfb l[j] (yV re);obtain⟨rV,sO⟩:=dF (uR.o.field j re);obtain⟨Mf,Yy⟩:=Kd hf1 hf2 rV sO;have hsb:=xy f (l.take j) fun t ht=>by
     have h:=hfb t (List.mem_of_mem_take ht);have h':=dF (pC uR.o (List.mem_of_mem_take ht));exact Kd h.1 h.2 h'.1 h'.2
    have vvY:(l.take j).length≤8:=by rw[YA];omega
    have FB:=zh (Kb f l j re);have hw1:Y0 (IntKind.i64.wrap (f l[j]*l[j].len)=f l[j]*l[j].len):=yF _ (by omega);have GX:Y0 (IntKind.i64.wrap (dR f (l.take j)+f l[j]*l[j].len)=dR f (l.take j)+f l[j]*l[j].len):=yF _ (by omega);have HC:=zh (bH l[j]);clear hsb Mf Yy bH;unfold Task.val at HC;go_region_held3 (fun w'=>w'.cell? ⟨x,1,none⟩=some (.func (.func K) #[] #[]) ∧ w'.cell? ⟨gt,0,none⟩=some (.string l[j].name) ∧ w'.cell? ⟨gt,1,none⟩=some (.int .i64 l[j].len) ∧ w'.cell? ⟨gt,2,none⟩=some (.int .i64 l[j].crew) ∧ w'.cell? ⟨gt,3,none⟩=some (.int .i64 l[j].pow) ∧ w'.cell? ⟨gt,4,none⟩=some (.slice l[j].ba l[j].bef.length l[j].bc) ∧ Below wx.heap.size wx w')
     (first
      | (exact⟨by assumption,by assumption,by assumption,by assumption,by assumption,by assumption,by assumption⟩)
      | (exact⟨(aU.cell (World.block_lt_of_cell? _ _ (by assumption))).trans (by assumption),(aU.cell (World.block_lt_of_cell? _ _ (by assumption))).trans (by assumption),(aU.cell (World.block_lt_of_cell? _ _ (by assumption))).trans (by assumption),(aU.cell (World.block_lt_of_cell? _ _ (by assumption))).trans (by assumption),(aU.cell (World.block_lt_of_cell? _ _ (by assumption))).trans (by assumption),(aU.cell (World.block_lt_of_cell? _ _ (by assumption))).trans (by assumption),Below.trans (by assumption) (aU.mono (Below.size (by assumption)))⟩)
      | (go_split_ands;exact⟨by assumption,by assumption,by assumption,by assumption,by assumption,by assumption,by apply below_drew;assumption⟩)
      | go_keep)
     (first|(go_at_fn K;refine (HC.o _).mono ?_;rintro e w2 ⟨rfl,aU⟩))
    rw[hw1.o,GX.o,←FB.o];have vwe:Below wx.heap.size wx w2:=by
     first
      | assumption
      | (go_split_ands;assumption)
    clear hw1 GX FB HC aU;go_wp2;go_roundw
    case rel=>exact⟨j+1,by omega,by go_num,rfl,vwe⟩
    simp[intOf];omega
   have oD:j=l.length:=by omega
   subst oD;rw[yT] at*;have hsb:=xy f l fun t ht=>by
    have h:=hfb t ht;have h':=dF (pC uR.o ht);exact Kd h.1 h.2 h'.1 h'.2
   have Uq:=(nK.cell (p:=⟨x,0,none⟩) hxl).trans hq0;simp only[aG,aD] at Uq;have hB1:=ic.trans (nK.mono ic.size);have sd:=YP.trans (nK.mono YP.size);by_cases hs0:0<dR f l
   ·have hlp:1≤jG:=Yo (c:=c) (p:=p) (k:=k) (K:=K) ⟨eg,bH,hfb,hff,hlb⟩ uR.o hs0;have pR:Y0 (pW (lu l c p k) (dR f l) jG=if lu l c p k<(dR f l+jG-1)/jG then (dR f l+jG-1)/jG else lu l c p k):=by unfold Y0 pW;rw[if_pos hs0]
    have hlz:¬jG=0:=by omega
    clear bH hfb hff eg hq0 hq1 nK ai xY ic YP;go_wp2_with fail;go_roundw
    case rel=>exact⟨k+1,by omega,by go_num,by rw[PD.o,pR.o],hB1,sd⟩
    simp[intOf];omega
   have vvP:decide (0<dR f l)=false:=by simpa using hs0
   have pR:Y0 (pW (lu l c p k) (dR f l) jG=lu l c p k):=by unfold Y0 pW;rw[if_neg hs0]
   clear bH hfb hff eg hq0 hq1 nK ai xY ic YP;go_wp2_with fail;go_roundw
   case rel=>exact⟨k+1,by omega,by go_num,by rw[PD.o,pR.o],hB1,sd⟩
   simp[intOf];omega
  have vzB:k=2:=by omega
  subst vzB;go_wp2_with fail;refine YF (results_tmp2 rfl _ _ _) (by rfl) ?_;refine⟨?_,ai⟩;rw[Hg.o,if_pos rfl];rfl
 have Hg:=zh hg;generalize hx:bE l c p=x at*;have hxb:(x==0)=false:=by simpa using Hg.o
 clear hg;go_enter Tryz.func66,Tryz.ntmps66;go_wp2_with (go_at_call 117;refine hG.mono ?_;rintro e w1 ⟨rfl,ak⟩);refine YF (results_tmp2 rfl _ _ _) (by rfl) ?_;refine⟨?_,ak⟩;rw[hx,if_neg Hg.o];rfl
def om (l:List Task) (i k:Nat):Prop:=∃z,Chain l (i::z++[k])
theorem AW {l:List Task} {i k:Nat} (h:lZ l i k):om l i k:=⟨[],Chain.cons_iff.2 ⟨h,Chain.one h.2.1⟩⟩
theorem uh {l:List Task} {i m k:Nat} (h:om l i m) (h':om l m k):om l i k:=by
 obtain⟨z,hz⟩:=h;obtain⟨z',Ma⟩:=h';refine⟨z++m::z',?_⟩;have h1:Chain l (i::z):=hz.front;have h2:xx l (i::z) m:=fun hp=>hz.last_edge hp
 have:=pG (z:=z'++[k]) h1 (by simpa using Ma) h2;simpa using this
def X5 (l:List Task):Nat→Nat→Nat→Prop
 | 0,i,k=>lZ l i k
 | m+1,i,k=>X5 l m i k∨X5 l m i m∧X5 l m m k
theorem pf {l:List Task}:∀ {m i k:Nat},X5 l m i k→om l i k
 | 0,_,_,h=>AW h
 | _+1,_,_,.inl h=>pf h
 | _+1,_,_,.inr h=>uh (pf h.1) (pf h.2)
theorem tY {m:Nat}:∀ {z:List Nat},m∈z→∃a b,z=a++m::b ∧ m∉a
 | x::z,h=>by
  by_cases e:x=m
  ·subst e;exact⟨[],z,rfl,by simp⟩
  rw[List.mem_cons] at h;rcases h with h|h
  ·exact absurd h.symm e
  obtain⟨a,b,rfl,hn⟩:=tY h;refine⟨x::a,b,rfl,?_⟩;rw[List.mem_cons];rintro (h|h)
  ·exact e h.symm
  exact hn h
theorem wH {m:Nat}:∀ {z:List Nat},m∈z→∃a b,z=a++m::b ∧ m∉b
 | x::z,h=>by
  by_cases hz:m∈z
  ·obtain⟨a,b,rfl,hn⟩:=wH hz;exact⟨x::a,b,rfl,hn⟩
  rw[List.mem_cons] at h;rcases h with rfl|h
  ·exact⟨[],z,rfl,hz⟩
  exact absurd h hz
theorem pE {l:List Task}:∀(m i k:Nat) (z:List Nat),Chain l (i::z++[k])→(∀x∈z,x < m)→X5 l m i k
 | 0,i,k,[],h,_=>(Chain.cons_iff.1 h).1
 | 0,i,k,x::z,_,hx=>absurd (hx x (by simp)) (Nat.not_lt_zero _)
 | m+1,i,k,z,h,hx=>by
  by_cases hm:m∈z
  ·right
   refine⟨?_,?_⟩
   ·obtain⟨a,b,rfl,hn⟩:=tY hm;have h1:Chain l ((i::a++[m])++(b++[k])):=by simpa using h
    exact pE m i m a h1.front fun x hxa=>by
     have:=hx x (by simp[hxa])
     have:x≠m:=fun e=>hn (e▸hxa);omega
   obtain⟨a,b,rfl,hn⟩:=wH hm;have h1:Chain l ((i::a)++(m::b++[k])):=by simpa using h
   exact pE m m k b (qT h1) fun x hxb=>by
    have:=hx x (by simp[hxb])
    have:x≠m:=fun e=>hn (e▸hxb);omega
  left
  exact pE m i k z h fun x hxz=>by
   have:=hx x hxz
   have:x≠m:=fun e=>hm (e▸hxz);omega
theorem N4 {l:List Task} {i k:Nat}:om l i k↔X5 l l.length i k:=by
 constructor
 ·rintro⟨z,hz⟩;exact pE _ i k z hz fun x hx=>hz.1 x (by simp[hx])
 exact pf
structure Stage (l:List Task) (m i k:Nat) (b:Nat→Nat→Bool):Prop where
 sound:∀x y,b x y=true→om l x y
 old:∀x y,x<l.length→y<l.length→X5 l m x y→b x y=true
 new:∀x y,x<l.length→y<l.length→x<i∨x=i∧y<k→X5 l (m+1) x y→b x y=true
def tg (b:Nat→Nat→Bool) (i k:Nat) (v:Bool):Nat→Nat→Bool:=fun x y=>if x=i∧y=k then v else b x y
theorem Stage.start {l:List Task} {b:Nat→Nat→Bool} (h1:∀x y,b x y=true→om l x y) {m:Nat} (h2:∀x y,x<l.length→y<l.length→X5 l m x y→b x y=true):Stage l m 0 0 b :=
 ⟨h1,h2,fun x y _ _ h=>by omega⟩
theorem Stage.step {l:List Task} {m i k:Nat} {b:Nat→Nat→Bool} (h:Stage l m i k b) (hm:m<l.length) (hi:i<l.length) (hk:k<l.length):Stage l m i (k+1) (tg b i k (b i k||b i m&&b m k)):=by
 refine⟨fun x y hb=>?_,fun x y hx hy hv=>?_,fun x y hx hy hd hv=>?_⟩
 ·unfold tg at hb;split at hb
  ·rename_i e
   obtain⟨rfl,rfl⟩:=e;rw[Bool.or_eq_true,Bool.and_eq_true] at hb;rcases hb with hb|⟨hb,ev⟩
   ·exact h.sound _ _ hb
   exact uh (h.sound _ _ hb) (h.sound _ _ ev)
  exact h.sound _ _ hb
 ·unfold tg;split
  ·rename_i e
   obtain⟨rfl,rfl⟩:=e;rw[h.old _ _ hx hy hv];rfl
  exact h.old _ _ hx hy hv
 unfold tg;split
 ·rename_i e
  obtain⟨rfl,rfl⟩:=e;rcases hv with hv|⟨hv,hv'⟩
  ·rw[h.old _ _ hx hy hv];rfl
  rw[h.old _ _ hx hm hv,h.old _ _ hm hy hv'];simp
 rename_i e
 exact h.new _ _ hx hy (by omega) hv
theorem Stage.row {l:List Task} {m i:Nat} {b:Nat→Nat→Bool} (h:Stage l m i l.length b):Stage l m (i+1) 0 b :=
 ⟨h.sound,h.old,fun x y hx hy hd hv=>h.new x y hx hy (by omega) hv⟩
theorem Stage.up {l:List Task} {m:Nat} {b:Nat→Nat→Bool} (h:Stage l m l.length 0 b):Stage l (m+1) 0 0 b :=
 Stage.start h.sound fun x y hx hy hv=>h.new x y hx hy (by omega) hv
theorem Stage.done {l:List Task} {b:Nat→Nat→Bool} (h:Stage l l.length 0 0 b) {x y:Nat} (hx:x<l.length) (hy:y<l.length):b x y=true↔om l x y :=
 ⟨h.sound x y,fun hr=>h.old x y hx hy (N4.1 hr)⟩
