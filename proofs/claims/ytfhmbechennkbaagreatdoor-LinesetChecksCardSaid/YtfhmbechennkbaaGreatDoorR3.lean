/- Parts of the proof, laid into one text: RgL, RgM, RgN. -/
import Derived.Test.YtfhmbechennkbaaGreatDoorC3
import Derived.Test.YtfhmbechennkbaaGreatDoorR2
namespace Go.Proofs.YtfhmbechennkbaaGreatDoor
set_option maxRecDepth 100000
set_option maxHeartbeats 40000000
open Go.RowKit Go.Shelf
def DgOPost (w:World) (n:Nat) (e:Ending) (w':World):Prop:=∃ v,e = .returned v∧Below w.heap.size w w'∧w'.ownsRow w.heap.size 3 1 v (dlen n) ((digsTo n (dlen n)).map dgV)
theorem rgPlusO (v u:Value) (m n:Nat) (w:World) (hv:DgAt w w.heap.size v m) (hu:DgAt w w.heap.size u n) (hm:dlen m≤1000000) (hn:dlen n≤1000000) :
  Calls Tryz.prog 205 #[v,u] w (DgOPost w (m+n)):=by
 have HDm:Hid (∀ W,Below w.heap.size w W→∀ i,i≤maxLen→Calls Tryz.prog 208 #[v,.int .i64 (i:Nat)] W fun e w' => e = .returned (.int .i64 (gdig m i:Nat))∧W=w'):=fun W hb i hi => rgDigit v m i W (DgTo.grow hv hb) hi
 have HDn:Hid (∀ W,Below w.heap.size w W→∀ i,i≤maxLen→Calls Tryz.prog 208 #[u,.int .i64 (i:Nat)] W fun e w' => e = .returned (.int .i64 (gdig n i:Nat))∧W=w'):=fun W hb i hi => rgDigit u n i W (DgTo.grow hu hb) hi
 have hmn:dlen (m+n)≤1000001:=dlen_add hm hn
 obtain ⟨A1,c1,rfl,-,-,-⟩:=hv.open_
 obtain ⟨A2,c2,rfl,-,-,-⟩:=hu.open_
 clear hv hu
 go_enter Tryz.func205,Tryz.ntmps205
 go_wp2_with fail
 go_loopw [7,6,5] (fun ix cx ox wr => ∃ i:Nat,i≤dlen (m+n)∧ix = .int .i64 i∧cx = .int .i64 (carryN m n i:Nat)∧Hid (wr.ownsRow w.heap.size 3 1 ox i ((digsTo (m+n) i).map dgV))∧Hid (Below w.heap.size w wr)) (fun ix _ _ _ => dlen (m+n)-(intOf ix).toNat)
 case atStart => exact ⟨0,Nat.zero_le _,rfl,by rw [carry_zero];rfl,World.ownsRow_nil _ _ _ _,Below.refl _ _⟩
 case round =>
  obtain ⟨i,hi,rfl,rfl,HO,HB⟩:=hrel
  rename_i ox wr
  have k0:(0:Int)≤(i:Int):=Int.natCast_nonneg _
  have hgo:=plus_go m n i
  have hcy:=carry_le m n i
  by_cases hlt:i<dlen (m+n)
  ·have hc:(decide (i<dlen m)=true)∨(decide (i<dlen m)=false∧decide (i<dlen n)=true)∨(decide (i<dlen m)=false∧decide (i<dlen n)=false∧decide (0<carryN m n i)=true):=by
    by_cases d1:i<dlen m
    ·exact .inl (decide_eq_true d1)
    ·by_cases d2:i<dlen n
     ·exact .inr (.inl ⟨decide_eq_false d1,decide_eq_true d2⟩)
     ·exact .inr (.inr ⟨decide_eq_false d1,decide_eq_false d2,decide_eq_true (by have:=hgo.2 hlt;omega)⟩)
   have b1:=gdig_lt m i
   have b2:=gdig_lt n i
   have e1:=plus_dig m n i
   have e2:=plus_carry m n i
   have H1:=HDm.out wr HB.out i (by unfold maxLen;omega)
   have H2:=HDn.out wr HB.out i (by unfold maxLen;omega)
   generalize hx1:gdig m i=x1 at *
   generalize hx2:gdig n i=x2 at *
   generalize hx3:carryN m n i=x3 at *
   have v1:IntKind.i64.wrap ((x1:Int)+(x2:Int))=((x1+x2:Nat):Int):=(IntWalk.i64_in _ (by omega)).trans (by omega)
   have v2:IntKind.i64.wrap (((x1+x2:Nat):Int)+(x3:Int))=((x1+x2+x3:Nat):Int):=(IntWalk.i64_in _ (by omega)).trans (by omega)
   have HM:Hid (((x1:Int)+(x2:Int)+(x3:Int)) % 16777216=((gdig (m+n) i:Nat):Int)):=by unfold Hid;omega
   have HQ:Hid (((x1:Int)+(x2:Int)+(x3:Int)) / 16777216=((carryN m n (i+1):Nat):Int)):=by unfold Hid;omega
   have hb4:=gdig_lt (m+n) i
   have hc4:=carry_le m n (i+1)
   clear e1 e2 hgo hx1 hx2 hx3
   rcases hc with d1 | ⟨d1,d2⟩ | ⟨d1,d2,d3⟩
   all_goals
    go_wp2_with fail
    refine (H1).mono ?_
    rintro e w2 ⟨rfl,rfl⟩
    go_wp2_with fail
    refine (H2).mono ?_
    rintro e w3 ⟨rfl,rfl⟩
    have HB3:=HB
    have hO3:=HO.out
    clear H1 H2 HO
    go_wp2_with (at_builtin;refine wpList_push _ rfl (.tmp 34) (.tmp 37) 22 rfl w.heap.size 3 info_dig Tryz.underlying22 rfl _ i _ rfl hO3 (.int .i64 (((x1:Int)+(x2:Int)+(x3:Int)) % 16777216)) rfl rfl (by unfold maxLen;omega) (by omega) HB3.out.size ?_;intro g cap w4 hown4 hgrow4 hbg hgg;have HB4:=zh (HB3.out.grown hgrow4 HB3.out.size (fun k hk => (hO3.lt k hk).1));have HO4:=zh (own_more (by rw [HM.out]) hown4);clear hown4 hgrow4 hgg)
    clear hO3 HB3
    go_roundw
    case rel => exact ⟨i+1,by omega,by go_num,by rw [HQ.out],HO4,HB4⟩
    case measure => simp [intOf];omega
  ·have hc:decide (i<dlen m)=false∧decide (i<dlen n)=false∧decide (0<carryN m n i)=false:=by
    have h1:¬ (i<dlen m∨i<dlen n∨0<carryN m n i):=fun h => hlt (hgo.1 h)
    exact ⟨decide_eq_false (by omega),decide_eq_false (by omega),decide_eq_false (by omega)⟩
   obtain ⟨d1,d2,d3⟩:=hc
   have hie:i=dlen (m+n):=by omega
   have hF:=HO.out
   rw [hie] at hF
   have HF:=zh hF
   clear hgo hie hF
   generalize carryN m n i=x3 at *
   go_wp2_with fail
   go_ret
   exact ⟨_,rfl,HB.out,HF.out⟩
theorem info_digs:(Tryz.prog.info? 22).map (fun i => (i.zero,i.size,i.bytes))=some (some (.slice none 0 0),1,24):=by kernel_rfl
theorem quo_own1 (w:World) (t:TypeId) (u:Value):(w.alloc (.cells #[u] t)).ownsRow w.heap.size t 1 (.slice (some ⟨w.heap.size,0,none⟩) 1 1) 1 [u] :=
 ⟨by simp,.inr ⟨w.heap.size,1,#[u],rfl,Nat.le_refl _,heap_alloc_new w _,Nat.le_refl _,by unfold maxLen;decide,rfl,by simp⟩⟩
theorem dlen_one:dlen 1=1:=by
 have h1:dlen 1≤1:=dlen_le (by decide)
 have h2:dlen 1≠0:=fun e => absurd (dlen_z.1 e) (by decide)
 omega
theorem quo_one (w:World):DgAt (w.alloc (.cells #[.int .i64 1] 3)) (w.alloc (.cells #[.int .i64 1] 3)).heap.size (.slice (some ⟨w.heap.size,0,none⟩) 1 1) 1:=by
 unfold DgAt
 rw [dlen_one]
 exact own_dig (quo_own1 w 3 (.int .i64 1))
def QEl (wr:World) (B:Nat) (u:Value) (x:Nat):Prop:=DgAt wr B u x∨wr.ownsRow B 3 1 u (dlen x) ((digsTo x (dlen x)).map dgV)
theorem QEl.at_ {wr:World} {B:Nat} {u:Value} {x:Nat} (h:QEl wr B u x) (hB:B≤wr.heap.size):DgAt wr wr.heap.size u x:=by
 rcases h with h | h
 ·exact DgTo.mono h hB
 ·exact own_dig h
theorem QEl.below {wr w':World} {B:Nat} {u:Value} {x:Nat} (h:QEl wr B u x) (hB:B≤wr.heap.size) (hb:Below wr.heap.size wr w'):QEl w' B u x:=by
 rcases h with h | h
 ·exact .inl (DgTo.below h hb hB)
 ·exact .inr (ownD_below h hb)
theorem quo_row {w w':World} {B B' e t s m n:Nat} {v u:Value} {xs ys:List Value} (h:w.ownsRow B e 1 v n xs) (hg:w.grownBy w' v.ownBlock) (hk:w.ownsRow B' t s u m ys) (ht:t≠e):w'.ownsRow B' t s u m ys:=by
 refine hk.kept hg ?_
 rcases h.2 with ⟨rfl,_⟩ | ⟨g,cap,cur,rfl,_,hgg,_⟩
 ·exact Classical.em _
 ·exact ownr_none hk fun r e1 cs f h2 => by
   obtain rfl:g=r:=by simpa [Value.ownBlock] using e1
   rw [hgg] at h2
   injection h2 with h2
   injection h2 with _ h2 _
   exact ht h2.symm
theorem ownQ_mono {w:World} {B B' e s n:Nat} {v:Value} {xs:List Value} (h:w.ownsRow B e s v n xs) (hB:B'≤B):w.ownsRow B' e s v n xs:=by
 refine ⟨h.1,?_⟩
 rcases h.2 with h | ⟨g,cap,cur,e,hb,r⟩
 ·exact .inl h
 ·exact .inr ⟨g,cap,cur,e,Nat.le_trans hB hb,r⟩
structure QuoS (w wr:World) (rv:Value) (b:Nat) (vs:List Value) (n:Nat):Prop where
 bel:Below w.heap.size w wr
 own:wr.ownsRow w.heap.size 22 1 rv n vs
 el:∀ i,i<n→∃ u,vs[i]? = some u∧QEl wr w.heap.size u (b*2 ^ i)
section
variable {w wr w2 w':World} {rv u v':Value} {b n:Nat} {vs:List Value}
theorem QuoS.below (h:QuoS w wr rv b vs n) (hb:Below wr.heap.size wr w'):QuoS w w' rv b vs n :=
 ⟨h.bel.trans (hb.mono h.bel.size),ownD_below h.own hb,fun i hi => let ⟨u,e,hu⟩:=h.el i hi;⟨u,e,hu.below h.bel.size hb⟩⟩
theorem QuoS.push (h:QuoS w w2 rv b vs n) (hu:w2.ownsRow w.heap.size 3 1 u (dlen (b*2 ^ n)) ((digsTo (b*2 ^ n) (dlen (b*2 ^ n))).map dgV)) (ho:w'.ownsRow w.heap.size 22 1 v' (n+1) (vs ++ [u])) (hg:w2.grownBy w' rv.ownBlock):QuoS w w' v' b (vs ++ [u]) (n+1):=by
 have hl:vs.length=n:=by have:=h.own.1;omega
 have hb0:Below w.heap.size w2 w':=(Below.refl _ w2).grown hg h.bel.size (fun k e => (h.own.lt k e).1)
 refine ⟨h.bel.trans hb0,ho,fun i hi => ?_⟩
 rcases Nat.lt_or_ge i n with h1 | h1
 ·obtain ⟨x,e,hx⟩:=h.el i h1
  refine ⟨x,by rw [List.getElem?_append_left (by omega)];exact e,?_⟩
  rcases hx with hx | hx
  ·exact .inl (DgTo.below hx hb0 (Nat.le_refl _))
  ·exact .inr (quo_row h.own hg hx (by decide))
 ·obtain rfl:i=n:=by omega
  exact ⟨u,by rw [List.getElem?_append_right (by omega),hl,Nat.sub_self];rfl,.inr (quo_row h.own hg hu (by decide))⟩
theorem QuoS.start (hu:DgAt w w.heap.size u b):QuoS w (w.alloc (.cells #[u] 22)) (.slice (some ⟨w.heap.size,0,none⟩) 1 1) b [u] 1:=by
 have hb:Below w.heap.size w (w.alloc (.cells #[u] 22)):=(Below.refl _ w).alloc (Nat.le_refl _) _
 refine ⟨hb,quo_own1 _ _ _,fun i hi => ?_⟩
 obtain rfl:i=0:=by omega
 exact ⟨u,rfl,.inl (by rw [Nat.pow_zero,Nat.mul_one];exact DgTo.below hu hb (Nat.le_refl _))⟩
end
theorem quo_few {K a b j:Nat} (ha:dlen a≤K) (hb0:0<b) (h:j=0∨b*2 ^ (j-1)≤a):j≤24*K:=by
 rcases h with rfl | h
 ·exact Nat.zero_le _
 ·have h1:1*2 ^ (j-1)≤b*2 ^ (j-1):=Nat.mul_le_mul_right _ hb0
  have h2:=dlen_iff.2 ha
  rw [base_pow24] at h2
  rw [Nat.one_mul] at h1
  have:=(Nat.pow_lt_pow_iff_right (a:=2) (by decide)).1 (Nat.lt_of_le_of_lt (Nat.le_trans h1 h) h2)
  omega
theorem quo_dl {K a b j:Nat} (ha:dlen a≤K) (hb:dlen b≤K) (h:j=0∨b*2 ^ (j-1)≤a):dlen (b*2 ^ j)≤K+1:=by
 rcases j with _ | j
 ·rw [Nat.pow_zero,Nat.mul_one];omega
 ·rcases h with h | h
  ·omega
  ·have h1:dlen (b*2 ^ j)≤K:=Nat.le_trans (dlen_mono h) ha
   rw [show b*2 ^ (j+1)=b*2 ^ j+b*2 ^ j by rw [Nat.pow_succ,← Nat.mul_assoc];omega]
   exact dlen_add h1 h1
theorem quo_step {a b i:Nat} (hb0:0<b):(b*2 ^ i≤a % (b*2 ^ (i+1))→a / (b*2 ^ i)=a / (b*2 ^ (i+1))+a / (b*2 ^ (i+1))+1∧a % (b*2 ^ i)=a % (b*2 ^ (i+1))-b*2 ^ i)∧(a % (b*2 ^ (i+1))<b*2 ^ i→a / (b*2 ^ i)=a / (b*2 ^ (i+1))+a / (b*2 ^ (i+1))∧a % (b*2 ^ i)=a % (b*2 ^ (i+1))):=by
 have hc:0<b*2 ^ i:=Nat.mul_pos hb0 (Nat.two_pow_pos i)
 have e:b*2 ^ (i+1)=b*2 ^ i*2:=by rw [Nat.pow_succ,Nat.mul_assoc]
 rw [e]
 generalize b*2 ^ i=c at *
 have h1:=Nat.div_add_mod a (c*2)
 have h2:=Nat.mod_lt a (show 0<c*2 by omega)
 generalize a / (c*2)=q at *
 generalize a % (c*2)=r at *
 have h3:c*2*q=c*(q+q):=by rw [Nat.mul_assoc,Nat.two_mul]
 constructor
 ·intro h
  have:=(Nat.div_mod_unique (a:=a) (b:=c) (d:=q+q+1) (c:=r-c) hc).2 ⟨by rw [Nat.mul_add c (q+q) 1,Nat.mul_one];omega,by omega⟩
  exact this
 ·intro h
  have:=(Nat.div_mod_unique (a:=a) (b:=c) (d:=q+q) (c:=r) hc).2 ⟨by omega,h⟩
  exact this
theorem quo_start {a b j:Nat} (h:a<b*2 ^ j):a / (b*2 ^ (j+1))=0∧a % (b*2 ^ (j+1))=a:=by
 have h1:b*2 ^ j≤b*2 ^ (j+1):=Nat.mul_le_mul_left _ (Nat.pow_le_pow_right (by decide) (Nat.le_succ _))
 exact ⟨Nat.div_eq_of_lt (by omega),Nat.mod_eq_of_lt (by omega)⟩
theorem quo_nil (w:World):DgAt w w.heap.size (.slice none 0 0) 0:=by
 unfold DgAt
 rw [dlen_zero]
 exact own_dig (World.ownsRow_nil w w.heap.size _ _)
theorem rgQuotient (v u:Value) (a b K:Nat) (w:World) (hv:DgAt w w.heap.size v a) (hu:DgAt w w.heap.size u b) (hK:K≤300000) (ha:dlen a≤K) (hb:dlen b≤K) (hb0:0<b) :
  Calls Tryz.prog 178 #[v,u] w (DgPost w (a / b)):=by
 obtain ⟨A1,c1,rfl,-,-,-⟩:=DgTo.open_ hv
 obtain ⟨A2,c2,rfl,-,-,-⟩:=DgTo.open_ hu
 have HA:=zh hv
 have HS0:=zh (QuoS.start hu)
 have HK:Hid (K≤300000):=hK
 have HLa:=zh ha
 have HLb:=zh hb
 have Hb0:=zh hb0
 have HLa2:=zh HLa.out
 have HLb2:=zh HLb.out
 generalize hla:dlen a=la at HA HLa ⊢
 have HLaE:=zh hla
 generalize hlb:dlen b=lb at HS0 HLb ⊢
 have HA1:Hid (DgAt (w.alloc (.cells #[.slice A2 lb c2] 22)) w.heap.size (.slice A1 la c1) a):=DgTo.below HA.out HS0.out.bel (Nat.le_refl _)
 clear hv hu hK ha hb hb0 hla hlb
 go_enter Tryz.func178,Tryz.ntmps178
 go_wp2_with fail
 go_loopg [5] (24*K+1) (fun gk rx wr => ∃ j g cap vs,gk+j=24*K+1∧rx = .slice (some ⟨g,0,none⟩) (j+1) cap∧Hid (QuoS w wr (.slice (some ⟨g,0,none⟩) (j+1) cap) b vs (j+1))∧Hid (j=0∨b*2 ^ (j-1)≤a))
 case atStart => exact ⟨0,_,_,_,rfl,rfl,HS0,.inl rfl⟩
 case round =>
  clear HS0 HA1
  obtain ⟨j,g,cap,vs,hgk,rfl,HS,HP⟩:=hrel
  have hj:=quo_few HLa2.out Hb0.out HP.out
  have HDl:=zh (quo_dl HLa2.out HLb2.out HP.out)
  have hK:=HK.out
  obtain ⟨x,hx,hQ⟩:=HS.out.el j (Nat.lt_succ_self j)
  have y0:=(HS.out.own.cellAt j (by omega)).trans hx
  have HX:=zh (hQ.at_ HS.out.bel.size)
  have HAr:Hid (DgAt wr wr.heap.size (.slice A1 la c1) a):=(DgTo.below HA.out HS.out.bel (Nat.le_refl _)).mono HS.out.bel.size
  obtain ⟨A4,c4,rfl,-,-,-⟩:=DgTo.open_ HX.out
  obtain ⟨n,hn⟩:∃ n,n=j+1:=⟨_,rfl⟩
  have Hn:=zh hn
  rw [← hn] at HS ⊢
  have v0:IntKind.i64.wrap ((n:Int)-1)=(j:Int):=(IntWalk.i64_in _ (by omega)).trans (by omega)
  have v1:(j:Int)<(n:Int):=by omega
  have hnb:n≤7200001:=by omega
  have Hg:=zh hgk
  clear hx hQ hn hgk
  go_wp2_with fail
  refine (rgLarger _ _ (b*2 ^ j) a _ HX.out HAr.out).mono ?_
  rintro e w3 ⟨rfl,hb3⟩
  have HS3:=zh (HS.out.below hb3)
  have HX3:=zh (DgTo.grow HX.out hb3)
  have HA3:=zh (DgTo.grow HAr.out hb3)
  have y3:=(hb3.cell (p:=⟨g,j,none⟩) (HS.out.own.lt g rfl).2).trans y0
  clear hb3 y0 HX HAr HS
  by_cases hlt:a<b*2 ^ j
  ·rw [decide_eq_true hlt]
   have HQ0:=zh (quo_start hlt)
   have HLa3:=zh HLa2.out
   have HAs:Hid (DgAt w3 w3.heap.size (.slice A1 la c1) (a % (b*2 ^ n))):=by rw [Hn.out,HQ0.out.2];exact HA3.out
   clear hlt HP HDl HX3 y3 Hg
   go_wp2_with fail
   go_loopw [0,7,8] (fun va vq kx wr => ∃ m:Nat,m≤n∧kx = .int .i64 ((m:Int)-1)∧Hid (DgAt wr wr.heap.size va (a % (b*2 ^ m)))∧Hid (DgAt wr wr.heap.size vq (a / (b*2 ^ m)))∧Hid (QuoS w wr (.slice (some ⟨g,0,none⟩) n cap) b vs n)) (fun _ _ kx _ => (intOf kx+1).toNat)
   case atStart => exact ⟨n,Nat.le_refl _,by have:=Hn.out;go_num,HAs,by rw [Hn.out,HQ0.out.1];exact quo_nil _,HS3⟩
   case round =>
    clear HA3 HS3 HQ0
    obtain ⟨m,hm,rfl,HR,HQ,HS⟩:=hrel
    rcases m with _ | i
    ·rw [Nat.pow_zero,Nat.mul_one] at HQ
     obtain ⟨A7,c7,rfl,-,-,-⟩:=DgTo.open_ HQ.out
     clear hm
     go_wp2_with fail
     refine (rgTrim false _ (a / b) (dlen (a / b)) _ HQ.out (Nat.le_refl _)).mono ?_
     rintro e w9 ⟨v9,rfl,hb9,hd9⟩
     obtain ⟨A9,c9,rfl,-,-,-⟩:=DgTo.open_ hd9
     have hfl:=fun W => big_field (false && decide (a / b≠0)) A9 (dlen (a / b)) c9 W
     rw [Bool.false_and] at hfl
     have HD9:=zh hd9
     have HB9:=zh (HS.out.bel.trans (hb9.mono HS.out.bel.size))
     clear hd9 hb9 HS HQ HR
     go_wp2_with fail
     go_ret
     exact ⟨_,rfl,HB9.out,HD9.out⟩
    ·have e0:((i+1:Nat):Int)-1=(i:Int):=by omega
     rw [e0]
     have HSt:=zh (quo_step (a:=a) (i:=i) Hb0.out)
     have HLq:Hid (dlen (a / (b*2 ^ (i+1)))≤K):=Nat.le_trans (dlen_mono (Nat.div_le_self _ _)) HLa3.out
     have HLr:Hid (dlen (a % (b*2 ^ (i+1)))≤K):=Nat.le_trans (dlen_mono (Nat.mod_le _ _)) HLa3.out
     have hi:i<n:=by omega
     obtain ⟨x,hx,hQ⟩:=HS.out.el i hi
     have y0:=(HS.out.own.cellAt i (by omega)).trans hx
     have HX:=zh (hQ.at_ HS.out.bel.size)
     obtain ⟨A4,c4,rfl,-,-,-⟩:=DgTo.open_ HX.out
     obtain ⟨A5,c5,e5,-,-,-⟩:=DgTo.open_ HR.out
     obtain ⟨A6,c6,e6,-,-,-⟩:=DgTo.open_ HQ.out
     rw [e5] at HR ⊢
     rw [e6] at HQ ⊢
     generalize a % (b*2 ^ (i+1))=r at *
     generalize a / (b*2 ^ (i+1))=q at *
     generalize hc:b*2 ^ i=c at *
     have HC:=zh hc
     have i0:(i:Int)<(n:Int):=by omega
     have v2:IntKind.i64.wrap ((i:Int)-1)=(i:Int)-1:=IntWalk.i64_in _ (by omega)
     clear hx hQ e5 e6 e0 hc
     go_wp2_with fail
     refine (rgPlus _ _ q q _ HQ.out HQ.out (by have:=HLq.out;have:=HK.out;omega) (by have:=HLq.out;have:=HK.out;omega)).mono ?_
     rintro e w4 ⟨v4,rfl,hb4,hq4⟩
     obtain ⟨A7,c7,rfl,-,-,-⟩:=DgTo.open_ hq4
     have HQ4:=zh hq4
     have HR4:=zh (DgTo.grow HR.out hb4)
     have HX4:=zh (DgTo.grow HX.out hb4)
     have HS4:=zh (HS.out.below hb4)
     have y4:=(hb4.cell (p:=⟨g,i,none⟩) (HS.out.own.lt g rfl).2).trans y0
     clear hb4 hq4 HQ HR HX HS y0
     go_wp2_with fail
     refine (rgLarger _ _ c r _ HX4.out HR4.out).mono ?_
     rintro e w5 ⟨rfl,hb5⟩
     have HQ5:=zh (DgTo.grow HQ4.out hb5)
     have HR5:=zh (DgTo.grow HR4.out hb5)
     have HX5:=zh (DgTo.grow HX4.out hb5)
     have HS5:=zh (HS4.out.below hb5)
     have y5:=(hb5.cell (p:=⟨g,i,none⟩) (HS4.out.own.lt g rfl).2).trans y4
     clear hb5 HQ4 HR4 HX4 HS4 y4
     by_cases hlt:r<c
     ·rw [decide_eq_true hlt]
      have HE:=zh (HSt.out.2 hlt)
      clear hlt HSt
      go_wp2_with fail
      go_roundw
      case rel => exact ⟨i,by omega,by go_num,by rw [HC.out,HE.out.2];exact HR5,by rw [HC.out,HE.out.1];exact HQ5,HS5⟩
      case measure => simp [intOf] <;> omega
     ·rw [decide_eq_false hlt]
      have HLe:Hid (c≤r):=Nat.not_lt.1 hlt
      have HE:=zh (HSt.out.1 HLe.out)
      clear hlt HSt
      go_wp2_with fail
      refine (rgMinus _ _ r c _ HR5.out HX5.out (by have:=HLr.out;have:=HK.out;omega) HLe.out).mono ?_
      rintro e w8 ⟨v8,rfl,hb8,hR8⟩
      obtain ⟨A8,c8,rfl,-,-,-⟩:=DgTo.open_ hR8
      have HR8:=zh hR8
      have HQ8:=zh (DgTo.grow HQ5.out hb8)
      have HS8:=zh (HS5.out.below hb8)
      clear hb8 hR8 HX5 HQ5 HS5 HR5 y5
      go_wp2_with fail
      refine (rgTrim false _ (r-c) (dlen r) _ HR8.out (dlen_mono (Nat.sub_le _ _))).mono ?_
      rintro e w9 ⟨v9,rfl,hb9,hd9⟩
      obtain ⟨A9,c9,rfl,-,-,-⟩:=DgTo.open_ hd9
      have hfl:=fun W => big_field (false && decide (r-c≠0)) A9 (dlen (r-c)) c9 W
      rw [Bool.false_and] at hfl
      have HD9:=zh hd9
      have HQ9:=zh (DgTo.grow HQ8.out hb9)
      have HS9:=zh (HS8.out.below hb9)
      have hba:Below w9.heap.size w9 (w9.alloc (.cells #[.int .i64 1] 3)):=(Below.refl _ w9).alloc (Nat.le_refl _) _
      have HO1:=zh (quo_one w9)
      have HDa:=zh (DgTo.grow HD9.out hba)
      have HQa:=zh (DgTo.grow HQ9.out hba)
      have HSa:=zh (HS9.out.below hba)
      clear hd9 hb9 HR8 HQ8 HS8 hba HD9 HQ9 HS9
      go_wp2_with fail
      refine (rgPlus _ _ (q+q) 1 _ HQa.out HO1.out (by have:=dlen_add HLq.out HLq.out;have:=HK.out;omega) (by rw [dlen_one];decide)).mono ?_
      rintro e w6 ⟨v6,rfl,hb6,hq6⟩
      have HQ6:=zh hq6
      have HR6:=zh (DgTo.grow HDa.out hb6)
      have HS6:=zh (HSa.out.below hb6)
      clear hb6 hq6 HDa HQa HSa HO1
      go_wp2_with fail
      go_roundw
      case rel => exact ⟨i,by omega,by go_num,by rw [HC.out,HE.out.2];exact HR6,by rw [HC.out,HE.out.1];exact HQ6,HS6⟩
      case measure => simp [intOf] <;> omega
  ·rw [decide_eq_false hlt]
   have HLe:Hid (b*2 ^ j≤a):=Nat.not_lt.1 hlt
   have HE:Hid (b*2 ^ j+b*2 ^ j=b*2 ^ (j+1)):=by unfold Hid;rw [Nat.pow_succ,← Nat.mul_assoc];omega
   clear hlt
   go_wp2_with fail
   refine (rgPlusO _ _ (b*2 ^ j) (b*2 ^ j) _ HX3.out HX3.out (by have:=HDl.out;omega) (by have:=HDl.out;omega)).mono ?_
   rintro e w4 ⟨v4,rfl,hb4,hO4⟩
   rw [HE.out] at hO4
   have HS4:=zh (HS3.out.below hb4)
   rw [Hn.out] at HS4
   have HO4:=zh (ownQ_mono hO4 HS3.out.bel.size)
   obtain ⟨A6,c6,e6⟩:=own_formD hO4
   rw [e6] at HO4 ⊢
   generalize hl6:dlen (b*2 ^ (j+1))=l6 at HO4 ⊢
   have hO:=HS4.out.own
   have hsz:=HS4.out.bel.size
   rw [← Hn.out] at hO
   have HPu:Hid (∀ v' w1,w1.ownsRow w.heap.size 22 1 v' (n+1) (vs ++ [.slice A6 l6 c6])→w4.grownBy w1 (Value.slice (some ⟨g,0,none⟩) n cap).ownBlock→QuoS w w1 v' b (vs ++ [.slice A6 l6 c6]) (n+1)):=fun v' w1 ho hg => by
    have hh:=HS4.out.push (u:=.slice A6 l6 c6) (by rw [hl6];exact HO4.out) (by rw [← Hn.out];exact ho) (by exact hg)
    rw [← Hn.out] at hh
    exact hh
   clear e6 hl6 hb4 hO4 HS3 HX3 HA3 y3
   go_wp2_with (at_builtin;refine wpList_push _ rfl (.tmp 26) (.tmp 30) 251 rfl w.heap.size 22 info_digs Tryz.underlying251 rfl _ n _ rfl hO (.slice A6 l6 c6) rfl rfl (by unfold maxLen;omega) (by omega) hsz ?_;intro g4 cap4 w5 hown4 hgrow4 hbg hgg;have HS5:=zh (HPu.out _ _ hown4 hgrow4);clear hown4 hgrow4 hgg hbg)
   clear hO HPu
   go_roundg (24*K+1-(j+1))
   case rel => exact ⟨j+1,g4,cap4,_,by have:=Hg.out;have:=quo_few HLa2.out Hb0.out (.inr (by rw [Nat.add_sub_cancel];exact HLe.out));omega,by rw [Hn.out],by rw [Hn.out] at HS5;exact HS5,.inr (by rw [Nat.add_sub_cancel];exact HLe.out)⟩
   case measure => have:=Hg.out;have:=quo_few HLa2.out Hb0.out (.inr (by rw [Nat.add_sub_cancel];exact HLe.out));omega
def ExqPost (w:World) (q:Rat) (K:Nat) (e:Ending) (w':World):Prop:=∃ v,e = .returned v∧Below w.heap.size w w'∧ExqAt w' w'.heap.size v q K
theorem exq_form {w:World} {B:Nat} {x:Value} {q:Rat} {K:Nat} (h:ExqAt w B x q K):∃ s1 A1 l1 c1 s2 A2 l2 c2 N D,x = .agg #[.bool s1,.slice A1 l1 c1,.bool s2,.slice A2 l2 c2]∧BigAt w B s1 (.slice A1 l1 c1) N∧BigAt w B s2 (.slice A2 l2 c2) D∧0<D∧dlen N.natAbs≤K∧dlen D.natAbs≤K∧q=Rat.divInt N D:=by
 obtain ⟨s1,v1,s2,v2,N,D,rfl,h1,h2,h3⟩:=h
 obtain ⟨A1,c1,rfl,-⟩:=DgTo.open_ h1.2
 obtain ⟨A2,c2,rfl,-⟩:=DgTo.open_ h2.2
 exact ⟨s1,A1,_,c1,s2,A2,_,c2,N,D,rfl,h1,h2,h3⟩
theorem Zg {f:FuncId} {args:Array Value} {w:World} {q:Rat} {K:Nat} (h:Calls Tryz.prog f args w (ExqPost w q K)):Calls Tryz.prog f args w fun e w' => ∃ v,e = .returned v∧Below w.heap.size w w'∧(gEq q K).σ v∧(gEq q K).φ v w':=h.mono fun e w' h => by
 obtain ⟨v,rfl,hb,h1⟩:=h
 obtain ⟨s1,A1,l1,c1,s2,A2,l2,c2,N,D,rfl,h2⟩:=exq_form h1
 exact ⟨_,rfl,hb,⟨s1,A1,l1,c1,s2,A2,l2,c2,rfl⟩,h1⟩
theorem rgNegP (s:Bool) (v:Value) (n:Int) (w:World) (hv:BigAt w w.heap.size s v n):Calls Tryz.prog 176 #[.agg #[.bool s,v]] w (BigPost w (-n)):=(rgNeg s v n w hv).mono fun e w' h => by
 obtain ⟨rfl,hb⟩:=h
 have h2:=DgTo.grow hv.2 hb
 exact ⟨_,v,rfl,hb,rfl,by rw [Int.natAbs_neg];exact h2⟩
theorem dlen_sumI {m n:Int} {K:Nat} (h1:dlen m.natAbs≤K) (h2:dlen n.natAbs≤K):dlen (m+n).natAbs≤K+1:=Nat.le_trans (dlen_mono (Int.natAbs_add_le m n)) (dlen_add h1 h2)
theorem exq_pos {N D:Int} (hD:0<D) (h:0<Rat.divInt N D):0<N:=by
 obtain ⟨h1,h2⟩:=exq_sign (N:=N) hD
 rcases Int.lt_trichotomy N 0 with h3 | h3 | h3
 ·exact absurd h (Rat.not_lt.2 (Rat.le_of_lt (h1.2 h3)))
 ·rw [h2.2 h3] at h
  exact absurd h (Rat.lt_irrefl)
 ·exact h3
theorem exq_out {w w8:World} {R:Nat} (hR:w.heap.size≤R) (hb:Below w.heap.size w w8) (hD:Blk w8 R 175 #[.bool false,.slice none 0 0,.bool false,.slice none 0 0]) {s1 s2:Bool} {v1 v2:Value} {q:Rat} {K:Nat} (hv:ExqAt w8 w8.heap.size (.agg #[.bool s1,v1,.bool s2,v2]) q K) :
  Below w.heap.size w ((((w8.setCell ⟨R,0,none⟩ (.bool s1)).setCell ⟨R,1,none⟩ v1).setCell ⟨R,2,none⟩ (.bool s2)).setCell ⟨R,3,none⟩ v2)∧ExqAt ((((w8.setCell ⟨R,0,none⟩ (.bool s1)).setCell ⟨R,1,none⟩ v1).setCell ⟨R,2,none⟩ (.bool s2)).setCell ⟨R,3,none⟩ v2) ((((w8.setCell ⟨R,0,none⟩ (.bool s1)).setCell ⟨R,1,none⟩ v1).setCell ⟨R,2,none⟩ (.bool s2)).setCell ⟨R,3,none⟩ v2).heap.size (.agg #[.bool s1,v1,.bool s2,v2]) q K:=by
 have h1:=hD.set_ 0 (.bool s1)
 have h2:=h1.set_ 1 v1
 have h3:=h2.set_ 2 (.bool s2)
 have z0:=hD.cell 0
 have z1:=h1.cell 1
 have z2:=h2.cell 2
 have z3:=h3.cell 3
 simp only [zq1,zq3] at z0
 have hset:∀ {v:Value} {x k:Nat},DgTo w8 w8.heap.size v x k→DgTo ((((w8.setCell ⟨R,0,none⟩ (.bool s1)).setCell ⟨R,1,none⟩ v1).setCell ⟨R,2,none⟩ (.bool s2)).setCell ⟨R,3,none⟩ v2) ((((w8.setCell ⟨R,0,none⟩ (.bool s1)).setCell ⟨R,1,none⟩ v1).setCell ⟨R,2,none⟩ (.bool s2)).setCell ⟨R,3,none⟩ v2).heap.size v x k:=fun h => by
  have g1:=DgTo.set h z0 (fun z => by simp) (.bool s1)
  have g2:=DgTo.set g1 (u:=.slice none 0 0) z1 (fun z => by simp) v1
  have g3:=DgTo.set g2 (u:=.bool false) z2 (fun z => by simp) (.bool s2)
  have g4:=DgTo.set g3 (u:=.slice none 0 0) z3 (fun z => by simp) v2
  exact DgTo.mono g4 (by simp [World.setCell])
 obtain ⟨_,_,_,_,N,D,e,h4,h5,h6⟩:=hv
 cases e
 exact ⟨(((hb.setCell (p:=⟨R,0,none⟩) hR _).setCell (p:=⟨R,1,none⟩) hR _).setCell (p:=⟨R,2,none⟩) hR _).setCell (p:=⟨R,3,none⟩) hR _,_,_,_,_,N,D,rfl,⟨h4.1,hset h4.2⟩,⟨h5.1,hset h5.2⟩,h6⟩
theorem rgEPlus (v u:Value) (x y:Rat) (K M:Nat) (w:World) (hv:ExqAt w w.heap.size v x K) (hu:ExqAt w w.heap.size u y M) (hK:K+M+1≤400000) :
  Calls Tryz.prog 133 #[v,u] w (ExqPost w (x+y) (K+M+1)):=by
 obtain ⟨pb1,pA1,pl1,pc1,pb2,pA2,pl2,pc2,N,D,rfl,hx1,hx2,hD,hN1,hD1,hxq⟩:=exq_form hv
 obtain ⟨qb1,qA1,ql1,qc1,qb2,qA2,ql2,qc2,N2,E,rfl,hy1,hy2,hE,hN2,hE1,hyq⟩:=exq_form hu
 have HEq:Hid (x+y=Rat.divInt (N*E+N2*D) (D*E)):=by rw [hxq,hyq];exact exq_plus hD hE
 have HP:Hid (0<D*E):=Int.mul_pos hD hE
 have HM1:Hid (dlen (N*E).natAbs≤K+M):=by unfold Hid;rw [Int.natAbs_mul];exact dlen_mul hN1 hE1
 have HM2:Hid (dlen (N2*D).natAbs≤K+M):=by unfold Hid;rw [Int.natAbs_mul,Nat.mul_comm];exact dlen_mul hD1 hN2
 have HS1:Hid (dlen (N*E+N2*D).natAbs≤K+M+1):=dlen_sumI HM1.out HM2.out
 have HS2:Hid (dlen (D*E).natAbs≤K+M+1):=by unfold Hid;rw [Int.natAbs_mul];exact Nat.le_succ_of_le (dlen_mul hD1 hE1)
 have HX1:=zh hx1
 have HX2:=zh hx2
 have HY1:=zh hy1
 have HY2:=zh hy2
 have HK:=zh hK
 have HN1:=zh hN1
 have HD1:=zh hD1
 have HN2:=zh hN2
 have HE1:=zh hE1
 have HV:=zh hv
 have HU:=zh hu
 have HBx:=zh (three_boxes w 175 175 175 #[.bool pb1,.slice pA1 pl1 pc1,.bool pb2,.slice pA2 pl2 pc2] #[.bool qb1,.slice qA1 ql1 qc1,.bool qb2,.slice qA2 ql2 qc2] #[.bool false,.slice none 0 0,.bool false,.slice none 0 0])
 clear hv hu hx1 hx2 hy1 hy2 hN1 hD1 hN2 hE1 hK hD hE hxq hyq
 go_enter Tryz.func133,Tryz.ntmps133
 go_wp2_with fail
 generalize ((w.alloc (.cells #[.bool pb1,.slice pA1 pl1 pc1,.bool pb2,.slice pA2 pl2 pc2] 175)).alloc (.cells #[.bool qb1,.slice qA1 ql1 qc1,.bool qb2,.slice qA2 ql2 qc2] 175)).alloc (.cells #[.bool false,.slice none 0 0,.bool false,.slice none 0 0] 175)=W3 at *
 obtain ⟨B1,B2,B3,HbW⟩:=HBx.out
 have q10:=B1.cell 0
 have q11:=B1.cell 1
 have q12:=B1.cell 2
 have q13:=B1.cell 3
 have q20:=B2.cell 0
 have q21:=B2.cell 1
 have q22:=B2.cell 2
 have q23:=B2.cell 3
 simp only [zq1,zq2,zq3] at q10 q11 q12 q13 q20 q21 q22 q23
 have u10:=HeldB.cell q10
 have u11:=HeldB.cell q11
 have u12:=HeldB.cell q12
 have u13:=HeldB.cell q13
 have u20:=HeldB.cell q20
 have u21:=HeldB.cell q21
 have u22:=HeldB.cell q22
 have u23:=HeldB.cell q23
 have B3:=zh B3
 have HbW:=zh HbW
 clear HBx B1 B2 q10 q11 q12 q13 q20 q21 q22 q23
 refine wp_region_grow 17 (fun i => if i=4 then some (gBg (N*E)) else if i=9 then some (gBg (N2*D)) else if i=10 then some (gBg (N*E+N2*D)) else if i=15 then some (gBg (D*E)) else none) (by kernel_rfl) (by kernel_rfl) ?_
 simp only [zt1,zt2,zt3,zt4]
 refine wpG_quiet 4 (by kernel_rfl) (by rfl) (by decide) ?_
 simp only [zt1,zt2,zt3,zt4]
 repeat (go_big_quiet_step (fail))
 refine wpQuiet_nil ?_
 refine wpG_call rfl rfl ?_ ?_
 ·intro w1 hb1 hk
  have hb:=HbW.out.trans (hb1.mono HbW.out.size)
  have hC:=bg_calls (rgProduct _ _ _ _ N E w1 (HX1.out.grow hb) (HY2.out.grow hb) (by have:=HN1.out;have:=HK.out;omega) (by have:=HE1.out;have:=HK.out;omega))
  exact ⟨175,#[.agg #[.bool pb1,.slice pA1 pl1 pc1],.agg #[.bool qb2,.slice qA2 ql2 qc2]],by go_simp,hC⟩
 rintro _ ⟨r9b,r9A,r9c,rfl⟩
 simp only [Act.put,zs1,zs2,zs3]
 refine wpG_quiet 4 (by kernel_rfl) (by rfl) (by decide) ?_
 simp only [zt1,zt2,zt3,zt4]
 repeat (go_big_quiet_step (fail))
 refine wpQuiet_nil ?_
 refine wpG_call rfl rfl ?_ ?_
 ·intro w1 hb1 hk
  have hb:=HbW.out.trans (hb1.mono HbW.out.size)
  have hC:=bg_calls (rgProduct _ _ _ _ N2 D w1 (HY1.out.grow hb) (HX2.out.grow hb) (by have:=HN2.out;have:=HK.out;omega) (by have:=HD1.out;have:=HK.out;omega))
  exact ⟨175,#[.agg #[.bool qb1,.slice qA1 ql1 qc1],.agg #[.bool pb2,.slice pA2 pl2 pc2]],by go_simp,hC⟩
 rintro _ ⟨r14b,r14A,r14c,rfl⟩
 simp only [Act.put,zs1,zs2,zs3]
 refine wpG_call rfl rfl ?_ ?_
 ·intro w1 hb1 hk
  have hb:=HbW.out.trans (hb1.mono HbW.out.size)
  obtain ⟨_,_,e9,h9⟩:∃ s v,Value.agg #[.bool r9b,.slice r9A (dlen (N*E).natAbs) r9c] = .agg #[.bool s,v]∧BigAt w1 w1.heap.size s v (N*E):=hk 9 (by decide)
  cases e9
  obtain ⟨_,_,e14,h14⟩:∃ s v,Value.agg #[.bool r14b,.slice r14A (dlen (N2*D).natAbs) r14c] = .agg #[.bool s,v]∧BigAt w1 w1.heap.size s v (N2*D):=hk 14 (by decide)
  cases e14
  have hC:=bg_calls (rgSum _ _ _ _ (N*E) (N2*D) w1 h9 h14 (by have:=HM1.out;have:=HK.out;omega) (by have:=HM2.out;have:=HK.out;omega))
  exact ⟨174,#[.agg #[.bool r9b,.slice r9A (dlen (N*E).natAbs) r9c],.agg #[.bool r14b,.slice r14A (dlen (N2*D).natAbs) r14c]],by go_simp,hC⟩
 rintro _ ⟨r15b,r15A,r15c,rfl⟩
 simp only [Act.put,zs1,zs2,zs3]
 refine wpG_quiet 4 (by kernel_rfl) (by rfl) (by decide) ?_
 simp only [zt1,zt2,zt3,zt4]
 repeat (go_big_quiet_step (fail))
 refine wpQuiet_nil ?_
 refine wpG_call rfl rfl ?_ ?_
 ·intro w1 hb1 hk
  have hb:=HbW.out.trans (hb1.mono HbW.out.size)
  have hC:=bg_calls (rgProduct _ _ _ _ D E w1 (HX2.out.grow hb) (HY2.out.grow hb) (by have:=HD1.out;have:=HK.out;omega) (by have:=HE1.out;have:=HK.out;omega))
  exact ⟨175,#[.agg #[.bool pb2,.slice pA2 pl2 pc2],.agg #[.bool qb2,.slice qA2 ql2 qc2]],by go_simp,hC⟩
 rintro _ ⟨r20b,r20A,r20c,rfl⟩
 simp only [Act.put,zs1,zs2,zs3]
 refine wpG_quiet 1 (by kernel_rfl) (by rfl) (by decide) ?_
 simp only [zt1,zt2,zt3,zt4]
 repeat (go_big_quiet_step (fail))
 refine wpQuiet_nil ?_
 refine Zc ?_
 intro w8 hb8 hF
 obtain ⟨_,_,e1,h1⟩:∃ s v,Value.agg #[.bool r15b,.slice r15A (dlen (N*E+N2*D).natAbs) r15c] = .agg #[.bool s,v]∧BigAt w8 w8.heap.size s v (N*E+N2*D):=hF 15
 cases e1
 obtain ⟨_,_,e2,h2⟩:∃ s v,Value.agg #[.bool r20b,.slice r20A (dlen (D*E).natAbs) r20c] = .agg #[.bool s,v]∧BigAt w8 w8.heap.size s v (D*E):=hF 20
 cases e2
 have HL:Hid (ExqAt w8 w8.heap.size (.agg #[.bool r15b,.slice r15A (dlen (N*E+N2*D).natAbs) r15c,.bool r20b,.slice r20A (dlen (D*E).natAbs) r20c]) (x+y) (K+M+1)):=⟨_,_,_,_,N*E+N2*D,D*E,rfl,h1,h2,HP.out,HS1.out,HS2.out,HEq.out⟩
 clear h1 h2
 have HD8:=zh (B3.out.below hb8 B3.out.lt)
 have HB8:=zh (HbW.out.trans (hb8.mono HbW.out.size))
 have HOut:=zh (exq_out (w:=w) (by omega) HB8.out HD8.out HL.out)
 have q0:=HD8.out.cell 0
 have q1:=HD8.out.cell 1
 have q2:=HD8.out.cell 2
 have q3:=HD8.out.cell 3
 have f0:=HD8.out.frozen 0
 have f1:=HD8.out.frozen 1
 have f2:=HD8.out.frozen 2
 have f3:=HD8.out.frozen 3
 simp only [zq1,zq2,zq3] at q0 q1 q2 q3
 clear hF hb8 B3 HbW u10 u11 u12 u13 u20 u21 u22 u23
 go_wp2_with fail
 refine bodyPost_ret (v:=.agg #[.bool r15b,.slice r15A (dlen (N*E+N2*D).natAbs) r15c,.bool r20b,.slice r20A (dlen (D*E).natAbs) r20c]) (by simp [results,Tryz.results133,go_sem,q0,q1,q2,q3]) rfl ?_
 exact ⟨_,rfl,HOut.out.1,HOut.out.2⟩
theorem rgELess (v u:Value) (x y:Rat) (K M:Nat) (w:World) (hv:ExqAt w w.heap.size v x K) (hu:ExqAt w w.heap.size u y M) (hK:K+M+1≤400000) :
  Calls Tryz.prog 136 #[v,u] w (ExqPost w (x-y) (K+M+1)):=by
 obtain ⟨pb1,pA1,pl1,pc1,pb2,pA2,pl2,pc2,N,D,rfl,hx1,hx2,hD,hN1,hD1,hxq⟩:=exq_form hv
 obtain ⟨qb1,qA1,ql1,qc1,qb2,qA2,ql2,qc2,N2,E,rfl,hy1,hy2,hE,hN2,hE1,hyq⟩:=exq_form hu
 have HE:Hid (x + -y=x-y):=(Rat.sub_eq_add_neg x y).symm
 have HP:Hid (0<E):=hE
 have HNa:Hid (dlen (-N2).natAbs≤M):=by unfold Hid;rw [Int.natAbs_neg];exact hN2
 have HEq:Hid (-y=Rat.divInt (-N2) E):=by unfold Hid;rw [hyq,Rat.neg_divInt]
 have HX1:=zh hx1
 have HX2:=zh hx2
 have HY1:=zh hy1
 have HY2:=zh hy2
 have HK:=zh hK
 have HN1:=zh hN1
 have HD1:=zh hD1
 have HN2:=zh hN2
 have HE1:=zh hE1
 have HV:=zh hv
 have HU:=zh hu
 have HBx:=zh (three_boxes w 175 175 175 #[.bool pb1,.slice pA1 pl1 pc1,.bool pb2,.slice pA2 pl2 pc2] #[.bool qb1,.slice qA1 ql1 qc1,.bool qb2,.slice qA2 ql2 qc2] #[.bool false,.slice none 0 0,.bool false,.slice none 0 0])
 clear hv hu hx1 hx2 hy1 hy2 hN1 hD1 hN2 hE1 hK hD hE hxq hyq
 go_enter Tryz.func136,Tryz.ntmps136
 go_wp2_with fail
 generalize ((w.alloc (.cells #[.bool pb1,.slice pA1 pl1 pc1,.bool pb2,.slice pA2 pl2 pc2] 175)).alloc (.cells #[.bool qb1,.slice qA1 ql1 qc1,.bool qb2,.slice qA2 ql2 qc2] 175)).alloc (.cells #[.bool false,.slice none 0 0,.bool false,.slice none 0 0] 175)=W3 at *
 obtain ⟨B1,B2,B3,HbW⟩:=HBx.out
 have q10:=B1.cell 0
 have q11:=B1.cell 1
 have q12:=B1.cell 2
 have q13:=B1.cell 3
 have q20:=B2.cell 0
 have q21:=B2.cell 1
 have q22:=B2.cell 2
 have q23:=B2.cell 3
 simp only [zq1,zq2,zq3] at q10 q11 q12 q13 q20 q21 q22 q23
 have u10:=HeldB.cell q10
 have u11:=HeldB.cell q11
 have u12:=HeldB.cell q12
 have u13:=HeldB.cell q13
 have u20:=HeldB.cell q20
 have u21:=HeldB.cell q21
 have u22:=HeldB.cell q22
 have u23:=HeldB.cell q23
 have B3:=zh B3
 have HbW:=zh HbW
 clear HBx B1 B2 q10 q11 q12 q13 q20 q21 q22 q23
 refine wp_region_grow 8 (fun i => if i=3 then some (gBg (-N2)) else if i=7 then some (gEq (x-y) (K+M+1)) else none) (by kernel_rfl) (by kernel_rfl) ?_
 simp only [zt1,zt2,zt3,zt4]
 refine wpG_quiet 3 (by kernel_rfl) (by rfl) (by decide) ?_
 simp only [zt1,zt2,zt3,zt4]
 repeat (go_big_quiet_step (fail))
 refine wpQuiet_nil ?_
 refine wpG_call rfl rfl ?_ ?_
 ·intro w1 hb1 hk
  have hb:=HbW.out.trans (hb1.mono HbW.out.size)
  have hC:=bg_calls (rgNegP _ _ _ w1 (HY1.out.grow hb))
  exact ⟨176,#[.agg #[.bool qb1,.slice qA1 ql1 qc1]],by go_simp,hC⟩
 rintro _ ⟨r8b,r8A,r8c,rfl⟩
 simp only [Act.put,zs1,zs2,zs3]
 refine wpG_quiet 3 (by kernel_rfl) (by rfl) (by decide) ?_
 simp only [zt1,zt2,zt3,zt4]
 repeat (go_big_quiet_step (fail))
 refine wpQuiet_nil ?_
 refine wpG_call rfl rfl ?_ ?_
 ·intro w1 hb1 hk
  have hb:=HbW.out.trans (hb1.mono HbW.out.size)
  obtain ⟨_,_,e8,h8⟩:∃ s v,Value.agg #[.bool r8b,.slice r8A (dlen (-N2).natAbs) r8c] = .agg #[.bool s,v]∧BigAt w1 w1.heap.size s v (-N2):=hk 11 (by decide) 8 (by decide)
  cases e8
  have hE:ExqAt w1 w1.heap.size (.agg #[.bool r8b,.slice r8A (dlen (-N2).natAbs) r8c,.bool qb2,.slice qA2 ql2 qc2]) (-y) M:=⟨_,_,_,_,-N2,E,rfl,h8,HY2.out.grow hb,HP.out,HNa.out,HE1.out,HEq.out⟩
  have hC:=Zg (HE.out ▸ rgEPlus _ _ x (-y) K M w1 (HV.out.grow hb) hE HK.out)
  exact ⟨133,#[.agg #[.bool pb1,.slice pA1 pl1 pc1,.bool pb2,.slice pA2 pl2 pc2],.agg #[.bool r8b,.slice r8A (dlen (-N2).natAbs) r8c,.bool qb2,.slice qA2 ql2 qc2]],by go_simp,hC⟩
 rintro _ ⟨r12b1,r12A1,r12l1,r12c1,r12b2,r12A2,r12l2,r12c2,rfl⟩
 simp only [Act.put,zs1,zs2,zs3]
 refine Zc ?_
 intro w8 hb8 hF
 have HL:Hid (ExqAt w8 w8.heap.size (.agg #[.bool r12b1,.slice r12A1 r12l1 r12c1,.bool r12b2,.slice r12A2 r12l2 r12c2]) (x-y) (K+M+1)):=hF 12
 have HD8:=zh (B3.out.below hb8 B3.out.lt)
 have HB8:=zh (HbW.out.trans (hb8.mono HbW.out.size))
 have HOut:=zh (exq_out (w:=w) (by omega) HB8.out HD8.out HL.out)
 have q0:=HD8.out.cell 0
 have q1:=HD8.out.cell 1
 have q2:=HD8.out.cell 2
 have q3:=HD8.out.cell 3
 have f0:=HD8.out.frozen 0
 have f1:=HD8.out.frozen 1
 have f2:=HD8.out.frozen 2
 have f3:=HD8.out.frozen 3
 simp only [zq1,zq2,zq3] at q0 q1 q2 q3
 clear hF hb8 B3 HbW u10 u11 u12 u13 u20 u21 u22 u23
 go_wp2_with fail
 refine bodyPost_ret (v:=.agg #[.bool r12b1,.slice r12A1 r12l1 r12c1,.bool r12b2,.slice r12A2 r12l2 r12c2]) (by simp [results,Tryz.results136,go_sem,q0,q1,q2,q3]) rfl ?_
 exact ⟨_,rfl,HOut.out.1,HOut.out.2⟩
theorem rgETimes (v u:Value) (x y:Rat) (K M:Nat) (w:World) (hv:ExqAt w w.heap.size v x K) (hu:ExqAt w w.heap.size u y M) (hK:K+M+1≤400000) :
  Calls Tryz.prog 135 #[v,u] w (ExqPost w (x*y) (K+M)):=by
 obtain ⟨pb1,pA1,pl1,pc1,pb2,pA2,pl2,pc2,N,D,rfl,hx1,hx2,hD,hN1,hD1,hxq⟩:=exq_form hv
 obtain ⟨qb1,qA1,ql1,qc1,qb2,qA2,ql2,qc2,N2,E,rfl,hy1,hy2,hE,hN2,hE1,hyq⟩:=exq_form hu
 have HEq:Hid (x*y=Rat.divInt (N*N2) (D*E)):=by rw [hxq,hyq];exact exq_times hD hE
 have HP:Hid (0<D*E):=Int.mul_pos hD hE
 have HS1:Hid (dlen (N*N2).natAbs≤K+M):=by unfold Hid;rw [Int.natAbs_mul];exact dlen_mul hN1 hN2
 have HS2:Hid (dlen (D*E).natAbs≤K+M):=by unfold Hid;rw [Int.natAbs_mul];exact dlen_mul hD1 hE1
 have HX1:=zh hx1
 have HX2:=zh hx2
 have HY1:=zh hy1
 have HY2:=zh hy2
 have HK:=zh hK
 have HN1:=zh hN1
 have HD1:=zh hD1
 have HN2:=zh hN2
 have HE1:=zh hE1
 have HV:=zh hv
 have HU:=zh hu
 have HBx:=zh (three_boxes w 175 175 175 #[.bool pb1,.slice pA1 pl1 pc1,.bool pb2,.slice pA2 pl2 pc2] #[.bool qb1,.slice qA1 ql1 qc1,.bool qb2,.slice qA2 ql2 qc2] #[.bool false,.slice none 0 0,.bool false,.slice none 0 0])
 clear hv hu hx1 hx2 hy1 hy2 hN1 hD1 hN2 hE1 hK hD hE hxq hyq
 go_enter Tryz.func135,Tryz.ntmps135
 go_wp2_with fail
 generalize ((w.alloc (.cells #[.bool pb1,.slice pA1 pl1 pc1,.bool pb2,.slice pA2 pl2 pc2] 175)).alloc (.cells #[.bool qb1,.slice qA1 ql1 qc1,.bool qb2,.slice qA2 ql2 qc2] 175)).alloc (.cells #[.bool false,.slice none 0 0,.bool false,.slice none 0 0] 175)=W3 at *
 obtain ⟨B1,B2,B3,HbW⟩:=HBx.out
 have q10:=B1.cell 0
 have q11:=B1.cell 1
 have q12:=B1.cell 2
 have q13:=B1.cell 3
 have q20:=B2.cell 0
 have q21:=B2.cell 1
 have q22:=B2.cell 2
 have q23:=B2.cell 3
 simp only [zq1,zq2,zq3] at q10 q11 q12 q13 q20 q21 q22 q23
 have u10:=HeldB.cell q10
 have u11:=HeldB.cell q11
 have u12:=HeldB.cell q12
 have u13:=HeldB.cell q13
 have u20:=HeldB.cell q20
 have u21:=HeldB.cell q21
 have u22:=HeldB.cell q22
 have u23:=HeldB.cell q23
 have B3:=zh B3
 have HbW:=zh HbW
 clear HBx B1 B2 q10 q11 q12 q13 q20 q21 q22 q23
 refine wp_region_grow 11 (fun i => if i=4 then some (gBg (N*N2)) else if i=9 then some (gBg (D*E)) else none) (by kernel_rfl) (by kernel_rfl) ?_
 simp only [zt1,zt2,zt3,zt4]
 refine wpG_quiet 4 (by kernel_rfl) (by rfl) (by decide) ?_
 simp only [zt1,zt2,zt3,zt4]
 repeat (go_big_quiet_step (fail))
 refine wpQuiet_nil ?_
 refine wpG_call rfl rfl ?_ ?_
 ·intro w1 hb1 hk
  have hb:=HbW.out.trans (hb1.mono HbW.out.size)
  have hC:=bg_calls (rgProduct _ _ _ _ N N2 w1 (HX1.out.grow hb) (HY1.out.grow hb) (by have:=HN1.out;have:=HK.out;omega) (by have:=HN2.out;have:=HK.out;omega))
  exact ⟨175,#[.agg #[.bool pb1,.slice pA1 pl1 pc1],.agg #[.bool qb1,.slice qA1 ql1 qc1]],by go_simp,hC⟩
 rintro _ ⟨r9b,r9A,r9c,rfl⟩
 simp only [Act.put,zs1,zs2,zs3]
 refine wpG_quiet 4 (by kernel_rfl) (by rfl) (by decide) ?_
 simp only [zt1,zt2,zt3,zt4]
 repeat (go_big_quiet_step (fail))
 refine wpQuiet_nil ?_
 refine wpG_call rfl rfl ?_ ?_
 ·intro w1 hb1 hk
  have hb:=HbW.out.trans (hb1.mono HbW.out.size)
  have hC:=bg_calls (rgProduct _ _ _ _ D E w1 (HX2.out.grow hb) (HY2.out.grow hb) (by have:=HD1.out;have:=HK.out;omega) (by have:=HE1.out;have:=HK.out;omega))
  exact ⟨175,#[.agg #[.bool pb2,.slice pA2 pl2 pc2],.agg #[.bool qb2,.slice qA2 ql2 qc2]],by go_simp,hC⟩
 rintro _ ⟨r14b,r14A,r14c,rfl⟩
 simp only [Act.put,zs1,zs2,zs3]
 refine wpG_quiet 1 (by kernel_rfl) (by rfl) (by decide) ?_
 simp only [zt1,zt2,zt3,zt4]
 repeat (go_big_quiet_step (fail))
 refine wpQuiet_nil ?_
 refine Zc ?_
 intro w8 hb8 hF
 obtain ⟨_,_,e1,h1⟩:∃ s v,Value.agg #[.bool r9b,.slice r9A (dlen (N*N2).natAbs) r9c] = .agg #[.bool s,v]∧BigAt w8 w8.heap.size s v (N*N2):=hF 9
 cases e1
 obtain ⟨_,_,e2,h2⟩:∃ s v,Value.agg #[.bool r14b,.slice r14A (dlen (D*E).natAbs) r14c] = .agg #[.bool s,v]∧BigAt w8 w8.heap.size s v (D*E):=hF 14
 cases e2
 have HL:Hid (ExqAt w8 w8.heap.size (.agg #[.bool r9b,.slice r9A (dlen (N*N2).natAbs) r9c,.bool r14b,.slice r14A (dlen (D*E).natAbs) r14c]) (x*y) (K+M)):=⟨_,_,_,_,N*N2,D*E,rfl,h1,h2,HP.out,HS1.out,HS2.out,HEq.out⟩
 clear h1 h2
 have HD8:=zh (B3.out.below hb8 B3.out.lt)
 have HB8:=zh (HbW.out.trans (hb8.mono HbW.out.size))
 have HOut:=zh (exq_out (w:=w) (by omega) HB8.out HD8.out HL.out)
 have q0:=HD8.out.cell 0
 have q1:=HD8.out.cell 1
 have q2:=HD8.out.cell 2
 have q3:=HD8.out.cell 3
 have f0:=HD8.out.frozen 0
 have f1:=HD8.out.frozen 1
 have f2:=HD8.out.frozen 2
 have f3:=HD8.out.frozen 3
 simp only [zq1,zq2,zq3] at q0 q1 q2 q3
 clear hF hb8 B3 HbW u10 u11 u12 u13 u20 u21 u22 u23
 go_wp2_with fail
 refine bodyPost_ret (v:=.agg #[.bool r9b,.slice r9A (dlen (N*N2).natAbs) r9c,.bool r14b,.slice r14A (dlen (D*E).natAbs) r14c]) (by simp [results,Tryz.results135,go_sem,q0,q1,q2,q3]) rfl ?_
 exact ⟨_,rfl,HOut.out.1,HOut.out.2⟩
theorem rgEOver (v u:Value) (x y:Rat) (K M:Nat) (w:World) (hv:ExqAt w w.heap.size v x K) (hu:ExqAt w w.heap.size u y M) (hy0:0<y) (hK:K+M+1≤400000) :
  Calls Tryz.prog 173 #[v,u] w (ExqPost w (x / y) (K+M)):=by
 obtain ⟨pb1,pA1,pl1,pc1,pb2,pA2,pl2,pc2,N,D,rfl,hx1,hx2,hD,hN1,hD1,hxq⟩:=exq_form hv
 obtain ⟨qb1,qA1,ql1,qc1,qb2,qA2,ql2,qc2,N2,E,rfl,hy1,hy2,hE,hN2,hE1,hyq⟩:=exq_form hu
 have hM0:0<N2:=exq_pos hE (hyq ▸ hy0)
 have HEq:Hid (x / y=Rat.divInt (N*E) (D*N2)):=by rw [hxq,hyq];exact exq_over hD hE hM0
 have HP:Hid (0<D*N2):=Int.mul_pos hD hM0
 have HS1:Hid (dlen (N*E).natAbs≤K+M):=by unfold Hid;rw [Int.natAbs_mul];exact dlen_mul hN1 hE1
 have HS2:Hid (dlen (D*N2).natAbs≤K+M):=by unfold Hid;rw [Int.natAbs_mul];exact dlen_mul hD1 hN2
 have HX1:=zh hx1
 have HX2:=zh hx2
 have HY1:=zh hy1
 have HY2:=zh hy2
 have HK:=zh hK
 have HN1:=zh hN1
 have HD1:=zh hD1
 have HN2:=zh hN2
 have HE1:=zh hE1
 have HV:=zh hv
 have HU:=zh hu
 have HBx:=zh (three_boxes w 175 175 175 #[.bool pb1,.slice pA1 pl1 pc1,.bool pb2,.slice pA2 pl2 pc2] #[.bool qb1,.slice qA1 ql1 qc1,.bool qb2,.slice qA2 ql2 qc2] #[.bool false,.slice none 0 0,.bool false,.slice none 0 0])
 clear hM0 hy0 hv hu hx1 hx2 hy1 hy2 hN1 hD1 hN2 hE1 hK hD hE hxq hyq
 go_enter Tryz.func173,Tryz.ntmps173
 go_wp2_with fail
 generalize ((w.alloc (.cells #[.bool pb1,.slice pA1 pl1 pc1,.bool pb2,.slice pA2 pl2 pc2] 175)).alloc (.cells #[.bool qb1,.slice qA1 ql1 qc1,.bool qb2,.slice qA2 ql2 qc2] 175)).alloc (.cells #[.bool false,.slice none 0 0,.bool false,.slice none 0 0] 175)=W3 at *
 obtain ⟨B1,B2,B3,HbW⟩:=HBx.out
 have q10:=B1.cell 0
 have q11:=B1.cell 1
 have q12:=B1.cell 2
 have q13:=B1.cell 3
 have q20:=B2.cell 0
 have q21:=B2.cell 1
 have q22:=B2.cell 2
 have q23:=B2.cell 3
 simp only [zq1,zq2,zq3] at q10 q11 q12 q13 q20 q21 q22 q23
 have u10:=HeldB.cell q10
 have u11:=HeldB.cell q11
 have u12:=HeldB.cell q12
 have u13:=HeldB.cell q13
 have u20:=HeldB.cell q20
 have u21:=HeldB.cell q21
 have u22:=HeldB.cell q22
 have u23:=HeldB.cell q23
 have B3:=zh B3
 have HbW:=zh HbW
 clear HBx B1 B2 q10 q11 q12 q13 q20 q21 q22 q23
 refine wp_region_grow 11 (fun i => if i=4 then some (gBg (N*E)) else if i=9 then some (gBg (D*N2)) else none) (by kernel_rfl) (by kernel_rfl) ?_
 simp only [zt1,zt2,zt3,zt4]
 refine wpG_quiet 4 (by kernel_rfl) (by rfl) (by decide) ?_
 simp only [zt1,zt2,zt3,zt4]
 repeat (go_big_quiet_step (fail))
 refine wpQuiet_nil ?_
 refine wpG_call rfl rfl ?_ ?_
 ·intro w1 hb1 hk
  have hb:=HbW.out.trans (hb1.mono HbW.out.size)
  have hC:=bg_calls (rgProduct _ _ _ _ N E w1 (HX1.out.grow hb) (HY2.out.grow hb) (by have:=HN1.out;have:=HK.out;omega) (by have:=HE1.out;have:=HK.out;omega))
  exact ⟨175,#[.agg #[.bool pb1,.slice pA1 pl1 pc1],.agg #[.bool qb2,.slice qA2 ql2 qc2]],by go_simp,hC⟩
 rintro _ ⟨r9b,r9A,r9c,rfl⟩
 simp only [Act.put,zs1,zs2,zs3]
 refine wpG_quiet 4 (by kernel_rfl) (by rfl) (by decide) ?_
 simp only [zt1,zt2,zt3,zt4]
 repeat (go_big_quiet_step (fail))
 refine wpQuiet_nil ?_
 refine wpG_call rfl rfl ?_ ?_
 ·intro w1 hb1 hk
  have hb:=HbW.out.trans (hb1.mono HbW.out.size)
  have hC:=bg_calls (rgProduct _ _ _ _ D N2 w1 (HX2.out.grow hb) (HY1.out.grow hb) (by have:=HD1.out;have:=HK.out;omega) (by have:=HN2.out;have:=HK.out;omega))
  exact ⟨175,#[.agg #[.bool pb2,.slice pA2 pl2 pc2],.agg #[.bool qb1,.slice qA1 ql1 qc1]],by go_simp,hC⟩
 rintro _ ⟨r14b,r14A,r14c,rfl⟩
 simp only [Act.put,zs1,zs2,zs3]
 refine wpG_quiet 1 (by kernel_rfl) (by rfl) (by decide) ?_
 simp only [zt1,zt2,zt3,zt4]
 repeat (go_big_quiet_step (fail))
 refine wpQuiet_nil ?_
 refine Zc ?_
 intro w8 hb8 hF
 obtain ⟨_,_,e1,h1⟩:∃ s v,Value.agg #[.bool r9b,.slice r9A (dlen (N*E).natAbs) r9c] = .agg #[.bool s,v]∧BigAt w8 w8.heap.size s v (N*E):=hF 9
 cases e1
 obtain ⟨_,_,e2,h2⟩:∃ s v,Value.agg #[.bool r14b,.slice r14A (dlen (D*N2).natAbs) r14c] = .agg #[.bool s,v]∧BigAt w8 w8.heap.size s v (D*N2):=hF 14
 cases e2
 have HL:Hid (ExqAt w8 w8.heap.size (.agg #[.bool r9b,.slice r9A (dlen (N*E).natAbs) r9c,.bool r14b,.slice r14A (dlen (D*N2).natAbs) r14c]) (x / y) (K+M)):=⟨_,_,_,_,N*E,D*N2,rfl,h1,h2,HP.out,HS1.out,HS2.out,HEq.out⟩
 clear h1 h2
 have HD8:=zh (B3.out.below hb8 B3.out.lt)
 have HB8:=zh (HbW.out.trans (hb8.mono HbW.out.size))
 have HOut:=zh (exq_out (w:=w) (by omega) HB8.out HD8.out HL.out)
 have q0:=HD8.out.cell 0
 have q1:=HD8.out.cell 1
 have q2:=HD8.out.cell 2
 have q3:=HD8.out.cell 3
 have f0:=HD8.out.frozen 0
 have f1:=HD8.out.frozen 1
 have f2:=HD8.out.frozen 2
 have f3:=HD8.out.frozen 3
 simp only [zq1,zq2,zq3] at q0 q1 q2 q3
 clear hF hb8 B3 HbW u10 u11 u12 u13 u20 u21 u22 u23
 go_wp2_with fail
 refine bodyPost_ret (v:=.agg #[.bool r9b,.slice r9A (dlen (N*E).natAbs) r9c,.bool r14b,.slice r14A (dlen (D*N2).natAbs) r14c]) (by simp [results,Tryz.results173,go_sem,q0,q1,q2,q3]) rfl ?_
 exact ⟨_,rfl,HOut.out.1,HOut.out.2⟩
theorem rgCmp (v u:Value) (x y:Rat) (K M:Nat) (w:World) (hv:ExqAt w w.heap.size v x K) (hu:ExqAt w w.heap.size u y M) (hK:K+M+1≤400000) :
  Calls Tryz.prog 167 #[v,u] w fun e w' => e = .returned (.int .i64 (sgnR (x-y)))∧Below w.heap.size w w':=by
 obtain ⟨pb1,pA1,pl1,pc1,pb2,pA2,pl2,pc2,_,_,rfl,-⟩:=exq_form hv
 obtain ⟨qb1,qA1,ql1,qc1,qb2,qA2,ql2,qc2,_,_,rfl,-⟩:=exq_form hu
 have hb:Below w.heap.size w ((w.alloc (.cells #[.bool pb1,.slice pA1 pl1 pc1,.bool pb2,.slice pA2 pl2 pc2] 175)).alloc (.cells #[.bool qb1,.slice qA1 ql1 qc1,.bool qb2,.slice qA2 ql2 qc2] 175)):=((Below.refl _ w).alloc (Nat.le_refl _) _).alloc (by simp) _
 have HV:=zh (hv.grow hb)
 have HU:=zh (hu.grow hb)
 have HB:=zh hb
 have HK:=zh hK
 clear hv hu hb hK
 go_enter Tryz.func167,Tryz.ntmps167
 go_wp2_with fail
 refine (rgELess _ _ x y K M _ HV.out HU.out HK.out).mono ?_
 rintro e w3 ⟨v3,rfl,hb3,h3⟩
 have H3:=zh h3
 have HB3:=zh (HB.out.trans (hb3.mono HB.out.size))
 clear h3 hb3 HV HU HB
 go_wp2_with fail
 refine (rgSign _ (x-y) (K+M+1) _ H3.out).mono ?_
 rintro e w4 ⟨rfl,hb4⟩
 have HB4:=zh (HB3.out.trans (hb4.mono HB3.out.size))
 clear hb4 H3 HB3
 go_wp2_with fail
 go_ret
 exact ⟨rfl,HB4.out⟩
def LowPost (w:World) (q:Rat) (e:Ending) (w':World):Prop:=∃ s1 v1 s2 v2,e = .returned (.agg #[.bool s1,v1,.bool s2,v2])∧Below w.heap.size w w'∧BigAt w' w'.heap.size s1 v1 q.num∧BigAt w' w'.heap.size s2 v2 (q.den:Int)
theorem low_sgn {N D:Int} (hD:0<D) (hN:N≠0):decide (N<0)=decide ((Rat.divInt N D).num<0):=by
 have h:=low_neg (n:=N) (d:=D) (by omega) hN
 exact decide_eq_decide.2 ⟨fun h1 => h.2 (.inl ⟨h1,hD⟩),fun h1 => by
  rcases h.1 h1 with h2 | h2
  ·exact h2.1
  ·omega⟩
theorem pair_out {w w8:World} {R:Nat} (hR:w.heap.size≤R) (hb:Below w.heap.size w w8) (hD:Blk w8 R 175 #[.bool false,.slice none 0 0,.bool false,.slice none 0 0]) {s1 s2:Bool} {v1 v2:Value} {N D:Int} (h4:BigAt w8 w8.heap.size s1 v1 N) (h5:BigAt w8 w8.heap.size s2 v2 D) :
  Below w.heap.size w ((((w8.setCell ⟨R,0,none⟩ (.bool s1)).setCell ⟨R,1,none⟩ v1).setCell ⟨R,2,none⟩ (.bool s2)).setCell ⟨R,3,none⟩ v2)∧BigAt ((((w8.setCell ⟨R,0,none⟩ (.bool s1)).setCell ⟨R,1,none⟩ v1).setCell ⟨R,2,none⟩ (.bool s2)).setCell ⟨R,3,none⟩ v2) ((((w8.setCell ⟨R,0,none⟩ (.bool s1)).setCell ⟨R,1,none⟩ v1).setCell ⟨R,2,none⟩ (.bool s2)).setCell ⟨R,3,none⟩ v2).heap.size s1 v1 N∧BigAt ((((w8.setCell ⟨R,0,none⟩ (.bool s1)).setCell ⟨R,1,none⟩ v1).setCell ⟨R,2,none⟩ (.bool s2)).setCell ⟨R,3,none⟩ v2) ((((w8.setCell ⟨R,0,none⟩ (.bool s1)).setCell ⟨R,1,none⟩ v1).setCell ⟨R,2,none⟩ (.bool s2)).setCell ⟨R,3,none⟩ v2).heap.size s2 v2 D:=by
 have h1:=hD.set_ 0 (.bool s1)
 have h2:=h1.set_ 1 v1
 have h3:=h2.set_ 2 (.bool s2)
 have z0:=hD.cell 0
 have z1:=h1.cell 1
 have z2:=h2.cell 2
 have z3:=h3.cell 3
 simp only [zq1,zq3] at z0
 have hset:∀ {v:Value} {x k:Nat},DgTo w8 w8.heap.size v x k→DgTo ((((w8.setCell ⟨R,0,none⟩ (.bool s1)).setCell ⟨R,1,none⟩ v1).setCell ⟨R,2,none⟩ (.bool s2)).setCell ⟨R,3,none⟩ v2) ((((w8.setCell ⟨R,0,none⟩ (.bool s1)).setCell ⟨R,1,none⟩ v1).setCell ⟨R,2,none⟩ (.bool s2)).setCell ⟨R,3,none⟩ v2).heap.size v x k:=fun h => by
  have g1:=DgTo.set h z0 (fun z => by simp) (.bool s1)
  have g2:=DgTo.set g1 (u:=.slice none 0 0) z1 (fun z => by simp) v1
  have g3:=DgTo.set g2 (u:=.bool false) z2 (fun z => by simp) (.bool s2)
  have g4:=DgTo.set g3 (u:=.slice none 0 0) z3 (fun z => by simp) v2
  exact DgTo.mono g4 (by simp [World.setCell])
 exact ⟨(((hb.setCell (p:=⟨R,0,none⟩) hR _).setCell (p:=⟨R,1,none⟩) hR _).setCell (p:=⟨R,2,none⟩) hR _).setCell (p:=⟨R,3,none⟩) hR _,⟨h4.1,hset h4.2⟩,⟨h5.1,hset h5.2⟩⟩
theorem rgLower (v:Value) (x:Rat) (K:Nat) (w:World) (hv:ExqAt w w.heap.size v x K) (hK:K≤300000) :
  Calls Tryz.prog 137 #[v] w (LowPost w x):=by
 obtain ⟨b1,v1,b2,v2,N,D,rfl,hx1,hx2,hD,hN1,hD1,hxq⟩:=hv
 obtain ⟨A1,c1,rfl,hm1,hn1,-⟩:=DgTo.open_ hx1.2
 obtain ⟨A2,c2,rfl,hm2,hn2,-⟩:=DgTo.open_ hx2.2
 unfold maxLen at hn1 hn2
 have hz:=dlen_z (x:=N.natAbs)
 have HX1:=zh hx1
 have HX2:=zh hx2
 have HK:=zh hK
 have HN1:=zh hN1
 have HD1:=zh hD1
 have HD:=zh hD
 have HXq:=zh hxq
 have B1:=(Blk.new w 175 #[.bool b1,.slice A1 (dlen N.natAbs) c1,.bool b2,.slice A2 (dlen D.natAbs) c2]).alloc (.cells #[.bool false,.slice none 0 0,.bool false,.slice none 0 0] 175)
 have B3:=Blk.new (w.alloc (.cells #[.bool b1,.slice A1 (dlen N.natAbs) c1,.bool b2,.slice A2 (dlen D.natAbs) c2] 175)) 175 #[.bool false,.slice none 0 0,.bool false,.slice none 0 0]
 rw [World.size_alloc] at B3
 have HbW:Below w.heap.size w ((w.alloc (.cells #[.bool b1,.slice A1 (dlen N.natAbs) c1,.bool b2,.slice A2 (dlen D.natAbs) c2] 175)).alloc (.cells #[.bool false,.slice none 0 0,.bool false,.slice none 0 0] 175)):=((Below.refl _ w).alloc (Nat.le_refl _) _).alloc (by simp) _
 clear hx1 hx2 hN1 hD1 hK hD hxq
 go_enter Tryz.func137,Tryz.ntmps137
 go_upto_region 1 with fail
 generalize (w.alloc (.cells #[.bool b1,.slice A1 (dlen N.natAbs) c1,.bool b2,.slice A2 (dlen D.natAbs) c2] 175)).alloc (.cells #[.bool false,.slice none 0 0,.bool false,.slice none 0 0] 175)=W2 at *
 have q0:=B1.cell 0
 have q1:=B1.cell 1
 have q3:=B1.cell 3
 simp only [zq1,zq2,zq3] at q0 q1 q3
 have HB1:=zh B1
 have HB3:=zh B3
 have HbW:=zh HbW
 clear B1 B3
 by_cases c1':dlen N.natAbs=0
 ·have hd:(dlen N.natAbs == 0)=true:=beq_iff_eq.2 c1'
  have HN0:Hid (N=0):=by have:=hz.1 c1';unfold Hid;omega
  clear hz
  go_wp2_with fail
  refine (rgInt 0 _ (by decide) (by decide)).mono ?_
  rintro e w3 ⟨s3,v3,rfl,hb3,h3⟩
  obtain ⟨A3,c3,rfl,-⟩:=DgTo.open_ h3.2
  have H3:=zh h3
  have HB4:=zh (HB3.out.below hb3 HB3.out.lt)
  have HbW3:=zh (HbW.out.trans (hb3.mono HbW.out.size))
  clear hb3 h3 q0 q1 q3
  generalize hl3:dlen (0:Int).natAbs=l3 at *
  clear hl3
  go_wp2_with fail
  refine (rgInt 1 _ (by decide) (by decide)).mono ?_
  rintro e w4 ⟨s4,v4,rfl,hb4,h4⟩
  obtain ⟨A4,c4,rfl,-⟩:=DgTo.open_ h4.2
  have H4:=zh h4
  have H5:=zh (H3.out.grow hb4)
  have HD8:=zh (HB4.out.below hb4 HB4.out.lt)
  have HB8:=zh (HbW3.out.trans (hb4.mono HbW3.out.size))
  clear hb4 h4 H3 HB4 HbW3
  generalize hl4:dlen (1:Int).natAbs=l4 at *
  clear hl4
  have HOut:=zh (pair_out (w:=w) (by omega) HB8.out HD8.out H5.out H4.out)
  have q0:=HD8.out.cell 0
  have q1:=HD8.out.cell 1
  have q2:=HD8.out.cell 2
  have q3:=HD8.out.cell 3
  have f0:=HD8.out.frozen 0
  have f1:=HD8.out.frozen 1
  have f2:=HD8.out.frozen 2
  have f3:=HD8.out.frozen 3
  simp only [zq1,zq2,zq3] at q0 q1 q2 q3
  go_wp2_with fail
  refine bodyPost_ret (v:=.agg #[.bool s3,.slice A3 l3 c3,.bool s4,.slice A4 l4 c4]) (by simp [results,Tryz.results137,go_sem,q0,q1,q2,q3]) rfl ?_
  have e0:x=((0:Int):Rat):=by rw [HXq.out,HN0.out,divInt_zero]
  exact ⟨_,_,_,_,rfl,HOut.out.1,by rw [e0];exact HOut.out.2.1,by rw [e0];exact HOut.out.2.2⟩
 ·have hd:(dlen N.natAbs == 0)=false:=beq_eq_false_iff_ne.2 c1'
  have hd2:(((dlen N.natAbs:Nat):Int) == 0)=false:=beq_eq_false_iff_ne.2 (by omega)
  have HN0:Hid (0<N.natAbs):=by unfold Hid;rcases Nat.eq_zero_or_pos N.natAbs with h | h;exact absurd (hz.2 h) c1';exact h
  have HDp:Hid (0<D.natAbs):=by have:=HD.out;unfold Hid;omega
  have HX1w:=zh (HX1.out.grow HbW.out)
  have HX2w:=zh (HX2.out.grow HbW.out)
  clear hz c1'
  go_wp2_with fail
  refine (rgGcd _ _ N.natAbs D.natAbs K _ HX1w.out.2 HX2w.out.2 HK.out HN1.out HD1.out HN0.out HDp.out).mono ?_
  rintro e w3 ⟨v3,rfl,hb3,h3⟩
  have HL:=zh (low_num (n:=N) (d:=D) (by have:=HD.out;omega))
  have HGp:Hid (0<Nat.gcd N.natAbs D.natAbs):=Nat.gcd_pos_of_pos_left _ HN0.out
  have HGl:Hid (dlen (Nat.gcd N.natAbs D.natAbs)≤K):=Nat.le_trans (dlen_mono (Nat.gcd_le_left _ HN0.out)) HN1.out
  generalize Nat.gcd N.natAbs D.natAbs=G at *
  obtain ⟨A3,c3,rfl,-⟩:=DgTo.open_ h3
  have H3:=zh h3
  have HA3:=zh (HX1w.out.grow hb3)
  have HA4:=zh (HX2w.out.grow hb3)
  have HB4:=zh (HB3.out.below hb3 HB3.out.lt)
  have HB5:=zh (HB1.out.below hb3 HB1.out.lt)
  have HbW3:=zh (HbW.out.trans (hb3.mono HbW.out.size))
  clear hb3 h3 q0 q1 q3 HX1w HX2w hd hd2
  have q0:=HB5.out.cell 0
  have q1:=HB5.out.cell 1
  have q3:=HB5.out.cell 3
  simp only [zq1,zq2,zq3] at q0 q1 q3
  have u0:=HeldB.cell q0
  have u1:=HeldB.cell q1
  have u3:=HeldB.cell q3
  clear q0 q1 q3
  go_upto_region 4 with fail
  refine wp_region_grow 16 (fun i => if i=7 then some (gDg (N.natAbs / G)) else if i=13 then some (gDg (D.natAbs / G)) else none) (by kernel_rfl) (by kernel_rfl) ?_
  simp only [zt1,zt2,zt3,zt4]
  refine wpG_quiet 7 (by kernel_rfl) (by rfl) (by decide) ?_
  simp only [zt1,zt2,zt3,zt4]
  repeat (go_big_quiet_step (fail))
  refine wpQuiet_nil ?_
  refine wpG_call rfl rfl ?_ ?_
  ·intro w1 hb1 hk
   exact ⟨178,#[.slice A1 (dlen N.natAbs) c1,.slice A3 (dlen G) c3],by go_simp,dg_calls' (rgQuotient _ _ N.natAbs G K w1 (HA3.out.grow hb1).2 (DgTo.grow H3.out hb1) HK.out HN1.out HGl.out HGp.out)⟩
  rintro _ ⟨A5,c5,rfl⟩
  simp only [Act.put,zs1,zs2,zs3]
  refine wpG_quiet 5 (by kernel_rfl) (by rfl) (by decide) ?_
  simp only [zt1,zt2,zt3,zt4]
  repeat (go_big_quiet_step (fail))
  refine wpQuiet_nil ?_
  refine wpG_call rfl rfl ?_ ?_
  ·intro w1 hb1 hk
   exact ⟨178,#[.slice A2 (dlen D.natAbs) c2,.slice A3 (dlen G) c3],by go_simp,dg_calls' (rgQuotient _ _ D.natAbs G K w1 (HA4.out.grow hb1).2 (DgTo.grow H3.out hb1) HK.out HD1.out HGl.out HGp.out)⟩
  rintro _ ⟨A6,c6,rfl⟩
  simp only [Act.put,zs1,zs2,zs3]
  refine wpG_quiet 2 (by kernel_rfl) (by rfl) (by decide) ?_
  simp only [zt1,zt2,zt3,zt4]
  repeat (go_big_quiet_step (fail))
  refine wpQuiet_nil ?_
  refine Zc ?_
  intro w8 hb8 hF
  have h5:DgTo w8 w8.heap.size (.slice A5 (dlen (N.natAbs / G)) c5) (N.natAbs / G) (dlen (N.natAbs / G)):=hF 26
  have h6:DgTo w8 w8.heap.size (.slice A6 (dlen (D.natAbs / G)) c6) (D.natAbs / G) (dlen (D.natAbs / G)):=hF 32
  have HD8:=zh (HB4.out.below hb8 HB4.out.lt)
  have HB8:=zh (HbW3.out.trans (hb8.mono HbW3.out.size))
  have hs:b1=decide (x.num<0):=by
   have:=HN0.out
   rw [HX1.out.1,HXq.out]
   exact low_sgn HD.out (by omega)
  have H5:Hid (BigAt w8 w8.heap.size b1 (.slice A5 (dlen (N.natAbs / G)) c5) x.num):=⟨hs,by
   unfold DgAt
   rw [HXq.out,HL.out.1]
   exact h5⟩
  have H6:Hid (BigAt w8 w8.heap.size false (.slice A6 (dlen (D.natAbs / G)) c6) (x.den:Int)):=⟨(decide_eq_false (by omega)).symm,by
   unfold DgAt
   rw [Int.natAbs_natCast,HXq.out,HL.out.2]
   exact h6⟩
  have HOut:=zh (pair_out (w:=w) (by omega) HB8.out HD8.out H5.out H6.out)
  have q0:=HD8.out.cell 0
  have q1:=HD8.out.cell 1
  have q2:=HD8.out.cell 2
  have q3:=HD8.out.cell 3
  have f0:=HD8.out.frozen 0
  have f1:=HD8.out.frozen 1
  have f2:=HD8.out.frozen 2
  have f3:=HD8.out.frozen 3
  simp only [zq1,zq2,zq3] at q0 q1 q2 q3
  clear hF hb8 hs h5 h6 u0 u1 u3
  go_wp2_with fail
  refine bodyPost_ret (v:=.agg #[.bool b1,.slice A5 (dlen (N.natAbs / G)) c5,.bool false,.slice A6 (dlen (D.natAbs / G)) c6]) (by simp [results,Tryz.results137,go_sem,q0,q1,q2,q3]) rfl ?_
  exact ⟨_,_,_,_,rfl,HOut.out.1,HOut.out.2.1,HOut.out.2.2⟩
theorem low_exq {w:World} {q:Rat} {K:Nat} {e:Ending} {w':World} (h:LowPost w q e w') (h1:dlen q.num.natAbs≤K) (h2:dlen q.den≤K):ExqPost w q K e w':=by
 obtain ⟨s1,v1,s2,v2,rfl,hb,h3,h4⟩:=h
 exact ⟨_,rfl,hb,s1,v1,s2,v2,q.num,(q.den:Int),rfl,h3,h4,by have:=q.den_pos;omega,h1,by rw [Int.natAbs_natCast];exact h2,(Rat.num_divInt_den q).symm⟩
end Go.Proofs.YtfhmbechennkbaaGreatDoor
