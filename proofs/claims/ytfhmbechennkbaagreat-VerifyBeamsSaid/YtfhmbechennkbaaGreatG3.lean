/- Parts of the proof, laid into one text: Reach, Mat, Comes, Excl, Heavy, Bits, CliqueW, Best. -/
import Derived.Test.YtfhmbechennkbaaGreatG2
namespace Go.Proofs.YtfhmbechennkbaaGreat
def reach (l:List Task) (i k:Nat):Prop:=∃ z,Chain l (i :: z ++ [k])
theorem reach_one {l:List Task} {i k:Nat} (h:edge l i k):reach l i k:=⟨[],Chain.cons_iff.2 ⟨h,Chain.one h.2.1⟩⟩
theorem reach_trans {l:List Task} {i m k:Nat} (h:reach l i m) (h':reach l m k):reach l i k:=by
 obtain ⟨z,hz⟩:=h
 obtain ⟨z',hz'⟩:=h'
 refine ⟨z ++ m :: z',?_⟩
 have h1:Chain l (i :: z):=hz.front
 have h2:nextOK l (i :: z) m:=fun hp => hz.last_edge hp
 have:=chain_app (z:=z' ++ [k]) h1 (by simpa using hz') h2
 simpa using this
def via (l : List Task) : Nat → Nat → Nat → Prop
 | 0,i,k => edge l i k
 | m+1,i,k => via l m i k∨via l m i m∧via l m m k
theorem via_reach {l : List Task} : ∀ {m i k : Nat},via l m i k → reach l i k
 | 0,_,_,h => reach_one h
 | _+1,_,_,.inl h => via_reach h
 | _+1,_,_,.inr h => reach_trans (via_reach h.1) (via_reach h.2)
theorem split_first {m : Nat} : ∀ {z : List Nat},m ∈ z → ∃ a b,z = a ++ m :: b ∧ m ∉ a
 | x :: z,h => by
  by_cases e:x=m
  ·subst e;exact ⟨[],z,rfl,by simp⟩
  ·rw [List.mem_cons] at h
   rcases h with h | h
   ·exact absurd h.symm e
   ·obtain ⟨a,b,rfl,hn⟩:=split_first h
    refine ⟨x :: a,b,rfl,?_⟩
    rw [List.mem_cons]
    rintro (h | h)
    ·exact e h.symm
    ·exact hn h
theorem split_last {m : Nat} : ∀ {z : List Nat},m ∈ z → ∃ a b,z = a ++ m :: b ∧ m ∉ b
 | x :: z,h => by
  by_cases hz:m ∈ z
  ·obtain ⟨a,b,rfl,hn⟩:=split_last hz
   exact ⟨x :: a,b,rfl,hn⟩
  ·rw [List.mem_cons] at h
   rcases h with rfl | h
   ·exact ⟨[],z,rfl,hz⟩
   ·exact absurd h hz
theorem chain_via {l : List Task} : ∀ (m i k : Nat) (z : List Nat),Chain l (i :: z ++ [k]) → (∀ x ∈ z,x < m) → via l m i k
 | 0,i,k,[],h,_ => (Chain.cons_iff.1 h).1
 | 0,i,k,x :: z,_,hx => absurd (hx x (by simp)) (Nat.not_lt_zero _)
 | m+1,i,k,z,h,hx => by
  by_cases hm:m ∈ z
  ·right
   refine ⟨?_,?_⟩
   ·obtain ⟨a,b,rfl,hn⟩:=split_first hm
    have h1:Chain l ((i :: a ++ [m]) ++ (b ++ [k])):=by simpa using h
    exact chain_via m i m a h1.front fun x hxa => by
     have:=hx x (by simp [hxa])
     have:x≠m:=fun e => hn (e ▸ hxa)
     omega
   ·obtain ⟨a,b,rfl,hn⟩:=split_last hm
    have h1:Chain l ((i :: a) ++ (m :: b ++ [k])):=by simpa using h
    exact chain_via m m k b (chain_back h1) fun x hxb => by
     have:=hx x (by simp [hxb])
     have:x≠m:=fun e => hn (e ▸ hxb)
     omega
  ·left
   exact chain_via m i k z h fun x hxz => by
    have:=hx x hxz
    have:x≠m:=fun e => hm (e ▸ hxz)
    omega
theorem reach_via {l:List Task} {i k:Nat}:reach l i k ↔ via l l.length i k:=by
 constructor
 ·rintro ⟨z,hz⟩
  exact chain_via _ i k z hz fun x hx => hz.1 x (by simp [hx])
 ·exact via_reach
structure Stage (l:List Task) (m i k:Nat) (b:Nat→Nat→Bool):Prop where
 sound:∀ x y,b x y=true→reach l x y
 old:∀ x y,x<l.length→y<l.length→via l m x y→b x y=true
 new:∀ x y,x<l.length→y<l.length→x<i∨x=i∧y<k→via l (m+1) x y→b x y=true
def putB (b:Nat→Nat→Bool) (i k:Nat) (v:Bool):Nat→Nat→Bool:=fun x y => if x=i∧y=k then v else b x y
theorem Stage.start {l:List Task} {b:Nat→Nat→Bool} (h1:∀ x y,b x y=true→reach l x y) {m:Nat} (h2:∀ x y,x<l.length→y<l.length→via l m x y→b x y=true):Stage l m 0 0 b :=
 ⟨h1,h2,fun x y _ _ h => by omega⟩
theorem Stage.step {l:List Task} {m i k:Nat} {b:Nat→Nat→Bool} (h:Stage l m i k b) (hm:m<l.length) (hi:i<l.length) (hk:k<l.length):Stage l m i (k+1) (putB b i k (b i k || b i m && b m k)):=by
 refine ⟨fun x y hb => ?_,fun x y hx hy hv => ?_,fun x y hx hy hd hv => ?_⟩
 ·unfold putB at hb
  split at hb
  ·rename_i e
   obtain ⟨rfl,rfl⟩:=e
   rw [Bool.or_eq_true,Bool.and_eq_true] at hb
   rcases hb with hb | ⟨hb,hb'⟩
   ·exact h.sound _ _ hb
   ·exact reach_trans (h.sound _ _ hb) (h.sound _ _ hb')
  ·exact h.sound _ _ hb
 ·unfold putB
  split
  ·rename_i e
   obtain ⟨rfl,rfl⟩:=e
   rw [h.old _ _ hx hy hv];rfl
  ·exact h.old _ _ hx hy hv
 ·unfold putB
  split
  ·rename_i e
   obtain ⟨rfl,rfl⟩:=e
   rcases hv with hv | ⟨hv,hv'⟩
   ·rw [h.old _ _ hx hy hv];rfl
   ·rw [h.old _ _ hx hm hv,h.old _ _ hm hy hv'];simp
  ·rename_i e
   exact h.new _ _ hx hy (by omega) hv
theorem Stage.row {l:List Task} {m i:Nat} {b:Nat→Nat→Bool} (h:Stage l m i l.length b):Stage l m (i+1) 0 b :=
 ⟨h.sound,h.old,fun x y hx hy hd hv => h.new x y hx hy (by omega) hv⟩
theorem Stage.up {l:List Task} {m:Nat} {b:Nat→Nat→Bool} (h:Stage l m l.length 0 b):Stage l (m+1) 0 0 b :=
 Stage.start h.sound fun x y hx hy hv => h.new x y hx hy (by omega) hv
theorem Stage.done {l:List Task} {b:Nat→Nat→Bool} (h:Stage l l.length 0 0 b) {x y:Nat} (hx:x<l.length) (hy:y<l.length):b x y=true ↔ reach l x y :=
 ⟨h.sound x y,fun hr => h.old x y hx hy (reach_via.1 hr)⟩
end Go.Proofs.YtfhmbechennkbaaGreat
namespace Go.Proofs.YtfhmbechennkbaaGreat
open Go.RowKit Go.Shelf
structure MatR (w:World) (B M:Nat) (D:Nat→Nat) (n r:Nat) (b:Nat→Nat→Bool):Prop where
 top:∃ cs,Blk w M 137 cs∧cs.size=n∧∀ i,i<r→cs[i]? = some (.slice (some ⟨D i,0,none⟩) n n)
 row:∀ i,i<r→∃ cs,Blk w (D i) 4 cs∧cs.size=n∧∀ k,k<n→cs[k]? = some (.bool (b i k))
 inj:∀ i j,i<r→j<r→D i=D j→i=j
 lo:B≤M
 los:∀ i,i<r→B≤D i
variable {w:World} {B M n r:Nat} {D:Nat→Nat} {b:Nat→Nat→Bool}
theorem MatR.topLt (h:MatR w B M D n r b):M<w.heap.size:=by
 obtain ⟨cs,h1,_⟩:=h.top
 exact h1.lt
theorem MatR.rowLt (h:MatR w B M D n r b) {i:Nat} (hi:i<r):D i<w.heap.size:=by
 obtain ⟨cs,h1,_⟩:=h.row i hi
 exact h1.lt
theorem MatR.ne (h:MatR w B M D n r b) {i:Nat} (hi:i<r):D i≠M:=by
 obtain ⟨cs,h1,_⟩:=h.row i hi
 obtain ⟨cs',h2,_⟩:=h.top
 intro e
 unfold Blk at h1 h2
 rw [e,h2] at h1
 have:=Option.some.inj h1
 injection this with _ e2
 exact absurd e2 (by decide)
theorem MatR.below {w':World} {B':Nat} (h:MatR w B M D n r b) (hb:Below B' w w') (hB:w.heap.size≤B'):MatR w' B M D n r b:=by
 refine ⟨?_,fun i hi => ?_,h.inj,h.lo,h.los⟩
 ·obtain ⟨cs,h1,h2⟩:=h.top
  exact ⟨cs,h1.below hb (by have:=h1.lt;omega),h2⟩
 ·obtain ⟨cs,h1,h2⟩:=h.row i hi
  exact ⟨cs,h1.below hb (by have:=h1.lt;omega),h2⟩
theorem MatR.alloc (h:MatR w B M D n r b) (o:Obj):MatR (w.alloc o) B M D n r b:=h.below ((Below.refl w.heap.size w).alloc (Nat.le_refl _) o) (Nat.le_refl _)
theorem MatR.drewN (h:MatR w B M D n r b) (q:Nat):MatR (w.drewN q) B M D n r b:=h.below (below_drewN (Below.refl w.heap.size w) q) (Nat.le_refl _)
theorem MatR.topCell (h:MatR w B M D n r b) {i:Nat} (hi:i<r):w.cell? ⟨M,i,none⟩=some (.slice (some ⟨D i,0,none⟩) n n):=by
 obtain ⟨cs,h1,_,h2⟩:=h.top
 rw [h1.cell i,h2 i hi]
theorem MatR.cell (h:MatR w B M D n r b) {i k:Nat} (hi:i<r) (hk:k<n):w.cell? ⟨D i,k,none⟩=some (.bool (b i k)):=by
 obtain ⟨cs,h1,_,h2⟩:=h.row i hi
 rw [h1.cell k,h2 k hk]
theorem MatR.frozen (h:MatR w B M D n r b) {i:Nat} (hi:i<r) (k:Nat):w.frozen? ⟨D i,k,none⟩=false:=by
 obtain ⟨cs,h1,_⟩:=h.row i hi
 exact h1.frozen k
theorem MatR.topFree (h:MatR w B M D n r b) {i:Nat} (hi:i<n):(∃ v,w.cell? ⟨M,i,none⟩=some v)∧w.frozen? ⟨M,i,none⟩=false:=by
 obtain ⟨cs,h1,h2,_⟩:=h.top
 exact ⟨⟨cs[i]'(by omega),by rw [h1.cell i,Array.getElem?_eq_getElem (by omega)]⟩,h1.frozen i⟩
theorem MatR.set_ (h:MatR w B M D n r b) {i k:Nat} (hi:i<r) (_hk:k<n) (v:Bool):MatR (w.setCell ⟨D i,k,none⟩ (.bool v)) B M D n r (putB b i k v):=by
 refine ⟨?_,fun j hj => ?_,h.inj,h.lo,h.los⟩
 ·obtain ⟨cs,h1,h2⟩:=h.top
  exact ⟨cs,h1.far (fun e => h.ne hi e.symm) _,h2⟩
 ·obtain ⟨cs,h1,h2,h3⟩:=h.row j hj
  by_cases e:j=i
  ·subst e
   refine ⟨_,h1.set_ k _,by simpa using h2,fun y hy => ?_⟩
   unfold putB
   by_cases ey:y=k
   ·subst ey
    rw [if_pos ⟨rfl,rfl⟩,Array.getElem?_setIfInBounds_self_of_lt (by omega)]
   ·rw [if_neg (fun hh => ey hh.2),Array.getElem?_setIfInBounds_ne (fun hh => ey hh.symm)]
    exact h3 y hy
  ·refine ⟨cs,h1.far (fun hh => e (h.inj j i hj hi hh)) _,h2,fun y hy => ?_⟩
   unfold putB
   rw [if_neg (fun hh => e hh.1)]
   exact h3 y hy
theorem MatR.lay (h:MatR w B M D n r b) (hr:r<n) {g:Nat} {cs:Array Value} (hg:Blk w g 4 cs) (hcs:cs.size=n) (hz:∀ k,k<n→cs[k]? = some (.bool (b r k))) (hB:B≤g) (hne:∀ i,i<r→D i≠g) :
  MatR (w.setCell ⟨M,r,none⟩ (.slice (some ⟨g,0,none⟩) n n)) B M (fun i => if i=r then g else D i) n (r+1) b:=by
 have hgM:g≠M:=by
  obtain ⟨cs',h2,_⟩:=h.top
  intro e
  unfold Blk at hg h2
  rw [e,h2] at hg
  have:=Option.some.inj hg
  injection this with _ e2
  exact absurd e2 (by decide)
 refine ⟨?_,fun i hi => ?_,fun i j hi hj e => ?_,h.lo,fun i hi => ?_⟩
 ·obtain ⟨cs',h1,h2,h3⟩:=h.top
  refine ⟨_,h1.set_ r _,by simpa using h2,fun i hi => ?_⟩
  by_cases e:i=r
  ·subst e
   rw [if_pos rfl,Array.getElem?_setIfInBounds_self_of_lt (by omega)]
  ·rw [if_neg e,Array.getElem?_setIfInBounds_ne (fun hh => e hh.symm)]
   exact h3 i (by omega)
 ·by_cases e:i=r
  ·subst e
   simp only [if_pos]
   exact ⟨cs,hg.far hgM _,hcs,hz⟩
  ·simp only [if_neg e]
   obtain ⟨cs',h1,h2⟩:=h.row i (by omega)
   exact ⟨cs',h1.far (h.ne (by omega)) _,h2⟩
 ·by_cases ei:i=r
  ·by_cases ej:j=r
   ·omega
   ·simp only [if_pos ei,if_neg ej] at e
    exact absurd e.symm (hne j (by omega))
  ·by_cases ej:j=r
   ·simp only [if_neg ei,if_pos ej] at e
    exact absurd e (hne i (by omega))
   ·simp only [if_neg ei,if_neg ej] at e
    exact h.inj i j (by omega) (by omega) e
 ·by_cases e:i=r
  ·simp only [if_pos e];exact hB
  ·simp only [if_neg e];exact h.los i (by omega)
theorem info_sliceB:(Tryz.prog.info? 137).map (fun i => (i.zero,i.size,i.bytes))=some (some (.slice none 0 0),1,24):=by kernel_rfl
theorem own_blk {w:World} {B e g n:Nat} {xs:List Value} (h:w.ownsRow B e 1 (.slice (some ⟨g,0,none⟩) n n) n xs):B≤g∧∃ cs,Blk w g e cs∧cs.size=n∧∀ k:Nat,k<n→cs[k]? = xs[k]?:=by
 rcases h.2 with ⟨e',_⟩ | ⟨g',cap',cur,hv,h1,h2,h3,h4,h5,h6⟩
 ·injection e' with e1;cases e1
 ·injection hv with e1 e2 e3
  injection e1 with e1
  injection e1 with e1
  subst e1 e3
  refine ⟨h1,cur,h2,by omega,fun k hk => ?_⟩
  rw [← h6]
  simp [hk]
  all_goals omega
structure Fill (l:List Task) (i k:Nat) (b:Nat→Nat→Bool):Prop where
 sound:∀ x y,b x y=true→edge l x y
 full:∀ x y,x<l.length→y<l.length→x<i∨x=i∧y<k→edge l x y→b x y=true
 rest:∀ x y,¬ (x<i∨x=i∧y<k)→b x y=false
theorem Fill.start (l:List Task):Fill l 0 0 fun _ _ => false:=⟨(fun _ _ h => absurd h (by decide)),(fun x y _ _ h => by omega),(fun _ _ _ => rfl)⟩
theorem Fill.step {l:List Task} {i k:Nat} {b:Nat→Nat→Bool} (h:Fill l i k b) {v:Bool} (hv:v=true ↔ edge l i k):Fill l i (k+1) (putB b i k v):=by
 refine ⟨fun x y hb => ?_,fun x y hx hy hd he => ?_,fun x y hd => ?_⟩
 ·unfold putB at hb
  split at hb
  ·rename_i e;obtain ⟨rfl,rfl⟩:=e;exact hv.1 hb
  ·exact h.sound x y hb
 ·unfold putB
  split
  ·rename_i e;obtain ⟨rfl,rfl⟩:=e;exact hv.2 he
  ·rename_i e;exact h.full x y hx hy (by omega) he
 ·unfold putB
  rw [if_neg (by omega)]
  exact h.rest x y (by omega)
theorem Fill.row {l:List Task} {i:Nat} {b:Nat→Nat→Bool} (h:Fill l i l.length b) (hlow:∀ x y,b x y=true→y<l.length):Fill l (i+1) 0 b:=by
 refine ⟨h.sound,fun x y hx hy hd he => h.full x y hx hy (by omega) he,fun x y hd => ?_⟩
 cases hb:b x y with
 | false => rfl
 | true =>
  have:=hlow x y hb
  have:=h.rest x y (by omega)
  rw [hb] at this
  exact this
theorem Fill.row' {l:List Task} {i:Nat} {b:Nat→Nat→Bool} (h:Fill l i l.length b):Fill l (i+1) 0 b:=h.row fun x y hb => (h.sound x y hb).2.1
theorem Fill.stage {l:List Task} {b:Nat→Nat→Bool} (h:Fill l l.length 0 b):Stage l 0 0 0 b :=
 Stage.start (fun x y hb => reach_one (h.sound x y hb)) fun x y hx hy hv => h.full x y hx hy (by omega) hv
def ComesPost (l:List Task) (w:World) (e:Ending) (w':World):Prop :=
 Below w.heap.size w w'∧∃ M D b,e = .returned (.slice (some ⟨M,0,none⟩) l.length l.length)∧MatR w' w.heap.size M D l.length l.length b∧Stage l l.length 0 0 b
set_option maxRecDepth 100000 in
set_option maxHeartbeats 4000000 in
theorem boundsComes (v:Value) (l:List Task) (w:World) (hl:TasksAt w w.heap.size v l) (h8:l.length≤8) :
  Calls Tryz.prog 96 #[v] w (ComesPost l w):=by
 have HL:=Lib.hid hl
 obtain ⟨A,c,rfl,hc1,hc2,-⟩:=hl.open_
 unfold maxLen at hc2
 clear hl
 obtain ⟨i0,hi0,hz0,hz1,hz2⟩:=info_parts info_sliceB
 have hbytes:i0.bytes*l.length≤281474976710656:=by rw [hz2];omega
 obtain ⟨j0,hj0,hy0,hy1,hy2⟩:=info_parts info_bool
 have hbytes2:j0.bytes*l.length≤281474976710656:=by rw [hy2];omega
 go_enter Tryz.func96,Tryz.ntmps96
 go_wp2_with (at_make;refine wpList_make_full _ rfl _ _ 135 rfl w.heap.size 137 i0 (.slice none 0 0) 1 Tryz.underlying135 hi0 hz0 hz1 .i64 .i64 _ _ l.length rfl rfl rfl rfl hbytes (by unfold maxLen;omega) (Nat.le_refl _) ?_;intro w2 hown2 hgrow2)
 rw [made_nil] at hown2
 have hM0:MatR w2 w.heap.size w.heap.size (fun _ => 0) l.length 0 (fun _ _ => false):=by
  obtain ⟨hlo,cs,h1,h2,h3⟩:=own_blk hown2
  exact ⟨⟨cs,h1,h2,fun i hi => absurd hi (Nat.not_lt_zero i)⟩,fun i hi => absurd hi (Nat.not_lt_zero i),fun i j hi => absurd hi (Nat.not_lt_zero i),Nat.le_refl _,fun i hi => absurd hi (Nat.not_lt_zero i)⟩
 have hb2:Below w.heap.size w w2:=(Below.refl _ _).grown hgrow2 (Nat.le_refl _) (fun k hk => by cases hk)
 clear hown2 hgrow2 hbytes hi0 hz0 hz1 hz2
 obtain ⟨M,hMe⟩:∃ M:Nat,M=w.heap.size:=⟨_,rfl⟩
 have HMe:=Lib.hid hMe
 go_loopw [15] (fun s wr => ∃ (i:Nat) (D:Nat→Nat) (b:Nat→Nat→Bool),i≤l.length∧s = .int .i64 i∧MatR wr w.heap.size w.heap.size D l.length i b∧Hid (Fill l i 0 b)∧Below w.heap.size w wr) (fun s _ => l.length-(intOf s).toNat)
 case atStart => exact ⟨0,_,_,by omega,rfl,hM0,Fill.start l,hb2⟩
 case round =>
  clear hM0 hb2
  obtain ⟨i,D,b,hi,rfl,hM,HF,hbel⟩:=hrel
  by_cases hil:i<l.length
  ·have hsz:=hbel.size
   have htl:=hM.topLt
   go_wp2_with (at_make;refine wpList_make_full _ rfl _ _ 137 rfl w.heap.size 4 j0 (.bool false) 1 Tryz.underlying137 hj0 hy0 hy1 .i64 .i64 _ _ l.length rfl rfl rfl rfl hbytes2 (by unfold maxLen;omega) hbel.size ?_;intro w3 hown3 hgrow3;have hM3:=hM.below ((Below.refl wr.heap.size wr).grown hgrow3 (Nat.le_refl _) (fun k hk => by cases hk)) (Nat.le_refl _);obtain ⟨⟨v3,hv3⟩,hf3⟩:=hM3.topFree hil;have htl3:=hM3.topLt)
   have hM4:∃ D',MatR (w3.setCell ⟨w.heap.size,i,none⟩ (.slice (some ⟨wr.heap.size,0,none⟩) l.length l.length)) w.heap.size w.heap.size D' l.length (i+1) b:=by
    obtain ⟨hlo,cs,h1,h2,h3⟩:=own_blk hown3
    refine ⟨_,hM3.lay hil h1 h2 (fun k hk => ?_) hsz (fun x hx => ?_)⟩
    ·rw [h3 k hk,made_false,HF.out.rest i k (by omega)]
     simp [hk]
    ·have:=hM.rowLt hx
     omega
   have hb4:Below w.heap.size w (w3.setCell ⟨w.heap.size,i,none⟩ (.slice (some ⟨wr.heap.size,0,none⟩) l.length l.length)):=(hbel.grown hgrow3 hbel.size (fun k hk => by cases hk)).setCell (p:=⟨w.heap.size,i,none⟩) (Nat.le_refl _) _
   obtain ⟨D',hM4⟩:=hM4
   clear hown3 hgrow3 hM3 hv3 hf3 htl3 htl hM hbel
   generalize (w3.setCell ⟨w.heap.size,i,none⟩ (.slice (some ⟨wr.heap.size,0,none⟩) l.length l.length))=w4 at *
   go_loopw [26] (fun s wi => ∃ (k:Nat) (b:Nat→Nat→Bool),k≤l.length∧s = .int .i64 k∧MatR wi w.heap.size w.heap.size D' l.length (i+1) b∧Hid (Fill l i k b)∧Below w.heap.size w wi) (fun s _ => l.length-(intOf s).toNat)
   case atStart => exact ⟨0,b,by omega,rfl,hM4,HF,hb4⟩
   case round =>
    clear hM4 hb4 HF
    obtain ⟨k,b,hk,rfl,hM,HF,hbel⟩:=hrel
    by_cases hkl:k<l.length
    ·have HTk:=HL.out.below hbel (Nat.le_refl _)
     obtain ⟨b0,off,rfl,hb0,hcell⟩:=HTk.cells hkl
     obtain ⟨t0,t1,t2,t3,t4⟩:=hcell k hkl
     have hni:=(hcell i hil).1
     clear hcell
     have hbt:=hbel.alloc hbel.size (.cells #[.string l[k].name,.int .i64 l[k].len,.int .i64 l[k].crew,.int .i64 l[k].pow,.slice l[k].ba l[k].bef.length l[k].bc] 41)
     have hsz:=hbel.size
     have hni':=(World.cell?_alloc_lt wr (.cells #[.string l[k].name,.int .i64 l[k].len,.int .i64 l[k].crew,.int .i64 l[k].pow,.slice l[k].ba l[k].bef.length l[k].bc] 41) ⟨b0,off+i*5,none⟩ (by simp;omega)).trans hni
     have hMt:=hM.alloc (.cells #[.string l[k].name,.int .i64 l[k].len,.int .i64 l[k].crew,.int .i64 l[k].pow,.slice l[k].ba l[k].bef.length l[k].bc] 41)
     have y4:=World.cell?_alloc_new wr #[.string l[k].name,.int .i64 l[k].len,.int .i64 l[k].crew,.int .i64 l[k].pow,.slice l[k].ba l[k].bef.length l[k].bc] 41 4
     simp only [List.getElem?_toArray,List.getElem?_cons_succ,List.getElem?_cons_zero] at y4
     go_wp2_with fail
     have hcon:=containsStr l[k].bv l[k].bef l[i].name w.heap.size (wr.alloc (.cells #[.string l[k].name,.int .i64 l[k].len,.int .i64 l[k].crew,.int .i64 l[k].pow,.slice l[k].ba l[k].bef.length l[k].bc] 41)).drew ((HL.out.below hbt.drew (Nat.le_refl _)).bef hkl)
     have hcall:Calls Tryz.prog 127 #[.slice l[k].ba l[k].bef.length l[k].bc,.string l[i].name] (wr.alloc (.cells #[.string l[k].name,.int .i64 l[k].len,.int .i64 l[k].crew,.int .i64 l[k].pow,.slice l[k].ba l[k].bef.length l[k].bc] 41)).drew fun e w' => e = .returned (.bool (decide (l[i].name ∈ l[k].bef)))∧w'=(wr.alloc (.cells #[.string l[k].name,.int .i64 l[k].len,.int .i64 l[k].crew,.int .i64 l[k].pow,.slice l[k].ba l[k].bef.length l[k].bc] 41)).drew:=hcon.mono fun e w' h => ⟨h.1,h.2.symm⟩
     have hF1:=Lib.hid (HF.out.step (v:=decide (l[i].name ∈ l[k].bef)) (by simp only [decide_eq_true_eq];exact ⟨fun h => ⟨hil,hkl,h⟩,fun h => h.2.2⟩))
     have hMf:Hid (∀ x,MatR ((wr.alloc (.cells #[.string l[k].name,.int .i64 l[k].len,.int .i64 l[k].crew,.int .i64 l[k].pow,.slice l[k].ba l[k].bef.length l[k].bc] 41)).drew.setCell ⟨D' i,k,none⟩ (.bool x)) w.heap.size w.heap.size D' l.length (i+1) (putB b i k x)):=fun x => (hMt.drewN 1).set_ (by omega) hkl x
     have hbf:Hid (∀ x,Below w.heap.size w ((wr.alloc (.cells #[.string l[k].name,.int .i64 l[k].len,.int .i64 l[k].crew,.int .i64 l[k].pow,.slice l[k].ba l[k].bef.length l[k].bc] 41)).drew.setCell ⟨D' i,k,none⟩ (.bool x))):=fun x => hbt.drew.setCell (p:=⟨D' i,k,none⟩) (hM.los i (by omega)) _
     have c0:=hMt.topCell (show i<i+1 by omega)
     have c1:=hMt.cell (show i<i+1 by omega) hkl
     have c2:=hMt.frozen (show i<i+1 by omega) k
     generalize decide (l[i].name ∈ l[k].bef)=dv at *
     clear hcon hM HTk t0 t1 t2 t3 t4 hni hbt hMt
     generalize wr.alloc (.cells #[.string l[k].name,.int .i64 l[k].len,.int .i64 l[k].crew,.int .i64 l[k].pow,.slice l[k].ba l[k].bef.length l[k].bc] 41)=wt at *
     generalize wr.heap.size=gt at *
     generalize b i k=bik at c1
     have i1:(0:Int)≤(i:Int):=Int.natCast_nonneg _
     have i2:(i:Int)<(l.length:Int):=by omega
     have i3:(0:Int)≤(k:Int):=Int.natCast_nonneg _
     have i4:(k:Int)<(l.length:Int):=by omega
     refine wp_region_tail 14 (by kernel_rfl) (by kernel_rfl) ?_
     simp only [List.take_succ_cons,List.take_zero,List.drop_succ_cons,List.drop_zero]
     repeat (first | go_big_quiet_skip | (go_big_quiet_want;go_big_quiet_op;first | go_big_quiet_on | (apply Exists.intro;refine ⟨?_,?_⟩;(go_at_call 127;exact hcall);go_big_quiet_on)))
     refine wpQuiet_nil ?_
     go_wp2
     go_roundw
     case rel => exact ⟨k+1,_,by omega,by go_num,hMf.out dv,hF1,hbf.out dv⟩
     case measure => simp [intOf];omega
    ·have hke:k=l.length:=by omega
     subst hke
     have HF':=Lib.hid HF.out.row'
     go_wp2_with fail
     go_roundw
     case rel => exact ⟨i+1,D',b,by omega,by go_num,hM,HF',hbel⟩
     case measure => simp [intOf];omega
  ·have hie:i=l.length:=by omega
   subst hie
   have HS:=Lib.hid HF.out.stage
   go_wp2_with fail
   clear HF
   go_loopw [49] (fun s wr => ∃ (m:Nat) (b:Nat→Nat→Bool),m≤l.length∧s = .int .i64 m∧MatR wr w.heap.size w.heap.size D l.length l.length b∧Hid (Stage l m 0 0 b)∧Below w.heap.size w wr) (fun s _ => l.length-(intOf s).toNat)
   case atStart => exact ⟨0,b,by omega,rfl,hM,HS,hbel⟩
   case round =>
    clear hM HS hbel
    obtain ⟨m,b,hm,rfl,hM,HS,hbel⟩:=hrel
    by_cases hml:m<l.length
    ·go_wp2_with fail
     go_loopw [54] (fun s wr => ∃ (i:Nat) (b:Nat→Nat→Bool),i≤l.length∧s = .int .i64 i∧MatR wr w.heap.size w.heap.size D l.length l.length b∧Hid (Stage l m i 0 b)∧Below w.heap.size w wr) (fun s _ => l.length-(intOf s).toNat)
     case atStart => exact ⟨0,b,by omega,rfl,hM,HS,hbel⟩
     case round =>
      clear hM HS hbel
      obtain ⟨i,b,hi,rfl,hM,HS,hbel⟩:=hrel
      by_cases hil:i<l.length
      ·go_wp2_with fail
       go_loopw [59] (fun s wr => ∃ (k:Nat) (b:Nat→Nat→Bool),k≤l.length∧s = .int .i64 k∧MatR wr w.heap.size w.heap.size D l.length l.length b∧Hid (Stage l m i k b)∧Below w.heap.size w wr) (fun s _ => l.length-(intOf s).toNat)
       case atStart => exact ⟨0,b,by omega,rfl,hM,HS,hbel⟩
       case round =>
        clear hM HS hbel
        obtain ⟨k,b,hk,rfl,hM,HS,hbel⟩:=hrel
        by_cases hkl:k<l.length
        ·have hS1:=Lib.hid (HS.out.step hml hil hkl)
         have hMf:Hid (∀ x,MatR (wr.drew.setCell ⟨D i,k,none⟩ (.bool x)) w.heap.size w.heap.size D l.length l.length (putB b i k x)):=fun x => (hM.drewN 1).set_ hil hkl x
         have hbf:Hid (∀ x,Below w.heap.size w (wr.drew.setCell ⟨D i,k,none⟩ (.bool x))):=fun x => hbel.drew.setCell (p:=⟨D i,k,none⟩) (hM.los i hil) _
         have c0:=hM.topCell hil
         have c1:=hM.topCell hml
         have c2:=hM.cell hil hkl
         have c3:=hM.cell hil hml
         have c4:=hM.cell hml hkl
         have c5:=hM.frozen hil k
         have i1:(0:Int)≤(i:Int):=Int.natCast_nonneg _
         have i2:(i:Int)<(l.length:Int):=by omega
         have i3:(0:Int)≤(k:Int):=Int.natCast_nonneg _
         have i4:(k:Int)<(l.length:Int):=by omega
         have i5:(0:Int)≤(m:Int):=Int.natCast_nonneg _
         have i6:(m:Int)<(l.length:Int):=by omega
         clear hM hbel HS
         cases e1:b i k with
         | true =>
          rw [e1] at hS1 c2
          simp only [Bool.true_or] at hS1
          clear e1
          generalize D i=di at *
          generalize D m=dm at *
          go_wp2_with fail
          refine wp_region_tail 31 (by kernel_rfl) (by kernel_rfl) ?_
          simp only [List.take_succ_cons,List.take_zero,List.drop_succ_cons,List.drop_zero]
          repeat (go_big_quiet_step (fail))
          refine wpQuiet_nil ?_
          go_wp2
          go_roundw
          case rel => exact ⟨k+1,_,by omega,by go_num,hMf.out true,hS1,hbf.out true⟩
          case measure => simp [intOf];omega
         | false =>
          rw [e1] at hS1 c2
          simp only [Bool.false_or] at hS1
          clear e1
          cases e2:b i m with
          | false =>
           rw [e2] at hS1 c3
           simp only [Bool.false_and] at hS1
           clear e2
           generalize D i=di at *
           generalize D m=dm at *
           go_wp2_with fail
           refine wp_region_tail 31 (by kernel_rfl) (by kernel_rfl) ?_
           simp only [List.take_succ_cons,List.take_zero,List.drop_succ_cons,List.drop_zero]
           repeat (go_big_quiet_step (fail))
           refine wpQuiet_nil ?_
           go_wp2
           go_roundw
           case rel => exact ⟨k+1,_,by omega,by go_num,hMf.out false,hS1,hbf.out false⟩
           case measure => simp [intOf];omega
          | true =>
           rw [e2] at hS1 c3
           simp only [Bool.true_and] at hS1
           clear e2
           generalize b m k=bmk at *
           generalize D i=di at *
           generalize D m=dm at *
           go_wp2_with fail
           refine wp_region_tail 31 (by kernel_rfl) (by kernel_rfl) ?_
           simp only [List.take_succ_cons,List.take_zero,List.drop_succ_cons,List.drop_zero]
           repeat (go_big_quiet_step (fail))
           refine wpQuiet_nil ?_
           go_wp2
           go_roundw
           case rel => exact ⟨k+1,_,by omega,by go_num,hMf.out bmk,hS1,hbf.out bmk⟩
           case measure => simp [intOf];omega
        ·have hke:k=l.length:=by omega
         subst hke
         have HS':=Lib.hid HS.out.row
         go_wp2_with fail
         go_roundw
         case rel => exact ⟨i+1,b,by omega,by go_num,hM,HS',hbel⟩
         case measure => simp [intOf];omega
      ·have hie:i=l.length:=by omega
       subst hie
       have HS':=Lib.hid HS.out.up
       go_wp2_with fail
       go_roundw
       case rel => exact ⟨m+1,b,by omega,by go_num,hM,HS',hbel⟩
       case measure => simp [intOf];omega
    ·have hme:m=l.length:=by omega
     subst hme
     go_wp2_with fail
     go_ret
     exact ⟨hbel,_,D,b,rfl,hM,HS.out⟩
def exclT (b:Nat→Nat→Bool) (t u:Task) (c p:Int) (i k:Nat):Bool:=b i k || b k i || decide (c<t.crew+u.crew) || decide (p<t.pow+u.pow)
structure CliqueBox (w:World) (P0 P1 P2 P3:Nat) (v:Value) (c p:Int) (M n:Nat):Prop where
 b0:w.cell? ⟨P0,0,none⟩=some (.slice (some ⟨M,0,none⟩) n n)
 b1:w.cell? ⟨P1,0,none⟩=some v
 b2:w.cell? ⟨P2,0,none⟩=some (.int .i64 c)
 b3:w.cell? ⟨P3,0,none⟩=some (.int .i64 p)
theorem bound_sum {a b:Int} (h1:0≤a∧a≤100) (h2:0≤b∧b≤100):IntKind.i64.wrap (a+b)=a+b:=IntWalk.i64_in _ (by omega)
set_option maxRecDepth 100000 in
set_option maxHeartbeats 4000000 in
theorem cliqueClosure (v : Value) (l : List Task) (c p : Int) (P0 P1 P2 P3 B B' M : Nat) (D : Nat → Nat) (b : Nat → Nat → Bool) (i k : Nat) (w : World) (hR : RightT l)
  (hbox:CliqueBox w P0 P1 P2 P3 v c p M l.length) (hl:TasksAt w B v l) (hM:MatR w B' M D l.length l.length b) (hi:i<l.length) (hk:k<l.length) :
  Calls Tryz.prog 97 #[.int .i64 i,.int .i64 k,.pointer (some ⟨P0,0,none⟩),.pointer (some ⟨P1,0,none⟩),.pointer (some ⟨P2,0,none⟩),.pointer (some ⟨P3,0,none⟩)] w
   fun e w' => e = .returned (.bool (exclT b l[i] l[k] c p i k))∧∃ q,w.drewN q=w':=by
 have hci:=fieldB_crew (hR.field i hi)
 have hck:=fieldB_crew (hR.field k hk)
 have hpi:=fieldB_pow (hR.field i hi)
 have hpk:=fieldB_pow (hR.field k hk)
 obtain ⟨A,cc,rfl,hc1,hc2,-⟩:=hl.open_
 obtain ⟨b0,off,rfl,hb0,hcell⟩:=hl.cells hi
 obtain ⟨-,-,ti2,ti3,-⟩:=hcell i hi
 obtain ⟨-,-,tk2,tk3,-⟩:=hcell k hk
 obtain ⟨x0,x1,x2,x3⟩:=hbox
 have r0:=hM.topCell hi
 have r1:=hM.topCell hk
 have r2:=hM.cell hi hk
 have r3:=hM.cell hk hi
 have i1:(0:Int)≤(i:Int):=Int.natCast_nonneg _
 have i2:(i:Int)<(l.length:Int):=by omega
 have i3:(0:Int)≤(k:Int):=Int.natCast_nonneg _
 have i4:(k:Int)<(l.length:Int):=by omega
 clear hM hcell hl
 generalize l[i]=t at *
 generalize l[k]=u at *
 obtain ⟨tn,tl,tc,tp,ta,tb,tf⟩:=t
 obtain ⟨un,ul,uc,up,ua,ub,uf⟩:=u
 simp only at ti2 ti3 tk2 tk3 hci hck hpi hpk
 have hs1:=Lib.hid (bound_sum hci hck)
 have hs2:=Lib.hid (bound_sum hpi hpk)
 unfold exclT
 simp only
 generalize b i k=e1 at *
 generalize b k i=e2 at *
 cases e1 with
 | true =>
  go_enter Tryz.func97,Tryz.ntmps97
  go_wp2_with fail
  go_quiet (fail)
  go_wp2
  go_ret
  exact ⟨rfl,_,rfl⟩
 | false =>
  cases e2 with
  | true =>
   go_enter Tryz.func97,Tryz.ntmps97
   go_wp2_with fail
   go_quiet (fail)
   go_wp2
   go_ret
   exact ⟨rfl,_,rfl⟩
  | false =>
   by_cases h1:c<tc+uc
   ·have hd:decide (c<tc+uc)=true:=by simpa using h1
    rw [hd]
    have e1:=hs1.out
    go_enter Tryz.func97,Tryz.ntmps97
    go_wp2_with fail
    go_quiet (fail)
    go_wp2
    go_ret
    exact ⟨rfl,_,rfl⟩
   ·have hd:decide (c<tc+uc)=false:=by simpa using h1
    rw [hd]
    have e1:=hs1.out
    have e2:=hs2.out
    go_enter Tryz.func97,Tryz.ntmps97
    go_wp2_with fail
    go_quiet (fail)
    go_wp2
    go_ret
    exact ⟨rfl,_,rfl⟩
end Go.Proofs.YtfhmbechennkbaaGreat
namespace Go.Proofs.YtfhmbechennkbaaGreat
def excl (l:List Task) (c p:Int) (i k:Nat):Prop:=∃ (hi:i<l.length) (hk:k<l.length),reach l i k∨reach l k i∨c<l[i].crew+l[k].crew∨p<l[i].pow+l[k].pow
theorem exclT_iff {l:List Task} {c p:Int} {i k:Nat} {b:Nat→Nat→Bool} (hS:Stage l l.length 0 0 b) (hi:i<l.length) (hk:k<l.length):exclT b l[i] l[k] c p i k=true ↔ excl l c p i k:=by
 unfold exclT
 simp only [Bool.or_eq_true,decide_eq_true_eq,hS.done hi hk,hS.done hk hi]
 constructor
 ·rintro (((h | h) | h) | h)
  ·exact ⟨hi,hk,.inl h⟩
  ·exact ⟨hi,hk,.inr (.inl h)⟩
  ·exact ⟨hi,hk,.inr (.inr (.inl h))⟩
  ·exact ⟨hi,hk,.inr (.inr (.inr h))⟩
 ·rintro ⟨_,_,h | h | h | h⟩
  ·exact .inl (.inl (.inl h))
  ·exact .inl (.inl (.inr h))
  ·exact .inl (.inr h)
  ·exact .inr h
def memb (s n:Nat):List Nat:=(List.range n).filter fun i => s.testBit i
theorem memb_succ (s n:Nat):memb s (n+1)=if s.testBit n then memb s n ++ [n] else memb s n:=by
 unfold memb
 rw [List.range_succ,List.filter_append]
 cases h:s.testBit n <;> simp [h]
def isClique (l:List Task) (c p:Int) (s n:Nat):Prop:=∀ i k,i<n→k<i→s.testBit i=true→s.testBit k=true→excl l c p i k
structure Heavy (l:List Task) (c p:Int) (S:Nat) (L:Int) (s:Nat):Prop where
 clique:isClique l c p s l.length
 low:s<2 ^ l.length
 sum:sumAt l (memb s l.length)=L
 most:∀ z,z<S→isClique l c p z l.length→sumAt l (memb z l.length)≤L
 first:∀ z,z<S→z<s→isClique l c p z l.length→sumAt l (memb z l.length)<L
 below:s=0∨s<S
theorem memb_none (n:Nat):memb 0 n=[]:=by
 unfold memb
 simp
theorem Heavy.start (l:List Task) (c p:Int):Heavy l c p 0 0 0:=by
 refine ⟨fun i k _ _ h => by simp at h,Nat.two_pow_pos _,by rw [memb_none,sumAt_nil],fun z hz => absurd hz (Nat.not_lt_zero z),fun z hz => absurd hz (Nat.not_lt_zero z),.inl rfl⟩
theorem Heavy.no {l:List Task} {c p:Int} {S s:Nat} {L:Int} (h:Heavy l c p S L s) (hno:¬ isClique l c p S l.length):Heavy l c p (S+1) L s:=by
 refine ⟨h.clique,h.low,h.sum,fun z hz hc => ?_,fun z hz hs hc => ?_,?_⟩
 ·by_cases e:z=S
  ·subst e;exact absurd hc hno
  ·exact h.most z (by omega) hc
 ·by_cases e:z=S
  ·subst e;exact absurd hc hno
  ·exact h.first z (by omega) hs hc
 ·rcases h.below with h | h
  ·exact .inl h
  ·exact .inr (by omega)
theorem Heavy.less {l:List Task} {c p:Int} {S s:Nat} {L:Int} (h:Heavy l c p S L s) (hno:¬ L<sumAt l (memb S l.length)):Heavy l c p (S+1) L s:=by
 refine ⟨h.clique,h.low,h.sum,fun z hz hc => ?_,fun z hz hs hc => ?_,?_⟩
 ·by_cases e:z=S
  ·subst e;omega
  ·exact h.most z (by omega) hc
 ·by_cases e:z=S
  ·subst e
   rcases h.below with h | h <;> omega
  ·exact h.first z (by omega) hs hc
 ·rcases h.below with h | h
  ·exact .inl h
  ·exact .inr (by omega)
theorem Heavy.more {l:List Task} {c p:Int} {S s:Nat} {L:Int} (h:Heavy l c p S L s) (hS:S<2 ^ l.length) (hc:isClique l c p S l.length) (hlt:L<sumAt l (memb S l.length)):Heavy l c p (S+1) (sumAt l (memb S l.length)) S:=by
 refine ⟨hc,hS,rfl,fun z hz hc' => ?_,fun z hz hs hc' => ?_,.inr (by omega)⟩
 ·by_cases e:z=S
  ·subst e;exact Int.le_refl _
  ·have:=h.most z (by omega) hc';omega
 ·have:=h.most z hs hc';omega
theorem Heavy.uniq {l:List Task} {c p:Int} {s s':Nat} {L L':Int} (h:Heavy l c p (2 ^ l.length) L s) (h':Heavy l c p (2 ^ l.length) L' s'):L=L'∧s=s':=by
 have e:L=L':=by
  have h1:=h.most s' h'.low h'.clique
  have h2:=h'.most s h.low h.clique
  have h3:=h.sum
  have h4:=h'.sum
  omega
 subst e
 refine ⟨rfl,?_⟩
 rcases Nat.lt_trichotomy s s' with hlt | e | hlt
 ·have:=h'.first s h.low hlt h.clique
  have:=h.sum
  omega
 ·exact e
 ·have:=h.first s' h'.low hlt h'.clique
  have:=h'.sum
  omega
end Go.Proofs.YtfhmbechennkbaaGreat
namespace Go.Proofs.YtfhmbechennkbaaGreat
open Go.RowKit Go.Shelf
theorem i64_and1 (n:Int):bits .and .i64 n 1=n % 2:=by
 have h1:(BitVec.ofInt 64 1).toNat=2 ^ 1-1:=by decide
 have key:(BitVec.ofInt 64 n &&& BitVec.ofInt 64 1).toNat=(n % ((2 ^ 64:Nat):Int)).toNat % 2 ^ 1:=by
  rw [BitVec.toNat_and,BitVec.toNat_ofInt,h1,Nat.and_two_pow_sub_one_eq_mod]
 show IntKind.i64.wrap ((BitVec.ofInt 64 n &&& BitVec.ofInt 64 1).toNat:Nat)=n % 2
 rw [key,IntKind.wrap_i64]
 omega
theorem bit_at (s i:Nat):bits .and .i64 ((s:Int) / 2 ^ ((i:Int).toNat)) 1=if s.testBit i then 1 else 0:=by
 rw [i64_and1,Int.toNat_natCast]
 have h1:((s:Int) / 2 ^ i) % 2=((s / 2 ^ i % 2:Nat):Int):=by
  rw [Int.natCast_emod,Int.natCast_ediv,Int.natCast_pow]
  rfl
 rw [h1,Nat.testBit_eq_decide_div_mod_eq]
 have h2:s / 2 ^ i % 2=0∨s / 2 ^ i % 2=1:=by omega
 rcases h2 with h | h
 ·rw [h];simp
 ·rw [h];simp
theorem bit_no0 {s i:Nat} (h:s.testBit i=false):(bits .and .i64 ((s:Int) / 2 ^ i) 1 == 0)=true:=by
 have:=bit_at s i
 rw [Int.toNat_natCast] at this
 rw [this,h];rfl
theorem bit_no1 {s i:Nat} (h:s.testBit i=false):(bits .and .i64 ((s:Int) / 2 ^ i) 1 == 1)=false:=by
 have:=bit_at s i
 rw [Int.toNat_natCast] at this
 rw [this,h];rfl
theorem bit_yes0 {s i:Nat} (h:s.testBit i=true):(bits .and .i64 ((s:Int) / 2 ^ i) 1 == 0)=false:=by
 have:=bit_at s i
 rw [Int.toNat_natCast] at this
 rw [this,h];rfl
theorem bit_yes1 {s i:Nat} (h:s.testBit i=true):(bits .and .i64 ((s:Int) / 2 ^ i) 1 == 1)=true:=by
 have:=bit_at s i
 rw [Int.toNat_natCast] at this
 rw [this,h];rfl
theorem pow_small {n:Nat} (h:n≤8):2 ^ n≤256:=Nat.pow_le_pow_right (by omega) h
theorem pow_wrap {n:Nat} (h:n≤8):wrap64 ((2:Int) ^ n)=((2 ^ n:Nat):Int):=by
 have e:((2:Int) ^ n)=((2 ^ n:Nat):Int):=by rw [Int.natCast_pow];rfl
 have h2:=pow_small h
 rw [e]
 generalize 2 ^ n=N at *
 unfold wrap64
 omega
def CliquePost (l:List Task) (c p:Int) (w:World) (e:Ending) (w':World):Prop :=
 Below w.heap.size w w'∧(givenN l c p≠0∧e = .returned (.tuple #[.int .i64 0,.slice none 0 0,.int .i64 (givenN l c p)]) ∨
  givenN l c p=0∧∃ (L:Int) (s:Nat) (v:Value),Heavy l c p (2 ^ l.length) L s∧e = .returned (.tuple #[.int .i64 L,v,.int .i64 0])∧w'.ownsRow w.heap.size 9 1 v (memb s l.length).length ((nmsAt l (memb s l.length)).map Value.string))
theorem enters76:∀ args w,(callFunc 97 args).run Tryz.prog w = .ok (.enter 97 args) w:=enters_of Tryz.func97 (by kernel_rfl) rfl
set_option maxRecDepth 100000 in
set_option maxHeartbeats 4000000 in
theorem boundsClique (v:Value) (l:List Task) (c p:Int) (w:World) (hl:TasksAt w w.heap.size v l) :
  Calls Tryz.prog 54 #[v,.int .i64 c,.int .i64 p] w (CliquePost l c p w):=by
 have HL:=Lib.hid hl
 obtain ⟨A,cc,rfl,hA1,hA2,-⟩:=hl.open_
 unfold maxLen at hA2
 clear hl
 have hb0:∀ o1 o2 o3,Below w.heap.size w (((w.alloc o1).alloc o2).alloc o3):=fun o1 o2 o3 => (((Below.refl _ _).alloc (Nat.le_refl _) o1).alloc (by simp) o2).alloc (by simp;omega) o3
 have hG:∀ o1 o2 o3,Calls Tryz.prog 92 #[.slice A l.length cc,.int .i64 c,.int .i64 p] (((w.alloc o1).alloc o2).alloc o3) fun e w' => e = .returned (.int .i64 (givenN l c p))∧Below (((w.alloc o1).alloc o2).alloc o3).heap.size (((w.alloc o1).alloc o2).alloc o3) w':=fun o1 o2 o3 =>
  boundsGiven _ l c p _ ((HL.out.below (hb0 o1 o2 o3) (Nat.le_refl _)).mono (by simp;omega))
 have q0:(((w.alloc (.cells #[.slice A l.length cc] 42)).alloc (.cells #[.int .i64 c] 3)).alloc (.cells #[.int .i64 p] 3)).cell? ⟨w.heap.size,0,none⟩=some (.slice A l.length cc):=by
  rw [World.cell?_alloc_lt _ _ _ (by simp;omega),World.cell?_alloc_lt _ _ _ (by simp),World.cell?_alloc_new];rfl
 have q1:(((w.alloc (.cells #[.slice A l.length cc] 42)).alloc (.cells #[.int .i64 c] 3)).alloc (.cells #[.int .i64 p] 3)).cell? ⟨w.heap.size+1,0,none⟩=some (.int .i64 c):=by
  rw [World.cell?_alloc_lt _ _ _ (by simp),show w.heap.size+1=(w.alloc (.cells #[.slice A l.length cc] 42)).heap.size by simp,World.cell?_alloc_new];rfl
 have q2:(((w.alloc (.cells #[.slice A l.length cc] 42)).alloc (.cells #[.int .i64 c] 3)).alloc (.cells #[.int .i64 p] 3)).cell? ⟨w.heap.size+1+1,0,none⟩=some (.int .i64 p):=by
  rw [show w.heap.size+1+1=((w.alloc (.cells #[.slice A l.length cc] 42)).alloc (.cells #[.int .i64 c] 3)).heap.size by simp,World.cell?_alloc_new];rfl
 by_cases hg:givenN l c p=0
 ·rw [hg] at hG
  have Hg:=Lib.hid hg
  clear hg
  obtain ⟨hR,-⟩:=givenN_zero Hg.out
  have h8:=hR.len
  have HRT:=Lib.hid hR
  have hco:∀ w1,Below w.heap.size w w1→Calls Tryz.prog 96 #[.slice A l.length cc] w1 (ComesPost l w1):=fun w1 hb => boundsComes _ l w1 ((HL.out.below hb (Nat.le_refl _)).mono hb.size) h8
  clear hR
  go_enter Tryz.func54,Tryz.ntmps54
  go_wp2_with fail
  go_step3
  have hG':=hG (.cells #[.slice A l.length cc] 42) (.cells #[.int .i64 c] 3) (.cells #[.int .i64 p] 3)
  have hb0':=hb0 (.cells #[.slice A l.length cc] 42) (.cells #[.int .i64 c] 3) (.cells #[.int .i64 p] 3)
  have hsz0:(((w.alloc (.cells #[.slice A l.length cc] 42)).alloc (.cells #[.int .i64 c] 3)).alloc (.cells #[.int .i64 p] 3)).heap.size=w.heap.size+1+1+1:=by simp only [World.size_alloc]
  clear hG hb0
  generalize (((w.alloc (.cells #[.slice A l.length cc] 42)).alloc (.cells #[.int .i64 c] 3)).alloc (.cells #[.int .i64 p] 3))=w0 at *
  have hw1:w.heap.size<w0.heap.size:=by omega
  have hw2:w.heap.size+1<w0.heap.size:=by omega
  have hw3:w.heap.size+1+1<w0.heap.size:=by omega
  go_wp2_with (first
   | (go_at_call 92;refine hG'.mono ?_;rintro e w1 ⟨rfl,hb1⟩;have z1:=(hb1.cell (p:=⟨w.heap.size,0,none⟩) hw1).trans q0;have z2:=(hb1.cell (p:=⟨w.heap.size+1,0,none⟩) hw2).trans q1;have z3:=(hb1.cell (p:=⟨w.heap.size+1+1,0,none⟩) hw3).trans q2)
   | (go_at_call 96;refine (hco _ (hb0'.trans (hb1.mono (by omega)))).mono ?_;rintro e w2 ⟨hb2,M,D,b,rfl,hM,HS⟩))
  go_step3
  have hbb:=hb0'.trans (hb1.mono (by omega))
  have hbc:=hbb.trans (hb2.mono hbb.size)
  have y1:=hb2.cell (p:=⟨w.heap.size,0,none⟩) (by have:=hb1.size;simp only;omega) |>.trans z1
  have y2:=hb2.cell (p:=⟨w.heap.size+1,0,none⟩) (by have:=hb1.size;simp only;omega) |>.trans z2
  have y3:=hb2.cell (p:=⟨w.heap.size+1+1,0,none⟩) (by have:=hb1.size;simp only;omega) |>.trans z3
  have hs1:=hb1.size
  have hs2:=hb2.size
  have hw21:w.heap.size<w2.heap.size:=by omega
  have hw22:w.heap.size+1<w2.heap.size:=by omega
  have hw23:w.heap.size+1+1<w2.heap.size:=by omega
  go_wp2_with fail
  have hpow:=pow_wrap h8
  have hpow2:=pow_small h8
  rw [hpow]
  have HP:=Lib.hid (rfl:2 ^ l.length=2 ^ l.length)
  obtain ⟨N,hNe⟩:∃ N:Nat,N=2 ^ l.length:=⟨_,rfl⟩
  rw [← hNe] at hpow2 ⊢
  have HN:=Lib.hid hNe
  have hx0:=World.cell?_alloc_new w2 #[.slice (some ⟨M,0,none⟩) l.length l.length] 135 0
  have x1:=(World.cell?_alloc_lt w2 (.cells #[.slice (some ⟨M,0,none⟩) l.length l.length] 135) ⟨w.heap.size,0,none⟩ hw21).trans y1
  have x2:=(World.cell?_alloc_lt w2 (.cells #[.slice (some ⟨M,0,none⟩) l.length l.length] 135) ⟨w.heap.size+1,0,none⟩ hw22).trans y2
  have x3:=(World.cell?_alloc_lt w2 (.cells #[.slice (some ⟨M,0,none⟩) l.length l.length] 135) ⟨w.heap.size+1+1,0,none⟩ hw23).trans y3
  have hM3:=hM.alloc (.cells #[.slice (some ⟨M,0,none⟩) l.length l.length] 135)
  have hb3:=hbc.alloc hbc.size (.cells #[.slice (some ⟨M,0,none⟩) l.length l.length] 135)
  generalize w2.alloc (.cells #[.slice (some ⟨M,0,none⟩) l.length l.length] 135)=w3 at *
  generalize w2.heap.size=P at *
  clear hpow hNe q0 q1 q2 z1 z2 z3 y1 y2 y3 hM hbb hbc hG' hco
  have HM:=Lib.hid hM3
  go_loopg [34,12,13] N (fun g s most best wr => ∃ (S bs:Nat) (L:Int),S+g=N∧s = .int .i64 S∧most = .int .i64 L∧best = .int .i64 bs∧bs<N∧L≤80000∧Hid (Heavy l c p S L bs)∧∃ q,wr=w3.drewN q)
  case atStart => exact ⟨0,0,0,by omega,rfl,rfl,rfl,by rw [HN.out];exact Nat.two_pow_pos _,by omega,Heavy.start l c p,0,rfl⟩
  case round =>
   obtain ⟨S,bs,L,hSg,rfl,rfl,rfl,hbs,hL,HH,q,rfl⟩:=hrel
   cases gk with
   | zero =>
    have hSe:S=N:=by omega
    subst hSe
    have hbq:=below_drewN hb3 q
    go_wp2_with fail
    go_loopg [80,18] l.length (fun g s o wr => ∃ i:Nat,i+g=l.length∧s = .int .i64 i∧wr.ownsRow w.heap.size 9 1 o (memb bs i).length ((nmsAt l (memb bs i)).map Value.string)∧Below w.heap.size w wr)
    case atStart => exact ⟨0,by omega,rfl,by simpa [memb,nmsAt] using World.ownsRow_nil _ _ _ _,hbq⟩
    case round =>
     clear hbq
     obtain ⟨i,hig,rfl,hown,hbel⟩:=hrel
     cases gk with
     | zero =>
      have hie:i=l.length:=by omega
      subst hie
      go_wp2_with fail
      try rw [Exit.noGoto_ret]
      refine bodyPost_ret (results_tmp3 rfl _ _ _) (by rfl) ?_
      refine ⟨hbel,.inr ⟨Hg.out,L,bs,_,?_,rfl,hown⟩⟩
      rw [← HN.out]
      exact HH.out
     | succ g2 =>
      have hil:i<l.length:=by omega
      have hili:(i:Int)<(l.length:Int):=by omega
      have HT:=HL.out.below hbel (Nat.le_refl _)
      obtain ⟨b0,off,e0,hb0,hcell⟩:=HT.cells hil
      subst e0
      obtain ⟨t0,t1,t2,t3,t4⟩:=hcell i hil
      clear hcell
      have hsz:=hbel.size
      have hml:(memb bs i).length≤8:=by
       have:=List.length_filter_le (fun i => bs.testBit i) (List.range i)
       rw [List.length_range] at this
       unfold memb
       omega
      have hbx:=hbel.alloc hbel.size (.cells #[.string l[i].name,.int .i64 l[i].len,.int .i64 l[i].crew,.int .i64 l[i].pow,.slice l[i].ba l[i].bef.length l[i].bc] 41)
      cases hb:bs.testBit i with
      | false =>
       have hbz:=bit_no1 hb
       have Hm:Hid (memb bs (i+1)=memb bs i):=by unfold Hid;rw [memb_succ,hb];rfl
       clear hb
       have hownx:=hown.alloc (.cells #[.string l[i].name,.int .i64 l[i].len,.int .i64 l[i].crew,.int .i64 l[i].pow,.slice l[i].ba l[i].bef.length l[i].bc] 41)
       go_wp2_with fail
       go_roundg g2
       case rel => exact ⟨i+1,by omega,by go_num,by rw [Hm.out];exact hownx,hbx⟩
       case measure => omega
      | true =>
       have hbz:=bit_yes1 hb
       have Hm:Hid (memb bs (i+1)=memb bs i ++ [i]):=by unfold Hid;rw [memb_succ,hb];rfl
       clear hb
       have hownx:=hown.alloc (.cells #[.string l[i].name,.int .i64 l[i].len,.int .i64 l[i].crew,.int .i64 l[i].pow,.slice l[i].ba l[i].bef.length l[i].bc] 41)
       go_wp2_with (at_builtin;refine wpList_pushN _ rfl (.tmp 90) (.tmp 93) 39 rfl w.heap.size 9 info_str Tryz.underlying39 rfl _ (memb bs i).length _ rfl hownx (.string l[i].name) rfl (wr.heap.size+1) (by simp) rfl (by unfold maxLen;omega) (by omega) hbx.size ?_;intro g3 cap3 w4 hown3 hgrow3 hbg hgg)
       have hown4:w4.ownsRow w.heap.size 9 1 (.slice (some ⟨g3,0,none⟩) ((memb bs i).length+1) cap3) ((memb bs i).length+1) ((nmsAt l (memb bs (i+1))).map Value.string):=by rw [Hm.out,nmsAt_snoc l _ hil,List.map_append];exact hown3
       have hb4:=hbx.grown hgrow3 hbx.size (fun k hk => (hownx.lt k hk).1)
       go_roundg g2
       case rel => exact ⟨i+1,by omega,by go_num,by rw [Hm.out,List.length_append,← Hm.out];exact hown4,hb4⟩
       case measure => omega
   | succ g =>
    have hSN:(S:Int)<(N:Int):=by omega
    go_wp2_with fail
    obtain ⟨wo,rfl⟩:∃ wo:World,wo=w3.drewN q:=⟨_,rfl⟩
    go_loopg [39,15] l.length (fun g2 s sum wr => ∃ i:Nat,i+g2=l.length∧s = .int .i64 i∧sum = .int .i64 (sumAt l (memb S i))∧Hid (isClique l c p S i)∧∃ q,wr=w3.drewN q)
    case atStart => exact ⟨0,by omega,rfl,rfl,fun i k h => absurd h (Nat.not_lt_zero i),_,rfl⟩
    case round =>
     obtain ⟨i,hig,rfl,rfl,HC,q2,rfl⟩:=hrel
     cases gk with
     | zero =>
      have hie:i=l.length:=by omega
      subst hie
      have hsb:=sumAt_bd HRT.out (memb S l.length)
      have hml:(memb S l.length).length≤8:=by
       have:=List.length_filter_le (fun i => S.testBit i) (List.range l.length)
       rw [List.length_range] at this
       unfold memb
       omega
      by_cases hlt:L<sumAt l (memb S l.length)
      ·have HH':=Lib.hid (HH.out.more (by rw [← HN.out];omega) HC.out hlt)
       go_wp2_with fail
       go_roundg g
       case rel => exact ⟨S+1,S,_,by omega,by go_num,rfl,rfl,by omega,by omega,HH',_,rfl⟩
       case measure => omega
      ·have HH':=Lib.hid (HH.out.less hlt)
       have hltb:decide (L<sumAt l (memb S l.length))=false:=by simpa using hlt
       go_wp2_with fail
       go_roundg g
       case rel => exact ⟨S+1,bs,L,by omega,by go_num,rfl,rfl,hbs,hL,HH',_,rfl⟩
       case measure => omega
     | succ g2 =>
      have hil:i<l.length:=by omega
      cases hb:S.testBit i with
      | false =>
       have hbi:=bit_no0 hb
       have HC':Hid (isClique l c p S (i+1)):=fun x y hx hy hxs hys => by
        rcases (show x<i∨x=i by omega) with h | rfl
        ·exact HC.out x y h hy hxs hys
        ·rw [hb] at hxs;cases hxs
       have Hs:Hid (sumAt l (memb S (i+1))=sumAt l (memb S i)):=by unfold Hid;rw [memb_succ,hb];rfl
       clear hb
       go_wp2_with fail
       go_roundg g2
       case rel => exact ⟨i+1,by omega,by go_num,by rw [Hs.out],HC',_,rfl⟩
       case measure => omega
      | true =>
       have hbi:=bit_yes0 hb
       have HTi:=HL.out.below (below_drewN hb3 q2) (Nat.le_refl _)
       obtain ⟨b0,off,e0,hb0,hcell⟩:=HTi.cells hil
       subst e0
       obtain ⟨-,t1,-,-,-⟩:=hcell i hil
       have hlen:=fieldB_len (HRT.out.field i hil)
       have Hs:Hid (sumAt l (memb S (i+1))=sumAt l (memb S i)+l[i].len):=by unfold Hid;rw [memb_succ,hb,if_pos rfl,sumAt_snoc,lenAt_eq hil]
       have hsb:=sumAt_bd HRT.out (memb S i)
       have hml:(memb S i).length≤8:=by
        have:=List.length_filter_le (fun i => S.testBit i) (List.range i)
        rw [List.length_range] at this
        unfold memb
        omega
       obtain ⟨hl1,hl2⟩:=hlen
       have Hb:=Lib.hid hb
       clear hcell hb
       go_wp2_with fail
       obtain ⟨wi,rfl⟩:∃ wi:World,wi=w3.drewN q2:=⟨_,rfl⟩
       go_loopg [55] i (fun g3 s wr => ∃ k:Nat,k+g3=i∧s = .int .i64 k∧Hid (∀ y,y<k→S.testBit y=true→excl l c p i y)∧∃ q,wr=w3.drewN q)
       case atStart => exact ⟨0,by omega,rfl,fun y hy => absurd hy (Nat.not_lt_zero y),_,rfl⟩
       case round =>
        obtain ⟨k,hkg,rfl,HE,q3,rfl⟩:=hrel
        cases gk with
        | zero =>
         have hke:k=i:=by omega
         subst hke
         have HC':Hid (isClique l c p S (k+1)):=fun x y hx hy hxs hys => by
          rcases (show x<k∨x=k by omega) with h | rfl
          ·exact HC.out x y h hy hxs hys
          ·exact HE.out y hy hys
         go_wp2_with fail
         go_roundg g2
         case rel => exact ⟨k+1,by omega,by go_num,by rw [Hs.out],HC',_,rfl⟩
         case measure => omega
        | succ g3 =>
         have hki:(k:Int)<(i:Int):=by omega
         have hkl:k<l.length:=by omega
         cases hbk:S.testBit k with
         | false =>
          have hbz:=bit_no1 hbk
          have HE':Hid (∀ y,y<k+1→S.testBit y=true→excl l c p i y):=fun y hy hys => by
           rcases (show y<k∨y=k by omega) with h | rfl
           ·exact HE.out y h hys
           ·rw [hbk] at hys;cases hys
          clear hbk
          go_wp2_with fail
          go_roundg g3
          case rel => exact ⟨k+1,by omega,by go_num,HE',_,rfl⟩
          case measure => omega
         | true =>
          have hbz:=bit_yes1 hbk
          have Hbk:=Lib.hid hbk
          clear hbk
          have hcl:=cliqueClosure _ l c p P w.heap.size (w.heap.size+1) (w.heap.size+1+1) w.heap.size _ M D b i k (w3.drewN q3) HRT.out ⟨by simpa using hx0,x1,x2,x3⟩ (HL.out.below (below_drewN hb3 q3) (Nat.le_refl _)) (HM.out.drewN q3) hil hkl
          have eg:=enters76
          cases hex:exclT b l[i] l[k] c p i k with
          | true =>
           rw [hex] at hcl
           have HE':Hid (∀ y,y<k+1→S.testBit y=true→excl l c p i y):=fun y hy hys => by
            rcases (show y<k∨y=k by omega) with h | rfl
            ·exact HE.out y h hys
            ·exact (exclT_iff HS hil hkl).1 hex
           clear hex
           go_wp2_with (go_at_fn 97;refine hcl.mono ?_;rintro e w9 ⟨rfl,q9,rfl⟩)
           go_roundg g3
           case rel => exact ⟨k+1,by omega,by go_num,HE',_,rfl⟩
           case measure => omega
          | false =>
           rw [hex] at hcl
           have HH':=Lib.hid (HH.out.no (fun hc => by
            have:=(exclT_iff HS hil hkl).2 (hc i k hil (by omega) Hb.out Hbk.out)
            rw [hex] at this
            cases this))
           clear hex
           go_wp2_with (go_at_fn 97;refine hcl.mono ?_;rintro e w9 ⟨rfl,q9,rfl⟩)
           go_roundg g
           case rel => exact ⟨S+1,bs,L,by omega,by go_num,rfl,rfl,hbs,hL,HH',_,rfl⟩
           case measure => omega
 ·have Hg:=Lib.hid hg
  generalize hx:givenN l c p=x at *
  have hxb:(x == 0)=false:=by simpa using Hg.out
  have Hx:=Lib.hid hx
  clear hg hx
  go_enter Tryz.func54,Tryz.ntmps54
  go_wp2_with fail
  go_step3
  have hG':=hG (.cells #[.slice A l.length cc] 42) (.cells #[.int .i64 c] 3) (.cells #[.int .i64 p] 3)
  have hb0':=hb0 (.cells #[.slice A l.length cc] 42) (.cells #[.int .i64 c] 3) (.cells #[.int .i64 p] 3)
  clear hG hb0
  generalize (((w.alloc (.cells #[.slice A l.length cc] 42)).alloc (.cells #[.int .i64 c] 3)).alloc (.cells #[.int .i64 p] 3))=w0 at *
  go_wp2_with (go_at_call 92;refine hG'.mono ?_;rintro e w1 ⟨rfl,hb1⟩)
  try rw [Exit.noGoto_ret]
  refine bodyPost_ret (results_tmp3 rfl _ _ _) (by rfl) ?_
  refine ⟨hb0'.trans (hb1.mono hb0'.size),.inl ⟨by rw [Hx.out];exact Hg.out,?_⟩⟩
  rw [Hx.out]
  rfl
def max3 (a b c:Int):Int:=if (if a<b then b else a)<c then c else (if a<b then b else a)
def BestPost (l:List Task) (c p:Int) (w:World) (e:Ending) (w':World):Prop :=
 Below w.heap.size w w'∧(givenN l c p≠0∧e = .returned (.tuple #[.int .i64 0,.int .i64 (givenN l c p)]) ∨
  givenN l c p=0∧∃ (L K:Int) (y:List Nat) (s:Nat),Covers l [l.length] L y∧Heavy l c p (2 ^ l.length) K s∧e = .returned (.tuple #[.int .i64 (max3 (workN l c p) L K),.int .i64 0]))
set_option maxRecDepth 100000 in
set_option maxHeartbeats 4000000 in
theorem boundsBest (v:Value) (l:List Task) (c p:Int) (w:World) (hl:TasksAt w w.heap.size v l) :
  Calls Tryz.prog 23 #[v,.int .i64 c,.int .i64 p] w (BestPost l c p w):=by
 have hW:=boundsWork v l c p w hl
 have HP:∀ w1,Below w.heap.size w w1→Calls Tryz.prog 53 #[v] w1 (PathPost l w1):=fun w1 hb => boundsPath v l w1 ((hl.below hb (Nat.le_refl _)).mono hb.size)
 have HC:∀ w1,Below w.heap.size w w1→Calls Tryz.prog 54 #[v,.int .i64 c,.int .i64 p] w1 (CliquePost l c p w1):=fun w1 hb => boundsClique v l c p w1 ((hl.below hb (Nat.le_refl _)).mono hb.size)
 clear hl
 by_cases hg:givenN l c p=0
 ·have hRT:=(givenN_zero hg).1
  have hr:=(right_iff l).2 hRT
  unfold WorkPost at hW
  rw [hg,if_pos rfl] at hW
  have Hg:=Lib.hid hg
  have HP':∀ w1,Below w.heap.size w w1→Calls Tryz.prog 53 #[v] w1 fun e w2 => ∃ L y v2,e = .returned (.tuple #[.int .i64 L,v2,.int .i64 0])∧Hid (Covers l [l.length] L y)∧Below w.heap.size w w2:=fun w1 hb => (HP w1 hb).mono fun e w2 h => by
   obtain ⟨hb2,⟨hno,_⟩ | ⟨_,L,y,v2,hc,rfl,_⟩⟩:=h
   ·rw [hr] at hno;cases hno
   ·exact ⟨L,y,v2,rfl,hc,hb.trans (hb2.mono hb.size)⟩
  have HC':∀ w1,Below w.heap.size w w1→Calls Tryz.prog 54 #[v,.int .i64 c,.int .i64 p] w1 fun e w2 => ∃ K s v2,e = .returned (.tuple #[.int .i64 K,v2,.int .i64 0])∧Hid (Heavy l c p (2 ^ l.length) K s)∧Below w.heap.size w w2:=fun w1 hb => (HC w1 hb).mono fun e w2 h => by
   obtain ⟨hb2,⟨hno,_⟩ | ⟨_,L,s,v2,hc,rfl,_⟩⟩:=h
   ·exact absurd Hg.out hno
   ·exact ⟨L,s,v2,rfl,hc,hb.trans (hb2.mono hb.size)⟩
  clear hg hRT hr HP HC
  go_enter Tryz.func23,Tryz.ntmps23
  go_wp2_with (first
   | (go_at_call 52;refine hW.mono ?_;rintro e w1 ⟨rfl,hb1⟩)
   | (go_at_call 53;refine (HP' _ hb1).mono ?_;rintro e w2 ⟨L,y,v2,rfl,hc,hb2⟩)
   | (go_at_call 54;refine (HC' _ hb2).mono ?_;rintro e w3 ⟨K,s,v3,rfl,hh,hb3⟩))
  all_goals
   have HX:∀ x,x=max3 (workN l c p) L K→Ending.returned (.tuple #[.int .i64 x,.int .i64 0]) = .returned (.tuple #[.int .i64 (max3 (workN l c p) L K),.int .i64 0]):=fun x e => by rw [e]
   refine bodyPost_ret (results_tmp2 rfl _ _ _) (by rfl) ?_
   refine ⟨hb3,.inr ⟨Hg.out,L,K,y,s,hc,hh,HX _ ?_⟩⟩
   unfold max3
   repeat' split
   all_goals omega
 ·unfold WorkPost at hW
  rw [if_neg hg] at hW
  have Hg:=Lib.hid hg
  generalize hx:givenN l c p=x at *
  have hxb:(x == 0)=false:=by simpa using Hg.out
  have Hx:=Lib.hid hx
  clear hg hx HP HC
  go_enter Tryz.func23,Tryz.ntmps23
  go_wp2_with (go_at_call 52;refine hW.mono ?_;rintro e w1 ⟨rfl,hb1⟩)
  refine bodyPost_ret (results_tmp2 rfl _ _ _) (by rfl) ?_
  exact ⟨hb1,.inl ⟨by rw [Hx.out];exact Hg.out,by rw [Hx.out];rfl⟩⟩
end Go.Proofs.YtfhmbechennkbaaGreat
