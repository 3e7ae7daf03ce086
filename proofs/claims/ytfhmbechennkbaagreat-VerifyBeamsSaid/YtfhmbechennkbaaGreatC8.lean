/- Parts of the proof, laid into one text: VerS, Ex51, Awake51, LawBeams. -/
import Derived.Test.YtfhmbechennkbaaGreatG11
import Derived.Test.YtfhmbechennkbaaGreatG6
import Derived.Test.YtfhmbechennkbaaGreatR11
namespace Go.Proofs.YtfhmbechennkbaaGreat
open Go.RowKit Go.Shelf
noncomputable def schedIs (l:List Task) (c p:Int) (s:List Int) (n:Int):Bool:=(startsN l s == 0) && (checkB l c p s && ((lenTo l s l.length == n) && (bestN l c p == n)))
theorem given_validS {l:List Task} {c p:Int} (h:givenN l c p=0):validB l c p=true:=by
 unfold givenN at h
 cases hv:validB l c p with
 | false => rw [hv] at h;simp at h
 | true => rfl
def CovX (l:List Task) (c p:Int):Prop:=(∃ L y,Covers l [l.length] L y)∧∃ K z,Heavy l c p (2 ^ l.length) K z
theorem bestYesC (v:Value) (l:List Task) (c p:Int) (w:World) (hl:TasksAt w w.heap.size v l) (hg:givenN l c p=0) :
  Calls Tryz.prog 23 #[v,.int .i64 c,.int .i64 p] w fun e w' => e = .returned (.tuple #[.int .i64 (bestN l c p),.int .i64 0])∧CovX l c p∧Below w.heap.size w w' :=
 (boundsBest v l c p w hl).mono fun e w' h => by
  obtain ⟨hb,⟨hno,rfl⟩ | ⟨hz,L,K,y,s,hc,hh,rfl⟩⟩:=h
  ·exact absurd hg hno
  ·unfold bestN
   rw [pathN_eq hc,cliqueN_eq hh]
   exact ⟨rfl,⟨⟨L,y,hc⟩,⟨K,s,hh⟩⟩,hb⟩
set_option maxRecDepth 100000 in
set_option maxHeartbeats 4000000 in
theorem vrScheduleC (v u:Value) (l:List Task) (c p:Int) (s:List Int) (n:Int) (w:World) (hl:TasksAt w w.heap.size v l) (hs:IntsAt w w.heap.size u s) (hw:Wide s) :
  Calls Tryz.prog 10 #[v,.int .i64 c,.int .i64 p,u,.int .i64 n] w fun e w' => e = .returned (.tuple #[.bool ((givenN l c p == 0) && schedIs l c p s n),.int .i64 (givenN l c p)])∧(givenN l c p=0→CovX l c p)∧Below w.heap.size w w':=by
 have HT:Hid (∀ w1,Below w.heap.size w w1→TasksAt w1 w1.heap.size v l):=fun w1 hb => (hl.below hb (Nat.le_refl _)).mono hb.size
 have HS:Hid (∀ w1,Below w.heap.size w w1→IntsAt w1 w1.heap.size u s):=fun w1 hb => (hs.below hb (Nat.le_refl _)).mono hb.size
 by_cases hg:givenN l c p=0
 rotate_left
 ·have hB:=bestNo v l c p w hl hg
  have e1:(givenN l c p == 0)=false:=beq_eq_false_iff_ne.2 hg
  have e2:(givenN l c p != 0)=true:=bne_iff_ne.2 hg
  rw [e1,Bool.false_and]
  clear hl hs hg
  generalize givenN l c p=g at *
  go_enter Tryz.func10,Tryz.ntmps10
  go_wp2_with (go_at_call 23;refine hB.mono ?_;rintro e w1 ⟨rfl,hb1⟩)
  go_ret2
  exact ⟨rfl,(fun h => by rw [h] at e2;cases e2),hb1⟩
 have hB:=bestYesC v l c p w hl hg
 have hce:checkE l c p s=startsN l s:=checkE_yes (given_validS hg)
 have hr:rightR l=true:=(right_iff l).2 (givenN_zero hg).1
 have HCk:Hid (∀ w1,Below w.heap.size w w1→Calls Tryz.prog 24 #[v,.int .i64 c,.int .i64 p,u] w1 (CheckPost l c p s w1)):=fun w1 hb => schedCheck v _ l c p s w1 (HT.out w1 hb) (HS.out w1 hb) hw
 have HLn:Hid (∀ w1,Below w.heap.size w w1→Calls Tryz.prog 25 #[v,u] w1 (LengthPost l s w1)):=fun w1 hb => schedLength v _ l s w1 (HT.out w1 hb) (HS.out w1 hb) hw
 unfold CheckPost at HCk
 unfold LengthPost at HLn
 rw [hce] at HCk
 rw [hg]
 clear hl hs hg hce
 by_cases hst:startsN l s=0
 rotate_left
 ·have e1:(startsN l s == 0)=false:=beq_eq_false_iff_ne.2 hst
  have e2:(startsN l s != 0)=true:=bne_iff_ne.2 hst
  have HV:Hid (schedIs l c p s n=false):=by unfold Hid schedIs;rw [e1];rfl
  rw [decide_eq_false hst,Bool.false_and] at HCk
  clear hst
  generalize startsN l s=st at *
  generalize bestN l c p=bn at *
  go_enter Tryz.func10,Tryz.ntmps10
  go_wp2_with (first | (go_at_call 23;refine hB.mono ?_;rintro e w1 ⟨rfl,hcx,hb1⟩) | (go_at_call 24;refine (HCk.out _ hb1).mono ?_;rintro e w2 ⟨hb2,rfl⟩))
  go_ret2
  exact ⟨by rw [HV.out];rfl,fun _ => hcx,hb1.trans (hb2.mono hb1.size)⟩
 rw [hst] at HCk HLn
 have Hst:=Lib.hid hst
 rw [show decide ((0:Int)=0)=true from rfl] at HCk
 simp only [Bool.true_and] at HCk
 clear hst
 rcases Bool.eq_false_or_eq_true (checkB l c p s) with hk | hk
 rotate_left
 ·have HV:Hid (schedIs l c p s n=false):=by unfold Hid schedIs;rw [hk,Bool.false_and,Bool.and_false]
  rw [hk] at HCk
  clear hk
  generalize bestN l c p=bn at *
  go_enter Tryz.func10,Tryz.ntmps10
  go_wp2_with (first | (go_at_call 23;refine hB.mono ?_;rintro e w1 ⟨rfl,hcx,hb1⟩) | (go_at_call 24;refine (HCk.out _ hb1).mono ?_;rintro e w2 ⟨hb2,rfl⟩))
  go_ret2
  exact ⟨by rw [HV.out];rfl,fun _ => hcx,hb1.trans (hb2.mono hb1.size)⟩
 have HLn':Hid (∀ w1,Below w.heap.size w w1→Calls Tryz.prog 25 #[v,u] w1 fun e w' => e = .returned (.tuple #[.int .i64 (lenTo l s l.length),.int .i64 0])∧Below w1.heap.size w1 w'):=fun w1 hb => (HLn.out w1 hb).mono fun e w' h => by
  obtain ⟨hb',⟨hno,-⟩ | ⟨-,rfl⟩⟩:=h
  ·rw [hr] at hno;cases hno
  ·exact ⟨rfl,hb'⟩
 rw [hk] at HCk
 have HV:Hid (schedIs l c p s n=((lenTo l s l.length == n) && (bestN l c p == n))):=by unfold Hid schedIs;rw [hk,Hst.out];rfl
 clear hk HLn hr
 rcases Bool.eq_false_or_eq_true (lenTo l s l.length == n) with hn | hn
 all_goals
  rw [hn] at HV
  generalize lenTo l s l.length=ln at *
  generalize bestN l c p=bn at *
  go_enter Tryz.func10,Tryz.ntmps10
  go_wp2_with (first | (go_at_call 23;refine hB.mono ?_;rintro e w1 ⟨rfl,hcx,hb1⟩) | (go_at_call 24;refine (HCk.out _ hb1).mono ?_;rintro e w2 ⟨hb2,rfl⟩;have hb3:=hb1.trans (hb2.mono hb1.size)) | (go_at_call 25;refine (HLn'.out _ hb3).mono ?_;rintro e w4 ⟨rfl,hb4⟩))
  go_ret2
  exact ⟨by rw [HV.out];rfl,fun _ => hcx,hb3.trans (hb4.mono hb3.size)⟩
theorem vrSchedule (v u:Value) (l:List Task) (c p:Int) (s:List Int) (n:Int) (w:World) (hl:TasksAt w w.heap.size v l) (hs:IntsAt w w.heap.size u s) (hw:Wide s) :
  Calls Tryz.prog 10 #[v,.int .i64 c,.int .i64 p,u,.int .i64 n] w fun e w' => e = .returned (.tuple #[.bool ((givenN l c p == 0) && schedIs l c p s n),.int .i64 (givenN l c p)])∧Below w.heap.size w w' :=
 (vrScheduleC v u l c p s n w hl hs hw).mono fun _ _ h => ⟨h.1,h.2.2⟩
end Go.Proofs.YtfhmbechennkbaaGreat
namespace Go.Proofs.YtfhmbechennkbaaGreat
def exT51:Task:=⟨⟨#[116]⟩,7,0,0,none,0,[]⟩
def ex51:List Task:=[exT51]
theorem e51_edge {i j:Nat}:¬ edge ex51 i j:=by
 rintro ⟨hi,hj,h⟩
 have hi':i<1:=hi
 have hj':j<1:=hj
 obtain rfl:i=0:=by omega
 obtain rfl:j=0:=by omega
 revert h
 simp [ex51,exT51]
theorem e51_chain {z:List Nat} (h:Chain ex51 z):z=[]∨z=[0]:=by
 match z,h with
 | [],_ => exact .inl rfl
 | [i],h =>
  have:i<1:=h.1 i (by simp)
  obtain rfl:i=0:=by omega
  exact .inr rfl
 | i :: j :: t,h => exact absurd (Chain.cons_iff.1 h).1 e51_edge
theorem e51_covers:Covers ex51 [1] 7 [0]:=by
 have s0:lenAt ex51 0=7:=rfl
 refine ⟨Chain.one (show 0<1 by omega),.inl (by omega),by simp [sumAt,s0],fun z hz _ => ?_,fun z hz _ hs => ?_⟩
 ·rcases e51_chain hz with rfl | rfl
  ·simp [sumAt]
  ·simp [sumAt,s0]
 ·rcases e51_chain hz with rfl | rfl
  ·simp [sumAt] at hs
  ·exact .inl rfl
theorem e51_work:workN ex51 1 1=0:=by
 simp [workN,stepN,needN,ex51,exT51]
theorem e51_heavy:Heavy ex51 1 1 (2 ^ 1) 7 1:=by
 have s0:lenAt ex51 0=7:=rfl
 refine ⟨fun i k hi hk hi' hk' => ?_,show 1<2 ^ 1 by decide,by simp [sumAt,memb,ex51,List.range_succ,Nat.testBit,lenAt,lens,exT51],fun z hz hc => ?_,fun z hz h1 hc => ?_,.inr (by decide)⟩
 ·have hi3:i<1:=hi
  omega
 ·have hz':z<2:=hz
  rcases (show z=0∨z=1 by omega) with rfl | rfl <;> simp [sumAt,memb,ex51,List.range_succ,Nat.testBit,lenAt,lens,exT51]
 ·obtain rfl:z=0:=by omega
  simp [sumAt,memb,ex51,List.range_succ,Nat.testBit,exT51]
theorem e51_right:RightT ex51:=by
 have hn:nameB ⟨#[116]⟩=true:=by decide
 refine { len:=show 1≤8 by omega,field:=fun i hi => ?_,dist:=by decide,bef:=(befOK_iff _).2 fun t ht => ?_,acyc:=⟨id,fun k hk j hj => ?_⟩ }
 ·have hi':i<1:=hi
  obtain rfl:i=0:=by omega
  simp [fieldB,ex51,exT51,hn,betweenB]
 ·simp only [ex51,List.mem_cons,List.not_mem_nil,or_false] at ht
  subst ht
  exact Good.nil _ _
 ·rw [getD_rows hk] at hj
  unfold pls at hj
  rw [List.mem_map] at hj
  obtain ⟨s,hs,rfl⟩:=hj
  have hk':k<1:=hk
  obtain rfl:k=0:=by omega
  simp [ex51,exT51] at hs
theorem e51_given:givenN ex51 1 1=0:=by
 have h:=(right_iff _).2 e51_right
 unfold givenN validB
 rw [h]
 simp [betweenB,tooMuch,ex51,exT51]
theorem e51_best:bestN ex51 1 1=7:=by
 unfold bestN
 rw [e51_work,pathN_eq (l:=ex51) e51_covers,cliqueN_eq (l:=ex51) e51_heavy]
 rfl
end Go.Proofs.YtfhmbechennkbaaGreat
namespace Go.Proofs.YtfhmbechennkbaaGreat
open Go.RowKit Go.Shelf
def b51:BeamT:=⟨⟨#[98]⟩,1000,[0,1000],[⟨500,10⟩],0⟩
def r51:List FrT:=[⟨5,1⟩,⟨5,1⟩]
def m51:List FrT:=[⟨0,1⟩,⟨0,1⟩]
theorem b51_arg:beamArg b51 r51 m51=true:=by decide +kernel
theorem b51_is:beamIs b51 r51 m51=true:=by decide +kernel
set_option maxHeartbeats 1000000 in
theorem lawWhole (n:Int) (w:World):Calls Tryz.prog 9 #[.int .i64 n] w fun e w' => e = .returned (.agg #[.int .i64 n,.int .i64 1])∧Below w.heap.size w w':=by
 go_enter Tryz.func9,Tryz.ntmps9
 go_wp2_with fail
 refine bodyPost_ret (v:=.agg #[.int .i64 n,.int .i64 1]) (by simp [results,Tryz.results9,go_sem]) rfl ?_
 exact ⟨rfl,(Below.refl _ _).alloc (Nat.le_refl _) _⟩
def gC (v0:Value):GPost:=⟨fun v => v=v0,fun _ _ => True,⟨_,rfl⟩,fun _ _ _ _ _ => trivial,false⟩
def gF (l:List FrT):GPost:=⟨fun v => ∃ g,v = .slice (some ⟨g,0,none⟩) l.length l.length,fun v w => FrsAt w w.heap.size v l,⟨_,0,rfl⟩,fun _ _ _ hb h => (FrsAt.below h hb (Nat.le_refl _)).mono hb.size,false⟩
theorem frs_new (w:World) (T:TypeId) (l:List FrT) (hl:l.length≤100):FrsAt (w.alloc (.cells (l.flatMap FrT.cells).toArray T)) (w.alloc (.cells (l.flatMap FrT.cells).toArray T)).heap.size (.slice (some ⟨w.heap.size,0,none⟩) l.length l.length) l:=by
 refine ⟨some ⟨w.heap.size,0,none⟩,l.length,rfl,Nat.le_refl _,by unfold maxLen;omega,fun _ => ⟨w.heap.size,0,rfl,by simp,fun j u hu => ?_⟩⟩
 rw [Nat.zero_add,(Blk.new w T _).cell]
 simpa using hu
theorem gF_new {P:Program} {o:Oper} {a:Act} {w:World} {T:TypeId} {l:List FrT} (hl:l.length≤100) (h:(execOp a.eval o).run P w = .ok (.value (.slice (some ⟨w.heap.size,0,none⟩) l.length l.length)) (w.alloc (.cells (l.flatMap FrT.cells).toArray T))):newAt P o a (gF l) w :=
 ⟨_,_,h,(Below.refl _ _).alloc (Nat.le_refl _) _,⟨_,rfl⟩,frs_new w T l hl,fun h => by cases h⟩
theorem whole_g (n:Int) (w:World):Calls Tryz.prog 9 #[.int .i64 n] w fun e w' => ∃ v,e = .returned v∧Below w.heap.size w w'∧(gC (.agg #[.int .i64 n,.int .i64 1])).σ v∧(gC (.agg #[.int .i64 n,.int .i64 1])).φ v w' :=
 (lawWhole n w).mono fun _ _ ⟨he,hb⟩ => ⟨_,he,hb,rfl,trivial⟩
theorem loads_new (w:World) (T:TypeId) (l:List LoadT) (hl:l.length≤100):LoadsAt (w.alloc (.cells (l.flatMap LoadT.cells).toArray T)) (w.alloc (.cells (l.flatMap LoadT.cells).toArray T)).heap.size (.slice (some ⟨w.heap.size,0,none⟩) l.length l.length) l:=by
 refine ⟨some ⟨w.heap.size,0,none⟩,l.length,rfl,Nat.le_refl _,by unfold maxLen;omega,fun _ => ⟨w.heap.size,0,rfl,by simp,fun j u hu => ?_⟩⟩
 rw [Nat.zero_add,(Blk.new w T _).cell]
 simpa using hu
theorem task51_new (w:World):TasksAt (w.alloc (.cells #[.string ⟨#[116]⟩,.int .i64 7,.int .i64 0,.int .i64 0,.slice none 0 0] 41)) (w.alloc (.cells #[.string ⟨#[116]⟩,.int .i64 7,.int .i64 0,.int .i64 0,.slice none 0 0] 41)).heap.size (.slice (some ⟨w.heap.size,0,none⟩) 1 1) ex51:=by
 refine ⟨⟨some ⟨w.heap.size,0,none⟩,1,rfl,Nat.le_refl _,by unfold maxLen;omega,fun _ => ⟨w.heap.size,0,rfl,by simp,fun j u hu => ?_⟩⟩,fun t ht => ?_,fun t ht => ?_⟩
 ·rw [Nat.zero_add,(Blk.new w _ _).cell]
  rw [List.getElem?_toArray]
  exact hu
 ·simp only [ex51,List.mem_cons,List.not_mem_nil,or_false] at ht
  subst ht
  exact ⟨none,0,rfl,Nat.le_refl _,Nat.zero_le _,fun h => absurd h (by simp [exT51])⟩
 ·simp only [ex51,List.mem_cons,List.not_mem_nil,or_false] at ht
  subst ht
  exact ⟨by decide,by simp [exT51],by simp only [exT51];omega,by simp only [exT51];omega,by simp only [exT51];omega⟩
theorem is51_yes:schedIs ex51 1 1 [0] 7=true:=by
 unfold schedIs
 rw [e51_best]
 decide +kernel
theorem is51_no:schedIs ex51 1 1 [1] 8=false:=by
 unfold schedIs
 rw [e51_best,show ((7:Int) == 8)=false from rfl,Bool.and_false,Bool.and_false,Bool.and_false]
theorem wide1 (x:Int) (h:x=0∨x=1):Wide [x]:=fun y hy => by
 rw [List.mem_singleton] at hy
 subst hy
 omega
theorem beam51_g (v v1 v2:Value) (w:World) (hv:BeamAt w w.heap.size v b51) (h1:FrsAt w w.heap.size v1 r51) (h2:FrsAt w w.heap.size v2 m51) :
  Calls Tryz.prog 5 #[v,v1,v2] w fun e w' => ∃ u,e = .returned u∧Below w.heap.size w w'∧(gC (.tuple #[.bool true,.int .i64 0])).σ u∧(gC (.tuple #[.bool true,.int .i64 0])).φ u w' :=
 (vrBeam v v1 v2 b51 r51 m51 w hv (by decide) h1 h2).mono fun e w' ⟨hb,h⟩ => by
  rcases h with ⟨h,-⟩ | ⟨-,rfl⟩
  ·rw [b51_arg] at h;cases h
  ·rw [b51_is];exact ⟨_,rfl,hb,rfl,trivial⟩
theorem sched51 (v u:Value) (x n:Int) (r:Bool) (w:World) (hx:x=0∨x=1) (hr:schedIs ex51 1 1 [x] n=r) (hv:TasksAt w w.heap.size v ex51) (hu:IntsAt w w.heap.size u [x]) :
  Calls Tryz.prog 10 #[v,.int .i64 1,.int .i64 1,u,.int .i64 n] w fun e w' => e = .returned (.tuple #[.bool r,.int .i64 0])∧Below w.heap.size w w':=by
 have h:=vrSchedule v u ex51 1 1 [x] n w hv hu (wide1 x hx)
 rw [e51_given,hr] at h
 exact h
set_option maxRecDepth 100000 in
set_option maxHeartbeats 4000000 in
theorem lawAwake51 (w:World):Calls Tryz.prog 4 #[] w fun e w' => e = .returned (.bool true)∧Below w.heap.size w w':=by
 have hb1:Below w.heap.size w (w.alloc (.cells #[.int .i64 0,.int .i64 1000] 3)):=(Below.refl _ _).alloc (Nat.le_refl _) _
 have hb2:Below (w.alloc (.cells #[.int .i64 0,.int .i64 1000] 3)).heap.size (w.alloc (.cells #[.int .i64 0,.int .i64 1000] 3)) ((w.alloc (.cells #[.int .i64 0,.int .i64 1000] 3)).alloc (.cells #[.int .i64 500,.int .i64 10] 35)):=(Below.refl _ _).alloc (Nat.le_refl _) _
 have hb3:Below ((w.alloc (.cells #[.int .i64 0,.int .i64 1000] 3)).alloc (.cells #[.int .i64 500,.int .i64 10] 35)).heap.size ((w.alloc (.cells #[.int .i64 0,.int .i64 1000] 3)).alloc (.cells #[.int .i64 500,.int .i64 10] 35)) (((w.alloc (.cells #[.int .i64 0,.int .i64 1000] 3)).alloc (.cells #[.int .i64 500,.int .i64 10] 35)).alloc (.cells #[.string ⟨#[98]⟩,.int .i64 1000,.slice (some ⟨w.heap.size,0,none⟩) 2 2,.slice (some ⟨w.heap.size+1,0,none⟩) 1 1,.int .i64 0] 25)):=(Below.refl _ _).alloc (Nat.le_refl _) _
 have HV:Hid (BeamAt (((w.alloc (.cells #[.int .i64 0,.int .i64 1000] 3)).alloc (.cells #[.int .i64 500,.int .i64 10] 35)).alloc (.cells #[.string ⟨#[98]⟩,.int .i64 1000,.slice (some ⟨w.heap.size,0,none⟩) 2 2,.slice (some ⟨w.heap.size+1,0,none⟩) 1 1,.int .i64 0] 25)) (((w.alloc (.cells #[.int .i64 0,.int .i64 1000] 3)).alloc (.cells #[.int .i64 500,.int .i64 10] 35)).alloc (.cells #[.string ⟨#[98]⟩,.int .i64 1000,.slice (some ⟨w.heap.size,0,none⟩) 2 2,.slice (some ⟨w.heap.size+1,0,none⟩) 1 1,.int .i64 0] 25)).heap.size (.agg #[.string ⟨#[98]⟩,.int .i64 1000,.slice (some ⟨w.heap.size,0,none⟩) 2 2,.slice (some ⟨w.heap.size+1,0,none⟩) 1 1,.int .i64 0]) b51):=by
  have hI:=ints_new w 3 [0,1000] (by decide)
  have hL:=loads_new (w.alloc (.cells #[.int .i64 0,.int .i64 1000] 3)) 35 [⟨500,10⟩] (by decide)
  rw [show (w.alloc (.cells #[.int .i64 0,.int .i64 1000] 3)).heap.size=w.heap.size+1 by simp] at hL
  have hI':=((RowAt.below hI hb2 (Nat.le_refl _)).mono hb2.size)
  exact ⟨_,_,_,_,rfl,((RowAt.below hI' hb3 (Nat.le_refl _)).mono hb3.size),(hL.below hb3 (Nat.le_refl _)).mono hb3.size⟩
 have HB:=Lib.hid ((hb1.trans (hb2.mono hb1.size)).trans (hb3.mono (hb1.trans (hb2.mono hb1.size)).size))
 have HD:=Lib.hid (Blk.new ((w.alloc (.cells #[.int .i64 0,.int .i64 1000] 3)).alloc (.cells #[.int .i64 500,.int .i64 10] 35)) 25 #[.string ⟨#[98]⟩,.int .i64 1000,.slice (some ⟨w.heap.size,0,none⟩) 2 2,.slice (some ⟨w.heap.size+1,0,none⟩) 1 1,.int .i64 0])
 have hsz:((w.alloc (.cells #[.int .i64 0,.int .i64 1000] 3)).alloc (.cells #[.int .i64 500,.int .i64 10] 35)).heap.size=w.heap.size+1+1:=by simp
 rw [hsz] at HD
 clear hb1 hb2 hb3 hsz
 go_enter Tryz.func4,Tryz.ntmps4
 go_wp2_with fail
 generalize (((w.alloc (.cells #[.int .i64 0,.int .i64 1000] 3)).alloc (.cells #[.int .i64 500,.int .i64 10] 35)).alloc (.cells #[.string ⟨#[98]⟩,.int .i64 1000,.slice (some ⟨w.heap.size,0,none⟩) 2 2,.slice (some ⟨w.heap.size+1,0,none⟩) 1 1,.int .i64 0] 25))=W3 at *
 have y0:=HD.out.cell 0
 have y1:=HD.out.cell 1
 have y2:=HD.out.cell 2
 have y3:=HD.out.cell 3
 have y4:=HD.out.cell 4
 simp only [zq1,zq2,zq3] at y0 y1 y2 y3 y4
 have u0:=HeldB.cell y0
 have u1:=HeldB.cell y1
 have u2:=HeldB.cell y2
 have u3:=HeldB.cell y3
 have u4:=HeldB.cell y4
 clear y0 y1 y2 y3 y4
 refine wp_region_grow 12 (fun jx => if jx=1 then some (gC (.agg #[.int .i64 5,.int .i64 1])) else if jx=2 then some (gC (.agg #[.int .i64 5,.int .i64 1])) else if jx=3 then some (gF r51) else if jx=4 then some (gC (.agg #[.int .i64 0,.int .i64 1])) else if jx=5 then some (gC (.agg #[.int .i64 0,.int .i64 1])) else if jx=6 then some (gF m51) else if jx=7 then some (gC (.tuple #[.bool true,.int .i64 0])) else none) (by kernel_rfl) (by kernel_rfl) ?_
 simp only [List.take_succ_cons,List.take_zero,List.drop_succ_cons,List.drop_zero]
 refine wpG_quiet 1 (by kernel_rfl) (by rfl) (by decide) ?_
 simp only [List.take_succ_cons,List.take_zero,List.drop_succ_cons,List.drop_zero]
 repeat (go_big_quiet_step (fail))
 refine wpQuiet_nil ?_
 refine wpG_call rfl rfl ?_ ?_
 ·intro w1 hb1 hk
  have hC:=whole_g 5 w1
  exact ⟨9,#[.int .i64 5],by go_simp,hC⟩
 rintro _ rfl
 simp only [Act.put,List.setIfInBounds_toArray,List.set_cons_zero,List.set_cons_succ]
 refine wpG_call rfl rfl ?_ ?_
 ·intro w1 hb1 hk
  have hC:=whole_g 5 w1
  exact ⟨9,#[.int .i64 5],by go_simp,hC⟩
 rintro _ rfl
 simp only [Act.put,List.setIfInBounds_toArray,List.set_cons_zero,List.set_cons_succ]
 refine wpG_new rfl rfl (fun w1 hb1 _ => gF_new (T:=37) (l:=r51) (by decide) (by go_simp;exact ⟨rfl,rfl⟩)) ?_
 rintro _ ⟨g17,rfl⟩
 simp only [Act.put,List.setIfInBounds_toArray,List.set_cons_zero,List.set_cons_succ]
 refine wpG_call rfl rfl ?_ ?_
 ·intro w1 hb1 hk
  have hC:=whole_g 0 w1
  exact ⟨9,#[.int .i64 0],by go_simp,hC⟩
 rintro _ rfl
 simp only [Act.put,List.setIfInBounds_toArray,List.set_cons_zero,List.set_cons_succ]
 refine wpG_call rfl rfl ?_ ?_
 ·intro w1 hb1 hk
  have hC:=whole_g 0 w1
  exact ⟨9,#[.int .i64 0],by go_simp,hC⟩
 rintro _ rfl
 simp only [Act.put,List.setIfInBounds_toArray,List.set_cons_zero,List.set_cons_succ]
 refine wpG_new rfl rfl (fun w1 hb1 _ => gF_new (T:=37) (l:=m51) (by decide) (by go_simp;exact ⟨rfl,rfl⟩)) ?_
 rintro _ ⟨g20,rfl⟩
 simp only [Act.put,List.setIfInBounds_toArray,List.set_cons_zero,List.set_cons_succ]
 refine wpG_call rfl rfl ?_ ?_
 ·intro w1 hb1 hk
  have h17:FrsAt w1 w1.heap.size (.slice (some ⟨g17,0,none⟩) 2 2) r51:=hk 17 (of_decide_eq_true (by kernel_rfl))
  have h20:FrsAt w1 w1.heap.size (.slice (some ⟨g20,0,none⟩) 2 2) m51:=hk 20 (of_decide_eq_true (by kernel_rfl))
  have hC:=beam51_g (.agg #[.string ⟨#[98]⟩,.int .i64 1000,.slice (some ⟨w.heap.size,0,none⟩) 2 2,.slice (some ⟨w.heap.size+1,0,none⟩) 1 1,.int .i64 0]) _ _ w1 (HV.out.grow hb1) h17 h20
  exact ⟨5,#[.agg #[.string ⟨#[98]⟩,.int .i64 1000,.slice (some ⟨w.heap.size,0,none⟩) 2 2,.slice (some ⟨w.heap.size+1,0,none⟩) 1 1,.int .i64 0],.slice (some ⟨g17,0,none⟩) 2 2,.slice (some ⟨g20,0,none⟩) 2 2],by go_simp;exact ⟨rfl,rfl⟩,hC⟩
 rintro _ rfl
 simp only [Act.put,List.setIfInBounds_toArray,List.set_cons_zero,List.set_cons_succ]
 refine wpG_quiet 4 (by kernel_rfl) (by rfl) (by decide) ?_
 simp only [List.take_succ_cons,List.take_zero,List.drop_succ_cons,List.drop_zero]
 repeat (go_big_quiet_step (fail))
 refine wpQuiet_nil ?_
 refine wpG_nil ?_
 intro w8 hb8 hF
 have HB8:=Lib.hid (HB.out.trans (hb8.mono HB.out.size))
 clear hF hb8
 have hT:=task51_new w8
 have hT1:=fun W (hb:Below (w8.alloc (.cells #[.string ⟨#[116]⟩,.int .i64 7,.int .i64 0,.int .i64 0,.slice none 0 0] 41)).heap.size (w8.alloc (.cells #[.string ⟨#[116]⟩,.int .i64 7,.int .i64 0,.int .i64 0,.slice none 0 0] 41)) W) => (hT.below hb (Nat.le_refl _)).mono hb.size
 have hbT:Below w8.heap.size w8 (w8.alloc (.cells #[.string ⟨#[116]⟩,.int .i64 7,.int .i64 0,.int .i64 0,.slice none 0 0] 41)):=(Below.refl _ _).alloc (Nat.le_refl _) _
 have hI0:=ints_new (w8.alloc (.cells #[.string ⟨#[116]⟩,.int .i64 7,.int .i64 0,.int .i64 0,.slice none 0 0] 41)) 3 [0] (by decide)
 have hbI:Below (w8.alloc (.cells #[.string ⟨#[116]⟩,.int .i64 7,.int .i64 0,.int .i64 0,.slice none 0 0] 41)).heap.size (w8.alloc (.cells #[.string ⟨#[116]⟩,.int .i64 7,.int .i64 0,.int .i64 0,.slice none 0 0] 41)) ((w8.alloc (.cells #[.string ⟨#[116]⟩,.int .i64 7,.int .i64 0,.int .i64 0,.slice none 0 0] 41)).alloc (.cells #[.int .i64 0] 3)):=(Below.refl _ _).alloc (Nat.le_refl _) _
 rw [show (w8.alloc (.cells #[.string ⟨#[116]⟩,.int .i64 7,.int .i64 0,.int .i64 0,.slice none 0 0] 41)).heap.size=w8.heap.size+1 by simp] at hI0
 have hS:=sched51 _ _ 0 7 true _ (.inl rfl) is51_yes (hT1 _ hbI) hI0
 go_wp2_with fail
 refine hS.mono ?_
 rintro e w9 ⟨rfl,hb9⟩
 have hb10:=hbI.trans (hb9.mono hbI.size)
 have hI1:=ints_new w9 3 [1] (by decide)
 have hb11:=hb10.alloc hb10.size (.cells #[.int .i64 1] 3)
 have hS2:=sched51 _ _ 1 8 false _ (.inr rfl) is51_no (hT1 _ hb11) hI1
 clear hS hI0 hI1 hb9 hbI hb10
 go_wp2_with fail
 refine hS2.mono ?_
 rintro e w12 ⟨rfl,hb12⟩
 have hb13:=HB8.out.trans ((hbT.trans ((hb11.trans (hb12.mono hb11.size)).mono hbT.size)).mono HB8.out.size)
 clear hS2 hb12 hb11
 go_wp2_with fail
 go_ret
 exact ⟨rfl,hb13⟩
set_option maxRecDepth 100000 in
set_option maxHeartbeats 4000000 in
theorem lawVerifyBeams (v v1 v2:Value) (b:BeamT) (r m:List FrT) (w:World) (hv:BeamAt w w.heap.size v b) (hn:b.name.size≤maxLen) (hr:FrsAt w w.heap.size v1 r) (hm:FrsAt w w.heap.size v2 m) :
  Calls Tryz.prog 3 #[v,v1,v2] w fun e w' => e = .returned (.bool true)∧Below w.heap.size w w':=by
 have hA:=fun W => lawAwake51 W
 have HV0:=hv
 obtain ⟨As,cs,Al,cl,rfl,hS,hL⟩:=hv
 have hr':=hr
 have hm':=hm
 obtain ⟨Ar,cr,rfl,-⟩:=hr'
 obtain ⟨Am,cm,rfl,-⟩:=hm'
 have HD1:=Lib.hid (Blk.new w 25 #[.string b.name,.int .i64 b.len,.slice As b.sup.length cs,.slice Al b.loads.length cl,.int .i64 b.even])
 have HB1:=Lib.hid ((Below.refl _ w).alloc (Nat.le_refl _) (.cells #[.string b.name,.int .i64 b.len,.slice As b.sup.length cs,.slice Al b.loads.length cl,.int .i64 b.even] 25))
 have HV1:=Lib.hid (HV0.grow HB1.out)
 have HR1:=Lib.hid (hr.grow HB1.out)
 have HM1:=Lib.hid (hm.grow HB1.out)
 have HVb:=Lib.hid (fun u u1 u2 W h h1 h2 => vrBeam u u1 u2 b r m W h hn h1 h2)
 have HVa:=Lib.hid (fun u W h => rgValid u b W h hn)
 have Hn:=Lib.hid hn
 clear HV0 hS hL hr hm hn
 go_enter Tryz.func3,Tryz.ntmps3
 go_upto_region 1 with fail
 generalize w.alloc (.cells #[.string b.name,.int .i64 b.len,.slice As b.sup.length cs,.slice Al b.loads.length cl,.int .i64 b.even] 25)=W1 at *
 have y0:=HD1.out.cell 0
 have y1:=HD1.out.cell 1
 have y2:=HD1.out.cell 2
 have y3:=HD1.out.cell 3
 have y4:=HD1.out.cell 4
 simp only [zq1,zq2,zq3] at y0 y1 y2 y3 y4
 go_wp2_with fail
 refine (hA W1).mono ?_
 rintro e w2 ⟨rfl,hb2⟩
 have HB2:=Lib.hid (HB1.out.trans (hb2.mono HB1.out.size))
 have HV2:=Lib.hid (HV1.out.grow hb2)
 have HR2:=Lib.hid (HR1.out.grow hb2)
 have HM2:=Lib.hid (HM1.out.grow hb2)
 have HD2:=Lib.hid (HD1.out.below hb2 HD1.out.lt)
 clear hb2 y0 y1 y2 y3 y4 HB1 HV1 HR1 HM1 HD1
 have y0:=HD2.out.cell 0
 have y1:=HD2.out.cell 1
 have y2:=HD2.out.cell 2
 have y3:=HD2.out.cell 3
 have y4:=HD2.out.cell 4
 simp only [zq1,zq2,zq3] at y0 y1 y2 y3 y4
 by_cases c0:60<b.name.size
 ·have d0:decide ((60:Int)<(b.name.size:Int))=true:=decide_eq_true (by omega)
  have n0:decide (60<b.name.size)=true:=decide_eq_true c0
  clear c0 hA
  go_wp2_with fail
  go_ret
  exact ⟨rfl,HB2.out⟩
 have d0:decide ((60:Int)<(b.name.size:Int))=false:=decide_eq_false (by omega)
 have n0:decide (60<b.name.size)=false:=decide_eq_false c0
 clear c0
 by_cases c1:12<b.loads.length
 ·have d1:decide ((12:Int)<(b.loads.length:Int))=true:=decide_eq_true (by omega)
  have n1:decide (12<b.loads.length)=true:=decide_eq_true c1
  clear c1 hA
  go_wp2_with fail
  go_ret
  exact ⟨rfl,HB2.out⟩
 have d1:decide ((12:Int)<(b.loads.length:Int))=false:=decide_eq_false (by omega)
 have n1:decide (12<b.loads.length)=false:=decide_eq_false c1
 clear c1
 by_cases c2:12<b.sup.length
 ·have d2:decide ((12:Int)<(b.sup.length:Int))=true:=decide_eq_true (by omega)
  have n2:decide (12<b.sup.length)=true:=decide_eq_true c2
  clear c2 hA
  go_wp2_with fail
  go_ret
  exact ⟨rfl,HB2.out⟩
 have d2:decide ((12:Int)<(b.sup.length:Int))=false:=decide_eq_false (by omega)
 have n2:decide (12<b.sup.length)=false:=decide_eq_false c2
 clear c2
 by_cases c3:15<r.length
 ·have d3:decide ((15:Int)<(r.length:Int))=true:=decide_eq_true (by omega)
  have n3:decide (15<r.length)=true:=decide_eq_true c3
  clear c3 hA
  go_wp2_with fail
  go_ret
  exact ⟨rfl,HB2.out⟩
 have d3:decide ((15:Int)<(r.length:Int))=false:=decide_eq_false (by omega)
 have n3:decide (15<r.length)=false:=decide_eq_false c3
 clear c3
 by_cases c4:15<m.length
 ·have d4:decide ((15:Int)<(m.length:Int))=true:=decide_eq_true (by omega)
  have n4:decide (15<m.length)=true:=decide_eq_true c4
  clear c4 hA
  go_wp2_with fail
  go_ret
  exact ⟨rfl,HB2.out⟩
 have d4:decide ((15:Int)<(m.length:Int))=false:=decide_eq_false (by omega)
 have n4:decide (15<m.length)=false:=decide_eq_false c4
 clear c4
 go_wp2_with fail
 clear d0 d1 d2 d3 d4 n0 n1 n2 n3 n4 hA
 refine (HVb.out _ _ _ w2 HV2.out HR2.out HM2.out).mono ?_
 rintro e w3 ⟨hb3,hE⟩
 have HB3:=Lib.hid (HB2.out.trans (hb3.mono HB2.out.size))
 have HV3:=Lib.hid (HV2.out.grow hb3)
 have HR3:=Lib.hid (HR2.out.grow hb3)
 have HM3:=Lib.hid (HM2.out.grow hb3)
 have HD3:=Lib.hid (HD2.out.below hb3 HD2.out.lt)
 clear hb3 y0 y1 y2 y3 y4 HB2 HV2 HR2 HM2 HD2
 have hArg:∃ is er,e = .returned (.tuple #[.bool is,.int .i64 er])∧((beamArg b r m=false∧is=false∧er=1)∨(beamArg b r m=true∧is=beamIs b r m∧er=0)):=by
  rcases hE with ⟨h1,rfl⟩ | ⟨h1,rfl⟩
  ·exact ⟨_,_,rfl,.inl ⟨h1,rfl,rfl⟩⟩
  ·exact ⟨_,_,rfl,.inr ⟨h1,rfl,rfl⟩⟩
 obtain ⟨is,er,rfl,hIs⟩:=hArg
 have HIs:=Lib.hid hIs
 clear hE hIs HVb
 have y0:=HD3.out.cell 0
 have y1:=HD3.out.cell 1
 have y2:=HD3.out.cell 2
 have y3:=HD3.out.cell 3
 have y4:=HD3.out.cell 4
 simp only [zq1,zq2,zq3] at y0 y1 y2 y3 y4
 go_wp2_with fail
 refine (HVa.out _ w3 HV3.out).mono ?_
 rintro e w4 ⟨rfl,hb4⟩
 have HB4:=Lib.hid (HB3.out.trans (hb4.mono HB3.out.size))
 have HV4:=Lib.hid (HV3.out.grow hb4)
 have HR4:=Lib.hid (HR3.out.grow hb4)
 have HM4:=Lib.hid (HM3.out.grow hb4)
 have HD4:=Lib.hid (HD3.out.below hb4 HD3.out.lt)
 clear hb4 y0 y1 y2 y3 y4 HB3 HV3 HR3 HM3 HD3
 cases hok:okBm b with
 | false =>
  have hArg:beamArg b r m=false:=by unfold beamArg;rw [hok];rfl
  obtain ⟨rfl,rfl⟩:is=false∧er=1:=by
   rcases HIs.out with ⟨_,h2,h3⟩ | ⟨h1,_⟩
   ·exact ⟨h2,h3⟩
   ·rw [hArg] at h1
    cases h1
  clear hok hArg HIs
  go_wp2_with fail
  go_ret
  exact ⟨rfl,HB4.out⟩
 | true =>
  have HOk:=Lib.hid hok
  have y0:=HD4.out.cell 0
  have y1:=HD4.out.cell 1
  have y2:=HD4.out.cell 2
  have y3:=HD4.out.cell 3
  have y4:=HD4.out.cell 4
  simp only [zq1,zq2,zq3] at y0 y1 y2 y3 y4
  clear hok
  go_wp2_with fail
  refine (rfAll _ r w4 HR4.out).mono ?_
  rintro e w5 ⟨rfl,hb5⟩
  have HB5:=Lib.hid (HB4.out.trans (hb5.mono HB4.out.size))
  have HV5:=Lib.hid (HV4.out.grow hb5)
  have HR5:=Lib.hid (HR4.out.grow hb5)
  have HM5:=Lib.hid (HM4.out.grow hb5)
  have HD5:=Lib.hid (HD4.out.below hb5 HD4.out.lt)
  clear hb5 y0 y1 y2 y3 y4 HB4 HV4 HR4 HM4 HD4
  cases hgr:allGood r with
  | false =>
   have hArg:beamArg b r m=false:=by unfold beamArg;rw [hgr,Bool.false_and,Bool.and_false]
   obtain ⟨rfl,rfl⟩:is=false∧er=1:=by
    rcases HIs.out with ⟨_,h2,h3⟩ | ⟨h1,_⟩
    ·exact ⟨h2,h3⟩
    ·rw [hArg] at h1
     cases h1
   clear hgr hArg HIs
   go_wp2_with fail
   go_ret
   exact ⟨rfl,HB5.out⟩
  | true =>
   have HGr:=Lib.hid hgr
   have y0:=HD5.out.cell 0
   have y1:=HD5.out.cell 1
   have y2:=HD5.out.cell 2
   have y3:=HD5.out.cell 3
   have y4:=HD5.out.cell 4
   simp only [zq1,zq2,zq3] at y0 y1 y2 y3 y4
   clear hgr
   go_wp2_with fail
   refine (rfAll _ m w5 HM5.out).mono ?_
   rintro e w6 ⟨rfl,hb6⟩
   have HB6:=Lib.hid (HB5.out.trans (hb6.mono HB5.out.size))
   have HV6:=Lib.hid (HV5.out.grow hb6)
   have HR6:=Lib.hid (HR5.out.grow hb6)
   have HM6:=Lib.hid (HM5.out.grow hb6)
   have HD6:=Lib.hid (HD5.out.below hb6 HD5.out.lt)
   clear hb6 y0 y1 y2 y3 y4 HB5 HV5 HR5 HM5 HD5
   cases hgm:allGood m with
   | false =>
    have hArg:beamArg b r m=false:=by unfold beamArg;rw [hgm,Bool.and_false,Bool.and_false]
    obtain ⟨rfl,rfl⟩:is=false∧er=1:=by
     rcases HIs.out with ⟨_,h2,h3⟩ | ⟨h1,_⟩
     ·exact ⟨h2,h3⟩
     ·rw [hArg] at h1
      cases h1
    clear hgm hArg HIs
    go_wp2_with fail
    go_ret
    exact ⟨rfl,HB6.out⟩
   | true =>
    have hArg:beamArg b r m=true:=by unfold beamArg;rw [HOk.out,HGr.out,hgm];rfl
    obtain ⟨rfl,rfl⟩:is=beamIs b r m∧er=0:=by
     rcases HIs.out with ⟨h1,_⟩ | ⟨_,h2,h3⟩
     ·rw [hArg] at h1
      cases h1
     ·exact ⟨h2,h3⟩
    have y0:=HD6.out.cell 0
    have y1:=HD6.out.cell 1
    have y2:=HD6.out.cell 2
    have y3:=HD6.out.cell 3
    have y4:=HD6.out.cell 4
    simp only [zq1,zq2,zq3] at y0 y1 y2 y3 y4
    clear hgm hArg HIs
    have HBe:=Lib.hid (fun u W h h1 h2 => rf51Beam u Ar cr Am cm b r m W h Hn.out HOk.out h1 h2)
    generalize beamIs b r m=z at *
    go_wp2_with fail
    refine (HBe.out _ w6 HV6.out HR6.out HM6.out).mono ?_
    rintro e w7 ⟨rfl,hb7⟩
    have HB7:=Lib.hid (HB6.out.trans (hb7.mono HB6.out.size))
    clear hb7
    cases z
    all_goals
     go_wp2_with fail
     go_ret
     exact ⟨rfl,HB7.out⟩
end Go.Proofs.YtfhmbechennkbaaGreat
