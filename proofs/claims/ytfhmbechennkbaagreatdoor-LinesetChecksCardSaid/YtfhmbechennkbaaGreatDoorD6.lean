/- Parts of the proof, laid into one text: Ex29, Awake29, LawLarge. -/
import Derived.Test.YtfhmbechennkbaaGreatDoorD5
namespace Go.Proofs.YtfhmbechennkbaaGreatDoor
set_option maxRecDepth 100000
set_option maxHeartbeats 40000000
open Go.RowKit Go.Shelf
theorem find_get (l:List FindT) (j i:Nat) (hj:j<l.length) (hi:i<2):(l.flatMap FindT.cells)[j*2+i]? = l[j].cells[i]?:=flatGet FindT.cells 2 (fun _ => rfl) l j i hj hi
theorem FindsAt.open_ {w:World} {B:Nat} {v:Value} {l:List FindT} (h:FindsAt w B v l) :
  ∃ A c,v = .slice A l.length c∧l.length≤c∧c≤maxLen∧∀ k (_:k<l.length),∃ b off,A=some ⟨b,off,none⟩∧b<B∧∀ j (hj:j<l.length),w.cell? ⟨b,off+j*2,none⟩=some (.int .i64 l[j].kind)∧w.cell? ⟨b,off+j*2+1,none⟩=some (.string l[j].name):=by
 obtain ⟨A,c,h1,h2,h3,h4⟩:=h
 refine ⟨A,c,h1,h2,h3,fun k hk => ?_⟩
 obtain ⟨b,off,e,hlt,hc⟩:=h4 (by omega)
 refine ⟨b,off,e,hlt,fun j hj => ?_⟩
 have f:=fun (i:Nat) (hi:i<2) u (hu:l[j].cells[i]? = some u) => hc (j*2+i) u ((find_get l j i hj hi).trans hu)
 have g:=fun (i:Nat) (hi:i<2) u (hu:l[j].cells[i]? = some u) => (congrArg (fun o => w.cell? ⟨b,o,none⟩) (Nat.add_assoc off (j*2) i)).trans (f i hi u hu)
 exact ⟨g 0 (by omega) _ rfl,g 1 (by omega) _ rfl⟩
theorem FindsAt.below {w w':World} {B B':Nat} {v:Value} {l:List FindT} (h:FindsAt w B v l) (hb:Below B' w w') (hB:B≤B'):FindsAt w' B v l:=Flat.below h hb hB
theorem FindsAt.mono {w:World} {B B':Nat} {v:Value} {l:List FindT} (h:FindsAt w B v l) (hB:B≤B'):FindsAt w B' v l:=Flat.mono h hB
theorem equalFind (v1 v2:Value) (l1 l2:List FindT) (B:Nat) (w:World) (hl1:FindsAt w B v1 l1) (hl2:FindsAt w B v2 l2) :
  Calls Tryz.prog 11 #[v1,v2] w fun e w' => e = .returned (.bool (decide (l1=l2)))∧∃ n,w.drewN n=w':=by
 obtain ⟨A1,c1,rfl,hc1,hd1,hcell1⟩:=hl1.open_
 obtain ⟨A2,c2,rfl,hc2,hd2,hcell2⟩:=hl2.open_
 unfold maxLen at hd1 hd2
 clear hl1 hl2
 by_cases hlen:l1.length=l2.length
 ·have HL:=zh hlen
  have hb:((l1.length:Int) != l2.length)=false:=by simp [hlen]
  have hle1:l1.length≤l2.length:=by omega
  have hle2:l2.length≤l1.length:=by omega
  clear hlen
  go_enter Tryz.func11,Tryz.ntmps11
  go_wp2
  go_loopw [13] (fun s wr => ∃ j:Nat,j≤l1.length∧s = .int .i64 j∧l1.take j=l2.take j∧∃ n,wr=w.drewN n) (fun x _ => l1.length-(intOf x).toNat)
  case atStart => exact ⟨0,Nat.zero_le _,rfl,by simp,0,rfl⟩
  case round =>
   obtain ⟨j,hj,rfl,hnm,n,rfl⟩:=hrel
   have Hnm:=zh hnm
   clear hnm
   by_cases hlt:j<l1.length
   ·have hlt2:j<l2.length:=by omega
    obtain ⟨b1,off1,rfl,hb1,hcell1⟩:=hcell1 j hlt
    obtain ⟨b2,off2,rfl,hb2,hcell2⟩:=hcell2 j hlt2
    obtain ⟨h1,h1'⟩:=hcell1 j hlt
    obtain ⟨h2,h2'⟩:=hcell2 j hlt2
    clear hcell1 hcell2
    by_cases hq:l1[j]=l2[j]
    ·have ht:(l1[j].kind == l2[j].kind)=true:=by rw [hq];exact beq_self_eq_true _
     have ht':(l1[j].name.toList == l2[j].name.toList)=true:=by rw [hq];exact beq_self_eq_true _
     have HQ:=zh hq
     clear hq
     go_wp2
     go_quiet (fail)
     go_wp2
     go_roundw
     case rel => exact ⟨j+1,by omega,by go_num,by rw [take_snoc l1 j hlt,take_snoc l2 j hlt2,Hnm.out,HQ.out],_,rfl⟩
     case measure => simp [intOf];omega
    ·have HQ:=zh hq
     by_cases hn:l1[j].kind=l2[j].kind
     ·have ht:(l1[j].kind == l2[j].kind)=true:=beq_iff_eq.2 hn
      have ht':(l1[j].name.toList == l2[j].name.toList)=false:=by
       rw [str_beq]
       exact decide_eq_false fun h => HQ.out (by
       cases e1:l1[j];cases e2:l2[j]
       rw [e1,e2] at hn h
       simp only at hn h
       rw [hn,h])
      clear hq hn
      go_wp2
      go_quiet (fail)
      go_wp2
      go_ret
      exact ⟨Ze (by symm;rw [decide_eq_false_iff_not];intro e;subst e;exact HQ.out rfl),q2⟩
     ·have ht:(l1[j].kind == l2[j].kind)=false:=beq_eq_false_iff_ne.2 hn
      clear hq hn
      go_wp2
      go_quiet (fail)
      go_wp2
      go_ret
      exact ⟨Ze (by symm;rw [decide_eq_false_iff_not];intro e;subst e;exact HQ.out rfl),q2⟩
   ·have hje:j=l1.length:=by omega
    subst hje
    go_wp2
    go_ret
    exact ⟨Ze (by symm;rw [decide_eq_true_iff];have:=Hnm.out;rw [List.take_length,HL.out,List.take_length] at this;exact this),q1⟩
 ·have hb:((l1.length:Int) != l2.length)=true:=by simp;omega
  have hne:l1≠l2:=fun e => hlen (by rw [e])
  go_enter Tryz.func11,Tryz.ntmps11
  go_wp2
  go_ret
  exact ⟨Ze (by symm;simpa using hne),0,rfl⟩
def exS:SetT:=⟨⟨#[97]⟩,0,0,9000,4000,[0,4000],500,1000,1,9000,50,[⟨⟨#[120]⟩,900,201,600,300,0,7⟩],[⟨⟨#[98]⟩,1500,1⟩]⟩
theorem exS_names:SetNames exS:=⟨by decide,fun x hx => by simp [exS] at hx;subst hx;decide,fun x hx => by simp [exS] at hx;subst hx;decide⟩
theorem exS_ok:setB exS=true:=by decide +kernel
theorem exS_err:Zs exS=0:=by decide +kernel
theorem exS_finds:findsL exS=[⟨1,⟨#[97]⟩⟩]:=by decide +kernel
theorem exS_total:totalN exS=5100:=by decide +kernel
theorem exS_ext:extV exS 1000 = .tuple #[spanV 700 1000,spanV (-7) 0,.int .i64 0]:=ext_in (by decide +kernel) (by decide +kernel)
theorem lawExample29 (w:World):Calls Tryz.prog 31 #[] w fun e w' => ∃ v,e = .returned v∧SetAt w' w'.heap.size v exS∧Below w.heap.size w w':=by
 go_enter Tryz.func31,Tryz.ntmps31
 go_wp2_with fail
 have h1:=ints_new (w.alloc (.cells #[.string ⟨#[97]⟩,.int .i64 0,.int .i64 0,.int .i64 9000,.int .i64 4000,.slice (some ⟨w.heap.size+1,0,none⟩) 2 2,.int .i64 500,.int .i64 1000,.int .i64 1,.int .i64 9000,.int .i64 50,.slice (some ⟨w.heap.size+1+1,0,none⟩) 1 1,.slice (some ⟨w.heap.size+1+1+1,0,none⟩) 1 1] 26)) 3 [0,4000] (by decide)
 have hb1:Below w.heap.size w (w.alloc (.cells #[.string ⟨#[97]⟩,.int .i64 0,.int .i64 0,.int .i64 9000,.int .i64 4000,.slice (some ⟨w.heap.size+1,0,none⟩) 2 2,.int .i64 500,.int .i64 1000,.int .i64 1,.int .i64 9000,.int .i64 50,.slice (some ⟨w.heap.size+1+1,0,none⟩) 1 1,.slice (some ⟨w.heap.size+1+1+1,0,none⟩) 1 1] 26)):=(Below.refl _ _).alloc (Nat.le_refl _) _
 have hd:=Blk.new w 26 #[.string ⟨#[97]⟩,.int .i64 0,.int .i64 0,.int .i64 9000,.int .i64 4000,.slice (some ⟨w.heap.size+1,0,none⟩) 2 2,.int .i64 500,.int .i64 1000,.int .i64 1,.int .i64 9000,.int .i64 50,.slice (some ⟨w.heap.size+1+1,0,none⟩) 1 1,.slice (some ⟨w.heap.size+1+1+1,0,none⟩) 1 1]
 have hs:(w.alloc (.cells #[.string ⟨#[97]⟩,.int .i64 0,.int .i64 0,.int .i64 9000,.int .i64 4000,.slice (some ⟨w.heap.size+1,0,none⟩) 2 2,.int .i64 500,.int .i64 1000,.int .i64 1,.int .i64 9000,.int .i64 50,.slice (some ⟨w.heap.size+1+1,0,none⟩) 1 1,.slice (some ⟨w.heap.size+1+1+1,0,none⟩) 1 1] 26)).heap.size=w.heap.size+1:=by simp
 generalize w.alloc (.cells #[.string ⟨#[97]⟩,.int .i64 0,.int .i64 0,.int .i64 9000,.int .i64 4000,.slice (some ⟨w.heap.size+1,0,none⟩) 2 2,.int .i64 500,.int .i64 1000,.int .i64 1,.int .i64 9000,.int .i64 50,.slice (some ⟨w.heap.size+1+1,0,none⟩) 1 1,.slice (some ⟨w.heap.size+1+1+1,0,none⟩) 1 1] 26)=W1 at *
 rw [hs] at h1
 have hd3:=((hd.alloc (.cells #[.int .i64 0,.int .i64 4000] 3)).alloc (.cells #[.string ⟨#[120]⟩,.int .i64 900,.int .i64 201,.int .i64 600,.int .i64 300,.int .i64 0,.int .i64 7] 118)).alloc (.cells #[.string ⟨#[98]⟩,.int .i64 1500,.int .i64 1] 87)
 have hb2:Below W1.heap.size W1 (W1.alloc (.cells #[.int .i64 0,.int .i64 4000] 3)):=(Below.refl _ _).alloc (Nat.le_refl _) _
 have hb3:Below (W1.alloc (.cells #[.int .i64 0,.int .i64 4000] 3)).heap.size (W1.alloc (.cells #[.int .i64 0,.int .i64 4000] 3)) (((W1.alloc (.cells #[.int .i64 0,.int .i64 4000] 3)).alloc (.cells #[.string ⟨#[120]⟩,.int .i64 900,.int .i64 201,.int .i64 600,.int .i64 300,.int .i64 0,.int .i64 7] 118)).alloc (.cells #[.string ⟨#[98]⟩,.int .i64 1500,.int .i64 1] 87)):=((Below.refl _ _).alloc (Nat.le_refl _) _).alloc (by simp) _
 have hs2:(W1.alloc (.cells #[.int .i64 0,.int .i64 4000] 3)).heap.size=w.heap.size+1+1:=by simp [hs]
 have hI:=(Blk.new (W1.alloc (.cells #[.int .i64 0,.int .i64 4000] 3)) 118 #[.string ⟨#[120]⟩,.int .i64 900,.int .i64 201,.int .i64 600,.int .i64 300,.int .i64 0,.int .i64 7]).alloc (.cells #[.string ⟨#[98]⟩,.int .i64 1500,.int .i64 1] 87)
 rw [hs2] at hI
 have hs3:((W1.alloc (.cells #[.int .i64 0,.int .i64 4000] 3)).alloc (.cells #[.string ⟨#[120]⟩,.int .i64 900,.int .i64 201,.int .i64 600,.int .i64 300,.int .i64 0,.int .i64 7] 118)).heap.size=w.heap.size+1+1+1:=by simp [hs]
 have hK:=Blk.new ((W1.alloc (.cells #[.int .i64 0,.int .i64 4000] 3)).alloc (.cells #[.string ⟨#[120]⟩,.int .i64 900,.int .i64 201,.int .i64 600,.int .i64 300,.int .i64 0,.int .i64 7] 118)) 87 #[.string ⟨#[98]⟩,.int .i64 1500,.int .i64 1]
 rw [hs3] at hK
 have hs4:(((W1.alloc (.cells #[.int .i64 0,.int .i64 4000] 3)).alloc (.cells #[.string ⟨#[120]⟩,.int .i64 900,.int .i64 201,.int .i64 600,.int .i64 300,.int .i64 0,.int .i64 7] 118)).alloc (.cells #[.string ⟨#[98]⟩,.int .i64 1500,.int .i64 1] 87)).heap.size=w.heap.size+1+1+1+1:=by simp [hs]
 have h1':=(RowAt.below h1 hb3 (Nat.le_refl _)).mono hb3.size
 have HB:=zh (hb1.trans ((hb2.trans (hb3.mono hb2.size)).mono hb1.size))
 generalize ((W1.alloc (.cells #[.int .i64 0,.int .i64 4000] 3)).alloc (.cells #[.string ⟨#[120]⟩,.int .i64 900,.int .i64 201,.int .i64 600,.int .i64 300,.int .i64 0,.int .i64 7] 118)).alloc (.cells #[.string ⟨#[98]⟩,.int .i64 1500,.int .i64 1] 87)=W4 at *
 have z0:=hd3.cell 0
 have z1:=hd3.cell 1
 have z2:=hd3.cell 2
 have z3:=hd3.cell 3
 have z4:=hd3.cell 4
 have z5:=hd3.cell 5
 have z6:=hd3.cell 6
 have z7:=hd3.cell 7
 have z8:=hd3.cell 8
 have z9:=hd3.cell 9
 have z10:=hd3.cell 10
 have z11:=hd3.cell 11
 have z12:=hd3.cell 12
 simp only [zq1,zq2,zq3] at z0 z1 z2 z3 z4 z5 z6 z7 z8 z9 z10 z11 z12
 refine bodyPost_ret (v:=setVal exS (some ⟨w.heap.size+1,0,none⟩) 2 (some ⟨w.heap.size+1+1,0,none⟩) 1 (some ⟨w.heap.size+1+1+1,0,none⟩) 1) (by simp [results,Tryz.results31,go_sem,z0,z1,z2,z3,z4,z5,z6,z7,z8,z9,z10,z11,z12,setVal,exS]) rfl ?_
 refine ⟨_,rfl,⟨_,_,_,_,_,_,rfl,h1',?_,?_⟩,HB.out⟩
 ·refine ⟨_,_,rfl,Nat.le_refl _,by unfold maxLen;decide,fun _ => ⟨_,0,rfl,by omega,fun j u hu => ?_⟩⟩
  rw [Nat.zero_add,hI.cell,List.getElem?_toArray]
  exact hu
 ·refine ⟨_,_,rfl,Nat.le_refl _,by unfold maxLen;decide,fun _ => ⟨_,0,rfl,by omega,fun j u hu => ?_⟩⟩
  rw [Nat.zero_add,hK.cell,List.getElem?_toArray]
  exact hu
def fA:List FindT:=[⟨1,⟨#[97]⟩⟩]
theorem exCheck (v:Value) (w:World) (hv:SetAt w w.heap.size v exS):Calls Tryz.prog 8 #[v] w fun e w' => ∃ A c,e = .returned (.tuple #[.slice A 1 c,.int .i64 0])∧Hid (FindsAt w' w'.heap.size (.slice A 1 c) fA)∧Below w.heap.size w w':=by
 refine (lsCheck v exS w hv exS_names).mono ?_
 rintro e w' ⟨hb,⟨-,u,rfl,h⟩ | ⟨h,-⟩⟩
 ·rw [exS_finds] at h
  obtain ⟨A,c,rfl,-⟩:=h.open_
  exact ⟨A,c,rfl,h,hb⟩
 ·exact absurd exS_err h
theorem exTotal (v:Value) (w:World) (hv:SetAt w w.heap.size v exS):Calls Tryz.prog 9 #[v] w fun e w' => e = .returned (.tuple #[.int .i64 5100,.int .i64 0])∧Below w.heap.size w w':=by
 have h:=lsTotal v exS w hv exS_names
 rw [if_pos exS_ok,exS_total] at h
 exact h
theorem exExt (v:Value) (w:World) (hv:SetAt w w.heap.size v exS):Calls Tryz.prog 32 #[v,.int .i64 1000] w fun e w' => e = .returned (.tuple #[.agg #[.int .i64 700,.int .i64 1000],.agg #[.int .i64 (-7),.int .i64 0],.int .i64 0])∧Below w.heap.size w w':=by
 have h:=lsExtent v exS 1000 w hv exS_names
 rw [exS_ext] at h
 exact h
theorem fA_new (w:World):FindsAt (w.alloc (.cells #[.int .i64 1,.string ⟨#[97]⟩] 39)) (w.alloc (.cells #[.int .i64 1,.string ⟨#[97]⟩] 39)).heap.size (.slice (some ⟨w.heap.size,0,none⟩) 1 1) fA:=by
 refine ⟨_,_,rfl,Nat.le_refl _,by unfold maxLen;decide,fun _ => ⟨_,0,rfl,by simp,fun j u hu => ?_⟩⟩
 rw [Nat.zero_add,(Blk.new w _ _).cell,List.getElem?_toArray]
 exact hu
theorem lawAwake29 (w:World):Calls Tryz.prog 6 #[] w fun e w' => e = .returned (.bool true)∧Below w.heap.size w w':=by
 go_enter Tryz.func6,Tryz.ntmps6
 go_wp2_with fail
 refine (lawExample29 _).mono ?_
 rintro e w1 ⟨v1,rfl,hS1,hb1⟩
 go_wp2_with fail
 refine (exCheck v1 w1 hS1).mono ?_
 rintro e w2 ⟨A,c,rfl,HF,hb2⟩
 have hb:=hb1.trans (hb2.mono hb1.size)
 clear hS1 hb1 hb2
 go_wp2_with fail
 refine (lawExample29 _).mono ?_
 rintro e w3 ⟨v3,rfl,hS3,hb3⟩
 go_wp2_with fail
 refine (exTotal v3 w3 hS3).mono ?_
 rintro e w4 ⟨rfl,hb4⟩
 have hbF:=hb3.trans (hb4.mono hb3.size)
 clear hS3 hb3 hb4
 go_wp2_with fail
 refine (lawExample29 _).mono ?_
 rintro e w5 ⟨v5,rfl,hS5,hb5⟩
 go_wp2_with fail
 refine (exExt v5 w5 hS5).mono ?_
 rintro e w6 ⟨rfl,hb6⟩
 have hbG:=hbF.trans ((hb5.trans (hb6.mono hb5.size)).mono hbF.size)
 have hbH:=(hbG.alloc hbG.size (.cells #[.int .i64 700,.int .i64 1000] 74)).alloc (by have:=hbG.size;simp;omega) (.cells #[.int .i64 (-7),.int .i64 0] 74)
 have hbI:=hbH.alloc hbH.size (.cells #[.int .i64 1,.string ⟨#[97]⟩] 39)
 have hEq:=equalFind (.slice A 1 c) _ fA fA _ _ ((HF.out.below hbI (Nat.le_refl _)).mono hbI.size) (fA_new _)
 rw [show decide (fA=fA)=true by simp] at hEq
 have HB:=zh (hb.trans (hbI.mono hb.size))
 have e2:((w6.alloc (.cells #[.int .i64 700,.int .i64 1000] 74)).alloc (.cells #[.int .i64 (-7),.int .i64 0] 74)).heap.size=w6.heap.size+1+1:=by simp
 rw [e2] at hEq
 clear hS5 hb5 hb6 hbF hbG hbH hbI hb HF e2
 go_wp2_with fail
 refine hEq.mono ?_
 rintro e w7 ⟨rfl,n,rfl⟩
 clear hEq
 go_wp2_with fail
 go_ret
 exact ⟨rfl,Zf HB.out n⟩
theorem lawLarge29 (v:Value) (s:SetT) (w:World) (hv:SetAt w w.heap.size v s) (hn:SetNames s):Calls Tryz.prog 7 #[v] w (AnsB w):=by
 have HS:=fun W (hb:Below w.heap.size w W) => refSmall v s 8 W ((hv.below hb (Nat.le_refl _)).mono hb.size) hn.name hn.items hn.bricks
 obtain ⟨Al,cl,Ai,ci,Ab,cb,rfl,-,-,-⟩:=hv
 have HB1:=zh ((Below.refl _ w).alloc (Nat.le_refl _) (.cells #[.string s.name,.int .i64 s.depth,.int .i64 s.low,.int .i64 s.high,.int .i64 s.len,.slice Al s.lines.length cl,.int .i64 s.pipe,.int .i64 s.arbor,.int .i64 s.purch,.int .i64 s.most,.int .i64 s.brake,.slice Ai s.items.length ci,.slice Ab s.bricks.length cb] 26))
 have hs:=HS _ HB1.out
 clear HS hn
 unfold setVal at *
 go_enter Tryz.func7,Tryz.ntmps7
 go_wp2_with fail
 refine hs.mono ?_
 rintro e w2 ⟨q,rfl,hb2⟩
 have hb:=HB1.out.trans (hb2.mono HB1.out.size)
 go_wp2_with fail
 go_ret
 exact ⟨_,rfl,hb⟩
end Go.Proofs.YtfhmbechennkbaaGreatDoor
