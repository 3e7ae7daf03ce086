/- Lemmas. -/
import Derived.Test.YtfhmbechennkbaaGreatDoorD9
import Derived.Test.YtfhmbechennkbaaGreatDoorI1
import Derived.Test.YtfhmbechennkbaaGreatDoorR6
import Derived.Test.YtfhmbechennkbaaGreatDoorR9
namespace Go.Proofs.YtfhmbechennkbaaGreatDoor
set_option maxRecDepth 100000
set_option maxHeartbeats 40000000
open Go.RowKit Go.Shelf
theorem kF {w:World} {g i:Nat} {cs:Array Value} {u:Value} {B t s n:Nat} {v:Value} {xs:List Value} (hd:Blk w g 26 cs) (h:w.ownsRow B t s v n xs) (ht:26≠t):(w.setCell ⟨g,i,none⟩ u).ownsRow B t s v n xs :=
 h.kept (aY w g i u) (cQ h hd ht)
theorem oP {W w1:World} {e:TypeId} (hg:(W.alloc (.cells #[] e)).grownBy w1 (Value.slice (some ⟨W.heap.size,0,none⟩) 0 0).ownBlock):Below W.heap.size W w1 :=
 ((yB W.heap.size W).alloc (yA _) _).grown hg (by simp) (fun k hk=>by simp[Value.ownBlock] at hk;omega)
theorem sZ (v:Value) (s:SetT) (w:World) (hv:SetAt w w.heap.size v s) (h1:s.lines.length≤1000) (h2:s.items.length≤1000) (h3:s.bricks.length≤1000):Calls Tryz.prog 101 #[v] w (JV s w):=by
  obtain⟨Al,cl,Ai,ci,Ab,cb,rfl,hL,hI,hB⟩:=hv
  have HL:=zh hL
  have HI:=zh hI
  have HK:=zh hB
  clear hL hI hB
  unfold aL at *
  have IZ:=(Blk.new w 26 (zA s Al cl Ai ci Ab cb)).alloc (.cells zE 26)
  have jo:=Blk.new (w.alloc (.cells (zA s Al cl Ai ci Ab cb) 26)) 26 zE
  rw[yZ] at jo
  have nC:=((yB _ w).alloc (yA _) (.cells (zA s Al cl Ai ci Ab cb) 26)).alloc (by simp) (.cells zE 26)
  go_enter Tryz.func101,Tryz.ntmps101
  go_upto_region 1 with fail
  generalize (w.alloc (.cells (zA s Al cl Ai ci Ab cb) 26)).alloc (.cells zE 26)=W2 at *
  have kA:=zh IZ
  have eK:=zh jo
  have bK:=zh nC
  clear IZ jo nC
  have y:=(kA.o.alloc (.cells #[] 3)).cell 5
  simp only[aP,aQ,aO] at y
  have iP:=(yB W2.heap.size W2).alloc (yA _) (.cells #[] 3)
  have Yl:=zh (RowAt.below HL.o (bK.o.trans (iP.mono bK.o.size)) (yA _))
  have dK:=bK.o.size
  clear iP
  go_upto_region 2 with (at_builtin; refine bJ _ rfl (.tmp 3) (.tmp 5) 22 rfl w.heap.size 3 II Tryz.underlying22 rfl (by decide) (.slice (some ⟨W2.heap.size,0,none⟩) 0 0) 0 [] rfl (World.ownsRow_made W2 #[] 0 dK (yI _) rfl) w.heap.size s.lines.length (.slice Al s.lines.length cl) (s.lines.map (Value.int .i64)) rfl Yl.o (by simp) (by simp[Value.oneCell']) (by unfold maxLen; omega) (by omega) (by simp; omega) ?_; intro v1 w1 dG Bm Cy; rw[Nat.zero_add,List.nil_append] at dG; obtain⟨A1,k1,rfl⟩:=bD dG; have ao:=oP Bm; have QR:=zh dG; have BX:=zh (kA.o.below ao kA.o.lt); have HDb:=zh (eK.o.below ao eK.o.lt); have sQ:=zh (bK.o.trans (ao.mono bK.o.size)); have y:=BX.o.cell 5; have fy:=BX.o.frozen 5; simp only[aP,aQ,aO] at y; clear dG Bm Cy ao)
  have kA:Y0 (Blk (w1.setCell ⟨w.heap.size,5,none⟩ (.slice A1 s.lines.length k1)) w.heap.size 26 (zA s A1 k1 Ai ci Ab cb)):=BX.o.set_ 5 (.slice A1 s.lines.length k1)
  have eK:=zh (HDb.o.far (p:=⟨w.heap.size,5,none⟩) (by show w.heap.size+1≠w.heap.size; omega) (.slice A1 s.lines.length k1))
  have bK:=zh (sQ.o.grown (aY w1 w.heap.size 5 (.slice A1 s.lines.length k1)) sQ.o.size (fun k e=>Nat.le_of_eq (Option.some.inj e)))
  have QR:=zh (kF (i:=5) (u:=.slice A1 s.lines.length k1) BX.o QR.o (by decide))
  clear y fy Yl BX HDb sQ dK 
  generalize (w1.setCell ⟨w.heap.size,5,none⟩ (.slice A1 s.lines.length k1))=W3 at *
  have y:=(kA.o.alloc (.cells #[] 118)).cell 11
  simp only[aP,aQ,aO] at y
  have iP:=(yB W3.heap.size W3).alloc (yA _) (.cells #[] 118)
  have Yl:=zh (ItemsAt.below HI.o (bK.o.trans (iP.mono bK.o.size)) (yA _))
  have dK:=bK.o.size
  clear iP
  go_upto_region 3 with (at_builtin; refine bJ _ rfl (.tmp 8) (.tmp 10) 23 rfl w.heap.size 118 Dq Tryz.underlying23 rfl (by decide) (.slice (some ⟨W3.heap.size,0,none⟩) 0 0) 0 [] rfl (World.ownsRow_made W3 #[] 0 dK (yI _) rfl) w.heap.size s.items.length (.slice Ai s.items.length ci) (s.items.flatMap ItemT.cells) rfl Yl.o (d9 ItemT.cells 7 (fun _=>rfl) s.items) (uG s.items) (by unfold maxLen; omega) (by omega) (by simp; omega) ?_; intro v1 w2 dG Bm Cy; rw[Nat.zero_add,List.nil_append] at dG; obtain⟨A2,k2,rfl⟩:=bD dG; have ao:=oP Bm; have Fx:=zh dG; have BX:=zh (kA.o.below ao kA.o.lt); have HDb:=zh (eK.o.below ao eK.o.lt); have sQ:=zh (bK.o.trans (ao.mono bK.o.size)); have HP1:=zh (bQ QR.o ao); have y:=BX.o.cell 11; have fy:=BX.o.frozen 11; simp only[aP,aQ,aO] at y; clear dG Bm Cy ao)
  have kA:Y0 (Blk (w2.setCell ⟨w.heap.size,11,none⟩ (.slice A2 s.items.length k2)) w.heap.size 26 (zA s A1 k1 A2 k2 Ab cb)):=BX.o.set_ 11 (.slice A2 s.items.length k2)
  have eK:=zh (HDb.o.far (p:=⟨w.heap.size,11,none⟩) (by show w.heap.size+1≠w.heap.size; omega) (.slice A2 s.items.length k2))
  have bK:=zh (sQ.o.grown (aY w2 w.heap.size 11 (.slice A2 s.items.length k2)) sQ.o.size (fun k e=>Nat.le_of_eq (Option.some.inj e)))
  have Fx:=zh (kF (i:=11) (u:=.slice A2 s.items.length k2) BX.o Fx.o (by decide))
  have QR:=zh (kF (i:=11) (u:=.slice A2 s.items.length k2) BX.o HP1.o (by decide))
  clear y fy Yl BX HDb sQ dK HP1
  generalize (w2.setCell ⟨w.heap.size,11,none⟩ (.slice A2 s.items.length k2))=W4 at *
  have y:=(kA.o.alloc (.cells #[] 87)).cell 12
  simp only[aP,aQ,aO] at y
  have iP:=(yB W4.heap.size W4).alloc (yA _) (.cells #[] 87)
  have Yl:=zh (BricksAt.below HK.o (bK.o.trans (iP.mono bK.o.size)) (yA _))
  have dK:=bK.o.size
  clear iP
  go_upto_region 4 with (at_builtin; refine bJ _ rfl (.tmp 13) (.tmp 15) 24 rfl w.heap.size 87 Bb Tryz.underlying24 rfl (by decide) (.slice (some ⟨W4.heap.size,0,none⟩) 0 0) 0 [] rfl (World.ownsRow_made W4 #[] 0 dK (yI _) rfl) w.heap.size s.bricks.length (.slice Ab s.bricks.length cb) (s.bricks.flatMap BrickT.cells) rfl Yl.o (d9 BrickT.cells 3 (fun _=>rfl) s.bricks) (sj s.bricks) (by unfold maxLen; omega) (by omega) (by simp; omega) ?_; intro v1 w3 dG Bm Cy; rw[Nat.zero_add,List.nil_append] at dG; obtain⟨A3,k3,rfl⟩:=bD dG; have ao:=oP Bm; have Ec:=zh dG; have BX:=zh (kA.o.below ao kA.o.lt); have HDb:=zh (eK.o.below ao eK.o.lt); have sQ:=zh (bK.o.trans (ao.mono bK.o.size)); have HP1:=zh (bQ QR.o ao); have HP2:=zh (bQ Fx.o ao); have y:=BX.o.cell 12; have fy:=BX.o.frozen 12; simp only[aP,aQ,aO] at y; clear dG Bm Cy ao)
  have kA:Y0 (Blk (w3.setCell ⟨w.heap.size,12,none⟩ (.slice A3 s.bricks.length k3)) w.heap.size 26 (zA s A1 k1 A2 k2 A3 k3)):=BX.o.set_ 12 (.slice A3 s.bricks.length k3)
  have eK:=zh (HDb.o.far (p:=⟨w.heap.size,12,none⟩) (by show w.heap.size+1≠w.heap.size; omega) (.slice A3 s.bricks.length k3))
  have bK:=zh (sQ.o.grown (aY w3 w.heap.size 12 (.slice A3 s.bricks.length k3)) sQ.o.size (fun k e=>Nat.le_of_eq (Option.some.inj e)))
  have Ec:=zh (kF (i:=12) (u:=.slice A3 s.bricks.length k3) BX.o Ec.o (by decide))
  have QR:=zh (kF (i:=12) (u:=.slice A3 s.bricks.length k3) BX.o HP1.o (by decide))
  have Fx:=zh (kF (i:=12) (u:=.slice A3 s.bricks.length k3) BX.o HP2.o (by decide))
  clear y fy Yl BX HDb sQ dK HP1 HP2
  generalize (w3.setCell ⟨w.heap.size,12,none⟩ (.slice A3 s.bricks.length k3))=W5 at *
  have ER:=zh (DO kA.o)
  have ql:=zh (fk eK.o rfl)
  have HR:=zh (World.rangeAt_setCells_same W5 (w.heap.size+1) 0 (zB s A1 k1 A2 k2 A3 k3) (fk eK.o rfl))
  refine wp_region_lit ?_
  refine wpList_load_mid rfl 26 (.tmp 1) rfl w.heap.size 0 rfl (zB s A1 k1 A2 k2 A3 k3) _ ER.o Tryz.underlying26 rfl (by kernel_rfl) ?_
  refine wpList_store_mid rfl 26 (.tmp 2) (.tmp 18) rfl (w.heap.size+1) 0 (zA s A1 k1 A2 k2 A3 k3) rfl rfl ql.o (by kernel_rfl) (by simp[Value.oneCell']) ?_
  refine wpList_nil ?_
  simp only[Act.put,aJ,aI,aH]
  clear ER ql
  have jf:=bI (w.heap.size+1) (zB s A1 k1 A2 k2 A3 k3) 0 W5
  have uZ := bK.o.grown jf bK.o.size (fun k e=>by
   obtain rfl:w.heap.size + 1=k := by simpa using e
   omega)
  have r1:=QR.o.kept jf (cQ QR.o eK.o (by decide))
  have r2:=Fx.o.kept jf (cQ Fx.o eK.o (by decide))
  have r3:=Ec.o.kept jf (cQ Ec.o eK.o (by decide))
  have p0:=HR.o 0 _ rfl
  have p1:=HR.o 1 _ rfl
  have p2:=HR.o 2 _ rfl
  have p3:=HR.o 3 _ rfl
  have p4:=HR.o 4 _ rfl
  have p5:=HR.o 5 _ rfl
  have p6:=HR.o 6 _ rfl
  have p7:=HR.o 7 _ rfl
  have p8:=HR.o 8 _ rfl
  have p9:=HR.o 9 _ rfl
  have rO:=HR.o 10 _ rfl
  have rN:=HR.o 11 _ rfl
  have uv:=HR.o 12 _ rfl
  simp only[Nat.zero_add] at p0 p1 p2 p3 p4 p5 p6 p7 p8 p9 rO rN uv
  generalize World.setCells W5 (w.heap.size+1) 0 (zB s A1 k1 A2 k2 A3 k3)=W9 at *
  clear jf HR QR Fx Ec kA eK bK
  go_wp2_with fail
  refine YI (v:=.agg (zA s A1 k1 A2 k2 A3 k3)) (by simp[results,Tryz.results101,go_sem,p0,p1,p2,p3,p4,p5,p6,p7,p8,p9,rO,rN,uv]) rfl ?_
  exact⟨uZ,A1,k1,A2,k2,A3,k3,rfl,r1,r2,r3⟩
theorem Gn (x:ItemT) (w:World) (hx:0≤x.pos∧x.pos≤1048576∧1≤x.width∧x.width≤1048576) :
  Calls Tryz.prog 127 #[x.val] w fun e w'=>e = .returned (.int .i64 (EG x))∧w.alloc (.cells #[.string x.name,.int .i64 x.pos,.int .i64 x.width,.int .i64 x.wt,.int .i64 x.hang,.int .i64 x.front,.int .i64 x.back] 118)=w':=by
 have HV:Y0 (EG x=x.pos+x.width / 2):=rfl
 obtain⟨h1,h2,h3,h4⟩:=hx
 have v1:IntKind.i64.wrap (x.width / 2)=x.width / 2:=yF _ (by omega)
 have v2:IntKind.i64.wrap (x.pos+x.width / 2)=x.pos+x.width / 2:=yF _ (by omega)
 have v3:x.width.tdiv 2=x.width / 2:=Int.tdiv_eq_ediv_of_nonneg (by omega)
 clear h1 h2 h3 h4
 go_enter Tryz.func127,Tryz.ntmps127
 go_wp2
 go_ret
 exact⟨by rw[HV.o];rfl,rfl⟩
def gNl:GPost:=⟨fun v=>∃ g,v = .slice (some ⟨g,0,none⟩) 0 0,fun _ _=>True,⟨_,0,rfl⟩,fun _ _ _ _ _=>trivial,false⟩
theorem qqi {P:Program} {o:Oper} {a:Act} {w:World} {T:TypeId} {fz:Nat×Nat} (h:(execOp a.eval o).run P w = .ok (.value (.slice (some ⟨w.heap.size,0,none⟩) 0 0)) (w.alloc (.cells #[] T fz))):o7 P o a gNl w :=
 ⟨_,_,h,(yB _ _).alloc (yA _) _,⟨_,rfl⟩,trivial,fun h=>by cases h⟩
theorem PZ {o:Oper} {a:Act} {w:World} {B g:Nat} {s x:Operand} {v:Value} {l:List Int} (ho:o.op = .call { callee := .builtin .append,args := #[s,x],argTypes := #[22,22] }) (hs:a.eval s = .slice (some ⟨g,0,none⟩) 0 0) (hx:a.eval x=v)
  (hl:bO w w.heap.size v l) (h0:0<l.length) (bL:l.length≤1000000) (hB:B≤w.heap.size):o7 Tryz.prog o a (gO B l) w:=by
 obtain⟨A,c,rfl,gC,dr,ah⟩:=hl.open_
 obtain⟨b,off,rfl,hb,mR⟩:=ah 0 h0
 obtain⟨i0,il,gu,iC,iN⟩:=info_parts tC
 obtain⟨v',w',hr,az,hg⟩ := run_append_arg_grows (P := Tryz.prog) w 22 o.type 3 i0 _ 1 8 Tryz.underlying22 il gu iC iN rfl (by decide) ⟨g,0,none⟩ 0 0 [] rfl (fun j u hu=>by simp at hu)
  ⟨b,off,none⟩ l.length c (l.map (Value.int .i64)) (by simp) (fun j u hu=>by
   rw[YD,Option.map_eq_some_iff] at hu
   obtain⟨z,hz,rfl⟩:=hu
   obtain⟨hj,rfl⟩:=List.getElem?_eq_some_iff.1 hz
   rw[Addr.add_lit]
   exact mR j hj) (by omega) (by unfold maxLen;omega) (by omega)
 rw[yR,List.nil_append] at az
 exact⟨v',w',dA ho hs hx hr,JC hg,bD az,bo az hB,fun h=>by cases h⟩
def MH (s:SetT) (w:World) (e:Ending) (w':World):Prop:=Below w.heap.size w w'∧∃ v,e = .returned v∧BeamAt w' w'.heap.size v (fD s)
theorem OJ (v:Value) (s:SetT) (w:World) (hv:SetAt w w.heap.size v s) (aK:bS s=true):Calls Tryz.prog 84 #[v] w (MH s w):=by
  have hk:=Zm aK
  have HX:=zh fun x (hx:x∈s.items)=>pI (hk.wts.2 x hx).2
  have bL:=hk.len
  have h40:=hk.wts.1
  have h2:0<s.lines.length:=(kr (oY aK)).sup1.1
  have vC:s.lines.length≤1000:=by
    have:=(kr (oY aK)).sup1
    exact yH this.2 (by decide)
  clear hk aK
  obtain⟨Al,cl,Ai,ci,Ab,cb,rfl,hL,hI,-⟩:=hv
  have HL:=zh hL
  obtain⟨_,_,e,N9,Wu,QG⟩:=hI.open_
  injection e with e1 _ e2
  subst e1 e2
  have HI:=zh QG
  unfold maxLen at Wu
  clear hL hI QG
  unfold aL at *
  go_enter Tryz.func84,Tryz.ntmps84
  go_wp2_with (exact Go.WalkKit.wp_stop)
  have IZ:=(Blk.new w 26 (zA s Al cl Ai ci Ab cb)).alloc (.cells #[.string ⟨#[]⟩,.int .i64 0,.slice none 0 0,.slice none 0 0,.int .i64 0] 122)
  have jo:=Blk.new (w.alloc (.cells (zA s Al cl Ai ci Ab cb) 26)) 122 #[.string ⟨#[]⟩,.int .i64 0,.slice none 0 0,.slice none 0 0,.int .i64 0]
  rw[yZ] at jo
  have nC:=((yB _ w).alloc (yA _) (.cells (zA s Al cl Ai ci Ab cb) 26)).alloc (by simp) (.cells #[.string ⟨#[]⟩,.int .i64 0,.slice none 0 0,.slice none 0 0,.int .i64 0] 122)
  have jU:((w.alloc (.cells (zA s Al cl Ai ci Ab cb) 26)).alloc (.cells #[.string ⟨#[]⟩,.int .i64 0,.slice none 0 0,.slice none 0 0,.int .i64 0] 122)).heap.size=w.heap.size+1+1:=by simp
  generalize (w.alloc (.cells (zA s Al cl Ai ci Ab cb) 26)).alloc (.cells #[.string ⟨#[]⟩,.int .i64 0,.slice none 0 0,.slice none 0 0,.int .i64 0] 122)=W2 at *
  have kA:=zh IZ
  have eK:=zh jo
  have bK:=zh nC
  have gx:=zh jU
  clear IZ jo nC jU
  have y0:=kA.o.cell 0
  have y4:=kA.o.cell 4
  have y5:=kA.o.cell 5
  have y6:=kA.o.cell 6
  simp only[aP,aQ,aO] at y0 y4 y5 y6
  have u0:=YL y0
  have u4:=YL y4
  have u5:=YL y5
  have u6:=YL y6
  clear y0 y4 y5 y6
  refine ag 12 (fun jx=>if jx=4 then some gNl else if jx=7 then some (gO w.heap.size s.lines) else if jx=11 then some (qvR W2.heap.size) else none) (by kernel_rfl) (by kernel_rfl) ?_
  simp only[aU,aT,aW,aX]
  refine ae 4 (by kernel_rfl) (by rfl) (by decide) ?_
  simp only[aU,aT,aW,aX]
  repeat (go_big_quiet_step (fail))
  refine YH ?_
  refine br rfl rfl (fun w1 ao _=>qqi (T:=3) (fz:=(0,0)) (by go_simp)) ?_
  rintro _ ⟨g9,rfl⟩
  simp only[Act.put,aJ,aI,aH]
  refine ae 2 (by kernel_rfl) (by rfl) (by decide) ?_
  simp only[aU,aT,aW,aX]
  repeat (go_big_quiet_step (fail))
  refine YH ?_
  refine br rfl rfl ?_ ?_
  · intro w1 ao hk
    have hb:=bK.o.trans (ao.mono bK.o.size)
    exact PZ (s:=.tmp 9) (x:=.tmp 11) (g:=g9) (B:=w.heap.size) rfl (by go_simp) (by go_simp) (RowAt.mono (RowAt.below HL.o hb (yA _)) hb.size) (by omega) (by omega) hb.size
  rintro _ ⟨A2,c2,rfl⟩
  simp only[Act.put,aJ,aI,aH]
  refine ae 3 (by kernel_rfl) (by rfl) (by decide) ?_
  simp only[aU,aT,aW,aX]
  repeat (go_big_quiet_step (fail))
  refine YH ?_
  refine br rfl rfl (fun w1 ao _=>Jl ao.size (by go_simp)) ?_
  rintro _ ⟨G,rfl⟩
  simp only[Act.put,aJ,aI,aH]
  refine Zc ?_
  intro w8 aM hF
  have m6:w8.ownsRow w.heap.size 3 1 (.slice A2 s.lines.length c2) s.lines.length (s.lines.map (Value.int .i64)):=hF 12
  have h3:MJ W2.heap.size (.pointer (some ⟨G,0,none⟩)) w8:=hF 3
  obtain⟨_,e3,Wx,b3⟩:=h3
  injection e3 with e3
  injection e3 with e3
  injection e3 with e3 _ _
  subst e3
  rw[gx.o] at Wx
  have Yy:=zh (kA.o.below aM kA.o.lt)
  have Yx:=zh (eK.o.below aM eK.o.lt)
  have dP:=zh (bK.o.trans (aM.mono bK.o.size))
  have f0:=b3.frozen 0
  have f1:=b3.frozen 1
  have f2:=b3.frozen 2
  have f3:=b3.frozen 3
  have f4:=b3.frozen 4
  have c0:=b3.cell 0
  have c1:=b3.cell 1
  have cc2:=b3.cell 2
  have c3:=b3.cell 3
  have c4:=b3.cell 4
  simp only[aP,aQ,aO] at c0 c1 cc2 c3 c4
  have h5:=((((b3.set_ 0 (.string s.name)).set_ 1 (.int .i64 s.len)).set_ 2 (.slice A2 s.lines.length c2)).set_ 3 (.slice none 0 0)).set_ 4 (.int .i64 s.pipe)
  have NG:=lx w8 G (.string s.name) (.int .i64 s.len) (.slice A2 s.lines.length c2) (.slice none 0 0) (.int .i64 s.pipe)
  have hBo:Y0 (BoS w (((((w8.setCell ⟨G,0,none⟩ (.string s.name)).setCell ⟨G,1,none⟩ (.int .i64 s.len)).setCell ⟨G,2,none⟩ (.slice A2 s.lines.length c2)).setCell ⟨G,3,none⟩ (.slice none 0 0)).setCell ⟨G,4,none⟩ (.int .i64 s.pipe)) (zA s Al cl Ai ci Ab cb) s G (.slice A2 s.lines.length c2) (.slice none 0 0) []):=by
    refine⟨Yy.o.kept NG (by simp; omega),Yx.o.kept NG (by simp; omega),h5,m6.kept NG (Zj m6 fun r e c f hh=>?_),yJ _ _ _ _,dP.o.grown NG dP.o.size (fun k e=>by simp at e; omega),by omega⟩
    obtain rfl:G=r:=by simpa using e
    have hb:=b3
    unfold Blk at hb
    rw[hb] at hh
    injection hh with hh
    injection hh with _ hh _
    exact absurd hh (by decide)
  clear m6 h5 NG b3 Wx dP Yy Yx hF aM u0 u4 u5 u6 kA eK bK gx
  have fc:=hBo.o.d0.cell 11
  simp only[aP,aQ,aO] at fc
  go_wp2_with (exact Go.WalkKit.wp_stop)
  clear f0 f1 f2 f3 f4 c0 c1 cc2 c3 c4
  generalize (((((w8.setCell ⟨G,0,none⟩ (.string s.name)).setCell ⟨G,1,none⟩ (.int .i64 s.len)).setCell ⟨G,2,none⟩ (.slice A2 s.lines.length c2)).setCell ⟨G,3,none⟩ (.slice none 0 0)).setCell ⟨G,4,none⟩ (.int .i64 s.pipe))=W9 at *
  have uT:=fun (x:ItemT) (h:0≤x.pos∧x.pos≤1048576∧1≤x.width∧x.width≤1048576) W=>Gn x W h
  have qjg:=zh uT
  clear uT
  go_loopw [4] (fun ix wr=>∃ k:Nat,k≤s.items.length∧ix = .int .i64 k∧Y0 (∃ v3,BoS w wr (zA s Al cl Ai ci Ab cb) s G (.slice A2 s.lines.length c2) v3 ((s.items.map dm).take k))) (fun ix _=>s.items.length-(intOf ix).toNat)
  case atStart=>exact⟨0,yI _,rfl,⟨_,hBo.o⟩⟩
  clear hBo fc
  obtain⟨k,hk,rfl,Oc⟩:=hrel
  obtain⟨v3,hT⟩:=Oc.o
  have HT:=zh hT
  clear hT Oc
  have k0:(0:Int)≤(k:Int):=yE _
  by_cases aB:k<s.items.length
  · have k1:(k:Int)<(s.items.length:Int):=by omega
    obtain⟨b1,ct,rfl,ao,hc⟩:=HI.o k aB
    have av:=HT.o.bel
    have y0:=(hc k aB).1
    have y1:=(hc k aB).2.1
    have y2:=(hc k aB).2.2.1
    have y3:=(hc k aB).2.2.2.1
    have y4:=(hc k aB).2.2.2.2.1
    have y5:=(hc k aB).2.2.2.2.2.1
    have y6:=(hc k aB).2.2.2.2.2.2
    have hx:=HX.o _ (yV aB)
    have HY:Y0 ((s.items.map dm).take (k+1)=(s.items.map dm).take k++[dm s.items[k]]):=by
      unfold Y0
      rw[aC _ k (by simpa using aB)]
      simp
    have VW:((s.items.map dm).take k).length≤1000:=by
      rw[YA,yP]
      omega
    have HLn:Y0 (((s.items.map dm).take k).length=k):=by
      unfold Y0
      rw[YA,yP]
      omega
    have uT:=qjg.o s.items[k] (by omega)
    generalize s.items[k]=x at *
    obtain⟨nm,pos,width,wt,hang,front,back⟩:=x
    simp only at y0 y1 y2 y3 y4 y5 y6 uT
    have hml:dm ⟨nm,pos,width,wt,hang,front,back⟩=⟨EG ⟨nm,pos,width,wt,hang,front,back⟩,wt⟩:=rfl
    rw[hml] at HY
    clear hml
    generalize EG ⟨nm,pos,width,wt,hang,front,back⟩=mid at *
    obtain⟨A3,k3,hv3⟩:=bD HT.o.o3
    rw[HLn.o] at hv3
    generalize hys:(s.items.map dm).take k=ys at *
    have T0:BoS w wr.drew (zA s Al cl (some ⟨b1,ct,none⟩) ci Ab cb) s G (.slice A2 s.lines.length c2) v3 ys:=HT.o.below ((yB _ _).drew)
    have T1:=T0.below ((yB _ _).alloc (yA _) (.cells #[.string nm,.int .i64 pos,.int .i64 width,.int .i64 wt,.int .i64 hang,.int .i64 front,.int .i64 back] 118))
    have T2:=T1.below ((yB _ _).alloc (yA _) (.cells #[.int .i64 mid,.int .i64 wt] 162))
    obtain⟨w2,LH⟩:∃ w2,(wr.drew.alloc (.cells #[.string nm,.int .i64 pos,.int .i64 width,.int .i64 wt,.int .i64 hang,.int .i64 front,.int .i64 back] 118)).alloc (.cells #[.int .i64 mid,.int .i64 wt] 162)=w2:=⟨_,rfl⟩
    have hN:Blk w2 (wr.heap.size+1) 162 #[.int .i64 mid,.int .i64 wt]:=by
      have h:=Blk.new (wr.drew.alloc (.cells #[.string nm,.int .i64 pos,.int .i64 width,.int .i64 wt,.int .i64 hang,.int .i64 front,.int .i64 back] 118)) 162 #[.int .i64 mid,.int .i64 wt]
      rw[yZ,LH] at h
      exact h
    rw[LH] at T2
    obtain⟨i0,il,gu,iC,iN⟩:=info_parts mP
    have az:w2.ownsRow w.heap.size 162 2 v3 k (ys.flatMap LoadT.cells):=by have h:=T2.o3; rw[HLn.o] at h; exact h
    obtain⟨g3,bF,wz,fh,sP,m5,-,-⟩ := run_append_lies (P := Tryz.prog) (w := w2) 120 120 w.heap.size 162 i0 _ 2 16 Tryz.underlying120 il gu iC iN rfl (by decide)
      v3 k (ys.flatMap LoadT.cells) az ⟨wr.heap.size+1,0,none⟩ 1 1 [.int .i64 mid,.int .i64 wt] rfl
      (fun j u hu=>by rw[Addr.add_lit,yR]; exact (hN.cell j).trans (by simpa using hu)) (fun u hu=>by simp at hu; rcases hu with rfl | rfl <;> rfl) (by omega) (by unfold maxLen; omega) (by omega) T2.bel.size _ rfl
    have T4:=T2.push (v':=.slice (some ⟨g3,0,none⟩) (k+1) bF) (w1:=wz) (y:=⟨mid,wt⟩) (by rw[HLn.o]; exact sP) m5
    have hZ2:=T4.1
    have hbZ:Below w.heap.size w wz:=T2.bel.grown m5 T2.bel.size (fun k e=>(az.lt k e).1)
    have hZ0:=T2.d0.kept m5 (T2.d0.ne_own az (by decide))
    rw[hv3] at fh T0 T1 T2 hZ2
    obtain⟨Wd,qP,gT,kt,ng,hW4⟩:∃ Wd:Nat→World,Wd 0=wr.drew∧Wd 1=wr.drew.alloc (.cells #[.string nm,.int .i64 pos,.int .i64 width,.int .i64 wt,.int .i64 hang,.int .i64 front,.int .i64 back] 118)∧Wd 2=w2∧Wd 3=wz∧Wd 4=wz.setCell ⟨G,3,none⟩ (.slice (some ⟨g3,0,none⟩) (k+1) bF) :=
      ⟨fun m=>if m=0 then wr.drew else if m=1 then wr.drew.alloc (.cells #[.string nm,.int .i64 pos,.int .i64 width,.int .i64 wt,.int .i64 hang,.int .i64 front,.int .i64 back] 118) else if m=2 then w2 else if m=3 then wz else wz.setCell ⟨G,3,none⟩ (.slice (some ⟨g3,0,none⟩) (k+1) bF),rfl,rfl,rfl,rfl,rfl⟩
    have LV:∀ m,m≤4→Below w.heap.size w (Wd m)∧Blk (Wd m) w.heap.size 26 (zA s Al cl (some ⟨b1,ct,none⟩) ci Ab cb):=fun m hm=>by
      rcases m with _ | _ | _ | _ | _ | m
      · rw[qP]; exact⟨T0.bel,T0.d0⟩
      · rw[gT]; exact⟨T1.bel,T1.d0⟩
      · rw[kt]; exact⟨T2.bel,T2.d0⟩
      · rw[ng]; exact⟨hbZ,hZ0⟩
      · rw[hW4]; exact⟨T4.2.bel,T4.2.d0⟩
      omega
    have tN:∀ m,m≤4→(Wd m).cell? ⟨w.heap.size,11,none⟩=some (.slice (some ⟨b1,ct,none⟩) s.items.length ci):=fun m hm=>((LV m hm).2.cell 11).trans rfl
    have x0:∀ m,m≤4→(Wd m).cell? ⟨b1,ct+k*7,none⟩=some (.string nm):=fun m hm=>((LV m hm).1.cell (p:=⟨b1,ct+k*7,none⟩) ao).trans y0
    have x1:∀ m,m≤4→(Wd m).cell? ⟨b1,ct+k*7+1,none⟩=some (.int .i64 pos):=fun m hm=>((LV m hm).1.cell (p:=⟨b1,ct+k*7+1,none⟩) ao).trans y1
    have x2:∀ m,m≤4→(Wd m).cell? ⟨b1,ct+k*7+2,none⟩=some (.int .i64 width):=fun m hm=>((LV m hm).1.cell (p:=⟨b1,ct+k*7+2,none⟩) ao).trans y2
    have x3:∀ m,m≤4→(Wd m).cell? ⟨b1,ct+k*7+3,none⟩=some (.int .i64 wt):=fun m hm=>((LV m hm).1.cell (p:=⟨b1,ct+k*7+3,none⟩) ao).trans y3
    have x4:∀ m,m≤4→(Wd m).cell? ⟨b1,ct+k*7+4,none⟩=some (.int .i64 hang):=fun m hm=>((LV m hm).1.cell (p:=⟨b1,ct+k*7+4,none⟩) ao).trans y4
    have x5:∀ m,m≤4→(Wd m).cell? ⟨b1,ct+k*7+5,none⟩=some (.int .i64 front):=fun m hm=>((LV m hm).1.cell (p:=⟨b1,ct+k*7+5,none⟩) ao).trans y5
    have x6:∀ m,m≤4→(Wd m).cell? ⟨b1,ct+k*7+6,none⟩=some (.int .i64 back):=fun m hm=>((LV m hm).1.cell (p:=⟨b1,ct+k*7+6,none⟩) ao).trans y6
    have d3:∀ m,m≤2→(Wd m).cell? ⟨G,3,none⟩=some (.slice A3 k k3):=fun m hm=>by
      rcases m with _ | _ | _ | m
      · rw[qP]; exact (T0.d2.cell 3).trans rfl
      · rw[gT]; exact (T1.d2.cell 3).trans rfl
      · rw[kt]; exact (T2.d2.cell 3).trans rfl
      omega
    have Px:wz.cell? ⟨G,3,none⟩=some (.slice A3 k k3):=(hZ2.cell 3).trans rfl
    have JZ:=hZ2.frozen 3
    have W0:=zh qP
    have W4:=zh hW4
    have tR:=zh T4.2
    have H2:=zh LH
    have HO0:=zh HT.o.d0
    have fc:=HT.o.d0.cell 11
    simp only[aP,aQ,aO] at fc
    clear T0 T1 T2 T4 LV hZ0 hZ2 hbZ sP m5 hN il gu iC iN az HT LH hys hv3 hc av hx
    go_upto_region 5 with fail
    clear fc
    refine cX [.pointer (some ⟨G,3,none⟩),.slice A3 k k3,.pointer (some ⟨w.heap.size,11,none⟩),.slice (some ⟨b1,ct,none⟩) s.items.length ci,.int .i64 k,.pointer (some ⟨b1,ct+k*7,none⟩),.agg #[.string nm,.int .i64 pos,.int .i64 width,.int .i64 wt,.int .i64 hang,.int .i64 front,.int .i64 back],.int .i64 mid,
      .pointer (some ⟨w.heap.size,11,none⟩),.slice (some ⟨b1,ct,none⟩) s.items.length ci,.int .i64 k,.pointer (some ⟨b1,ct+k*7,none⟩),.pointer (some ⟨b1,ct+k*7+3,none⟩),.int .i64 wt,.agg #[.int .i64 mid,.int .i64 wt],.slice (some ⟨wr.heap.size+1,0,none⟩) 1 1,.slice (some ⟨g3,0,none⟩) (k+1) bF,.pointer (some ⟨G,3,none⟩),undef] Wd [7,15,16,18] (by kernel_rfl) (by kernel_rfl) (by kernel_rfl) (by decide) (by rfl) W0.o ?_ ?_
    · simp only[cj,Act.put,aJ,aI,aH]
      simp only[fY]
      refine⟨?_,?_,?_,?_,?_,?_,?_,?_,?_,?_,?_,?_,?_,?_,?_,?_,?_,?_,?_,trivial⟩
      · exact .inl ⟨by decide,fun m hm aK=>by go_simp⟩
      · exact .inl ⟨by decide,fun m hm aK=>by
          have Bj:m≤2:=by
            rcases m with _ | _ | _ | _ | _ | m
            · omega
            · omega
            · omega
            · exact absurd (Eq.trans (a:=false) (by kernel_rfl) aK) Bool.false_ne_true
            · exact absurd (Eq.trans (a:=false) (by kernel_rfl) aK) Bool.false_ne_true
            exact absurd hm (by show ¬ m+5≤4; omega)
          have h:=d3 m Bj
          go_simp⟩
      · exact .inl ⟨by decide,fun m hm aK=>by go_simp⟩
      · exact .inl ⟨by decide,fun m hm aK=>by have h:=tN m hm; go_simp⟩
      · exact .inl ⟨by decide,fun m hm aK=>by go_simp⟩
      · exact .inl ⟨by decide,fun m hm aK=>by go_simp⟩
      · exact .inl ⟨by decide,fun m hm aK=>by have h0:=x0 m hm; have h1:=x1 m hm; have h2:=x2 m hm; have h3:=x3 m hm; have h4:=x4 m hm; have h5:=x5 m hm; have h6:=x6 m hm; go_simp⟩
      · exact .inr ⟨0,rfl,.inr (.inr ⟨127,#[.agg #[.string nm,.int .i64 pos,.int .i64 width,.int .i64 wt,.int .i64 hang,.int .i64 front,.int .i64 back]],by rw[W0.o]; go_simp,(uT (Wd 0)).mono fun e w' hp=>⟨hp.1,by rw[← hp.2,W0.o]; exact gT.symm⟩⟩)⟩
      · exact .inl ⟨by decide,fun m hm aK=>by go_simp⟩
      · exact .inl ⟨by decide,fun m hm aK=>by have h:=tN m hm; go_simp⟩
      · exact .inl ⟨by decide,fun m hm aK=>by go_simp⟩
      · exact .inl ⟨by decide,fun m hm aK=>by go_simp⟩
      · exact .inl ⟨by decide,fun m hm aK=>by go_simp⟩
      · exact .inl ⟨by decide,fun m hm aK=>by have h:=x3 m hm; go_simp⟩
      · exact .inl ⟨by decide,fun m hm aK=>by go_simp⟩
      · exact .inr ⟨1,rfl,.inr (.inl (by rw[gT,kt,← H2.o]; go_simp))⟩
      · exact .inr ⟨2,rfl,.inr (.inl (by rw[kt,ng]; exact dA rfl (by go_simp) (by go_simp) fh))⟩
      · exact .inl ⟨by decide,fun m hm aK=>by go_simp⟩
      exact .inr ⟨3,rfl,.inl ⟨rfl,by rw[ng,W4.o]; go_simp⟩⟩
    simp only[cj,Act.put,aJ,aI,aH]
    have eW:Wd (List.length [7,15,16,18])=wz.setCell ⟨G,3,none⟩ (.slice (some ⟨g3,0,none⟩) (k+1) bF):=W4.o
    rw[eW]
    clear eW W4 W0 gT kt ng tN x0 x1 x2 x3 x4 x5 x6 d3 Px JZ fh H2 HO0 uT
    generalize wz.setCell ⟨G,3,none⟩ (.slice (some ⟨g3,0,none⟩) (k+1) bF)=W9 at *
    go_wp2_with fail
    go_roundw
    case rel=>exact⟨k+1,by omega,by go_num,⟨_,by rw[HY.o]; exact tR.o⟩⟩
    simp[intOf]; omega
  obtain rfl:k=s.items.length:=by omega
  have hT:=HT.o
  rw[List.take_of_length_le (by simp)] at hT
  obtain⟨A3,c3,rfl⟩:=bD hT.o3
  have y0:=hT.d2.cell 0
  have y1:=hT.d2.cell 1
  have y2:=hT.d2.cell 2
  have y3:=hT.d2.cell 3
  have y4:=hT.d2.cell 4
  have lQ:=hT.d0.cell 11
  simp only[aP,aQ,aO] at lQ
  have z0:=hT.d1.cell 0
  have z1:=hT.d1.cell 1
  have z2:=hT.d1.cell 2
  have z3:=hT.d1.cell 3
  have z4:=hT.d1.cell 4
  have f0:=hT.d1.frozen 0
  have f1:=hT.d1.frozen 1
  have f2:=hT.d1.frozen 2
  have f3:=hT.d1.frozen 3
  have f4:=hT.d1.frozen 4
  simp only[aP,aQ,aO] at y0 y1 y2 y3 y4 z0 z1 z2 z3 z4
  have HT:=zh hT
  clear hT
  have hD9:Blk (((((wr.setCell ⟨w.heap.size+1,0,none⟩ (.string s.name)).setCell ⟨w.heap.size+1,1,none⟩ (.int .i64 s.len)).setCell ⟨w.heap.size+1,2,none⟩ (.slice A2 s.lines.length c2)).setCell ⟨w.heap.size+1,3,none⟩ (.slice A3 (s.items.map dm).length c3)).setCell ⟨w.heap.size+1,4,none⟩ (.int .i64 s.pipe)) (w.heap.size+1) 122 #[.string s.name,.int .i64 s.len,.slice A2 s.lines.length c2,.slice A3 (s.items.map dm).length c3,.int .i64 s.pipe]:=((((HT.o.d1.set_ 0 (.string s.name)).set_ 1 (.int .i64 s.len)).set_ 2 (.slice A2 s.lines.length c2)).set_ 3 (.slice A3 (s.items.map dm).length c3)).set_ 4 (.int .i64 s.pipe)
  have jf:=lx wr (w.heap.size+1) (.string s.name) (.int .i64 s.len) (.slice A2 s.lines.length c2) (.slice A3 (s.items.map dm).length c3) (.int .i64 s.pipe)
  have uZ := HT.o.bel.grown jf HT.o.bel.size (fun k e=>by
   obtain rfl:w.heap.size + 1=k := by simpa using e
   omega)
  have EJ:=HT.o.o2.kept jf (Zj HT.o.o2 fun r e c f hh=>by
    obtain rfl:w.heap.size+1=r:=by simpa using e
    have h:=HT.o.d1
    unfold Blk at h
    rw[h] at hh
    injection hh with hh
    injection hh with _ hh _
    exact absurd hh (by decide))
  have Du:=HT.o.o3.kept jf (Zj HT.o.o3 fun r e c f hh=>by
    obtain rfl:w.heap.size+1=r:=by simpa using e
    have h:=HT.o.d1
    unfold Blk at h
    rw[h] at hh
    injection hh with hh
    injection hh with _ hh _
    exact absurd hh (by decide))
  have Fx:=zh EJ
  have Ec:=zh Du
  have lJ:=zh uZ
  have vN:=zh hD9
  clear EJ Du uZ hD9 jf
  have p0:=vN.o.cell 0
  have p1:=vN.o.cell 1
  have p2:=vN.o.cell 2
  have p3:=vN.o.cell 3
  have p4:=vN.o.cell 4
  simp only[aP,aQ,aO] at p0 p1 p2 p3 p4
  rw[yP] at *
  go_wp2_with fail
  refine YI (v:=.agg #[.string s.name,.int .i64 s.len,.slice A2 s.lines.length c2,.slice A3 s.items.length c3,.int .i64 s.pipe]) (by simp[results,Tryz.results84,go_sem,p0,p1,p2,p3,p4]) rfl ?_
  exact⟨lJ.o,_,rfl,A2,c2,A3,c3,by simp[fD],RowAt.of_own Fx.o,by
    have h:=Flat.of_own Ec.o
    unfold LoadsAt
    simpa[fD] using h⟩
theorem FracsPost.one {l:List Rat} {w w':World} {e:Ending} (h:FracsPost l w e w'):∃ A n c e1,e = .returned (.tuple #[.slice A n c,.int .i64 e1])∧Below w.heap.size w w'∧((iU l=true∧e1=0∧FrsAt w' w'.heap.size (.slice A n c) (l.map B5))∨(iU l=false∧e1=5∧A=none∧n=0∧c=0)):=by
 obtain⟨hb,⟨h1,v,rfl,h2⟩ | ⟨h1,rfl⟩⟩:=h
 ·have h3:FrsAt w' w'.heap.size v (l.map B5):=by
   have:=Flat.of_own h2
   unfold FrsAt
   rw[yP]
   exact this
  have h4:=h3
  obtain⟨A,c,rfl,-⟩:=h4
  exact⟨A,_,c,0,rfl,hb,.inl ⟨h1,rfl,h3⟩⟩
 exact⟨none,0,0,5,rfl,hb,.inr ⟨h1,rfl,rfl,rfl,rfl⟩⟩
theorem wn (v:Value) (s:SetT) (w:World) (hv:SetAt w w.heap.size v s) (hn:SetNames s) (aK:bS s=true):Calls Tryz.prog 42 #[v] w (DX s w):=by
 have Wk:=oY aK
 have hb:=kr Wk
 have hti:cJ (fD s)=true:=Gb (MQ aK).1
 have HT:=zh (fun (u:Value) (w1:World) (h:BeamAt w1 w1.heap.size u (fD s))=>R0 u (fD s) w1 h hb)
 have HBm:=zh (fun W (h:Below w.heap.size w W)=>OJ v s W ((hv.below h (yA _)).mono h.size) aK)
 have HGi:=zh (fun u W h=>ZN u (fD s) W h hn.name (fun _=>HT.o))
 have Hb:=zh hb
 have Yj:=zh hti
 have HG0:Y0 (qR (fD s)=0):=by
  unfold Y0 qR
  rw[if_neg (by rw[Wk];decide),if_neg (by rw[hti];decide)]
 have Zt:=zh aK
 have qjA:=hb.sup1.2
 have HL:Y0 ((ef (fD s)).length≤100):=by
  unfold Y0 ef
  simp
  omega
 obtain⟨Al,cl,Ai,ci,Ab,cb,rfl,-,-,-⟩:=hv
 unfold aL at *
 have eK:=zh (Blk.new w 26 (zA s Al cl Ai ci Ab cb))
 have bZ:=zh ((yB _ w).alloc (yA _) (.cells (zA s Al cl Ai ci Ab cb) 26))
 clear Wk hb hti hn aK qjA
 go_enter Tryz.func42,Tryz.ntmps42
 go_upto_region 1 with fail
 generalize w.alloc (.cells (zA s Al cl Ai ci Ab cb) 26)=W1 at *
 obtain⟨z0,z1,z2,z3,z4,z5,z6,z7,z8,z9,jg,fc,gU⟩:=eK.o.c13
 go_wp2_with fail
 refine (HBm.o W1 bZ.o).mono ?_
 rintro e w2 ⟨bE,v2,rfl,hV2⟩
 have hV3:=hV2
 obtain⟨As,cs,A3,c3,rfl,-⟩:=hV3
 have bK:=zh (bZ.o.trans (bE.mono bZ.o.size))
 have iP:Below w2.heap.size w2 (w2.alloc (.cells (zC (fD s) As cs A3 c3) 122)):=(yB _ _).alloc (yA _) _
 have QP:=zh (hV2.grow iP)
 have bY:=zh (bK.o.trans (iP.mono bK.o.size))
 have iD:=zh (Blk.new w2 122 (zC (fD s) As cs A3 c3))
 clear bE hV2 iP HBm bZ eK bK z0 z1 z2 z3 z4 z5 z6 z7 z8 z9 jg fc gU
 generalize ip:fD s=b at *
 have Hbs:=zh ip
 clear ip
 go_upto_region 2 with fail
 generalize w2.alloc (.cells (zC b As cs A3 c3) 122)=W3 at *
 obtain⟨y0,y1,y2,y3,y4⟩:=iD.o.c5
 go_wp2_with fail
 refine (HGi.o _ W3 QP.o).mono ?_
 rintro e w4 ⟨rfl,cD⟩
 rw[HG0.o]
 have HV4:=zh (QP.o.grow cD)
 have dU:=zh (bY.o.trans (cD.mono bY.o.size))
 have P9:=iD.o.below cD iD.o.lt
 clear y0 y1 y2 y3 y4
 obtain⟨y0,y1,y2,y3,y4⟩:=P9.c5
 clear cD P9 QP bY iD HGi HG0
 go_wp2_with fail
 refine (Gl _ b w4 HV4.o Hb.o Yj.o HT.o).mono ?_
 rintro e w5 ⟨bg,v5,rfl,Ma⟩
 have qkV:=Ma
 obtain⟨A5,c5,e5,-⟩:=qkV
 have Yw:=zh Ma
 rw[e5] at Yw ⊢
 have cN:=zh (dU.o.trans (bg.mono dU.o.size))
 clear bg Ma e5 y0 y1 y2 y3 y4 dU HV4
 go_wp2_with fail
 refine (qqK _ (ef b) 280000 w5 Yw.o (by decide) HL.o).mono ?_
 rintro e w6 hF6
 obtain⟨A6,n6,c6,e6,rfl,iq,hf6⟩:=hF6.one
 have HF6:=zh hf6
 have lK:=zh (cN.o.trans (iq.mono cN.o.size))
 clear iq hf6 hF6 cN Yw
 have HEr:Y0 (Zs s=if iU (ef b) then 0 else 5):=by
  unfold Y0 Zs
  rw[if_pos Zt.o,Hbs.o]
 have HLl:Y0 (oA s=(ef b).map B5):=by
  unfold Y0 oA
  rw[Hbs.o]
 go_wp2_with fail
 refine YI (results_tmp2 rfl _ _ _) (by rfl) ?_
 refine⟨lK.o,?_⟩
 rcases HF6.o with⟨h1,rfl,h3⟩ | ⟨h1,rfl,rfl,rfl,rfl⟩
 ·exact .inl ⟨by rw[HEr.o,h1];rfl,_,rfl,by rw[HLl.o];exact h3⟩
 exact .inr ⟨by rw[HEr.o,h1];decide,by rw[HEr.o,h1];rfl⟩
end Go.Proofs.YtfhmbechennkbaaGreatDoor
