/- Lemmas. -/
import Derived.Test.YtknkhnahflmjiaaGreatDoorU2
namespace Go.Proofs.YtknkhnahflmjiaaGreatDoor
structure SetOk (s:SetT):Prop where
 len:1000≤s.len∧s.len≤1048576
 pipe:0≤s.pipe∧s.pipe≤1048576
 arbor:0≤s.arbor∧s.arbor≤1048576
 purch:1≤s.purch∧s.purch≤2
 most:1≤s.most∧s.most≤67108864
 brake:0≤s.brake∧s.brake≤67108864
 depth:0≤s.depth∧s.depth≤1048576
 low:0≤s.low∧s.low≤s.high∧s.high≤1048576
 lines:fH s.lines s.len=true
 items:eR s.items s.len=true
 bricks:dL s.bricks=true
theorem Zm {s:SetT} (h:cA s=true):SetOk s:=by
 unfold cA at h;simp only[Bool.and_eq_true,decide_eq_true_eq] at h;obtain⟨-,h1,h2,h3,h4,h5,-,h7,h8,h9,Bg,J6,tK,Df,My⟩:=h;exact⟨Zh h5,Zh h8,Zh h9,Zh Bg,Zh J6,Zh tK,Zh h1,⟨h2,h3,h4⟩,h7,Df,My⟩
theorem SetOk.wts {s:SetT} (h:SetOk s):s.items.length≤40∧∀x∈s.items,fW x=true∧d9 x s.len=true:=by
 have h1:=h.items;unfold eR at h1;simp only[Bool.and_eq_true,decide_eq_true_eq] at h1;refine⟨h1.1,fun x hx=>?_⟩;obtain⟨i,hi,rfl⟩:=List.getElem_of_mem hx;have h2:=h1.2.2;unfold sh at h2;rw[yP] at h2;have h3:=h2 i hi;rw[lz hi] at h3;simp only[Bool.and_eq_true] at h3;exact⟨h3.1,h3.2.1⟩
