/- Parts of the proof, laid into one text: Tied, FurP, RefEarly. -/
import Derived.Test.YtfhmbechennkbaaGreatG8
namespace Go.Proofs.YtfhmbechennkbaaGreat
open Go.RowKit Go.Shelf
structure Tied (l:List Task) (s r:List Int) (y:List Nat):Prop where
 len:s.length=l.length
 lenR:r.length=l.length
 nodup:y.Nodup
 lt:∀ i ∈ y,i<l.length
 on:∀ i ∈ y,atI s i=atI r i∧0≤atI r i
 off:∀ i,i<l.length→i ∉ y→atI s i = -1
theorem nodup_snocN' {y:List Nat} {i:Nat} (h:y.Nodup) (hi:i ∉ y):(y ++ [i]).Nodup :=
 List.nodup_append.2 ⟨h,by simp,fun a ha b hb => by rw [List.mem_singleton.1 hb];exact fun e => hi (e ▸ ha)⟩
theorem Tied.snoc {l:List Task} {s r:List Int} {y:List Nat} {i:Nat} {t:Int} (h:Tied l s r y) (hi:i<l.length) (hy:i ∉ y) (ht:0≤t):Tied l (s.set i t) (r.set i t) (y ++ [i]):=by
 have h1:=h.len
 have h2:=h.lenR
 refine ⟨by rw [List.length_set];exact h.len,by rw [List.length_set];exact h.lenR,nodup_snocN' h.nodup hy,fun j hj => ?_,fun j hj => ?_,fun j hj hjy => ?_⟩
 ·rcases List.mem_append.1 hj with hj | hj
  ·exact h.lt j hj
  ·rw [List.mem_singleton.1 hj];exact hi
 ·by_cases e:i=j
  ·subst e
   rw [atI_set_self (by omega),atI_set_self (by omega)]
   exact ⟨rfl,ht⟩
  ·rw [atI_set_ne e,atI_set_ne e]
   rcases List.mem_append.1 hj with hj | hj
   ·exact h.on j hj
   ·exact absurd (List.mem_singleton.1 hj).symm e
 ·simp only [List.mem_append,List.mem_singleton,not_or] at hjy
  rw [atI_set_ne (fun e => hjy.2 e.symm)]
  exact h.off j hj hjy.1
theorem rowAt_lt {l:List Task} (hR:RightT l) {i:Nat} (hi:i<l.length) {k:Int} (hk:k ∈ rowAt l i):k.toNat<l.length:=by
 have hrow:rowAt l i=pls l l[i].bef:=getD_rows hi
 rw [hrow] at hk
 obtain ⟨j,hj,rfl⟩:=mem_row hR hi hk
 simpa using hj
def readyB (l:List Task) (y:List Nat) (i:Nat):Bool:=(rowAt l i).all fun k => decide (k.toNat ∈ y)
theorem Tied.skip {l:List Task} {s r:List Int} {y:List Nat} (hR:RightT l) (h:Tied l s r y) {i:Nat} (hi:i<l.length):skipB l s i=(decide (i ∈ y) || !readyB l y i):=by
 have hon:∀ j,j<l.length→decide (0≤atI s j)=decide (j ∈ y):=fun j hj => by
  by_cases hm:j ∈ y
  ·rw [decide_eq_true hm,(h.on j hm).1,decide_eq_true (h.on j hm).2]
  ·rw [decide_eq_false hm,h.off j hj hm]
   rfl
 unfold skipB readyB
 rw [hon i hi]
 congr 1
 rw [Bool.eq_iff_iff,Bool.not_eq_true',List.any_eq_true,List.all_eq_false]
 constructor
 ·rintro ⟨k,hk,hu⟩
  refine ⟨k,hk,?_⟩
  rw [← hon _ (rowAt_lt hR hi hk)]
  unfold unB at hu
  simp only [decide_eq_true_eq] at hu ⊢
  omega
 ·rintro ⟨k,hk,hu⟩
  refine ⟨k,hk,?_⟩
  rw [← hon _ (rowAt_lt hR hi hk)] at hu
  unfold unB
  simp only [decide_eq_true_eq] at hu ⊢
  omega
structure RefSt (w:World) (B:Nat) (v u z:Value) (l:List Task) (r:List Int) (y:List Nat):Prop where
 tasks:TasksAt w B v l
 starts:IntsAt w B u r
 list:IntsAt w B z (ints y)
 len:r.length=l.length
 bd:∀ x ∈ r,0≤x∧x≤90000
 lt:∀ i ∈ y,i<l.length
 y8:y.length≤8
theorem RefSt.below {w w':World} {B:Nat} {v u z:Value} {l:List Task} {r:List Int} {y:List Nat} (h:RefSt w B v u z l r y) (hb:Below B w w'):RefSt w' B v u z l r y :=
 ⟨h.tasks.below hb (Nat.le_refl _),h.starts.below hb (Nat.le_refl _),h.list.below hb (Nat.le_refl _),h.len,h.bd,h.lt,h.y8⟩
theorem RefSt.mono {w:World} {B B':Nat} {v u z:Value} {l:List Task} {r:List Int} {y:List Nat} (h:RefSt w B v u z l r y) (hB:B≤B'):RefSt w B' v u z l r y :=
 ⟨h.tasks.mono hB,h.starts.mono hB,h.list.mono hB,h.len,h.bd,h.lt,h.y8⟩
theorem RefSt.at_ {w:World} {B:Nat} {v u z:Value} {l:List Task} {r:List Int} {y:List Nat} (h:RefSt w B v u z l r y) {i:Nat} (hi:i<l.length):0≤atI r i∧atI r i≤90000:=by
 have hl:=h.len
 rw [atI_get (by omega)]
 exact h.bd _ (List.getElem_mem _)
theorem RefSt.endBd {w:World} {B:Nat} {v u z:Value} {l:List Task} {r:List Int} {y:List Nat} (h:RefSt w B v u z l r y) (hR:RightT l) {i:Nat} (hi:i<l.length):0≤endN l r i∧endN l r i≤100000:=by
 have h1:=h.at_ hi
 have h2:=fieldB_len (hR.field i hi)
 unfold endN
 rw [lenAt_eq hi]
 omega
theorem RefSt.cellS {w:World} {B:Nat} {v u z:Value} {l:List Task} {r:List Int} {y:List Nat} (h:RefSt w B v u z l r y) {i:Nat} (hi:i<l.length) :
  ∃ b off cap,u = .slice (some ⟨b,off,none⟩) l.length cap∧b<B∧l.length≤cap∧cap≤9223372036854775807∧w.cell? ⟨b,off+i,none⟩=some (.int .i64 (atI r i)):=by
 have hl:=h.len
 obtain ⟨A,cap,rfl,h1,h2,h3⟩:=h.starts.open_
 unfold maxLen at h2
 obtain ⟨b,off,rfl,hb,hc⟩:=h3 i (by omega)
 exact ⟨b,off,cap,by rw [hl],hb,by omega,h2,by rw [atI_get (by omega)];exact hc i (by omega)⟩
end Go.Proofs.YtfhmbechennkbaaGreat
