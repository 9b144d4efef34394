/- Arrays of constants, and their elements; closed regions with two operations told by hand. -/
import Derived.Test.YtalfgfpgenlokaaVamAN
namespace Go.Vam
open Go Go.RowKit
set_option linter.unusedSimpArgs false
set_option linter.unusedVariables false

section
variable {P : Program} {τ : TypeId → TK} {Φ : Orc} {N : Lim}

theorem VW.mid2 (hτ : TyOk P τ) (hΦ : Sound P Φ) (ds : List (Option Nat)) (k m : Nat) (f1 F1 f2 F2 f3 : FL) {id : Nat} {l : List Oper} {y : Code} {fl : FL} {Q : Exit → Frm → Prop}
  (o o2 : Oper) (hds : l.map (·.dst) = ds) (ho : l[k]? = some o) (hg : o.guard = none) (ho2 : (l.drop (k + 1))[m]? = some o2) (hg2 : o2.guard = none)
  (h1 : AfterL (runL τ Φ N ds (l.take k) fl) fun f => pickL (f1.map (·.1)) f = f1)
  (hs : OStep P N o (mk f1) (fun _ : Unit => mk F1) (fun _ => True))
  (h2 : AfterL (runL τ Φ N ds ((l.drop (k + 1)).take m) F1) fun f => pickL (f2.map (·.1)) f = f2)
  (hs2 : OStep P N o2 (mk f2) (fun _ : Unit => mk F2) (fun _ => True))
  (h3 : AfterL (runL τ Φ N ds ((l.drop (k + 1)).drop (m + 1)) F2) fun f => pickL (f3.map (·.1)) f = f3)
  (h4 : VW P N y (mk f3) Q) : VW P N (.seq (.region id l.toArray false) y) (mk fl) Q := by
 subst hds
 refine VW.seq ?_
 intro R B w0 O a w hst
 have el : l.take k ++ o :: ((l.drop (k + 1)).take m ++ o2 :: (l.drop (k + 1)).drop (m + 1)) = l := by
  obtain ⟨hk2,e2⟩ := List.getElem?_eq_some_iff.1 ho2
  have : (l.drop (k + 1)).take m ++ o2 :: (l.drop (k + 1)).drop (m + 1) = l.drop (k + 1) := by
   rw [← e2,← List.drop_eq_getElem_cons hk2,List.take_append_drop]
  rw [this]
  obtain ⟨hk,e⟩ := List.getElem?_eq_some_iff.1 ho
  rw [← e,← List.drop_eq_getElem_cons hk,List.take_append_drop]
 refine wp_region_lit ?_
 have : wpList P l.toArray (fun e a' w' => ∃ O' σ',St R B w0 N O' σ' a' w' ∧ Nx (fun σ' => VW P N y σ' Q) Q e σ') (l.take k ++ o :: ((l.drop (k + 1)).take m ++ o2 :: (l.drop (k + 1)).drop (m + 1))) a w := by
  cases hv : runL τ Φ N (l.map (·.dst)) (l.take k) fl with
  | none => rw [hv] at h1; exact h1.elim
  | some f1' =>
   rw [hv] at h1
   refine vrun_pre hτ hΦ (l.take k) _ hst (runL_ok (l0 := l) (l.take k) fl f1' hv) fun O1 a1 w1 hst1 => ?_
   have hst2 := st_pick hst1 h1
   refine wpList_step fun K hK => ?_
   have hw : Region.wanted o (yielded l.toArray a1.tmps) = true := by simp [Region.wanted,hg]
   rw [if_pos hw]
   refine hs R B w0 O1 a1 w1 K _ hst2 fun i O2 a2 w2 hA hst3 => hK a2 w2 ?_
   cases hv2 : runL τ Φ N (l.map (·.dst)) ((l.drop (k + 1)).take m) F1 with
   | none => rw [hv2] at h2; exact h2.elim
   | some f2' =>
    rw [hv2] at h2
    refine vrun_pre hτ hΦ ((l.drop (k + 1)).take m) _ hst3 (runL_ok (l0 := l) ((l.drop (k + 1)).take m) F1 f2' hv2) fun O3 a3 w3 hst4 => ?_
    have hst5 := st_pick hst4 h2
    refine wpList_step fun K2 hK2 => ?_
    have hw2 : Region.wanted o2 (yielded l.toArray a3.tmps) = true := by simp [Region.wanted,hg2]
    rw [if_pos hw2]
    refine hs2 R B w0 O3 a3 w3 K2 _ hst5 fun i O4 a4 w4 hA hst6 => hK2 a4 w4 ?_
    cases hv3 : runL τ Φ N (l.map (·.dst)) ((l.drop (k + 1)).drop (m + 1)) F2 with
    | none => rw [hv3] at h3; exact h3.elim
    | some f3' =>
     rw [hv3] at h3
     refine vrun_sound hτ hΦ ((l.drop (k + 1)).drop (m + 1)) hst6 (runL_ok (l0 := l) ((l.drop (k + 1)).drop (m + 1)) F2 f3' hv3) fun O5 a5 w5 hst7 => ?_
     exact ⟨O5,mk f3,st_pick hst7 h3,h4⟩
 rwa [el] at this

end
end Go.Vam
