import Derived.Test.YtijmfifejmgeaaaR9T
import Derived.Test.YtijmfifejmgeaaaFmG0
import Derived.Test.YtijmfifejmgeaaaR9GW1
import Derived.Test.YtijmfifejmgeaaaR9GW2
namespace Go.Vam
open Go Go.RowKit Go.Proofs
set_option maxRecDepth 100000
set_option linter.unusedSimpArgs false
set_option linter.unusedVariables false

theorem i_isIsometry_ok {a0_0 : Int} {a0_1 : List Int} {a1_0 : Int} {a1_1 : List Int} {a2 : List (List Int)} {r : Bool} (h : i_isIsometry a0_0 a0_1 a1_0 a1_1 a2 = some r) :
  VCall Try.prog 157 [.agg [i64 a0_0,dI a0_1],.agg [i64 a1_0,dI a1_1],dM a2] [.sc (.bool r)] := by
 unfold i_isIsometry at h
 refine VCall.enter Try.call157 Try.func157 rfl 87 Try.ntmps157 (by simp) [.tmp 6] rfl ?_
 show VW _ _ _ (mk [(0,.val (.agg [i64 a0_0,dI a0_1])),(1,.val (.agg [i64 a1_0,dI a1_1])),(2,.val (dM a2))]) _
 refine zs [(2,.val (dM a2)),(3,.val (.ptr [i64 a0_0,dI a0_1])),(4,.val (.ptr [i64 a1_0,dI a1_1]))] ?_ ?_
 ·simp
 refine VW.sqc fun K1 hK1 hCK1 => ?_
 obtain ⟨x16,B,h⟩ := bind_some h
 refine VW.cut [(2,.val (dM a2)),(3,.val (.ptr [i64 a0_0,dI a0_1])),(4,.val (.ptr [i64 a1_0,dI a1_1])),(54,.val (.bool x16))] ?_ fun hy => ?_
 rotate_left
 ·clear h
  by_cases By : ¬ a0_0 = a1_0
  ·rw [if_pos By] at B
   have P : ieq a0_0 a1_0 = false := by simpa [ieq,ilt,ile] using By
   have Q := P
   try simp at Q
   cases B
   refine VW.wds tau_ok Sound.none try_mixed _ _ 42 rfl (by kernel_rfl) (by rfl) ?_ hy
   simp [P,Q]
  ·rw [if_neg By] at B
   have P : ieq a0_0 a1_0 = true := by simpa [ieq,ilt,ile] using By
   have Q := P
   try simp at Q
   obtain ⟨v3,Ck,B⟩ := bind_some B
   obtain ⟨v4,A3,B⟩ := bind_some B
   by_cases Dg : ¬ v3 = v4
   ·rw [if_pos Dg] at B
    have As : ieq v3 v4 = false := by simpa [ieq,ilt,ile] using Dg
    have At := As
    try simp at At
    cases B
    refine VW.wds tau_ok ((Sound.none.add 20 (i_Space_dim_ok Ck) rfl).add 22 (i_Space_dim_ok A3) rfl) try_mixed _ _ 42 rfl (by kernel_rfl) (by rfl) ?_ hy
    simp [P,Q,As,At]
   ·rw [if_neg Dg] at B
    have As : ieq v3 v4 = true := by simpa [ieq,ilt,ile] using Dg
    have At := As
    try simp at At
    obtain ⟨v6,Cy,B⟩ := bind_some B
    obtain ⟨v7,A2,B⟩ := bind_some B
    by_cases Dh : v7 = false
    ·rw [if_pos Dh] at B
     have A4 : v7 = false := by simpa [ieq,ilt,ile] using Dh
     have A5 := A4
     try simp at A5
     cases B
     refine VW.wds tau_ok ((((Sound.none.add 20 (i_Space_dim_ok Ck) rfl).add 22 (i_Space_dim_ok A3) rfl).add 27 (i_Space_field_ok Cy) rfl).add 29 (i_field_isMatrix_ok A2) rfl) try_mixed _ _ 42 rfl (by kernel_rfl) (by rfl) ?_ hy
     simp [P,Q,As,At,A4,A5]
    ·rw [if_neg Dh] at B
     have A4 : v7 = true := by simpa [ieq,ilt,ile] using Dh
     have A5 := A4
     try simp at A5
     obtain ⟨v9,Cm,B⟩ := bind_some B
     by_cases Ao : ¬ (a2.length : Int) = v9
     ·rw [if_pos Ao] at B
      have E : ieq (a2.length : Int) v9 = false := by simpa [ieq,ilt,ile] using Ao
      have F := E
      try simp at F
      cases B
      refine VW.wds tau_ok (((((Sound.none.add 20 (i_Space_dim_ok Ck) rfl).add 22 (i_Space_dim_ok A3) rfl).add 27 (i_Space_field_ok Cy) rfl).add 29 (i_field_isMatrix_ok A2) rfl).add 36 (i_Space_dim_ok Cm) rfl) try_mixed _ _ 42 rfl (by kernel_rfl) (by rfl) ?_ hy
      simp [P,Q,As,At,A4,A5,E,F]
     ·rw [if_neg Ao] at B
      have E : ieq (a2.length : Int) v9 = true := by simpa [ieq,ilt,ile] using Ao
      have F := E
      try simp at F
      obtain ⟨v11,Bn,B⟩ := bind_some B
      obtain ⟨Cf,Bi,Bj,Bl⟩ := idx_some Bn
      replace Bi : 0 < a2.length := Bi
      replace Bj : a2[0]? = some v11 := Bj
      replace Bl : ∀ h,a2[0]'h = v11 := Bl
      obtain ⟨v12,Cz,B⟩ := bind_some B
      by_cases Ap : ¬ (v11.length : Int) = v12
      ·rw [if_pos Ap] at B
       have L : ieq (v11.length : Int) v12 = false := by simpa [ieq,ilt,ile] using Ap
       have M := L
       try simp at M
       cases B
       refine VW.wds tau_ok ((((((Sound.none.add 20 (i_Space_dim_ok Ck) rfl).add 22 (i_Space_dim_ok A3) rfl).add 27 (i_Space_field_ok Cy) rfl).add 29 (i_field_isMatrix_ok A2) rfl).add 36 (i_Space_dim_ok Cm) rfl).add 45 (i_Space_dim_ok Cz) rfl) try_mixed _ _ 42 rfl (by kernel_rfl) (by rfl) ?_ hy
       simp [P,Q,As,At,A4,A5,E,F,Cf,Bi,Bj,Bl,L,M]
      ·rw [if_neg Ap] at B
       have L : ieq (v11.length : Int) v12 = true := by simpa [ieq,ilt,ile] using Ap
       have M := L
       try simp at M
       obtain ⟨v14,Dk,B⟩ := bind_some B
       obtain ⟨v15,Dl,B⟩ := bind_some B
       cases B
       refine VW.wds tau_ok ((((((((Sound.none.add 20 (i_Space_dim_ok Ck) rfl).add 22 (i_Space_dim_ok A3) rfl).add 27 (i_Space_field_ok Cy) rfl).add 29 (i_field_isMatrix_ok A2) rfl).add 36 (i_Space_dim_ok Cm) rfl).add 45 (i_Space_dim_ok Cz) rfl).add 50 (i_Space_field_ok Dk) rfl).add 52 (i_field_determinant_ok Dl) rfl) try_mixed _ _ 42 rfl (by kernel_rfl) (by rfl) ?_ hy
       simp [P,Q,As,At,A4,A5,E,F,Cf,Bi,Bj,Bl,L,M]
 refine VW.cond rfl (fun R => ?_) (fun R => ?_)
 ·
  replace R : x16 = true := by simpa [ieq,ilt,ile] using R
  rw [if_pos R] at h
  refine zs [(6,.val (.bool false))] ?_ ?_
  ·simp
  cases h
  refine VW.ret ?_
  simp [Post,PostM,PostC,PostC2,Nx,Bk]
 replace R : ¬ (x16 = true) := by simpa [ieq,ilt,ile] using R
 rw [if_neg R] at h
 refine VW.skip ?_
 refine hK1 _ ?_
 obtain ⟨v18,Dm,h⟩ := bind_some h
 refine VW.ws tau_ok (Sound.none.add 56 (i_transpose_ok Dm) rfl) _ [(3,.val (.ptr [i64 a0_0,dI a0_1])),(4,.val (.ptr [i64 a1_0,dI a1_1])),(7,.ref 7 [] true (dM v18))] rfl ?_ ?_
 ·simp
 refine VW.sqc fun K19 hK19 hCK19 => ?_
 refine zs [(3,.val (.ptr [i64 a0_0,dI a0_1])),(4,.val (.ptr [i64 a1_0,dI a1_1])),(7,.ref 7 [] true (dM v18)),(57,.ref 7 [] true (dM v18)),(58,.val (i64 (v18.length : Int))),(59,.val (i64 0))] ?_ ?_
 ·simp
 obtain ⟨x20,Cn,h⟩ := bind_some h
 refine VW.tlO (fun y22 => []) x20 (hCK19) ?_ ?_
 ·clear Cn
  rintro y22 rfl
  dsimp only at h
  refine hK19 _ ?_
  refine zs [(6,.val (.bool true))] ?_ ?_
  ·simp
  cases h
  refine VW.ret ?_
  simp [Post,PostM,PostC,PostC2,Nx,Bk]
 refine VW.block ?_
 refine VW.loopF (i_isIsometry_L0 a0_1 a1_0 a1_1 v18) (fun s20 => [(3,.val (.ptr [i64 a0_0,dI a0_1])),(4,.val (.ptr [i64 a1_0,dI a1_1])),(7,.ref 7 [] true (dM v18)),(57,.ref 7 [] true (dM v18)),(58,.val (i64 (v18.length : Int))),(59,.val (i64 s20))]) Cn (Fits.of rfl) ?_
 clear Cn
 intro s20 ox20 K Cg
 unfold i_isIsometry_L0 at K
 refine zs [(3,.val (.ptr [i64 a0_0,dI a0_1])),(4,.val (.ptr [i64 a1_0,dI a1_1])),(7,.ref 7 [] true (dM v18)),(57,.ref 7 [] true (dM v18)),(58,.val (i64 (v18.length : Int))),(59,.val (i64 s20)),(60,.val (.bool (ilt s20 (v18.length : Int))))] ?_ ?_
 ·simp
 refine VW.sqc fun K23 hK23 hCK23 => ?_
 refine VW.cond rfl (fun A6 => ?_) (fun A6 => ?_)
 rotate_left
 ·
  replace A6 : ¬ (s20 < (v18.length : Int)) := by simpa [ieq,ilt,ile] using A6
  rw [if_neg A6] at K
  refine VW.exit ?_
  cases K
  have hq := Cg _ rfl
  subst hq
  exact ⟨_,rfl,Fits.of rfl⟩
 replace A6 : s20 < (v18.length : Int) := by simpa [ieq,ilt,ile] using A6
 rw [if_pos A6] at K
 refine VW.skip ?_
 refine hK23 _ ?_
 refine VW.sqc fun K25 hK25 hCK25 => ?_
 refine VW.block ?_
 obtain ⟨v26,Dn,K⟩ := bind_some K
 obtain ⟨C0,C1,C2,C3⟩ := idx_some Dn
 refine zs [(3,.val (.ptr [i64 a0_0,dI a0_1])),(4,.val (.ptr [i64 a1_0,dI a1_1])),(7,.ref 7 [] true (dM v18)),(8,.val (i64 s20)),(9,.ref 7 [s20.toNat] true (dI v26)),(57,.ref 7 [] true (dM v18)),(58,.val (i64 (v18.length : Int))),(59,.val (i64 s20))] ?_ ?_
 ·simp [C0,C1,C2,C3]
 refine zs [(3,.val (.ptr [i64 a0_0,dI a0_1])),(4,.val (.ptr [i64 a1_0,dI a1_1])),(7,.ref 7 [] true (dM v18)),(8,.val (i64 s20)),(9,.ref 7 [s20.toNat] true (dI v26)),(57,.ref 7 [] true (dM v18)),(58,.val (i64 (v18.length : Int))),(59,.val (i64 s20)),(64,.ref 7 [] true (dM v18)),(65,.val (i64 (v18.length : Int))),(66,.val (i64 0))] ?_ ?_
 ·simp
 obtain ⟨x27,Co,K⟩ := bind_some K
 refine VW.tlO (fun y29 => [(3,.val (.ptr [i64 a0_0,dI a0_1])),(4,.val (.ptr [i64 a1_0,dI a1_1])),(7,.ref 7 [] true (dM v18)),(57,.ref 7 [] true (dM v18)),(58,.val (i64 (v18.length : Int))),(59,.val (i64 s20))]) x27 (hCK25) ?_ ?_
 ·clear Co
  rintro y29 rfl
  dsimp only at K
  refine hK25 _ ?_
  refine zr [(3,.val (.ptr [i64 a0_0,dI a0_1])),(4,.val (.ptr [i64 a1_0,dI a1_1])),(7,.ref 7 [] true (dM v18)),(57,.ref 7 [] true (dM v18)),(58,.val (i64 (v18.length : Int))),(59,.val (i64 (w64 (s20 + 1))))] ?_ ?_
  ·simp
  cases K
  exact ⟨_,rfl,Fits.of rfl⟩
 refine VW.block ?_
 refine VW.loopF (i_isIsometry_L1 a0_1 a1_0 a1_1 v18 s20 v26) (fun s27 => [(3,.val (.ptr [i64 a0_0,dI a0_1])),(4,.val (.ptr [i64 a1_0,dI a1_1])),(7,.ref 7 [] true (dM v18)),(8,.val (i64 s20)),(9,.ref 7 [s20.toNat] true (dI v26)),(57,.ref 7 [] true (dM v18)),(58,.val (i64 (v18.length : Int))),(59,.val (i64 s20)),(64,.ref 7 [] true (dM v18)),(65,.val (i64 (v18.length : Int))),(66,.val (i64 s27))]) Co (Fits.of rfl) ?_
 clear Co
 intro s27 ox27 G Ch
 unfold i_isIsometry_L1 at G
 refine zs [(3,.val (.ptr [i64 a0_0,dI a0_1])),(4,.val (.ptr [i64 a1_0,dI a1_1])),(7,.ref 7 [] true (dM v18)),(8,.val (i64 s20)),(9,.ref 7 [s20.toNat] true (dI v26)),(57,.ref 7 [] true (dM v18)),(58,.val (i64 (v18.length : Int))),(59,.val (i64 s20)),(64,.ref 7 [] true (dM v18)),(65,.val (i64 (v18.length : Int))),(66,.val (i64 s27)),(67,.val (.bool (ilt s27 (v18.length : Int))))] ?_ ?_
 ·simp
 refine VW.sqc fun K30 hK30 hCK30 => ?_
 refine VW.cond rfl (fun A7 => ?_) (fun A7 => ?_)
 rotate_left
 ·
  replace A7 : ¬ (s27 < (v18.length : Int)) := by simpa [ieq,ilt,ile] using A7
  rw [if_neg A7] at G
  refine VW.exit ?_
  cases G
  have hq := Ch _ rfl
  subst hq
  exact ⟨_,rfl,Fits.of rfl⟩
 replace A7 : s27 < (v18.length : Int) := by simpa [ieq,ilt,ile] using A7
 rw [if_pos A7] at G
 refine VW.skip ?_
 refine hK30 _ ?_
 refine VW.sqc fun K32 hK32 hCK32 => ?_
 refine VW.block ?_
 obtain ⟨v33,Do,G⟩ := bind_some G
 obtain ⟨C4,C5,C6,C7⟩ := idx_some Do
 refine zs [(3,.val (.ptr [i64 a0_0,dI a0_1])),(4,.val (.ptr [i64 a1_0,dI a1_1])),(7,.ref 7 [] true (dM v18)),(8,.val (i64 s20)),(9,.ref 7 [s20.toNat] true (dI v26)),(10,.val (i64 s27)),(11,.ref 7 [s27.toNat] true (dI v33)),(57,.ref 7 [] true (dM v18)),(58,.val (i64 (v18.length : Int))),(59,.val (i64 s20)),(64,.ref 7 [] true (dM v18)),(65,.val (i64 (v18.length : Int))),(66,.val (i64 s27))] ?_ ?_
 ·simp [C4,C5,C6,C7]
 refine zs [(3,.val (.ptr [i64 a0_0,dI a0_1])),(4,.val (.ptr [i64 a1_0,dI a1_1])),(7,.ref 7 [] true (dM v18)),(8,.val (i64 s20)),(9,.ref 7 [s20.toNat] true (dI v26)),(10,.val (i64 s27)),(11,.ref 7 [s27.toNat] true (dI v33)),(12,.val (i64 0)),(57,.ref 7 [] true (dM v18)),(58,.val (i64 (v18.length : Int))),(59,.val (i64 s20)),(64,.ref 7 [] true (dM v18)),(65,.val (i64 (v18.length : Int))),(66,.val (i64 s27))] ?_ ?_
 ·simp
 refine VW.sqc fun K34 hK34 hCK34 => ?_
 refine zs [(3,.val (.ptr [i64 a0_0,dI a0_1])),(4,.val (.ptr [i64 a1_0,dI a1_1])),(7,.ref 7 [] true (dM v18)),(8,.val (i64 s20)),(9,.ref 7 [s20.toNat] true (dI v26)),(11,.ref 7 [s27.toNat] true (dI v33)),(12,.val (i64 0)),(57,.ref 7 [] true (dM v18)),(58,.val (i64 (v18.length : Int))),(59,.val (i64 s20)),(64,.ref 7 [] true (dM v18)),(65,.val (i64 (v18.length : Int))),(66,.val (i64 s27)),(73,.val (.bool (ieq s20 s27)))] ?_ ?_
 ·simp
 obtain ⟨x35,A8,G⟩ := bind_some G
 refine VW.tlE [(3,.val (.ptr [i64 a0_0,dI a0_1])),(4,.val (.ptr [i64 a1_0,dI a1_1])),(7,.ref 7 [] true (dM v18)),(8,.val (i64 s20)),(9,.ref 7 [s20.toNat] true (dI v26)),(11,.ref 7 [s27.toNat] true (dI v33)),(12,.val (i64 x35)),(57,.ref 7 [] true (dM v18)),(58,.val (i64 (v18.length : Int))),(59,.val (i64 s20)),(64,.ref 7 [] true (dM v18)),(65,.val (i64 (v18.length : Int))),(66,.val (i64 s27))] (hCK34) ?_ ?_
 ·clear A8
  refine hK34 _ ?_
  obtain ⟨v39,Dp,G⟩ := bind_some G
  refine VW.ws tau_ok (Sound.none.add 82 (i_Space_pair_ok Dp) rfl) _ [(3,.val (.ptr [i64 a0_0,dI a0_1])),(4,.val (.ptr [i64 a1_0,dI a1_1])),(7,.ref 7 [] true (dM v18)),(8,.val (i64 s20)),(9,.ref 7 [s20.toNat] true (dI v26)),(57,.ref 7 [] true (dM v18)),(58,.val (i64 (v18.length : Int))),(59,.val (i64 s20)),(64,.ref 7 [] true (dM v18)),(65,.val (i64 (v18.length : Int))),(66,.val (i64 s27)),(84,.val (.bool (!(ieq v39 x35))))] rfl ?_ ?_
  ·simp
  refine VW.cond rfl (fun A9 => ?_) (fun A9 => ?_)
  rotate_left
  ·
   replace A9 : ¬ (¬ v39 = x35) := by simpa [ieq,ilt,ile] using A9
   rw [if_neg A9] at G
   refine VW.skip ?_
   refine hK32 _ ?_
   refine zr [(3,.val (.ptr [i64 a0_0,dI a0_1])),(4,.val (.ptr [i64 a1_0,dI a1_1])),(7,.ref 7 [] true (dM v18)),(8,.val (i64 s20)),(9,.ref 7 [s20.toNat] true (dI v26)),(57,.ref 7 [] true (dM v18)),(58,.val (i64 (v18.length : Int))),(59,.val (i64 s20)),(64,.ref 7 [] true (dM v18)),(65,.val (i64 (v18.length : Int))),(66,.val (i64 (w64 (s27 + 1))))] ?_ ?_
   ·simp
   cases G
   exact ⟨_,rfl,Fits.of rfl⟩
  replace A9 : ¬ v39 = x35 := by simpa [ieq,ilt,ile] using A9
  rw [if_pos A9] at G
  refine zs [(6,.val (.bool false))] ?_ ?_
  ·simp
  cases G
  have hq := Ch _ rfl
  subst hq
  dsimp only at K
  cases K
  have hq := Cg _ rfl
  subst hq
  dsimp only at h
  cases h
  refine VW.ret ?_
  simp [Post,PostM,PostC,PostC2,Nx,Bk]
 refine VW.cond rfl (fun Ba => ?_) (fun Ba => ?_)
 rotate_left
 ·
  replace Ba : ¬ (s20 = s27) := by simpa [ieq,ilt,ile] using Ba
  rw [if_neg Ba] at A8
  refine VW.skip ?_
  cases A8
  exact Fits.of rfl
 replace Ba : s20 = s27 := by simpa [ieq,ilt,ile] using Ba
 rw [if_pos Ba] at A8
 obtain ⟨v38,Dq,A8⟩ := bind_some A8
 obtain ⟨C8,C9,Da,Db⟩ := idx_some Dq
 refine zr [(3,.val (.ptr [i64 a0_0,dI a0_1])),(4,.val (.ptr [i64 a1_0,dI a1_1])),(7,.ref 7 [] true (dM v18)),(8,.val (i64 s20)),(9,.ref 7 [s20.toNat] true (dI v26)),(11,.ref 7 [s27.toNat] true (dI v33)),(12,.val (i64 v38)),(57,.ref 7 [] true (dM v18)),(58,.val (i64 (v18.length : Int))),(59,.val (i64 s20)),(64,.ref 7 [] true (dM v18)),(65,.val (i64 (v18.length : Int))),(66,.val (i64 s27))] ?_ ?_
 ·simp [C8,C9,Da,Db]
 cases A8
 exact Fits.of rfl

theorem i_IsIsometry_ok {a0_0 : Int} {a0_1 : List Int} {a1_0 : Int} {a1_1 : List Int} {a2 : List (List Int)} {r : Bool × Int} (h : i_IsIsometry a0_0 a0_1 a1_0 a1_1 a2 = some r) :
  VCall Try.prog 70 [.agg [i64 a0_0,dI a0_1],.agg [i64 a1_0,dI a1_1],dM a2] [.sc (.bool r.1),.sc (i64 r.2)] := by
 unfold i_IsIsometry at h
 refine VCall.enter Try.call70 Try.func70 rfl 20 Try.ntmps70 (by simp) [.tmp 6,.tmp 7] rfl ?_
 show VW _ _ _ (mk [(0,.val (.agg [i64 a0_0,dI a0_1])),(1,.val (.agg [i64 a1_0,dI a1_1])),(2,.val (dM a2))]) _
 refine zs [(2,.val (dM a2)),(3,.val (.ptr [i64 a0_0,dI a0_1])),(4,.val (.ptr [i64 a1_0,dI a1_1]))] ?_ ?_
 ·simp
 refine VW.sqc fun K1 hK1 hCK1 => ?_
 obtain ⟨v2,Bm,h⟩ := bind_some h
 refine VW.ws tau_ok (Sound.none.add 12 (i_checkSpaces_ok Bm) rfl) _ [(2,.val (dM a2)),(3,.val (.ptr [i64 a0_0,dI a0_1])),(4,.val (.ptr [i64 a1_0,dI a1_1])),(8,.val (i64 v2))] rfl ?_ ?_
 ·simp
 refine zs [(2,.val (dM a2)),(3,.val (.ptr [i64 a0_0,dI a0_1])),(4,.val (.ptr [i64 a1_0,dI a1_1])),(8,.val (i64 v2)),(14,.val (.bool (!(ieq v2 0))))] ?_ ?_
 ·simp
 refine VW.cond rfl (fun H => ?_) (fun H => ?_)
 ·
  replace H : ¬ v2 = 0 := by simpa [ieq,ilt,ile] using H
  rw [if_pos H] at h
  refine zs [(6,.val (.bool false)),(7,.val (i64 v2))] ?_ ?_
  ·simp
  cases h
  refine VW.ret ?_
  simp [Post,PostM,PostC,PostC2,Nx,Bk]
 replace H : ¬ (¬ v2 = 0) := by simpa [ieq,ilt,ile] using H
 rw [if_neg H] at h
 refine VW.skip ?_
 refine hK1 _ ?_
 obtain ⟨v4,A3,h⟩ := bind_some h
 refine VW.ws tau_ok (Sound.none.add 19 (i_isIsometry_ok A3) rfl) _ [(6,.val (.bool v4)),(7,.val (i64 0))] rfl ?_ ?_
 ·simp
 cases h
 refine VW.ret ?_
 simp [Post,PostM,PostC,PostC2,Nx,Bk]

theorem l_roll_ok {a0 : List Int} {a1 : Int} {r : (List Int) × Int × Int} (h : l_roll a0 a1 = some r) :
  VCall Try.prog 40 [.list (a0.map (D.int .u8)),.int .u64 a1] [.own false (.ptr [.list (r.1.map (D.int .u8)),i64 r.2.1,.int .u64 r.2.2])] := by
 unfold l_roll at h
 refine VCall.enter Try.call40 Try.func40 rfl 38 Try.ntmps40 (by simp) [.tmp 4] rfl ?_
 show VW _ _ _ (mk [(0,.val (.list (a0.map (D.int .u8)))),(1,.val (.int .u64 a1))]) _
 refine zs [(0,.val (.list (a0.map (D.int .u8)))),(1,.val (.int .u64 a1))] ?_ ?_
 ·simp
 refine zs [(0,.val (.list (a0.map (D.int .u8)))),(5,.ref 5 [] false (.ptr [.list (a0.map (D.int .u8)),i64 0,.int .u64 (IntKind.u64.wrap ((IntKind.u64.wrap (a1 * 7681)) + (IntKind.u64.wrap ((a0.length : Int)))))]))] ?_ ?_
 ·simp
 refine VW.sqc fun K1 hK1 hCK1 => ?_
 refine zs [(0,.val (.list (a0.map (D.int .u8)))),(5,.ref 5 [] false (.ptr [.list (a0.map (D.int .u8)),i64 0,.int .u64 (IntKind.u64.wrap ((IntKind.u64.wrap (a1 * 7681)) + (IntKind.u64.wrap ((a0.length : Int)))))])),(6,.val (i64 0))] ?_ ?_
 ·simp
 obtain ⟨x2,Aq,h⟩ := bind_some h
 refine VW.tlE [(5,.ref 5 [] false (.ptr [.list (x2.1.map (D.int .u8)),i64 x2.2.1,.int .u64 x2.2.2]))] (hCK1) ?_ ?_
 ·clear Aq
  refine hK1 _ ?_
  refine zs [(4,.ref 4 [] false (.ptr [.list (x2.1.map (D.int .u8)),i64 x2.2.1,.int .u64 x2.2.2]))] ?_ ?_
  ·simp
  cases h
  refine VW.ret ?_
  simp [Post,PostM,PostC,PostC2,Nx,Bk]
 refine VW.block ?_
 refine VW.loopF (l_roll_L0 a0) (fun s2 => [(0,.val (.list (a0.map (D.int .u8)))),(5,.ref 5 [] false (.ptr [.list (s2.1.map (D.int .u8)),i64 s2.2.1,.int .u64 s2.2.2.1])),(6,.val (i64 s2.2.2.2))]) Aq (Fits.of rfl) ?_
 clear Aq
 intro s2 ox2 A Ab
 unfold l_roll_L0 at A
 refine VW.sqc fun K4 hK4 hCK4 => ?_
 refine zs [(0,.val (.list (a0.map (D.int .u8)))),(5,.ref 5 [] false (.ptr [.list (s2.1.map (D.int .u8)),i64 s2.2.1,.int .u64 s2.2.2.1])),(6,.val (i64 s2.2.2.2)),(19,.val (.bool (ilt s2.2.2.2 (a0.length : Int))))] ?_ ?_
 ·simp
 refine VW.cond rfl (fun Ac => ?_) (fun Ac => ?_)
 rotate_left
 ·
  replace Ac : ¬ (s2.2.2.2 < (a0.length : Int)) := by simpa [ieq,ilt,ile] using Ac
  rw [if_neg Ac] at A
  refine VW.exit ?_
  cases A
  have hq := Ab _ rfl
  subst hq
  exact Fits.of rfl
 replace Ac : s2.2.2.2 < (a0.length : Int) := by simpa [ieq,ilt,ile] using Ac
 rw [if_pos Ac] at A
 refine VW.skip ?_
 refine hK4 _ ?_
 refine VW.sqc fun K6 hK6 hCK6 => ?_
 refine VW.block ?_
 obtain ⟨v7,A2,A⟩ := bind_some A
 obtain ⟨Bo,Bp,Bq,Br⟩ := idx_some A2
 refine VW.wdr tau_ok Sound.none try_mixed _ [(0,.val (.list (a0.map (D.int .u8)))),(5,.ref 5 [] false (.ptr [.list (s2.1.map (D.int .u8)),i64 s2.2.1,.int .u64 (IntKind.u64.wrap ((IntKind.u64.wrap ((IntKind.u64.wrap (s2.2.2.1 * 1099511628211)) + (IntKind.u64.wrap (v7)))) + 5))])),(6,.val (i64 s2.2.2.2))] 15 rfl (by kernel_rfl) (by rfl) ?_ ?_
 ·simp [Bo,Bp,Bq,Br]
 refine hK6 _ ?_
 refine zr [(0,.val (.list (a0.map (D.int .u8)))),(5,.ref 5 [] false (.ptr [.list (s2.1.map (D.int .u8)),i64 s2.2.1,.int .u64 (IntKind.u64.wrap ((IntKind.u64.wrap ((IntKind.u64.wrap (s2.2.2.1 * 1099511628211)) + (IntKind.u64.wrap (v7)))) + 5))])),(6,.val (i64 (w64 (s2.2.2.2 + 1))))] ?_ ?_
 ·simp
 cases A
 exact ⟨_,rfl,Fits.of rfl⟩

theorem g_p_laws_dice_below_ok {a0_0 : List Int} {a0_1 : Int} {a0_2 : Int} {a1 : Int} {r : Int × ((List Int) × Int × Int)} (h : g_p_laws_dice_below a0_0 a0_1 a0_2 a1 = some r) :
  VPtr Try.prog 41 [.list (a0_0.map (D.int .u8)),i64 a0_1,.int .u64 a0_2] [i64 a1] [.sc (i64 r.1)] [.list (r.2.1.map (D.int .u8)),i64 r.2.2.1,.int .u64 r.2.2.2] := by
 unfold g_p_laws_dice_below at h
 refine VPtr.enter Try.call41 Try.func41 rfl 58 Try.ntmps41 (by simp) [.tmp 4] rfl ?_
 show VW _ _ _ (mk [(0,.ref 0 [] false (.ptr [.list (a0_0.map (D.int .u8)),i64 a0_1,.int .u64 a0_2])),(1,.val (i64 a1))]) _
 refine zs [(0,.ref 0 [] false (.ptr [.list (a0_0.map (D.int .u8)),i64 a0_1,.int .u64 a0_2])),(1,.val (i64 a1))] ?_ ?_
 ·simp
 refine VW.sqc fun K1 hK1 hCK1 => ?_
 refine zs [(0,.ref 0 [] false (.ptr [.list (a0_0.map (D.int .u8)),i64 a0_1,.int .u64 a0_2])),(1,.val (i64 a1)),(7,.val (.bool (ilt a1 1)))] ?_ ?_
 ·simp
 refine VW.cond rfl (fun Cp => ?_) (fun Cp => ?_)
 ·
  replace Cp : a1 < 1 := by simpa [ieq,ilt,ile] using Cp
  rw [if_pos Cp] at h
  refine zs [(0,.ref 0 [] false (.ptr [.list (a0_0.map (D.int .u8)),i64 a0_1,.int .u64 a0_2])),(4,.val (i64 0))] ?_ ?_
  ·simp
  cases h
  refine VW.ret ?_
  simp [PostW,resW,PostWC,resWC,Nx,Bk]
 replace Cp : ¬ (a1 < 1) := by simpa [ieq,ilt,ile] using Cp
 rw [if_neg Cp] at h
 refine VW.skip ?_
 refine hK1 _ ?_
 refine zs [(0,.ref 0 [] false (.ptr [.list (a0_0.map (D.int .u8)),i64 a0_1,.int .u64 (IntKind.u64.wrap ((IntKind.u64.wrap (a0_2 * 6364136223846793005)) + 1442695040888963407))])),(1,.val (i64 a1))] ?_ ?_
 ·simp
 refine zs [(0,.ref 0 [] false (.ptr [.list (a0_0.map (D.int .u8)),i64 a0_1,.int .u64 (IntKind.u64.wrap ((IntKind.u64.wrap (a0_2 * 6364136223846793005)) + 1442695040888963407))])),(1,.val (i64 a1)),(5,.val (i64 (w64 (band .u64 (shr .u64 (IntKind.u64.wrap ((IntKind.u64.wrap (a0_2 * 6364136223846793005)) + 1442695040888963407)) 33) 16777215))))] ?_ ?_
 ·simp
 refine VW.sqc fun K3 hK3 hCK3 => ?_
 refine VW.wds tau_ok Sound.none try_mixed _ [(0,.ref 0 [] false (.ptr [.list (a0_0.map (D.int .u8)),i64 a0_1,.int .u64 (IntKind.u64.wrap ((IntKind.u64.wrap (a0_2 * 6364136223846793005)) + 1442695040888963407))])),(1,.val (i64 a1)),(5,.val (i64 (w64 (band .u64 (shr .u64 (IntKind.u64.wrap ((IntKind.u64.wrap (a0_2 * 6364136223846793005)) + 1442695040888963407)) 33) 16777215)))),(33,.val (.bool (ilt a0_1 (a0_0.length : Int))))] 10 rfl (by kernel_rfl) (by rfl) ?_ ?_
 ·simp
 obtain ⟨x4,Cq,h⟩ := bind_some h
 refine VW.tlE [(0,.ref 0 [] false (.ptr [.list (x4.1.map (D.int .u8)),i64 x4.2.1,.int .u64 x4.2.2.1])),(1,.val (i64 a1)),(5,.val (i64 x4.2.2.2))] (hCK3) ?_ ?_
 ·clear Cq
  refine hK3 _ ?_
  obtain ⟨Dc,h⟩ := chk_some h
  have Bs := Dc
  try simp at Bs
  refine zs [(0,.ref 0 [] false (.ptr [.list (x4.1.map (D.int .u8)),i64 x4.2.1,.int .u64 x4.2.2.1])),(4,.val (i64 (x4.2.2.2.tmod a1)))] ?_ ?_
  ·simp [Dc,Bs]
  cases h
  refine VW.ret ?_
  simp [PostW,resW,PostWC,resWC,Nx,Bk]
 refine VW.cond rfl (fun I => ?_) (fun I => ?_)
 rotate_left
 ·
  replace I : ¬ (a0_1 < (a0_0.length : Int)) := by simpa [ieq,ilt,ile] using I
  rw [if_neg I] at Cq
  refine VW.skip ?_
  cases Cq
  exact Fits.of rfl
 replace I : a0_1 < (a0_0.length : Int) := by simpa [ieq,ilt,ile] using I
 rw [if_pos I] at Cq
 obtain ⟨v7,A2,Cq⟩ := bind_some Cq
 obtain ⟨Bo,Bp,Bq,Br⟩ := idx_some A2
 refine VW.wds tau_ok Sound.none try_mixed _ [(0,.ref 0 [] false (.ptr [.list (a0_0.map (D.int .u8)),i64 a0_1,.int .u64 (IntKind.u64.wrap ((IntKind.u64.wrap (a0_2 * 6364136223846793005)) + 1442695040888963407))])),(1,.val (i64 a1)),(5,.val (i64 (w64 ((w64 (band .u64 (shr .u64 (IntKind.u64.wrap ((IntKind.u64.wrap (a0_2 * 6364136223846793005)) + 1442695040888963407)) 33) 16777215)) + (w64 (v7))))))] 14 rfl (by kernel_rfl) (by rfl) ?_ ?_
 ·simp [Bo,Bp,Bq,Br]
 refine zr [(0,.ref 0 [] false (.ptr [.list (a0_0.map (D.int .u8)),i64 (w64 (a0_1 + 1)),.int .u64 (IntKind.u64.wrap ((IntKind.u64.wrap (a0_2 * 6364136223846793005)) + 1442695040888963407))])),(1,.val (i64 a1)),(5,.val (i64 (w64 ((w64 (band .u64 (shr .u64 (IntKind.u64.wrap ((IntKind.u64.wrap (a0_2 * 6364136223846793005)) + 1442695040888963407)) 33) 16777215)) + (w64 (v7))))))] ?_ ?_
 ·simp
 cases Cq
 exact Fits.of rfl

theorem l_list5_ok {a0_0 : List Int} {a0_1 : Int} {a0_2 : Int} {a1 : Int} {a2 : Int} {r : (List Int) × ((List Int) × Int × Int)} (h : l_list5 a0_0 a0_1 a0_2 a1 a2 = some r) :
  VPtr Try.prog 71 [.list (a0_0.map (D.int .u8)),i64 a0_1,.int .u64 a0_2] [i64 a1,i64 a2] [.own true (dI r.1)] [.list (r.2.1.map (D.int .u8)),i64 r.2.2.1,.int .u64 r.2.2.2] := by
 unfold l_list5 at h
 refine VPtr.enter Try.call71 Try.func71 rfl 20 Try.ntmps71 (by simp) [.tmp 6] rfl ?_
 show VW _ _ _ (mk [(0,.ref 0 [] false (.ptr [.list (a0_0.map (D.int .u8)),i64 a0_1,.int .u64 a0_2])),(1,.val (i64 a1)),(2,.val (i64 a2))]) _
 refine zs [(0,.ref 0 [] false (.ptr [.list (a0_0.map (D.int .u8)),i64 a0_1,.int .u64 a0_2])),(1,.val (i64 a1)),(2,.val (i64 a2))] ?_ ?_
 ·simp
 refine zs [(0,.ref 0 [] false (.ptr [.list (a0_0.map (D.int .u8)),i64 a0_1,.int .u64 a0_2])),(1,.val (i64 a1)),(2,.val (i64 a2)),(7,.ref 7 [] true (dI []))] ?_ ?_
 ·simp
 refine VW.sqc fun K1 hK1 hCK1 => ?_
 obtain ⟨x2,Aq,h⟩ := bind_some h
 refine VW.tlE [(0,.ref 0 [] false (.ptr [.list (x2.1.map (D.int .u8)),i64 x2.2.1,.int .u64 x2.2.2.1])),(7,.ref 7 [] true (dI x2.2.2.2))] (hCK1) ?_ ?_
 ·clear Aq
  refine hK1 _ ?_
  refine zs [(0,.ref 0 [] false (.ptr [.list (x2.1.map (D.int .u8)),i64 x2.2.1,.int .u64 x2.2.2.1])),(6,.ref 6 [] true (dI x2.2.2.2))] ?_ ?_
  ·simp
  cases h
  refine VW.ret ?_
  simp [PostW,resW,PostWC,resWC,Nx,Bk]
 refine VW.block ?_
 refine VW.loopF (l_list5_L0 a2) (fun s2 => [(0,.ref 0 [] false (.ptr [.list (s2.1.map (D.int .u8)),i64 s2.2.1,.int .u64 s2.2.2.1])),(1,.val (i64 s2.2.2.2.1)),(2,.val (i64 a2)),(7,.ref 7 [] true (dI s2.2.2.2.2))]) Aq (Fits.of rfl) ?_
 clear Aq
 intro s2 ox2 A Ab
 unfold l_list5_L0 at A
 refine VW.sqc fun K4 hK4 hCK4 => ?_
 refine zs [(0,.ref 0 [] false (.ptr [.list (s2.1.map (D.int .u8)),i64 s2.2.1,.int .u64 s2.2.2.1])),(1,.val (i64 s2.2.2.2.1)),(2,.val (i64 a2)),(7,.ref 7 [] true (dI s2.2.2.2.2)),(10,.val (.bool (ilt 0 s2.2.2.2.1)))] ?_ ?_
 ·simp
 refine VW.cond rfl (fun Ac => ?_) (fun Ac => ?_)
 rotate_left
 ·
  replace Ac : ¬ (0 < s2.2.2.2.1) := by simpa [ieq,ilt,ile] using Ac
  rw [if_neg Ac] at A
  refine VW.exit ?_
  cases A
  have hq := Ab _ rfl
  subst hq
  exact Fits.of rfl
 replace Ac : 0 < s2.2.2.2.1 := by simpa [ieq,ilt,ile] using Ac
 rw [if_pos Ac] at A
 refine VW.skip ?_
 refine hK4 _ ?_
 refine VW.sqc fun K6 hK6 hCK6 => ?_
 refine VW.block ?_
 obtain ⟨v7,A2,A⟩ := bind_some A
 obtain ⟨Dc,A⟩ := chk_some A
 have Bs := Dc
 try simp at Bs
 refine VW.wr tau_ok (Sound.none.ptrc 16 (g_p_laws_dice_below_ok A2)) _ [(0,.ref 0 [] false (.ptr [.list (v7.2.1.map (D.int .u8)),i64 v7.2.2.1,.int .u64 v7.2.2.2])),(1,.val (i64 s2.2.2.2.1)),(2,.val (i64 a2)),(7,.ref 7 [] true (dI (s2.2.2.2.2 ++ [v7.1])))] rfl ?_ ?_
 ·simp [Dc,Bs]
 refine hK6 _ ?_
 refine zr [(0,.ref 0 [] false (.ptr [.list (v7.2.1.map (D.int .u8)),i64 v7.2.2.1,.int .u64 v7.2.2.2])),(1,.val (i64 (w64 (s2.2.2.2.1 - 1)))),(2,.val (i64 a2)),(7,.ref 7 [] true (dI (s2.2.2.2.2 ++ [v7.1])))] ?_ ?_
 ·simp
 cases A
 exact ⟨_,rfl,Fits.of rfl⟩

theorem i_checkMatrices_c1_ok {a0 : List (List Int)} {a1_0 : Int} {r : Bool} (h : i_checkMatrices_c1 a0 a1_0 = some r) :
  VCall Try.prog 208 [dM a0,.ptr [i64 a1_0]] [.sc (.bool r)] := by
 unfold i_checkMatrices_c1 at h
 refine VCall.enter Try.call208 Try.func208 rfl 8 Try.ntmps208 (by simp) [.tmp 3] rfl ?_
 show VW _ _ _ (mk [(0,.val (dM a0)),(1,.val (.ptr [i64 a1_0]))]) _
 refine zs [(0,.val (dM a0)),(1,.val (.ptr [i64 a1_0]))] ?_ ?_
 ·simp
 obtain ⟨v1,Bx,h⟩ := bind_some h
 refine VW.ws tau_ok (Sound.none.add 6 (i_field_isMatrix_ok Bx) rfl) _ [(3,.val (.bool (!v1)))] rfl ?_ ?_
 ·simp
 cases h
 refine VW.ret ?_
 simp [Post,PostM,PostC,PostC2,Nx,Bk]

theorem g_slices_IndexFunc_LLLI_LLI_of_i_checkMatrices_c1_ok {a0 : List (List (List Int))} {a1_0_0 : Int} {r : Int} (h : g_slices_IndexFunc_LLLI_LLI_of_i_checkMatrices_c1 a0 a1_0_0 = some r) :
  VCall Try.prog 224 [dC a0,.fn 208 [.ptr [i64 a1_0_0]]] [.sc (i64 r)] := by
 unfold g_slices_IndexFunc_LLLI_LLI_of_i_checkMatrices_c1 at h
 refine VCall.enter Try.call224 Try.func224 rfl 19 Try.ntmps224 (by simp) [.tmp 4] rfl ?_
 show VW _ _ _ (mk [(0,.val (dC a0)),(1,.val (.fn 208 [.ptr [i64 a1_0_0]]))]) _
 refine zs [(0,.val (dC a0)),(1,.val (.fn 208 [.ptr [i64 a1_0_0]]))] ?_ ?_
 ·simp
 refine VW.sqc fun K1 hK1 hCK1 => ?_
 refine zs [(0,.val (dC a0)),(1,.val (.fn 208 [.ptr [i64 a1_0_0]])),(7,.val (i64 (a0.length : Int))),(8,.val (i64 0))] ?_ ?_
 ·simp
 obtain ⟨x2,Aq,h⟩ := bind_some h
 refine VW.tlO (fun y4 => []) x2 (hCK1) ?_ ?_
 ·clear Aq
  rintro y4 rfl
  dsimp only at h
  refine hK1 _ ?_
  refine zs [(4,.val (i64 (-1)))] ?_ ?_
  ·simp
  cases h
  refine VW.ret ?_
  simp [Post,PostM,PostC,PostC2,Nx,Bk]
 refine VW.block ?_
 refine VW.loopF (g_slices_IndexFunc_LLLI_LLI_of_i_checkMatrices_c1_L0 a0 a1_0_0) (fun s2 => [(0,.val (dC a0)),(1,.val (.fn 208 [.ptr [i64 a1_0_0]])),(7,.val (i64 (a0.length : Int))),(8,.val (i64 s2))]) Aq (Fits.of rfl) ?_
 clear Aq
 intro s2 ox2 A Ab
 unfold g_slices_IndexFunc_LLLI_LLI_of_i_checkMatrices_c1_L0 at A
 refine zs [(0,.val (dC a0)),(1,.val (.fn 208 [.ptr [i64 a1_0_0]])),(7,.val (i64 (a0.length : Int))),(8,.val (i64 s2)),(9,.val (.bool (ilt s2 (a0.length : Int))))] ?_ ?_
 ·simp
 refine VW.sqc fun K5 hK5 hCK5 => ?_
 refine VW.cond rfl (fun I => ?_) (fun I => ?_)
 rotate_left
 ·
  replace I : ¬ (s2 < (a0.length : Int)) := by simpa [ieq,ilt,ile] using I
  rw [if_neg I] at A
  refine VW.exit ?_
  cases A
  have hq := Ab _ rfl
  subst hq
  exact ⟨_,rfl,Fits.of rfl⟩
 replace I : s2 < (a0.length : Int) := by simpa [ieq,ilt,ile] using I
 rw [if_pos I] at A
 refine VW.skip ?_
 refine hK5 _ ?_
 refine VW.sqc fun K7 hK7 hCK7 => ?_
 refine VW.block ?_
 refine zs [(0,.val (dC a0)),(1,.val (.fn 208 [.ptr [i64 a1_0_0]])),(5,.val (i64 s2)),(7,.val (i64 (a0.length : Int))),(8,.val (i64 s2))] ?_ ?_
 ·simp
 obtain ⟨v8,Cr,A⟩ := bind_some A
 obtain ⟨Cs,Ct,Cu,Cv⟩ := idx_some Cr
 obtain ⟨v9,Cm,A⟩ := bind_some A
 refine VW.ws tau_ok (Sound.none.add 16 (i_checkMatrices_c1_ok Cm) rfl) _ [(0,.val (dC a0)),(1,.val (.fn 208 [.ptr [i64 a1_0_0]])),(5,.val (i64 s2)),(7,.val (i64 (a0.length : Int))),(8,.val (i64 s2)),(16,.val (.bool v9))] rfl ?_ ?_
 ·simp [Cs,Ct,Cu,Cv]
 refine VW.cond rfl (fun S => ?_) (fun S => ?_)
 rotate_left
 ·
  replace S : ¬ (v9 = true) := by simpa [ieq,ilt,ile] using S
  rw [if_neg S] at A
  refine VW.skip ?_
  refine hK7 _ ?_
  refine zr [(0,.val (dC a0)),(1,.val (.fn 208 [.ptr [i64 a1_0_0]])),(7,.val (i64 (a0.length : Int))),(8,.val (i64 (w64 (s2 + 1))))] ?_ ?_
  ·simp
  cases A
  exact ⟨_,rfl,Fits.of rfl⟩
 replace S : v9 = true := by simpa [ieq,ilt,ile] using S
 rw [if_pos S] at A
 refine zs [(4,.val (i64 s2))] ?_ ?_
 ·simp
 cases A
 have hq := Ab _ rfl
 subst hq
 dsimp only at h
 cases h
 refine VW.ret ?_
 simp [Post,PostM,PostC,PostC2,Nx,Bk]

theorem g_slices_ContainsFunc_LLLI_LLI_of_i_checkMatrices_c1_ok {a0 : List (List (List Int))} {a1_0_0 : Int} {r : Bool} (h : g_slices_ContainsFunc_LLLI_LLI_of_i_checkMatrices_c1 a0 a1_0_0 = some r) :
  VCall Try.prog 179 [dC a0,.fn 208 [.ptr [i64 a1_0_0]]] [.sc (.bool r)] := by
 unfold g_slices_ContainsFunc_LLLI_LLI_of_i_checkMatrices_c1 at h
 refine VCall.enter Try.call179 Try.func179 rfl 9 Try.ntmps179 (by simp) [.tmp 4] rfl ?_
 show VW _ _ _ (mk [(0,.val (dC a0)),(1,.val (.fn 208 [.ptr [i64 a1_0_0]]))]) _
 refine zs [(0,.val (dC a0)),(1,.val (.fn 208 [.ptr [i64 a1_0_0]]))] ?_ ?_
 ·simp
 obtain ⟨v1,Bx,h⟩ := bind_some h
 refine VW.ws tau_ok (Sound.none.add 7 (g_slices_IndexFunc_LLLI_LLI_of_i_checkMatrices_c1_ok Bx) rfl) _ [(4,.val (.bool (ile 0 v1)))] rfl ?_ ?_
 ·simp
 cases h
 refine VW.ret ?_
 simp [Post,PostM,PostC,PostC2,Nx,Bk]

theorem i_checkMatrices_ok {a0 : Int} {a1 : List (List (List Int))} {r : Int} (h : i_checkMatrices a0 a1 = some r) :
  VCall Try.prog 138 [i64 a0,dC a1] [.sc (i64 r)] := by
 unfold i_checkMatrices at h
 refine VCall.enter Try.call138 Try.func138 rfl 13 Try.ntmps138 (by simp) [.tmp 4] rfl ?_
 show VW _ _ _ (mk [(0,.val (i64 a0)),(1,.val (dC a1))]) _
 refine zs [(1,.val (dC a1)),(2,.val (.ptr [i64 a0]))] ?_ ?_
 ·simp
 refine VW.sqc fun K1 hK1 hCK1 => ?_
 obtain ⟨x5,Ar,h⟩ := bind_some h
 refine VW.cut [(12,.val (.bool x5))] ?_ fun hy => ?_
 rotate_left
 ·clear h
  obtain ⟨v2,Bm,Ar⟩ := bind_some Ar
  by_cases Di : v2 = false
  ·rw [if_pos Di] at Ar
   have Bt : v2 = false := by simpa [ieq,ilt,ile] using Di
   have Bu := Bt
   try simp at Bu
   cases Ar
   refine VW.ws tau_ok (Sound.none.add 6 (i_IsPrime_ok Bm) rfl) _ _ rfl ?_ hy
   simp [Bt,Bu]
  ·rw [if_neg Di] at Ar
   have Bt : v2 = true := by simpa [ieq,ilt,ile] using Di
   have Bu := Bt
   try simp at Bu
   obtain ⟨v4,A3,Ar⟩ := bind_some Ar
   cases Ar
   refine VW.ws tau_ok ((Sound.none.add 6 (i_IsPrime_ok Bm) rfl).add 11 (g_slices_ContainsFunc_LLLI_LLI_of_i_checkMatrices_c1_ok A3) rfl) _ _ rfl ?_ hy
   simp [Bt,Bu]
 refine VW.cond rfl (fun I => ?_) (fun I => ?_)
 ·
  replace I : x5 = true := by simpa [ieq,ilt,ile] using I
  rw [if_pos I] at h
  refine zs [(4,.val (i64 1))] ?_ ?_
  ·simp
  cases h
  refine VW.ret ?_
  simp [Post,PostM,PostC,PostC2,Nx,Bk]
 replace I : ¬ (x5 = true) := by simpa [ieq,ilt,ile] using I
 rw [if_neg I] at h
 refine VW.skip ?_
 refine hK1 _ ?_
 refine zs [(4,.val (i64 0))] ?_ ?_
 ·simp
 cases h
 refine VW.ret ?_
 simp [Post,PostM,PostC,PostC2,Nx,Bk]

theorem i_field_apply_ok {a0 : Int} {a1 : List (List Int)} {a2 : List Int} {r : List Int} (h : i_field_apply a0 a1 a2 = some r) :
  VCall Try.prog 117 [i64 a0,dM a1,dI a2] [.own true (dI r)] := by
 unfold i_field_apply at h
 refine VCall.enter Try.call117 Try.func117 rfl 26 Try.ntmps117 (by simp) [.tmp 6] rfl ?_
 show VW _ _ _ (mk [(0,.val (i64 a0)),(1,.val (dM a1)),(2,.val (dI a2))]) _
 refine zs [(0,.val (i64 a0)),(1,.val (dM a1)),(2,.val (dI a2))] ?_ ?_
 ·simp
 refine zs [(0,.val (i64 a0)),(1,.val (dM a1)),(2,.val (dI a2)),(7,.ref 7 [] true (dI []))] ?_ ?_
 ·simp
 refine VW.sqc fun K1 hK1 hCK1 => ?_
 refine zs [(0,.val (i64 a0)),(2,.val (dI a2)),(7,.ref 7 [] true (dI [])),(11,.val (dM a1)),(12,.val (i64 (a1.length : Int))),(13,.val (i64 0))] ?_ ?_
 ·simp
 obtain ⟨x2,Aq,h⟩ := bind_some h
 refine VW.tlE [(7,.ref 7 [] true (dI x2))] (hCK1) ?_ ?_
 ·clear Aq
  refine hK1 _ ?_
  refine zs [(6,.ref 6 [] true (dI x2))] ?_ ?_
  ·simp
  cases h
  refine VW.ret ?_
  simp [Post,PostM,PostC,PostC2,Nx,Bk]
 refine VW.block ?_
 refine VW.loopF (i_field_apply_L0 a0 a1 a2) (fun s2 => [(0,.val (i64 a0)),(2,.val (dI a2)),(7,.ref 7 [] true (dI s2.1)),(11,.val (dM a1)),(12,.val (i64 (a1.length : Int))),(13,.val (i64 s2.2))]) Aq (Fits.of rfl) ?_
 clear Aq
 intro s2 ox2 A Ab
 unfold i_field_apply_L0 at A
 refine zs [(0,.val (i64 a0)),(2,.val (dI a2)),(7,.ref 7 [] true (dI s2.1)),(11,.val (dM a1)),(12,.val (i64 (a1.length : Int))),(13,.val (i64 s2.2)),(14,.val (.bool (ilt s2.2 (a1.length : Int))))] ?_ ?_
 ·simp
 refine VW.sqc fun K4 hK4 hCK4 => ?_
 refine VW.cond rfl (fun Ac => ?_) (fun Ac => ?_)
 rotate_left
 ·
  replace Ac : ¬ (s2.2 < (a1.length : Int)) := by simpa [ieq,ilt,ile] using Ac
  rw [if_neg Ac] at A
  refine VW.exit ?_
  cases A
  have hq := Ab _ rfl
  subst hq
  exact Fits.of rfl
 replace Ac : s2.2 < (a1.length : Int) := by simpa [ieq,ilt,ile] using Ac
 rw [if_pos Ac] at A
 refine VW.skip ?_
 refine hK4 _ ?_
 refine VW.sqc fun K6 hK6 hCK6 => ?_
 refine VW.block ?_
 obtain ⟨v7,A2,A⟩ := bind_some A
 obtain ⟨Bo,Bp,Bq,Br⟩ := idx_some A2
 refine zs [(0,.val (i64 a0)),(2,.val (dI a2)),(7,.ref 7 [] true (dI s2.1)),(9,.val (dI v7)),(11,.val (dM a1)),(12,.val (i64 (a1.length : Int))),(13,.val (i64 s2.2))] ?_ ?_
 ·simp [Bo,Bp,Bq,Br]
 obtain ⟨v8,Cr,A⟩ := bind_some A
 obtain ⟨D2,A⟩ := chk_some A
 have Dd := D2
 try simp at Dd
 refine VW.wr tau_ok (Sound.none.add 21 (i_field_dot_ok Cr) rfl) _ [(0,.val (i64 a0)),(2,.val (dI a2)),(7,.ref 7 [] true (dI (s2.1 ++ [v8]))),(11,.val (dM a1)),(12,.val (i64 (a1.length : Int))),(13,.val (i64 s2.2))] rfl ?_ ?_
 ·simp [D2,Dd]
 refine hK6 _ ?_
 refine zr [(0,.val (i64 a0)),(2,.val (dI a2)),(7,.ref 7 [] true (dI (s2.1 ++ [v8]))),(11,.val (dM a1)),(12,.val (i64 (a1.length : Int))),(13,.val (i64 (w64 (s2.2 + 1))))] ?_ ?_
 ·simp
 cases A
 exact ⟨_,rfl,Fits.of rfl⟩

theorem i_ApplyMatrix_ok {a0 : Int} {a1 : List (List Int)} {a2 : List Int} {r : (List Int) × Int} (h : i_ApplyMatrix a0 a1 a2 = some r) :
  VCall Try.prog 72 [i64 a0,dM a1,dI a2] [.own true (dI r.1),.sc (i64 r.2)] := by
 unfold i_ApplyMatrix at h
 refine VCall.enter Try.call72 Try.func72 rfl 33 Try.ntmps72 (by simp) [.tmp 6,.tmp 7] rfl ?_
 show VW _ _ _ (mk [(0,.val (i64 a0)),(1,.val (dM a1)),(2,.val (dI a2))]) _
 refine zs [(0,.val (i64 a0)),(1,.val (dM a1)),(2,.val (dI a2))] ?_ ?_
 ·simp
 refine VW.sqc fun K1 hK1 hCK1 => ?_
 obtain ⟨v2,Bm,h⟩ := bind_some h
 refine VW.ws tau_ok (Sound.none.add 12 (i_checkMatrices_ok Bm) rfl) _ [(0,.val (i64 a0)),(1,.val (dM a1)),(2,.val (dI a2)),(8,.val (i64 v2))] rfl ?_ ?_
 ·simp
 refine zs [(0,.val (i64 a0)),(1,.val (dM a1)),(2,.val (dI a2)),(8,.val (i64 v2)),(14,.val (.bool (!(ieq v2 0))))] ?_ ?_
 ·simp
 refine VW.cond rfl (fun H => ?_) (fun H => ?_)
 ·
  replace H : ¬ v2 = 0 := by simpa [ieq,ilt,ile] using H
  rw [if_pos H] at h
  refine zs [(6,.ref 6 [] true (.list [])),(7,.val (i64 v2))] ?_ ?_
  ·simp
  cases h
  refine VW.ret ?_
  simp [Post,PostM,PostC,PostC2,Nx,Bk]
 replace H : ¬ (¬ v2 = 0) := by simpa [ieq,ilt,ile] using H
 rw [if_neg H] at h
 refine VW.skip ?_
 refine hK1 _ ?_
 refine VW.sqc fun K4 hK4 hCK4 => ?_
 obtain ⟨x8,Ci,h⟩ := bind_some h
 refine VW.cut [(0,.val (i64 a0)),(1,.val (dM a1)),(2,.val (dI a2)),(28,.val (.bool x8))] ?_ fun hy => ?_
 rotate_left
 ·clear h
  obtain ⟨v5,De,Ci⟩ := bind_some Ci
  obtain ⟨Df,Bz,B0,B1⟩ := idx_some De
  replace Bz : 0 < a1.length := Bz
  replace B0 : a1[0]? = some v5 := B0
  replace B1 : ∀ h,a1[0]'h = v5 := B1
  by_cases Dj : ¬ (a2.length : Int) = (v5.length : Int)
  ·rw [if_pos Dj] at Ci
   have Bv : ieq (a2.length : Int) (v5.length : Int) = false := by simpa [ieq,ilt,ile] using Dj
   have Bw := Bv
   try simp at Bw
   cases Ci
   refine VW.ws tau_ok Sound.none _ _ rfl ?_ hy
   simp [Df,Bz,B0,B1,Bv,Bw]
  ·rw [if_neg Dj] at Ci
   have Bv : ieq (a2.length : Int) (v5.length : Int) = true := by simpa [ieq,ilt,ile] using Dj
   have Bw := Bv
   try simp at Bw
   obtain ⟨v7,A2,Ci⟩ := bind_some Ci
   cases Ci
   refine VW.ws tau_ok (Sound.none.add 26 (i_field_is_ok A2) rfl) _ _ rfl ?_ hy
   simp [Df,Bz,B0,B1,Bv,Bw]
 refine VW.cond rfl (fun Cw => ?_) (fun Cw => ?_)
 ·
  replace Cw : x8 = true := by simpa [ieq,ilt,ile] using Cw
  rw [if_pos Cw] at h
  refine zs [(6,.ref 6 [] true (.list [])),(7,.val (i64 2))] ?_ ?_
  ·simp
  cases h
  refine VW.ret ?_
  simp [Post,PostM,PostC,PostC2,Nx,Bk]
 replace Cw : ¬ (x8 = true) := by simpa [ieq,ilt,ile] using Cw
 rw [if_neg Cw] at h
 refine VW.skip ?_
 refine hK4 _ ?_
 obtain ⟨v10,Dr,h⟩ := bind_some h
 refine VW.ws tau_ok (Sound.none.add 32 (i_field_apply_ok Dr) rfl) _ [(6,.ref 6 [] true (dI v10)),(7,.val (i64 0))] rfl ?_ ?_
 ·simp
 cases h
 refine VW.ret ?_
 simp [Post,PostM,PostC,PostC2,Nx,Bk]

theorem i_Space_isVector_ok {a0_0 : Int} {a0_1 : List Int} {a1 : List Int} {r : Bool} (h : i_Space_isVector a0_0 a0_1 a1 = some r) :
  VCall Try.prog 217 [.agg [i64 a0_0,dI a0_1],dI a1] [.sc (.bool r)] := by
 unfold i_Space_isVector at h
 refine VCall.enter Try.call217 Try.func217 rfl 16 Try.ntmps217 (by simp) [.tmp 4] rfl ?_
 show VW _ _ _ (mk [(0,.val (.agg [i64 a0_0,dI a0_1])),(1,.val (dI a1))]) _
 refine zs [(1,.val (dI a1)),(2,.val (.ptr [i64 a0_0,dI a0_1]))] ?_ ?_
 ·simp
 obtain ⟨x5,Ar,h⟩ := bind_some h
 refine VW.cut [(4,.val (.bool x5))] ?_ fun hy => ?_
 rotate_left
 ·clear h
  obtain ⟨v1,Bx,Ar⟩ := bind_some Ar
  by_cases By : (a1.length : Int) = v1
  ·rw [if_pos By] at Ar
   have P : ieq (a1.length : Int) v1 = true := by simpa [ieq,ilt,ile] using By
   have Q := P
   try simp at Q
   obtain ⟨v3,Ck,Ar⟩ := bind_some Ar
   obtain ⟨v4,A3,Ar⟩ := bind_some Ar
   cases Ar
   refine VW.ws tau_ok (((Sound.none.add 8 (i_Space_dim_ok Bx) rfl).add 12 (i_Space_field_ok Ck) rfl).add 14 (i_field_is_ok A3) rfl) _ _ rfl ?_ hy
   simp [P,Q]
  ·rw [if_neg By] at Ar
   have P : ieq (a1.length : Int) v1 = false := by simpa [ieq,ilt,ile] using By
   have Q := P
   try simp at Q
   cases Ar
   refine VW.ws tau_ok (Sound.none.add 8 (i_Space_dim_ok Bx) rfl) _ _ rfl ?_ hy
   simp [P,Q]
 cases h
 refine VW.ret ?_
 simp [Post,PostM,PostC,PostC2,Nx,Bk]

theorem i_checkVectors_c1_ok {a0 : List Int} {a1_0 : Int} {a1_1 : List Int} {r : Bool} (h : i_checkVectors_c1 a0 a1_0 a1_1 = some r) :
  VCall Try.prog 216 [dI a0,.ptr [i64 a1_0,dI a1_1]] [.sc (.bool r)] := by
 unfold i_checkVectors_c1 at h
 refine VCall.enter Try.call216 Try.func216 rfl 8 Try.ntmps216 (by simp) [.tmp 3] rfl ?_
 show VW _ _ _ (mk [(0,.val (dI a0)),(1,.val (.ptr [i64 a1_0,dI a1_1]))]) _
 refine zs [(0,.val (dI a0)),(1,.val (.ptr [i64 a1_0,dI a1_1]))] ?_ ?_
 ·simp
 obtain ⟨v1,Bx,h⟩ := bind_some h
 refine VW.ws tau_ok (Sound.none.add 6 (i_Space_isVector_ok Bx) rfl) _ [(3,.val (.bool (!v1)))] rfl ?_ ?_
 ·simp
 cases h
 refine VW.ret ?_
 simp [Post,PostM,PostC,PostC2,Nx,Bk]

theorem g_slices_IndexFunc_LLI_LI_of_i_checkVectors_c1_ok {a0 : List (List Int)} {a1_0_0 : Int} {a1_0_1 : List Int} {r : Int} (h : g_slices_IndexFunc_LLI_LI_of_i_checkVectors_c1 a0 a1_0_0 a1_0_1 = some r) :
  VCall Try.prog 175 [dM a0,.fn 216 [.ptr [i64 a1_0_0,dI a1_0_1]]] [.sc (i64 r)] := by
 unfold g_slices_IndexFunc_LLI_LI_of_i_checkVectors_c1 at h
 refine VCall.enter Try.call175 Try.func175 rfl 19 Try.ntmps175 (by simp) [.tmp 4] rfl ?_
 show VW _ _ _ (mk [(0,.val (dM a0)),(1,.val (.fn 216 [.ptr [i64 a1_0_0,dI a1_0_1]]))]) _
 refine zs [(0,.val (dM a0)),(1,.val (.fn 216 [.ptr [i64 a1_0_0,dI a1_0_1]]))] ?_ ?_
 ·simp
 refine VW.sqc fun K1 hK1 hCK1 => ?_
 refine zs [(0,.val (dM a0)),(1,.val (.fn 216 [.ptr [i64 a1_0_0,dI a1_0_1]])),(7,.val (i64 (a0.length : Int))),(8,.val (i64 0))] ?_ ?_
 ·simp
 obtain ⟨x2,Aq,h⟩ := bind_some h
 refine VW.tlO (fun y4 => []) x2 (hCK1) ?_ ?_
 ·clear Aq
  rintro y4 rfl
  dsimp only at h
  refine hK1 _ ?_
  refine zs [(4,.val (i64 (-1)))] ?_ ?_
  ·simp
  cases h
  refine VW.ret ?_
  simp [Post,PostM,PostC,PostC2,Nx,Bk]
 refine VW.block ?_
 refine VW.loopF (g_slices_IndexFunc_LLI_LI_of_i_checkVectors_c1_L0 a0 a1_0_0 a1_0_1) (fun s2 => [(0,.val (dM a0)),(1,.val (.fn 216 [.ptr [i64 a1_0_0,dI a1_0_1]])),(7,.val (i64 (a0.length : Int))),(8,.val (i64 s2))]) Aq (Fits.of rfl) ?_
 clear Aq
 intro s2 ox2 A Ab
 unfold g_slices_IndexFunc_LLI_LI_of_i_checkVectors_c1_L0 at A
 refine zs [(0,.val (dM a0)),(1,.val (.fn 216 [.ptr [i64 a1_0_0,dI a1_0_1]])),(7,.val (i64 (a0.length : Int))),(8,.val (i64 s2)),(9,.val (.bool (ilt s2 (a0.length : Int))))] ?_ ?_
 ·simp
 refine VW.sqc fun K5 hK5 hCK5 => ?_
 refine VW.cond rfl (fun I => ?_) (fun I => ?_)
 rotate_left
 ·
  replace I : ¬ (s2 < (a0.length : Int)) := by simpa [ieq,ilt,ile] using I
  rw [if_neg I] at A
  refine VW.exit ?_
  cases A
  have hq := Ab _ rfl
  subst hq
  exact ⟨_,rfl,Fits.of rfl⟩
 replace I : s2 < (a0.length : Int) := by simpa [ieq,ilt,ile] using I
 rw [if_pos I] at A
 refine VW.skip ?_
 refine hK5 _ ?_
 refine VW.sqc fun K7 hK7 hCK7 => ?_
 refine VW.block ?_
 refine zs [(0,.val (dM a0)),(1,.val (.fn 216 [.ptr [i64 a1_0_0,dI a1_0_1]])),(5,.val (i64 s2)),(7,.val (i64 (a0.length : Int))),(8,.val (i64 s2))] ?_ ?_
 ·simp
 obtain ⟨v8,Cr,A⟩ := bind_some A
 obtain ⟨Cs,Ct,Cu,Cv⟩ := idx_some Cr
 obtain ⟨v9,Cm,A⟩ := bind_some A
 refine VW.ws tau_ok (Sound.none.add 16 (i_checkVectors_c1_ok Cm) rfl) _ [(0,.val (dM a0)),(1,.val (.fn 216 [.ptr [i64 a1_0_0,dI a1_0_1]])),(5,.val (i64 s2)),(7,.val (i64 (a0.length : Int))),(8,.val (i64 s2)),(16,.val (.bool v9))] rfl ?_ ?_
 ·simp [Cs,Ct,Cu,Cv]
 refine VW.cond rfl (fun S => ?_) (fun S => ?_)
 rotate_left
 ·
  replace S : ¬ (v9 = true) := by simpa [ieq,ilt,ile] using S
  rw [if_neg S] at A
  refine VW.skip ?_
  refine hK7 _ ?_
  refine zr [(0,.val (dM a0)),(1,.val (.fn 216 [.ptr [i64 a1_0_0,dI a1_0_1]])),(7,.val (i64 (a0.length : Int))),(8,.val (i64 (w64 (s2 + 1))))] ?_ ?_
  ·simp
  cases A
  exact ⟨_,rfl,Fits.of rfl⟩
 replace S : v9 = true := by simpa [ieq,ilt,ile] using S
 rw [if_pos S] at A
 refine zs [(4,.val (i64 s2))] ?_ ?_
 ·simp
 cases A
 have hq := Ab _ rfl
 subst hq
 dsimp only at h
 cases h
 refine VW.ret ?_
 simp [Post,PostM,PostC,PostC2,Nx,Bk]

theorem g_slices_ContainsFunc_LLI_LI_of_i_checkVectors_c1_ok {a0 : List (List Int)} {a1_0_0 : Int} {a1_0_1 : List Int} {r : Bool} (h : g_slices_ContainsFunc_LLI_LI_of_i_checkVectors_c1 a0 a1_0_0 a1_0_1 = some r) :
  VCall Try.prog 102 [dM a0,.fn 216 [.ptr [i64 a1_0_0,dI a1_0_1]]] [.sc (.bool r)] := by
 unfold g_slices_ContainsFunc_LLI_LI_of_i_checkVectors_c1 at h
 refine VCall.enter Try.call102 Try.func102 rfl 9 Try.ntmps102 (by simp) [.tmp 4] rfl ?_
 show VW _ _ _ (mk [(0,.val (dM a0)),(1,.val (.fn 216 [.ptr [i64 a1_0_0,dI a1_0_1]]))]) _
 refine zs [(0,.val (dM a0)),(1,.val (.fn 216 [.ptr [i64 a1_0_0,dI a1_0_1]]))] ?_ ?_
 ·simp
 obtain ⟨v1,Bx,h⟩ := bind_some h
 refine VW.ws tau_ok (Sound.none.add 7 (g_slices_IndexFunc_LLI_LI_of_i_checkVectors_c1_ok Bx) rfl) _ [(4,.val (.bool (ile 0 v1)))] rfl ?_ ?_
 ·simp
 cases h
 refine VW.ret ?_
 simp [Post,PostM,PostC,PostC2,Nx,Bk]

theorem i_checkVectors_ok {a0_0 : Int} {a0_1 : List Int} {a1 : List (List Int)} {r : Int} (h : i_checkVectors a0_0 a0_1 a1 = some r) :
  VCall Try.prog 158 [.agg [i64 a0_0,dI a0_1],dM a1] [.sc (i64 r)] := by
 unfold i_checkVectors at h
 refine VCall.enter Try.call158 Try.func158 rfl 11 Try.ntmps158 (by simp) [.tmp 4] rfl ?_
 show VW _ _ _ (mk [(0,.val (.agg [i64 a0_0,dI a0_1])),(1,.val (dM a1))]) _
 refine zs [(1,.val (dM a1)),(2,.val (.ptr [i64 a0_0,dI a0_1]))] ?_ ?_
 ·simp
 refine VW.sqc fun K1 hK1 hCK1 => ?_
 obtain ⟨v2,Bm,h⟩ := bind_some h
 refine VW.ws tau_ok (Sound.none.add 6 (i_IsSpace_ok Bm) rfl) _ [(1,.val (dM a1)),(2,.val (.ptr [i64 a0_0,dI a0_1])),(7,.val (.bool (!v2)))] rfl ?_ ?_
 ·simp
 refine VW.cond rfl (fun H => ?_) (fun H => ?_)
 ·
  replace H : v2 = false := by simpa [ieq,ilt,ile] using H
  rw [if_pos H] at h
  refine zs [(4,.val (i64 1))] ?_ ?_
  ·simp
  cases h
  refine VW.ret ?_
  simp [Post,PostM,PostC,PostC2,Nx,Bk]
 replace H : ¬ (v2 = false) := by simpa [ieq,ilt,ile] using H
 rw [if_neg H] at h
 refine VW.skip ?_
 refine hK1 _ ?_
 refine VW.sqc fun K4 hK4 hCK4 => ?_
 obtain ⟨v5,De,h⟩ := bind_some h
 refine VW.ws tau_ok (Sound.none.add 10 (g_slices_ContainsFunc_LLI_LI_of_i_checkVectors_c1_ok De) rfl) _ [(10,.val (.bool v5))] rfl ?_ ?_
 ·simp
 refine VW.cond rfl (fun I => ?_) (fun I => ?_)
 ·
  replace I : v5 = true := by simpa [ieq,ilt,ile] using I
  rw [if_pos I] at h
  refine zs [(4,.val (i64 2))] ?_ ?_
  ·simp
  cases h
  refine VW.ret ?_
  simp [Post,PostM,PostC,PostC2,Nx,Bk]
 replace I : ¬ (v5 = true) := by simpa [ieq,ilt,ile] using I
 rw [if_neg I] at h
 refine VW.skip ?_
 refine hK4 _ ?_
 refine zs [(4,.val (i64 0))] ?_ ?_
 ·simp
 cases h
 refine VW.ret ?_
 simp [Post,PostM,PostC,PostC2,Nx,Bk]

theorem i_PairOf_ok {a0_0 : Int} {a0_1 : List Int} {a1 : List Int} {a2 : List Int} {r : Int × Int} (h : i_PairOf a0_0 a0_1 a1 a2 = some r) :
  VCall Try.prog 73 [.agg [i64 a0_0,dI a0_1],dI a1,dI a2] [.sc (i64 r.1),.sc (i64 r.2)] := by
 unfold i_PairOf at h
 refine VCall.enter Try.call73 Try.func73 rfl 21 Try.ntmps73 (by simp) [.tmp 6,.tmp 7] rfl ?_
 show VW _ _ _ (mk [(0,.val (.agg [i64 a0_0,dI a0_1])),(1,.val (dI a1)),(2,.val (dI a2))]) _
 refine zs [(1,.val (dI a1)),(2,.val (dI a2)),(3,.val (.ptr [i64 a0_0,dI a0_1]))] ?_ ?_
 ·simp
 refine VW.sqc fun K1 hK1 hCK1 => ?_
 obtain ⟨v2,Bm,h⟩ := bind_some h
 refine VW.ws tau_ok (Sound.none.add 13 (i_checkVectors_ok Bm) rfl) _ [(1,.val (dI a1)),(2,.val (dI a2)),(3,.val (.ptr [i64 a0_0,dI a0_1])),(8,.val (i64 v2))] rfl ?_ ?_
 ·simp
 refine zs [(1,.val (dI a1)),(2,.val (dI a2)),(3,.val (.ptr [i64 a0_0,dI a0_1])),(8,.val (i64 v2)),(15,.val (.bool (!(ieq v2 0))))] ?_ ?_
 ·simp
 refine VW.cond rfl (fun H => ?_) (fun H => ?_)
 ·
  replace H : ¬ v2 = 0 := by simpa [ieq,ilt,ile] using H
  rw [if_pos H] at h
  refine zs [(6,.val (i64 0)),(7,.val (i64 v2))] ?_ ?_
  ·simp
  cases h
  refine VW.ret ?_
  simp [Post,PostM,PostC,PostC2,Nx,Bk]
 replace H : ¬ (¬ v2 = 0) := by simpa [ieq,ilt,ile] using H
 rw [if_neg H] at h
 refine VW.skip ?_
 refine hK1 _ ?_
 obtain ⟨v4,A3,h⟩ := bind_some h
 refine VW.ws tau_ok (Sound.none.add 20 (i_Space_pair_ok A3) rfl) _ [(6,.val (i64 v4)),(7,.val (i64 0))] rfl ?_ ?_
 ·simp
 cases h
 refine VW.ret ?_
 simp [Post,PostM,PostC,PostC2,Nx,Bk]

set_option maxHeartbeats 4000000 in
theorem l_FnIsometries_ok {a0 : List Int} {r : Bool} (h : l_FnIsometries a0 = some r) :
  VCall Try.prog 10 [.list (a0.map (D.int .u8))] [.sc (.bool r)] := by
 unfold l_FnIsometries at h
 refine VCall.enter Try.call10 Try.func10 rfl 210 Try.ntmps10 (by simp) [.tmp 2] rfl ?_
 show VW _ _ _ (mk [(0,.val (.list (a0.map (D.int .u8))))]) _
 refine zs [(0,.val (.list (a0.map (D.int .u8))))] ?_ ?_
 ·simp
 refine VW.sqc fun K1 hK1 hCK1 => ?_
 obtain ⟨v2,Bm,h⟩ := bind_some h
 refine VW.ws tau_ok (Sound.none.add 32 (l_big_ok Bm) rfl) _ [(0,.val (.list (a0.map (D.int .u8)))),(32,.val (.bool v2))] rfl ?_ ?_
 ·simp
 refine VW.cond rfl (fun H => ?_) (fun H => ?_)
 ·
  replace H : v2 = true := by simpa [ieq,ilt,ile] using H
  rw [if_pos H] at h
  refine zs [(2,.val (.bool true))] ?_ ?_
  ·simp
  cases h
  refine VW.ret ?_
  simp [Post,PostM,PostC,PostC2,Nx,Bk]
 replace H : ¬ (v2 = true) := by simpa [ieq,ilt,ile] using H
 rw [if_neg H] at h
 refine VW.skip ?_
 refine hK1 _ ?_
 obtain ⟨v4,A3,h⟩ := bind_some h
 refine VW.ws tau_ok (Sound.none.add 35 (s_DrawIsometryOf_ok A3) rfl) _ [(0,.val (.list (a0.map (D.int .u8)))),(3,.val (.ptr [i64 v4.1.1,dI v4.1.2])),(4,.val (.ptr [i64 v4.2.1,dI v4.2.2]))] rfl ?_ ?_
 ·simp
 obtain ⟨v5,De,h⟩ := bind_some h
 refine VW.ws tau_ok (Sound.none.add 41 (i_IsometryOf_ok De) rfl) _ [(0,.val (.list (a0.map (D.int .u8)))),(3,.val (.ptr [i64 v4.1.1,dI v4.1.2])),(4,.val (.ptr [i64 v4.2.1,dI v4.2.2])),(5,.ref 5 [] true (dM v5.1)),(6,.val (i64 v5.2))] rfl ?_ ?_
 ·simp
 obtain ⟨v6,Cy,h⟩ := bind_some h
 refine VW.ws tau_ok (Sound.none.add 47 (s_IsometryOf_ok Cy) rfl) _ [(0,.val (.list (a0.map (D.int .u8)))),(3,.val (.ptr [i64 v4.1.1,dI v4.1.2])),(4,.val (.ptr [i64 v4.2.1,dI v4.2.2])),(5,.ref 5 [] true (dM v5.1)),(6,.val (i64 v5.2)),(7,.ref 7 [] true (dM v6.1)),(8,.val (i64 v6.2))] rfl ?_ ?_
 ·simp
 obtain ⟨v7,A2,h⟩ := bind_some h
 refine VW.ws tau_ok (Sound.none.add 53 (i_AreIsometric_ok A2) rfl) _ [(0,.val (.list (a0.map (D.int .u8)))),(3,.val (.ptr [i64 v4.1.1,dI v4.1.2])),(4,.val (.ptr [i64 v4.2.1,dI v4.2.2])),(5,.ref 5 [] true (dM v5.1)),(6,.val (i64 v5.2)),(7,.ref 7 [] true (dM v6.1)),(8,.val (i64 v6.2)),(9,.val (.bool v7.1)),(10,.val (i64 v7.2))] rfl ?_ ?_
 ·simp
 obtain ⟨v8,Cr,h⟩ := bind_some h
 refine VW.ws tau_ok (Sound.none.add 59 (s_AreIsometric_ok Cr) rfl) _ [(0,.val (.list (a0.map (D.int .u8)))),(3,.val (.ptr [i64 v4.1.1,dI v4.1.2])),(4,.val (.ptr [i64 v4.2.1,dI v4.2.2])),(5,.ref 5 [] true (dM v5.1)),(6,.val (i64 v5.2)),(7,.ref 7 [] true (dM v6.1)),(8,.val (i64 v6.2)),(9,.val (.bool v7.1)),(10,.val (i64 v7.2)),(11,.val (.bool v8.1)),(12,.val (i64 v8.2))] rfl ?_ ?_
 ·simp
 refine VW.sqc fun K9 hK9 hCK9 => ?_
 obtain ⟨x14,Aa,h⟩ := bind_some h
 refine VW.cut [(0,.val (.list (a0.map (D.int .u8)))),(3,.val (.ptr [i64 v4.1.1,dI v4.1.2])),(4,.val (.ptr [i64 v4.2.1,dI v4.2.2])),(5,.ref 5 [] true (dM v5.1)),(6,.val (i64 v5.2)),(9,.val (.bool v7.1)),(10,.val (i64 v7.2)),(80,.val (.bool x14))] ?_ fun hy => ?_
 rotate_left
 ·clear h
  by_cases Ao : ¬ v5.2 = v6.2
  ·rw [if_pos Ao] at Aa
   have E : ieq v5.2 v6.2 = false := by simpa [ieq,ilt,ile] using Ao
   have F := E
   try simp at F
   cases Aa
   refine VW.ws tau_ok Sound.none _ _ rfl ?_ hy
   simp [E,F]
  ·rw [if_neg Ao] at Aa
   have E : ieq v5.2 v6.2 = true := by simpa [ieq,ilt,ile] using Ao
   have F := E
   try simp at F
   obtain ⟨v11,Bn,Aa⟩ := bind_some Aa
   by_cases B2 : v11 = false
   ·rw [if_pos B2] at Aa
    have Ag : v11 = false := by simpa [ieq,ilt,ile] using B2
    have Ah := Ag
    try simp at Ah
    cases Aa
    refine VW.ws tau_ok (Sound.none.add 68 (l_likeRows5_ok Bn) rfl) _ _ rfl ?_ hy
    simp [E,F,Ag,Ah]
   ·rw [if_neg B2] at Aa
    have Ag : v11 = true := by simpa [ieq,ilt,ile] using B2
    have Ah := Ag
    try simp at Ah
    by_cases Ap : ¬ v7.2 = v8.2
    ·rw [if_pos Ap] at Aa
     have L : ieq v7.2 v8.2 = false := by simpa [ieq,ilt,ile] using Ap
     have M := L
     try simp at M
     cases Aa
     refine VW.ws tau_ok (Sound.none.add 68 (l_likeRows5_ok Bn) rfl) _ _ rfl ?_ hy
     simp [E,F,Ag,Ah,L,M]
    ·rw [if_neg Ap] at Aa
     have L : ieq v7.2 v8.2 = true := by simpa [ieq,ilt,ile] using Ap
     have M := L
     try simp at M
     cases Aa
     refine VW.ws tau_ok (Sound.none.add 68 (l_likeRows5_ok Bn) rfl) _ _ rfl ?_ hy
     simp [E,F,Ag,Ah,L,M]
 refine VW.cond rfl (fun Bb => ?_) (fun Bb => ?_)
 ·
  replace Bb : x14 = true := by simpa [ieq,ilt,ile] using Bb
  rw [if_pos Bb] at h
  refine zs [(2,.val (.bool false))] ?_ ?_
  ·simp
  cases h
  refine VW.ret ?_
  simp [Post,PostM,PostC,PostC2,Nx,Bk]
 replace Bb : ¬ (x14 = true) := by simpa [ieq,ilt,ile] using Bb
 rw [if_neg Bb] at h
 refine VW.skip ?_
 refine hK9 _ ?_
 refine VW.sqc fun K16 hK16 hCK16 => ?_
 refine zs [(0,.val (.list (a0.map (D.int .u8)))),(3,.val (.ptr [i64 v4.1.1,dI v4.1.2])),(4,.val (.ptr [i64 v4.2.1,dI v4.2.2])),(5,.ref 5 [] true (dM v5.1)),(6,.val (i64 v5.2)),(9,.val (.bool v7.1)),(10,.val (i64 v7.2)),(82,.val (.bool (!(ieq v7.2 0))))] ?_ ?_
 ·simp
 refine VW.cond rfl (fun R => ?_) (fun R => ?_)
 ·
  replace R : ¬ v7.2 = 0 := by simpa [ieq,ilt,ile] using R
  rw [if_pos R] at h
  refine zs [(2,.val (.bool (ieq v5.2 v7.2)))] ?_ ?_
  ·simp
  cases h
  refine VW.ret ?_
  simp [Post,PostM,PostC,PostC2,Nx,Bk]
 replace R : ¬ (¬ v7.2 = 0) := by simpa [ieq,ilt,ile] using R
 rw [if_neg R] at h
 refine VW.skip ?_
 refine hK16 _ ?_
 refine VW.sqc fun K18 hK18 hCK18 => ?_
 refine zs [(0,.val (.list (a0.map (D.int .u8)))),(3,.val (.ptr [i64 v4.1.1,dI v4.1.2])),(4,.val (.ptr [i64 v4.2.1,dI v4.2.2])),(5,.ref 5 [] true (dM v5.1)),(6,.val (i64 v5.2)),(9,.val (.bool v7.1)),(86,.val (.bool v7.1))] ?_ ?_
 ·simp
 obtain ⟨x19,Af,h⟩ := bind_some h
 refine VW.tlO (fun y21 => [(0,.val (.list (a0.map (D.int .u8)))),(3,.val (.ptr [i64 v4.1.1,dI v4.1.2])),(4,.val (.ptr [i64 v4.2.1,dI v4.2.2])),(5,.ref 5 [] true (dM v5.1)),(6,.val (i64 v5.2)),(9,.val (.bool v7.1))]) x19 (hCK18) ?_ ?_
 ·clear Af
  rintro y21 rfl
  dsimp only at h
  refine hK18 _ ?_
  refine VW.sqc fun K35 hK35 hCK35 => ?_
  obtain ⟨x40,V,h⟩ := bind_some h
  refine VW.cut [(0,.val (.list (a0.map (D.int .u8)))),(3,.val (.ptr [i64 v4.1.1,dI v4.1.2])),(4,.val (.ptr [i64 v4.2.1,dI v4.2.2])),(5,.ref 5 [] true (dM v5.1)),(6,.val (i64 v5.2)),(128,.val (.bool x40))] ?_ fun hy => ?_
  rotate_left
  ·clear h
   by_cases B3 : v5.2 = 4
   ·rw [if_pos B3] at V
    have W : ieq v5.2 4 = true := by simpa [ieq,ilt,ile] using B3
    have X := W
    try simp at X
    by_cases B4 : v7.1 = true
    ·rw [if_pos B4] at V
     have Ai : v7.1 = true := by simpa [ieq,ilt,ile] using B4
     have Aj := Ai
     try simp at Aj
     cases V
     refine VW.ws tau_ok Sound.none _ _ rfl ?_ hy
     simp [W,X,Ai,Aj]
    ·rw [if_neg B4] at V
     have Ai : v7.1 = false := by simpa [ieq,ilt,ile] using B4
     have Aj := Ai
     try simp at Aj
     by_cases B5 : v5.2 = 0
     ·rw [if_pos B5] at V
      have Au : ieq v5.2 0 = true := by simpa [ieq,ilt,ile] using B5
      have Av := Au
      try simp at Av
      cases V
      refine VW.ws tau_ok Sound.none _ _ rfl ?_ hy
      simp [W,X,Ai,Aj,Au,Av]
     ·rw [if_neg B5] at V
      have Au : ieq v5.2 0 = false := by simpa [ieq,ilt,ile] using B5
      have Av := Au
      try simp at Av
      cases V
      refine VW.ws tau_ok Sound.none _ _ rfl ?_ hy
      simp [W,X,Ai,Aj,Au,Av]
   ·rw [if_neg B3] at V
    have W : ieq v5.2 4 = false := by simpa [ieq,ilt,ile] using B3
    have X := W
    try simp at X
    by_cases B6 : v5.2 = 0
    ·rw [if_pos B6] at V
     have Aw : ieq v5.2 0 = true := by simpa [ieq,ilt,ile] using B6
     have Ax := Aw
     try simp at Ax
     cases V
     refine VW.ws tau_ok Sound.none _ _ rfl ?_ hy
     simp [W,X,Aw,Ax]
    ·rw [if_neg B6] at V
     have Aw : ieq v5.2 0 = false := by simpa [ieq,ilt,ile] using B6
     have Ax := Aw
     try simp at Ax
     cases V
     refine VW.ws tau_ok Sound.none _ _ rfl ?_ hy
     simp [W,X,Aw,Ax]
  refine VW.cond rfl (fun Bc => ?_) (fun Bc => ?_)
  ·
   replace Bc : x40 = true := by simpa [ieq,ilt,ile] using Bc
   rw [if_pos Bc] at h
   refine zs [(2,.val (.bool false))] ?_ ?_
   ·simp
   cases h
   refine VW.ret ?_
   simp [Post,PostM,PostC,PostC2,Nx,Bk]
  replace Bc : ¬ (x40 = true) := by simpa [ieq,ilt,ile] using Bc
  rw [if_neg Bc] at h
  refine VW.skip ?_
  refine hK35 _ ?_
  refine VW.sqc fun K42 hK42 hCK42 => ?_
  refine zs [(0,.val (.list (a0.map (D.int .u8)))),(3,.val (.ptr [i64 v4.1.1,dI v4.1.2])),(4,.val (.ptr [i64 v4.2.1,dI v4.2.2])),(5,.ref 5 [] true (dM v5.1)),(130,.val (.bool (!(ieq v5.2 0))))] ?_ ?_
  ·simp
  refine VW.cond rfl (fun Bd => ?_) (fun Bd => ?_)
  ·
   replace Bd : ¬ v5.2 = 0 := by simpa [ieq,ilt,ile] using Bd
   rw [if_pos Bd] at h
   refine zs [(2,.val (.bool true))] ?_ ?_
   ·simp
   cases h
   refine VW.ret ?_
   simp [Post,PostM,PostC,PostC2,Nx,Bk]
  replace Bd : ¬ (¬ v5.2 = 0) := by simpa [ieq,ilt,ile] using Bd
  rw [if_neg Bd] at h
  refine VW.skip ?_
  refine hK42 _ ?_
  obtain ⟨v44,Ds,h⟩ := bind_some h
  refine VW.ws tau_ok (Sound.none.add 135 (i_IsIsometry_ok Ds) rfl) _ [(0,.val (.list (a0.map (D.int .u8)))),(3,.val (.ptr [i64 v4.1.1,dI v4.1.2])),(4,.val (.ptr [i64 v4.2.1,dI v4.2.2])),(5,.ref 5 [] true (dM v5.1)),(18,.val (.bool v44.1)),(19,.val (i64 v44.2))] rfl ?_ ?_
  ·simp
  obtain ⟨v45,Dt,h⟩ := bind_some h
  refine VW.ws tau_ok (Sound.none.add 139 (l_roll_ok Dt) rfl) _ [(3,.val (.ptr [i64 v4.1.1,dI v4.1.2])),(4,.val (.ptr [i64 v4.2.1,dI v4.2.2])),(5,.ref 5 [] true (dM v5.1)),(18,.val (.bool v44.1)),(19,.val (i64 v44.2)),(20,.ref 20 [] false (.ptr [.list (v45.1.map (D.int .u8)),i64 v45.2.1,.int .u64 v45.2.2]))] rfl ?_ ?_
  ·simp
  obtain ⟨v46,Du,h⟩ := bind_some h
  obtain ⟨v47,Dv,h⟩ := bind_some h
  refine VW.wxs tau_ok ((Sound.none.ptrc 146 (l_list5_ok Du)).ptrc 153 (l_list5_ok Dv)) try_mixed [some 140,some 141,some 142,some 143,some 144,some 145,some 146,some 147,some 148,some 149,some 150,some 151,some 152,some 153,some 21,some 22] [(3,.val (.ptr [i64 v4.1.1,dI v4.1.2])),(4,.val (.ptr [i64 v4.2.1,dI v4.2.2])),(5,.ref 5 [] true (dM v5.1)),(18,.val (.bool v44.1)),(19,.val (i64 v44.2)),(21,.ref 21 [] true (dI v46.1)),(22,.ref 22 [] true (dI v47.1))] [0,0,0,0,0,0,2,0,1,1,1,1,1,3,3,3] [[20],[3],[141],[142],[3],[144],[140,143,145],[20],[3],[148],[149],[3],[151],[147,150,152],[146],[153]] [20,146] rfl rfl (by kernel_rfl) (by rfl) ?_ ?_
  ·simp
  obtain ⟨v48,Dw,h⟩ := bind_some h
  refine VW.ws tau_ok (Sound.none.add 159 (i_ApplyMatrix_ok Dw) rfl) _ [(3,.val (.ptr [i64 v4.1.1,dI v4.1.2])),(4,.val (.ptr [i64 v4.2.1,dI v4.2.2])),(5,.ref 5 [] true (dM v5.1)),(18,.val (.bool v44.1)),(19,.val (i64 v44.2)),(21,.ref 21 [] true (dI v46.1)),(22,.ref 22 [] true (dI v47.1)),(23,.ref 23 [] true (dI v48.1)),(24,.val (i64 v48.2))] rfl ?_ ?_
  ·simp
  obtain ⟨v49,Dx,h⟩ := bind_some h
  refine VW.ws tau_ok (Sound.none.add 167 (i_ApplyMatrix_ok Dx) rfl) _ [(3,.val (.ptr [i64 v4.1.1,dI v4.1.2])),(4,.val (.ptr [i64 v4.2.1,dI v4.2.2])),(18,.val (.bool v44.1)),(19,.val (i64 v44.2)),(21,.ref 21 [] true (dI v46.1)),(22,.ref 22 [] true (dI v47.1)),(23,.ref 23 [] true (dI v48.1)),(24,.val (i64 v48.2)),(25,.ref 25 [] true (dI v49.1)),(26,.val (i64 v49.2))] rfl ?_ ?_
  ·simp
  obtain ⟨v50,Dy,h⟩ := bind_some h
  refine VW.ws tau_ok (Sound.none.add 174 (i_PairOf_ok Dy) rfl) _ [(4,.val (.ptr [i64 v4.2.1,dI v4.2.2])),(18,.val (.bool v44.1)),(19,.val (i64 v44.2)),(23,.ref 23 [] true (dI v48.1)),(24,.val (i64 v48.2)),(25,.ref 25 [] true (dI v49.1)),(26,.val (i64 v49.2)),(27,.val (i64 v50.1)),(28,.val (i64 v50.2))] rfl ?_ ?_
  ·simp
  obtain ⟨v51,Dz,h⟩ := bind_some h
  refine VW.ws tau_ok (Sound.none.add 181 (i_PairOf_ok Dz) rfl) _ [(18,.val (.bool v44.1)),(19,.val (i64 v44.2)),(24,.val (i64 v48.2)),(26,.val (i64 v49.2)),(27,.val (i64 v50.1)),(28,.val (i64 v50.2)),(29,.val (i64 v51.1)),(30,.val (i64 v51.2))] rfl ?_ ?_
  ·simp
  obtain ⟨x58,J,h⟩ := bind_some h
  refine VW.cut [(2,.val (.bool x58))] ?_ fun hy => ?_
  rotate_left
  ·clear h
   by_cases B7 : v44.2 = 0
   ·rw [if_pos B7] at J
    have N : ieq v44.2 0 = true := by simpa [ieq,ilt,ile] using B7
    have O := N
    try simp at O
    by_cases B8 : v48.2 = 0
    ·rw [if_pos B8] at J
     have T : ieq v48.2 0 = true := by simpa [ieq,ilt,ile] using B8
     have U := T
     try simp at U
     by_cases B9 : v49.2 = 0
     ·rw [if_pos B9] at J
      have Y : ieq v49.2 0 = true := by simpa [ieq,ilt,ile] using B9
      have Z := Y
      try simp at Z
      by_cases Ca : v50.2 = 0
      ·rw [if_pos Ca] at J
       have Ad : ieq v50.2 0 = true := by simpa [ieq,ilt,ile] using Ca
       have Ae := Ad
       try simp at Ae
       by_cases Cb : v51.2 = 0
       ·rw [if_pos Cb] at J
        have Ak : ieq v51.2 0 = true := by simpa [ieq,ilt,ile] using Cb
        have Al := Ak
        try simp at Al
        by_cases Cc : v44.1 = true
        ·rw [if_pos Cc] at J
         have Ay : v44.1 = true := by simpa [ieq,ilt,ile] using Cc
         have Az := Ay
         try simp at Az
         cases J
         refine VW.ws tau_ok Sound.none _ _ rfl ?_ hy
         simp [N,O,T,U,Y,Z,Ad,Ae,Ak,Al,Ay,Az]
        ·rw [if_neg Cc] at J
         have Ay : v44.1 = false := by simpa [ieq,ilt,ile] using Cc
         have Az := Ay
         try simp at Az
         cases J
         refine VW.ws tau_ok Sound.none _ _ rfl ?_ hy
         simp [N,O,T,U,Y,Z,Ad,Ae,Ak,Al,Ay,Az]
       ·rw [if_neg Cb] at J
        have Ak : ieq v51.2 0 = false := by simpa [ieq,ilt,ile] using Cb
        have Al := Ak
        try simp at Al
        cases J
        refine VW.ws tau_ok Sound.none _ _ rfl ?_ hy
        simp [N,O,T,U,Y,Z,Ad,Ae,Ak,Al]
      ·rw [if_neg Ca] at J
       have Ad : ieq v50.2 0 = false := by simpa [ieq,ilt,ile] using Ca
       have Ae := Ad
       try simp at Ae
       cases J
       refine VW.ws tau_ok Sound.none _ _ rfl ?_ hy
       simp [N,O,T,U,Y,Z,Ad,Ae]
     ·rw [if_neg B9] at J
      have Y : ieq v49.2 0 = false := by simpa [ieq,ilt,ile] using B9
      have Z := Y
      try simp at Z
      cases J
      refine VW.ws tau_ok Sound.none _ _ rfl ?_ hy
      simp [N,O,T,U,Y,Z]
    ·rw [if_neg B8] at J
     have T : ieq v48.2 0 = false := by simpa [ieq,ilt,ile] using B8
     have U := T
     try simp at U
     cases J
     refine VW.ws tau_ok Sound.none _ _ rfl ?_ hy
     simp [N,O,T,U]
   ·rw [if_neg B7] at J
    have N : ieq v44.2 0 = false := by simpa [ieq,ilt,ile] using B7
    have O := N
    try simp at O
    cases J
    refine VW.ws tau_ok Sound.none _ _ rfl ?_ hy
    simp [N,O]
  cases h
  refine VW.ret ?_
  simp [Post,PostM,PostC,PostC2,Nx,Bk]
 refine VW.cond rfl (fun Be => ?_) (fun Be => ?_)
 rotate_left
 ·
  replace Be : ¬ (v7.1 = true) := by simpa [ieq,ilt,ile] using Be
  rw [if_neg Be] at Af
  refine VW.skip ?_
  cases Af
  exact ⟨_,rfl,Fits.of rfl⟩
 replace Be : v7.1 = true := by simpa [ieq,ilt,ile] using Be
 rw [if_pos Be] at Af
 refine zs [(0,.val (.list (a0.map (D.int .u8)))),(3,.val (.ptr [i64 v4.1.1,dI v4.1.2])),(4,.val (.ptr [i64 v4.2.1,dI v4.2.2])),(5,.ref 5 [] true (dM v5.1)),(6,.val (i64 v5.2)),(9,.val (.bool v7.1)),(13,.val (i64 0))] ?_ ?_
 ·simp
 obtain ⟨x23,Cx,Af⟩ := bind_some Af
 refine VW.tlO (fun y25 => [(0,.val (.list (a0.map (D.int .u8)))),(3,.val (.ptr [i64 v4.1.1,dI v4.1.2])),(4,.val (.ptr [i64 v4.2.1,dI v4.2.2])),(5,.ref 5 [] true (dM v5.1)),(6,.val (i64 v5.2)),(9,.val (.bool v7.1))]) x23 (Cl.ex _ _) ?_ ?_
 ·clear Cx
  rintro y25 rfl
  dsimp only at Af
  cases Af
  exact ⟨_,rfl,Fits.of rfl⟩
 refine VW.block ?_
 refine VW.loopF (l_FnIsometries_L0 v4) (fun s23 => [(0,.val (.list (a0.map (D.int .u8)))),(3,.val (.ptr [i64 v4.1.1,dI v4.1.2])),(4,.val (.ptr [i64 v4.2.1,dI v4.2.2])),(5,.ref 5 [] true (dM v5.1)),(6,.val (i64 v5.2)),(9,.val (.bool v7.1)),(13,.val (i64 s23))]) Cx (Fits.of rfl) ?_
 clear Cx
 intro s23 ox23 C Cj
 unfold l_FnIsometries_L0 at C
 refine VW.sqc fun K26 hK26 hCK26 => ?_
 refine zs [(0,.val (.list (a0.map (D.int .u8)))),(3,.val (.ptr [i64 v4.1.1,dI v4.1.2])),(4,.val (.ptr [i64 v4.2.1,dI v4.2.2])),(5,.ref 5 [] true (dM v5.1)),(6,.val (i64 v5.2)),(9,.val (.bool v7.1)),(13,.val (i64 s23)),(90,.val (.bool (ilt s23 v4.1.1)))] ?_ ?_
 ·simp
 refine VW.cond rfl (fun Bf => ?_) (fun Bf => ?_)
 rotate_left
 ·
  replace Bf : ¬ (s23 < v4.1.1) := by simpa [ieq,ilt,ile] using Bf
  rw [if_neg Bf] at C
  refine VW.exit ?_
  cases C
  have hq := Cj _ rfl
  subst hq
  exact ⟨_,rfl,Fits.of rfl⟩
 replace Bf : s23 < v4.1.1 := by simpa [ieq,ilt,ile] using Bf
 rw [if_pos Bf] at C
 refine VW.skip ?_
 refine hK26 _ ?_
 refine VW.sqc fun K28 hK28 hCK28 => ?_
 refine VW.block ?_
 obtain ⟨v29,D0,C⟩ := bind_some C
 refine VW.ws tau_ok (Sound.none.add 96 (i_CountVectors_ok D0) rfl) _ [(0,.val (.list (a0.map (D.int .u8)))),(3,.val (.ptr [i64 v4.1.1,dI v4.1.2])),(4,.val (.ptr [i64 v4.2.1,dI v4.2.2])),(5,.ref 5 [] true (dM v5.1)),(6,.val (i64 v5.2)),(9,.val (.bool v7.1)),(13,.val (i64 s23)),(14,.val (i64 v29.1)),(15,.val (i64 v29.2))] rfl ?_ ?_
 ·simp
 obtain ⟨v30,D1,C⟩ := bind_some C
 refine VW.ws tau_ok (Sound.none.add 102 (i_CountVectors_ok D1) rfl) _ [(0,.val (.list (a0.map (D.int .u8)))),(3,.val (.ptr [i64 v4.1.1,dI v4.1.2])),(4,.val (.ptr [i64 v4.2.1,dI v4.2.2])),(5,.ref 5 [] true (dM v5.1)),(6,.val (i64 v5.2)),(9,.val (.bool v7.1)),(13,.val (i64 s23)),(14,.val (i64 v29.1)),(15,.val (i64 v29.2)),(16,.val (i64 v30.1)),(17,.val (i64 v30.2))] rfl ?_ ?_
 ·simp
 obtain ⟨x33,Bg,C⟩ := bind_some C
 refine VW.cut [(0,.val (.list (a0.map (D.int .u8)))),(3,.val (.ptr [i64 v4.1.1,dI v4.1.2])),(4,.val (.ptr [i64 v4.2.1,dI v4.2.2])),(5,.ref 5 [] true (dM v5.1)),(6,.val (i64 v5.2)),(9,.val (.bool v7.1)),(13,.val (i64 s23)),(115,.val (.bool x33))] ?_ fun hy => ?_
 rotate_left
 ·clear C
  by_cases Cd : ¬ v29.2 = 0
  ·rw [if_pos Cd] at Bg
   have Am : ieq v29.2 0 = false := by simpa [ieq,ilt,ile] using Cd
   have An := Am
   try simp at An
   cases Bg
   refine VW.ws tau_ok Sound.none _ _ rfl ?_ hy
   simp [Am,An]
  ·rw [if_neg Cd] at Bg
   have Am : ieq v29.2 0 = true := by simpa [ieq,ilt,ile] using Cd
   have An := Am
   try simp at An
   by_cases Ce : ¬ v30.2 = 0
   ·rw [if_pos Ce] at Bg
    have A0 : ieq v30.2 0 = false := by simpa [ieq,ilt,ile] using Ce
    have A1 := A0
    try simp at A1
    cases Bg
    refine VW.ws tau_ok Sound.none _ _ rfl ?_ hy
    simp [Am,An,A0,A1]
   ·rw [if_neg Ce] at Bg
    have A0 : ieq v30.2 0 = true := by simpa [ieq,ilt,ile] using Ce
    have A1 := A0
    try simp at A1
    cases Bg
    refine VW.ws tau_ok Sound.none _ _ rfl ?_ hy
    simp [Am,An,A0,A1]
 refine VW.cond rfl (fun Bh => ?_) (fun Bh => ?_)
 rotate_left
 ·
  replace Bh : ¬ (x33 = true) := by simpa [ieq,ilt,ile] using Bh
  rw [if_neg Bh] at C
  refine VW.skip ?_
  refine hK28 _ ?_
  refine zr [(0,.val (.list (a0.map (D.int .u8)))),(3,.val (.ptr [i64 v4.1.1,dI v4.1.2])),(4,.val (.ptr [i64 v4.2.1,dI v4.2.2])),(5,.ref 5 [] true (dM v5.1)),(6,.val (i64 v5.2)),(9,.val (.bool v7.1)),(13,.val (i64 (w64 (s23 + 1))))] ?_ ?_
  ·simp
  cases C
  exact ⟨_,rfl,Fits.of rfl⟩
 replace Bh : x33 = true := by simpa [ieq,ilt,ile] using Bh
 rw [if_pos Bh] at C
 refine zs [(2,.val (.bool false))] ?_ ?_
 ·simp
 cases C
 have hq := Cj _ rfl
 subst hq
 dsimp only at Af
 cases Af
 dsimp only at h
 cases h
 refine VW.ret ?_
 simp [Post,PostM,PostC,PostC2,Nx,Bk]
end Go.Vam
