import Derived.Test.YtalfgfpgenlokaaR10T
import Derived.Test.YtalfgfpgenlokaaFmG0
import Derived.Test.YtalfgfpgenlokaaR10AW1
import Derived.Test.YtalfgfpgenlokaaR10AW2
namespace Go.Vam
open Go Go.RowKit Go.Proofs
set_option maxRecDepth 100000
set_option linter.unusedSimpArgs false
set_option linter.unusedVariables false

theorem i_field_apply_ok {a0 : Int} {a1 : List (List Int)} {a2 : List Int} {r : List Int} (h : i_field_apply a0 a1 a2 = some r) :
  VCall Try.prog 69 [i64 a0,dM a1,dI a2] [.own true (dI r)] := by
 unfold i_field_apply at h
 refine VCall.enter Try.call69 Try.func69 rfl 26 Try.ntmps69 (by simp) [.tmp 6] rfl ?_
 show VW _ _ _ (mk [(0,.val (i64 a0)),(1,.val (dM a1)),(2,.val (dI a2))]) _
 refine zs [(0,.val (i64 a0)),(1,.val (dM a1)),(2,.val (dI a2))] ?_ ?_
 ·simp
 refine zs [(0,.val (i64 a0)),(1,.val (dM a1)),(2,.val (dI a2)),(7,.ref 7 [] true (dI []))] ?_ ?_
 ·simp
 refine VW.sqc fun K1 hK1 hCK1 => ?_
 refine zs [(0,.val (i64 a0)),(2,.val (dI a2)),(7,.ref 7 [] true (dI [])),(11,.val (dM a1)),(12,.val (i64 (a1.length : Int))),(13,.val (i64 0))] ?_ ?_
 ·simp
 obtain ⟨x2,Bx,h⟩ := bind_some h
 refine VW.tlE [(7,.ref 7 [] true (dI x2))] (hCK1) ?_ ?_
 ·clear Bx
  refine hK1 _ ?_
  refine zs [(6,.ref 6 [] true (dI x2))] ?_ ?_
  ·simp
  cases h
  refine VW.ret ?_
  simp [Post,PostM,PostC,PostC2,Nx,Bk]
 refine VW.block ?_
 refine VW.loopF (i_field_apply_L0 a0 a1 a2) (fun s2 => [(0,.val (i64 a0)),(2,.val (dI a2)),(7,.ref 7 [] true (dI s2.1)),(11,.val (dM a1)),(12,.val (i64 (a1.length : Int))),(13,.val (i64 s2.2))]) Bx (Fits.of rfl) ?_
 clear Bx
 intro s2 ox2 E By
 unfold i_field_apply_L0 at E
 refine zs [(0,.val (i64 a0)),(2,.val (dI a2)),(7,.ref 7 [] true (dI s2.1)),(11,.val (dM a1)),(12,.val (i64 (a1.length : Int))),(13,.val (i64 s2.2)),(14,.val (.bool (ilt s2.2 (a1.length : Int))))] ?_ ?_
 ·simp
 refine VW.sqc fun K4 hK4 hCK4 => ?_
 refine VW.cond rfl (fun A5 => ?_) (fun A5 => ?_)
 rotate_left
 ·
  replace A5 : ¬ (s2.2 < (a1.length : Int)) := by simpa [ieq,ilt,ile] using A5
  rw [if_neg A5] at E
  refine VW.exit ?_
  cases E
  have hq := By _ rfl
  subst hq
  exact Fits.of rfl
 replace A5 : s2.2 < (a1.length : Int) := by simpa [ieq,ilt,ile] using A5
 rw [if_pos A5] at E
 refine VW.skip ?_
 refine hK4 _ ?_
 refine VW.sqc fun K6 hK6 hCK6 => ?_
 refine VW.block ?_
 obtain ⟨v7,Bb,E⟩ := bind_some E
 obtain ⟨Bz,B0,B1,B2⟩ := idx_some Bb
 refine zs [(0,.val (i64 a0)),(2,.val (dI a2)),(7,.ref 7 [] true (dI s2.1)),(9,.val (dI v7)),(11,.val (dM a1)),(12,.val (i64 (a1.length : Int))),(13,.val (i64 s2.2))] ?_ ?_
 ·simp [Bz,B0,B1,B2]
 obtain ⟨v8,Bc,E⟩ := bind_some E
 obtain ⟨Co,E⟩ := chk_some E
 have Bd := Co
 try simp at Bd
 refine VW.wr tau_ok (Sound.none.add 21 (i_field_dot_ok Bc) rfl) _ [(0,.val (i64 a0)),(2,.val (dI a2)),(7,.ref 7 [] true (dI (s2.1 ++ [v8]))),(11,.val (dM a1)),(12,.val (i64 (a1.length : Int))),(13,.val (i64 s2.2))] rfl ?_ ?_
 ·simp [Co,Bd]
 refine hK6 _ ?_
 refine zr [(0,.val (i64 a0)),(2,.val (dI a2)),(7,.ref 7 [] true (dI (s2.1 ++ [v8]))),(11,.val (dM a1)),(12,.val (i64 (a1.length : Int))),(13,.val (i64 (w64 (s2.2 + 1))))] ?_ ?_
 ·simp
 cases E
 exact ⟨_,rfl,Fits.of rfl⟩

theorem i_field_times_ok {a0 : Int} {a1 : List (List Int)} {a2 : List (List Int)} {r : List (List Int)} (h : i_field_times a0 a1 a2 = some r) :
  VCall Try.prog 31 [i64 a0,dM a1,dM a2] [.own true (dM r)] := by
 unfold i_field_times at h
 refine VCall.enter Try.call31 Try.func31 rfl 29 Try.ntmps31 (by simp) [.tmp 6] rfl ?_
 show VW _ _ _ (mk [(0,.val (i64 a0)),(1,.val (dM a1)),(2,.val (dM a2))]) _
 refine zs [(0,.val (i64 a0)),(1,.val (dM a1)),(2,.val (dM a2))] ?_ ?_
 ·simp
 obtain ⟨v1,Cp,h⟩ := bind_some h
 refine VW.ws tau_ok (Sound.none.add 12 (i_transpose_ok Cp) rfl) _ [(0,.val (i64 a0)),(1,.val (dM a1)),(7,.ref 7 [] true (dM v1)),(8,.ref 8 [] true (dM []))] rfl ?_ ?_
 ·simp
 refine VW.sqc fun K2 hK2 hCK2 => ?_
 refine zs [(0,.val (i64 a0)),(7,.ref 7 [] true (dM v1)),(8,.ref 8 [] true (dM [])),(14,.val (dM a1)),(15,.val (i64 (a1.length : Int))),(16,.val (i64 0))] ?_ ?_
 ·simp
 obtain ⟨x3,B3,h⟩ := bind_some h
 refine VW.tlE [(8,.ref 8 [] true (dM x3))] (hCK2) ?_ ?_
 ·clear B3
  refine hK2 _ ?_
  refine zs [(6,.ref 6 [] true (dM x3))] ?_ ?_
  ·simp
  cases h
  refine VW.ret ?_
  simp [Post,PostM,PostC,PostC2,Nx,Bk]
 refine VW.block ?_
 refine VW.loopF (i_field_times_L0 a0 a1 v1) (fun s3 => [(0,.val (i64 a0)),(7,.ref 7 [] true (dM v1)),(8,.ref 8 [] true (dM s3.1)),(14,.val (dM a1)),(15,.val (i64 (a1.length : Int))),(16,.val (i64 s3.2))]) B3 (Fits.of rfl) ?_
 clear B3
 intro s3 ox3 F B4
 unfold i_field_times_L0 at F
 refine zs [(0,.val (i64 a0)),(7,.ref 7 [] true (dM v1)),(8,.ref 8 [] true (dM s3.1)),(14,.val (dM a1)),(15,.val (i64 (a1.length : Int))),(16,.val (i64 s3.2)),(17,.val (.bool (ilt s3.2 (a1.length : Int))))] ?_ ?_
 ·simp
 refine VW.sqc fun K5 hK5 hCK5 => ?_
 refine VW.cond rfl (fun Ac => ?_) (fun Ac => ?_)
 rotate_left
 ·
  replace Ac : ¬ (s3.2 < (a1.length : Int)) := by simpa [ieq,ilt,ile] using Ac
  rw [if_neg Ac] at F
  refine VW.exit ?_
  cases F
  have hq := B4 _ rfl
  subst hq
  exact Fits.of rfl
 replace Ac : s3.2 < (a1.length : Int) := by simpa [ieq,ilt,ile] using Ac
 rw [if_pos Ac] at F
 refine VW.skip ?_
 refine hK5 _ ?_
 refine VW.sqc fun K7 hK7 hCK7 => ?_
 refine VW.block ?_
 obtain ⟨v8,Bc,F⟩ := bind_some F
 obtain ⟨B5,B6,B7,B8⟩ := idx_some Bc
 refine zs [(0,.val (i64 a0)),(7,.ref 7 [] true (dM v1)),(8,.ref 8 [] true (dM s3.1)),(10,.val (dI v8)),(14,.val (dM a1)),(15,.val (i64 (a1.length : Int))),(16,.val (i64 s3.2))] ?_ ?_
 ·simp [B5,B6,B7,B8]
 obtain ⟨v9,Cq,F⟩ := bind_some F
 obtain ⟨Be,F⟩ := chk_some F
 have A0 := Be
 try simp at A0
 refine VW.wr tau_ok (Sound.none.add 24 (i_field_apply_ok Cq) rfl) _ [(0,.val (i64 a0)),(7,.ref 7 [] true (dM v1)),(8,.ref 8 [] true (dM (s3.1 ++ [v9]))),(14,.val (dM a1)),(15,.val (i64 (a1.length : Int))),(16,.val (i64 s3.2))] rfl ?_ ?_
 ·simp [Be,A0]
 refine hK7 _ ?_
 refine zr [(0,.val (i64 a0)),(7,.ref 7 [] true (dM v1)),(8,.ref 8 [] true (dM (s3.1 ++ [v9]))),(14,.val (dM a1)),(15,.val (i64 (a1.length : Int))),(16,.val (i64 (w64 (s3.2 + 1))))] ?_ ?_
 ·simp
 cases F
 exact ⟨_,rfl,Fits.of rfl⟩

theorem i_MultiplyMatrices_ok {a0 : Int} {a1 : List (List Int)} {a2 : List (List Int)} {r : (List (List Int)) × Int} (h : i_MultiplyMatrices a0 a1 a2 = some r) :
  VCall Try.prog 13 [i64 a0,dM a1,dM a2] [.own true (dM r.1),.sc (i64 r.2)] := by
 unfold i_MultiplyMatrices at h
 refine VCall.enter Try.call13 Try.func13 rfl 28 Try.ntmps13 (by simp) [.tmp 6,.tmp 7] rfl ?_
 show VW _ _ _ (mk [(0,.val (i64 a0)),(1,.val (dM a1)),(2,.val (dM a2))]) _
 refine zs [(0,.val (i64 a0)),(1,.val (dM a1)),(2,.val (dM a2))] ?_ ?_
 ·simp
 refine VW.sqc fun K1 hK1 hCK1 => ?_
 obtain ⟨v2,B9,h⟩ := bind_some h
 refine VW.ws tau_ok (Sound.none.add 13 (i_checkMatrices_ok B9) rfl) _ [(0,.val (i64 a0)),(1,.val (dM a1)),(2,.val (dM a2)),(8,.val (i64 v2))] rfl ?_ ?_
 ·simp
 refine zs [(0,.val (i64 a0)),(1,.val (dM a1)),(2,.val (dM a2)),(8,.val (i64 v2)),(15,.val (.bool (!(ieq v2 0))))] ?_ ?_
 ·simp
 refine VW.cond rfl (fun Ad => ?_) (fun Ad => ?_)
 ·
  replace Ad : ¬ v2 = 0 := by simpa [ieq,ilt,ile] using Ad
  rw [if_pos Ad] at h
  refine zs [(6,.ref 6 [] true (.list [])),(7,.val (i64 v2))] ?_ ?_
  ·simp
  cases h
  refine VW.ret ?_
  simp [Post,PostM,PostC,PostC2,Nx,Bk]
 replace Ad : ¬ (¬ v2 = 0) := by simpa [ieq,ilt,ile] using Ad
 rw [if_neg Ad] at h
 refine VW.skip ?_
 refine hK1 _ ?_
 refine VW.sqc fun K4 hK4 hCK4 => ?_
 obtain ⟨v5,Ca,h⟩ := bind_some h
 obtain ⟨Cb,A6,A7,A8⟩ := idx_some Ca
 replace A6 : 0 < a1.length := A6
 replace A7 : a1[0]? = some v5 := A7
 replace A8 : ∀ h,a1[0]'h = v5 := A8
 refine zs [(0,.val (i64 a0)),(1,.val (dM a1)),(2,.val (dM a2)),(23,.val (.bool (!(ieq (v5.length : Int) (a2.length : Int)))))] ?_ ?_
 ·simp [Cb,A6,A7,A8]
 refine VW.cond rfl (fun Ac => ?_) (fun Ac => ?_)
 ·
  replace Ac : ¬ (v5.length : Int) = (a2.length : Int) := by simpa [ieq,ilt,ile] using Ac
  rw [if_pos Ac] at h
  refine zs [(6,.ref 6 [] true (.list [])),(7,.val (i64 2))] ?_ ?_
  ·simp
  cases h
  refine VW.ret ?_
  simp [Post,PostM,PostC,PostC2,Nx,Bk]
 replace Ac : ¬ (¬ (v5.length : Int) = (a2.length : Int)) := by simpa [ieq,ilt,ile] using Ac
 rw [if_neg Ac] at h
 refine VW.skip ?_
 refine hK4 _ ?_
 obtain ⟨v7,Bb,h⟩ := bind_some h
 refine VW.ws tau_ok (Sound.none.add 27 (i_field_times_ok Bb) rfl) _ [(6,.ref 6 [] true (dM v7)),(7,.val (i64 0))] rfl ?_ ?_
 ·simp
 cases h
 refine VW.ret ?_
 simp [Post,PostM,PostC,PostC2,Nx,Bk]

set_option maxHeartbeats 4000000 in
theorem l_FnOrthogonalGroups_ok {a0 : List Int} {r : Bool} (h : l_FnOrthogonalGroups a0 = some r) :
  VCall Try.prog 3 [.list (a0.map (D.int .u8))] [.sc (.bool r)] := by
 unfold l_FnOrthogonalGroups at h
 refine VCall.enter Try.call3 Try.func3 rfl 166 Try.ntmps3 (by simp) [.tmp 2] rfl ?_
 show VW _ _ _ (mk [(0,.val (.list (a0.map (D.int .u8))))]) _
 refine zs [(0,.val (.list (a0.map (D.int .u8))))] ?_ ?_
 ·simp
 refine VW.sqc fun K1 hK1 hCK1 => ?_
 obtain ⟨v2,B9,h⟩ := bind_some h
 refine VW.ws tau_ok (Sound.none.add 22 (l_big_ok B9) rfl) _ [(0,.val (.list (a0.map (D.int .u8)))),(22,.val (.bool v2))] rfl ?_ ?_
 ·simp
 refine VW.cond rfl (fun Ad => ?_) (fun Ad => ?_)
 ·
  replace Ad : v2 = true := by simpa [ieq,ilt,ile] using Ad
  rw [if_pos Ad] at h
  refine zs [(2,.val (.bool true))] ?_ ?_
  ·simp
  cases h
  refine VW.ret ?_
  simp [Post,PostM,PostC,PostC2,Nx,Bk]
 replace Ad : ¬ (v2 = true) := by simpa [ieq,ilt,ile] using Ad
 rw [if_neg Ad] at h
 refine VW.skip ?_
 refine hK1 _ ?_
 obtain ⟨v4,Cr,h⟩ := bind_some h
 refine VW.ws tau_ok (Sound.none.add 24 (s_DrawAllOrthogonal_ok Cr) rfl) _ [(0,.val (.list (a0.map (D.int .u8)))),(3,.ref 3 [] true (.ptr [i64 v4.1,dI v4.2]))] rfl ?_ ?_
 ·simp
 obtain ⟨v5,Ca,h⟩ := bind_some h
 refine VW.ws tau_ok (Sound.none.add 27 (i_AllOrthogonal_ok Ca) rfl) _ [(0,.val (.list (a0.map (D.int .u8)))),(3,.ref 3 [] true (.ptr [i64 v4.1,dI v4.2])),(4,.ref 4 [] true (dC v5.1)),(5,.val (i64 v5.2))] rfl ?_ ?_
 ·simp
 refine VW.fits (fl' := [(0,.val (.list (a0.map (D.int .u8)))),(3,.val (.ptr [i64 v4.1,dI v4.2])),(4,.ref 4 [] true (dC v5.1)),(5,.val (i64 v5.2))]) (Fits.freeze (s := 3) rfl (by simp) (Fits.of rfl)) ?_
 obtain ⟨v6,Cs,h⟩ := bind_some h
 refine VW.ws tau_ok (Sound.none.add 32 (s_AllOrthogonal_ok Cs) rfl) _ [(0,.val (.list (a0.map (D.int .u8)))),(3,.val (.ptr [i64 v4.1,dI v4.2])),(4,.ref 4 [] true (dC v5.1)),(5,.val (i64 v5.2)),(6,.ref 6 [] false (dC v6.1)),(7,.val (i64 v6.2))] rfl ?_ ?_
 ·simp
 obtain ⟨v7,Bb,h⟩ := bind_some h
 refine VW.ws tau_ok (Sound.none.add 37 (i_CountOrthogonal_ok Bb) rfl) _ [(0,.val (.list (a0.map (D.int .u8)))),(3,.val (.ptr [i64 v4.1,dI v4.2])),(4,.ref 4 [] true (dC v5.1)),(5,.val (i64 v5.2)),(6,.ref 6 [] false (dC v6.1)),(7,.val (i64 v6.2)),(8,.val (i64 v7.1)),(9,.val (i64 v7.2))] rfl ?_ ?_
 ·simp
 obtain ⟨v8,Bc,h⟩ := bind_some h
 refine VW.ws tau_ok (Sound.none.add 42 (s_CountOrthogonal_ok Bc) rfl) _ [(0,.val (.list (a0.map (D.int .u8)))),(3,.val (.ptr [i64 v4.1,dI v4.2])),(4,.ref 4 [] true (dC v5.1)),(5,.val (i64 v5.2)),(6,.ref 6 [] false (dC v6.1)),(7,.val (i64 v6.2)),(8,.val (i64 v7.1)),(9,.val (i64 v7.2)),(10,.val (i64 v8.1)),(11,.val (i64 v8.2))] rfl ?_ ?_
 ·simp
 refine VW.sqc fun K9 hK9 hCK9 => ?_
 obtain ⟨x13,I,h⟩ := bind_some h
 refine VW.cut [(0,.val (.list (a0.map (D.int .u8)))),(3,.val (.ptr [i64 v4.1,dI v4.2])),(4,.ref 4 [] true (dC v5.1)),(5,.val (i64 v5.2)),(6,.ref 6 [] false (dC v6.1)),(8,.val (i64 v7.1)),(9,.val (i64 v7.2)),(64,.val (.bool x13))] ?_ fun hy => ?_
 rotate_left
 ·clear h
  by_cases Aq : ¬ v5.2 = v6.2
  ·rw [if_pos Aq] at I
   have G : ieq v5.2 v6.2 = false := by simpa [ieq,ilt,ile] using Aq
   have H := G
   try simp at H
   cases I
   refine VW.ws tau_ok Sound.none _ _ rfl ?_ hy
   simp [G,H]
  ·rw [if_neg Aq] at I
   have G : ieq v5.2 v6.2 = true := by simpa [ieq,ilt,ile] using Aq
   have H := G
   try simp at H
   by_cases Ar : ¬ v7.2 = v8.2
   ·rw [if_pos Ar] at I
    have J : ieq v7.2 v8.2 = false := by simpa [ieq,ilt,ile] using Ar
    have K := J
    try simp at K
    cases I
    refine VW.ws tau_ok Sound.none _ _ rfl ?_ hy
    simp [G,H,J,K]
   ·rw [if_neg Ar] at I
    have J : ieq v7.2 v8.2 = true := by simpa [ieq,ilt,ile] using Ar
    have K := J
    try simp at K
    by_cases As : ¬ v7.1 = v8.1
    ·rw [if_pos As] at I
     have R : ieq v7.1 v8.1 = false := by simpa [ieq,ilt,ile] using As
     have S := R
     try simp at S
     cases I
     refine VW.ws tau_ok Sound.none _ _ rfl ?_ hy
     simp [G,H,J,K,R,S]
    ·rw [if_neg As] at I
     have R : ieq v7.1 v8.1 = true := by simpa [ieq,ilt,ile] using As
     have S := R
     try simp at S
     cases I
     refine VW.ws tau_ok Sound.none _ _ rfl ?_ hy
     simp [G,H,J,K,R,S]
 refine VW.cond rfl (fun Ae => ?_) (fun Ae => ?_)
 ·
  replace Ae : x13 = true := by simpa [ieq,ilt,ile] using Ae
  rw [if_pos Ae] at h
  refine zs [(2,.val (.bool false))] ?_ ?_
  ·simp
  cases h
  refine VW.ret ?_
  simp [Post,PostM,PostC,PostC2,Nx,Bk]
 replace Ae : ¬ (x13 = true) := by simpa [ieq,ilt,ile] using Ae
 rw [if_neg Ae] at h
 refine VW.skip ?_
 refine hK9 _ ?_
 refine VW.sqc fun K15 hK15 hCK15 => ?_
 refine zs [(0,.val (.list (a0.map (D.int .u8)))),(3,.val (.ptr [i64 v4.1,dI v4.2])),(4,.ref 4 [] true (dC v5.1)),(5,.val (i64 v5.2)),(6,.ref 6 [] false (dC v6.1)),(8,.val (i64 v7.1)),(9,.val (i64 v7.2)),(66,.val (.bool (!(ieq v5.2 0))))] ?_ ?_
 ·simp
 refine VW.cond rfl (fun Af => ?_) (fun Af => ?_)
 ·
  replace Af : ¬ v5.2 = 0 := by simpa [ieq,ilt,ile] using Af
  rw [if_pos Af] at h
  obtain ⟨x19,Ag,h⟩ := bind_some h
  refine VW.cut [(2,.val (.bool x19))] ?_ fun hy => ?_
  rotate_left
  ·clear h
   by_cases At : v7.2 = v5.2
   ·rw [if_pos At] at Ag
    have L : ieq v7.2 v5.2 = true := by simpa [ieq,ilt,ile] using At
    have M := L
    try simp at M
    cases Ag
    refine VW.ws tau_ok Sound.none _ _ rfl ?_ hy
    simp [L,M]
   ·rw [if_neg At] at Ag
    have L : ieq v7.2 v5.2 = false := by simpa [ieq,ilt,ile] using At
    have M := L
    try simp at M
    by_cases Au : v5.2 = 3
    ·rw [if_pos Au] at Ag
     have T : ieq v5.2 3 = true := by simpa [ieq,ilt,ile] using Au
     have U := T
     try simp at U
     cases Ag
     refine VW.ws tau_ok Sound.none _ _ rfl ?_ hy
     simp [L,M,T,U]
    ·rw [if_neg Au] at Ag
     have T : ieq v5.2 3 = false := by simpa [ieq,ilt,ile] using Au
     have U := T
     try simp at U
     cases Ag
     refine VW.ws tau_ok Sound.none _ _ rfl ?_ hy
     simp [L,M,T,U]
  cases h
  refine VW.ret ?_
  simp [Post,PostM,PostC,PostC2,Nx,Bk]
 replace Af : ¬ (¬ v5.2 = 0) := by simpa [ieq,ilt,ile] using Af
 rw [if_neg Af] at h
 refine VW.skip ?_
 refine hK15 _ ?_
 refine VW.sqc fun K20 hK20 hCK20 => ?_
 obtain ⟨x23,Ah,h⟩ := bind_some h
 refine VW.cut [(0,.val (.list (a0.map (D.int .u8)))),(3,.val (.ptr [i64 v4.1,dI v4.2])),(4,.ref 4 [] true (dC v5.1)),(6,.ref 6 [] false (dC v6.1)),(8,.val (i64 v7.1)),(89,.val (.bool x23))] ?_ fun hy => ?_
 rotate_left
 ·clear h
  by_cases Av : ¬ v7.2 = 0
  ·rw [if_pos Av] at Ah
   have N : ieq v7.2 0 = false := by simpa [ieq,ilt,ile] using Av
   have O := N
   try simp at O
   cases Ah
   refine VW.ws tau_ok Sound.none _ _ rfl ?_ hy
   simp [N,O]
  ·rw [if_neg Av] at Ah
   have N : ieq v7.2 0 = true := by simpa [ieq,ilt,ile] using Av
   have O := N
   try simp at O
   by_cases Aw : ¬ v7.1 = (v5.1.length : Int)
   ·rw [if_pos Aw] at Ah
    have V : ieq v7.1 (v5.1.length : Int) = false := by simpa [ieq,ilt,ile] using Aw
    have W := V
    try simp at W
    cases Ah
    refine VW.ws tau_ok Sound.none _ _ rfl ?_ hy
    simp [N,O,V,W]
   ·rw [if_neg Aw] at Ah
    have V : ieq v7.1 (v5.1.length : Int) = true := by simpa [ieq,ilt,ile] using Aw
    have W := V
    try simp at W
    cases Ah
    refine VW.ws tau_ok Sound.none _ _ rfl ?_ hy
    simp [N,O,V,W]
 refine VW.cond rfl (fun Ai => ?_) (fun Ai => ?_)
 ·
  replace Ai : x23 = true := by simpa [ieq,ilt,ile] using Ai
  rw [if_pos Ai] at h
  refine zs [(2,.val (.bool false))] ?_ ?_
  ·simp
  cases h
  refine VW.ret ?_
  simp [Post,PostM,PostC,PostC2,Nx,Bk]
 replace Ai : ¬ (x23 = true) := by simpa [ieq,ilt,ile] using Ai
 rw [if_neg Ai] at h
 refine VW.skip ?_
 refine hK20 _ ?_
 refine zs [(0,.val (.list (a0.map (D.int .u8)))),(3,.val (.ptr [i64 v4.1,dI v4.2])),(4,.ref 4 [] true (dC v5.1)),(6,.ref 6 [] false (dC v6.1)),(8,.val (i64 v7.1)),(12,.val (i64 0))] ?_ ?_
 ·simp
 refine VW.sqc fun K25 hK25 hCK25 => ?_
 refine zs [(0,.val (.list (a0.map (D.int .u8)))),(3,.val (.ptr [i64 v4.1,dI v4.2])),(4,.ref 4 [] true (dC v5.1)),(6,.ref 6 [] false (dC v6.1)),(8,.val (i64 v7.1)),(12,.val (i64 0)),(13,.val (i64 0))] ?_ ?_
 ·simp
 obtain ⟨x26,A9,h⟩ := bind_some h
 refine VW.tlO (fun y28 => [(0,.val (.list (a0.map (D.int .u8)))),(3,.val (.ptr [i64 v4.1,dI v4.2])),(4,.ref 4 [] true (dC v5.1)),(8,.val (i64 v7.1)),(12,.val (i64 y28))]) x26 (hCK25) ?_ ?_
 ·clear A9
  rintro y28 rfl
  dsimp only at h
  refine hK25 _ ?_
  obtain ⟨v43,Cc,h⟩ := bind_some h
  refine VW.ws tau_ok (Sound.none.add 121 (l_roll_ok Cc) rfl) _ [(3,.val (.ptr [i64 v4.1,dI v4.2])),(4,.ref 4 [] true (dC v5.1)),(8,.val (i64 v7.1)),(12,.val (i64 y28)),(16,.ref 16 [] false (.ptr [.list (v43.1.map (D.int .u8)),i64 v43.2.1,.int .u64 v43.2.2]))] rfl ?_ ?_
  ·simp
  refine VW.fits (fl' := [(3,.val (.ptr [i64 v4.1,dI v4.2])),(4,.val (dC v5.1)),(8,.val (i64 v7.1)),(12,.val (i64 y28)),(16,.ref 16 [] false (.ptr [.list (v43.1.map (D.int .u8)),i64 v43.2.1,.int .u64 v43.2.2]))]) (Fits.freeze (s := 4) rfl (by simp) (Fits.of rfl)) ?_
  obtain ⟨v44,Cd,h⟩ := bind_some h
  obtain ⟨v45,Ce,h⟩ := bind_some h
  obtain ⟨Bf,Bg,Bh,Bi⟩ := idx_some Ce
  obtain ⟨v46,Cf,h⟩ := bind_some h
  obtain ⟨v47,Cg,h⟩ := bind_some h
  obtain ⟨Bj,Bl,Bm,Bn⟩ := idx_some Cg
  obtain ⟨v48,Ch,h⟩ := bind_some h
  refine VW.wxs tau_ok (((Sound.none.ptrc 128 (g_p_laws_dice_below_ok Cd)).ptrc 134 (g_p_laws_dice_below_ok Cf)).add 137 (VCall.frzT (i_MultiplyMatrices_ok Ch)) rfl) try_mixed [some 123,some 124,some 125,some 126,some 127,some 128,some 129,some 130,some 131,some 132,some 133,some 134,some 135,some 136,some 137,some 122,some 138,some 139,some 17,some 18] [(4,.val (dC v5.1)),(8,.val (i64 v7.1)),(12,.val (i64 y28)),(17,.val (dM v48.1)),(18,.val (i64 v48.2))] [1,1,0,0,0,2,1,1,0,0,0,2,0,0,3,0,0,1,2,3] [[3],[123],[4],[16],[8],[126,127],[125,128],[129],[4],[16],[8],[132,133],[131,134],[135],[124,130,136],[137],[122],[122],[138],[139]] [16] rfl rfl (by kernel_rfl) (by rfl) ?_ ?_
  ·simp [Bf,Bg,Bh,Bi,Bj,Bl,Bm,Bn]
  refine zs [(4,.val (dC v5.1)),(8,.val (i64 v7.1)),(12,.val (i64 y28)),(17,.val (dM v48.1)),(18,.val (i64 v48.2)),(19,.val (.bool false))] ?_ ?_
  ·simp
  refine VW.sqc fun K49 hK49 hCK49 => ?_
  refine zs [(4,.val (dC v5.1)),(8,.val (i64 v7.1)),(12,.val (i64 y28)),(17,.val (dM v48.1)),(18,.val (i64 v48.2)),(19,.val (.bool false)),(20,.val (i64 0))] ?_ ?_
  ·simp
  obtain ⟨x50,Ba,h⟩ := bind_some h
  refine VW.tlE [(8,.val (i64 v7.1)),(12,.val (i64 y28)),(18,.val (i64 v48.2)),(19,.val (.bool x50))] (hCK49) ?_ ?_
  ·clear Ba
   refine hK49 _ ?_
   obtain ⟨x61,Aj,h⟩ := bind_some h
   refine VW.cut [(2,.val (.bool x61))] ?_ fun hy => ?_
   rotate_left
   ·clear h
    by_cases Ax : v48.2 = 0
    ·rw [if_pos Ax] at Aj
     have P : ieq v48.2 0 = true := by simpa [ieq,ilt,ile] using Ax
     have Q := P
     try simp at Q
     by_cases Ay : x50 = true
     ·rw [if_pos Ay] at Aj
      have X : x50 = true := by simpa [ieq,ilt,ile] using Ay
      have Y := X
      try simp at Y
      cases Aj
      refine VW.ws tau_ok Sound.none _ _ rfl ?_ hy
      simp [P,Q,X,Y]
     ·rw [if_neg Ay] at Aj
      have X : x50 = false := by simpa [ieq,ilt,ile] using Ay
      have Y := X
      try simp at Y
      cases Aj
      refine VW.ws tau_ok Sound.none _ _ rfl ?_ hy
      simp [P,Q,X,Y]
    ·rw [if_neg Ax] at Aj
     have P : ieq v48.2 0 = false := by simpa [ieq,ilt,ile] using Ax
     have Q := P
     try simp at Q
     cases Aj
     refine VW.ws tau_ok Sound.none _ _ rfl ?_ hy
     simp [P,Q]
   cases h
   refine VW.ret ?_
   simp [Post,PostM,PostC,PostC2,Nx,Bk]
  refine VW.block ?_
  refine VW.loopF (l_FnOrthogonalGroups_L1 v5 v48) (fun s50 => [(4,.val (dC v5.1)),(8,.val (i64 v7.1)),(12,.val (i64 y28)),(17,.val (dM v48.1)),(18,.val (i64 v48.2)),(19,.val (.bool s50.1)),(20,.val (i64 s50.2))]) Ba (Fits.of rfl) ?_
  clear Ba
  intro s50 ox50 C Bo
  unfold l_FnOrthogonalGroups_L1 at C
  refine VW.sqc fun K52 hK52 hCK52 => ?_
  refine zs [(4,.val (dC v5.1)),(8,.val (i64 v7.1)),(12,.val (i64 y28)),(17,.val (dM v48.1)),(18,.val (i64 v48.2)),(19,.val (.bool s50.1)),(20,.val (i64 s50.2)),(143,.val (.bool (ilt s50.2 (v5.1.length : Int))))] ?_ ?_
  ·simp
  refine VW.cond rfl (fun Ak => ?_) (fun Ak => ?_)
  rotate_left
  ·
   replace Ak : ¬ (s50.2 < (v5.1.length : Int)) := by simpa [ieq,ilt,ile] using Ak
   rw [if_neg Ak] at C
   refine VW.exit ?_
   cases C
   have hq := Bo _ rfl
   subst hq
   exact Fits.of rfl
  replace Ak : s50.2 < (v5.1.length : Int) := by simpa [ieq,ilt,ile] using Ak
  rw [if_pos Ak] at C
  refine VW.skip ?_
  refine hK52 _ ?_
  refine VW.sqc fun K54 hK54 hCK54 => ?_
  refine VW.block ?_
  obtain ⟨x58,Z,C⟩ := bind_some C
  refine VW.cutr [(4,.val (dC v5.1)),(8,.val (i64 v7.1)),(12,.val (i64 y28)),(17,.val (dM v48.1)),(18,.val (i64 v48.2)),(19,.val (.bool x58)),(20,.val (i64 s50.2))] ?_ fun hy => ?_
  rotate_left
  ·clear C
   by_cases Az : s50.1 = true
   ·rw [if_pos Az] at Z
    have Aa : s50.1 = true := by simpa [ieq,ilt,ile] using Az
    have Ab := Aa
    try simp at Ab
    cases Z
    refine VW.wr tau_ok Sound.none _ _ rfl ?_ hy
    simp [Aa,Ab]
   ·rw [if_neg Az] at Z
    have Aa : s50.1 = false := by simpa [ieq,ilt,ile] using Az
    have Ab := Aa
    try simp at Ab
    obtain ⟨v56,Ci,Z⟩ := bind_some Z
    obtain ⟨Bp,Bq,Br,Bs⟩ := idx_some Ci
    obtain ⟨v57,Cj,Z⟩ := bind_some Z
    cases Z
    refine VW.wr tau_ok (Sound.none.add 153 (l_likeRows5_ok Cj) rfl) _ _ rfl ?_ hy
    simp [Aa,Ab,Bp,Bq,Br,Bs]
  refine hK54 _ ?_
  refine zr [(4,.val (dC v5.1)),(8,.val (i64 v7.1)),(12,.val (i64 y28)),(17,.val (dM v48.1)),(18,.val (i64 v48.2)),(19,.val (.bool x58)),(20,.val (i64 (w64 (s50.2 + 1))))] ?_ ?_
  ·simp
  cases C
  exact ⟨_,rfl,Fits.of rfl⟩
 refine VW.block ?_
 refine VW.loopF (l_FnOrthogonalGroups_L0 v4 v5 v6) (fun s26 => [(0,.val (.list (a0.map (D.int .u8)))),(3,.val (.ptr [i64 v4.1,dI v4.2])),(4,.ref 4 [] true (dC v5.1)),(6,.ref 6 [] false (dC v6.1)),(8,.val (i64 v7.1)),(12,.val (i64 s26.1)),(13,.val (i64 s26.2))]) A9 (Fits.of rfl) ?_
 clear A9
 intro s26 ox26 B Ap
 unfold l_FnOrthogonalGroups_L0 at B
 refine VW.sqc fun K29 hK29 hCK29 => ?_
 refine zs [(0,.val (.list (a0.map (D.int .u8)))),(3,.val (.ptr [i64 v4.1,dI v4.2])),(4,.ref 4 [] true (dC v5.1)),(6,.ref 6 [] false (dC v6.1)),(8,.val (i64 v7.1)),(12,.val (i64 s26.1)),(13,.val (i64 s26.2)),(93,.val (.bool (ilt s26.2 (v5.1.length : Int))))] ?_ ?_
 ·simp
 refine VW.cond rfl (fun Al => ?_) (fun Al => ?_)
 rotate_left
 ·
  replace Al : ¬ (s26.2 < (v5.1.length : Int)) := by simpa [ieq,ilt,ile] using Al
  rw [if_neg Al] at B
  refine VW.exit ?_
  cases B
  have hq := Ap _ rfl
  subst hq
  exact ⟨_,rfl,Fits.of rfl⟩
 replace Al : s26.2 < (v5.1.length : Int) := by simpa [ieq,ilt,ile] using Al
 rw [if_pos Al] at B
 refine VW.skip ?_
 refine hK29 _ ?_
 obtain ⟨x31,A,B⟩ := bind_some B
 refine VW.sqO (fun y33 => [(0,.val (.list (a0.map (D.int .u8)))),(3,.val (.ptr [i64 v4.1,dI v4.2])),(4,.ref 4 [] true (dC v5.1)),(6,.ref 6 [] false (dC v6.1)),(8,.val (i64 v7.1)),(12,.val (i64 y33)),(13,.val (i64 s26.2))]) x31 ?_ ?_
 ·clear A
  rintro y33 rfl
  dsimp only at B
  refine zr [(0,.val (.list (a0.map (D.int .u8)))),(3,.val (.ptr [i64 v4.1,dI v4.2])),(4,.ref 4 [] true (dC v5.1)),(6,.ref 6 [] false (dC v6.1)),(8,.val (i64 v7.1)),(12,.val (i64 y33)),(13,.val (i64 (w64 (s26.2 + 1))))] ?_ ?_
  ·simp
  cases B
  exact ⟨_,rfl,Fits.of rfl⟩
 refine VW.block ?_
 refine VW.sqc fun K34 hK34 hCK34 => ?_
 obtain ⟨v35,Ck,A⟩ := bind_some A
 obtain ⟨A1,A2,A3,A4⟩ := idx_some Ck
 obtain ⟨v36,Cl,A⟩ := bind_some A
 obtain ⟨Bt,Bu,Bv,Bw⟩ := idx_some Cl
 obtain ⟨v37,Cm,A⟩ := bind_some A
 refine VW.wds tau_ok (Sound.none.add 104 (l_likeRows5_ok Cm) rfl) try_mixed _ [(0,.val (.list (a0.map (D.int .u8)))),(3,.val (.ptr [i64 v4.1,dI v4.2])),(4,.ref 4 [] true (dC v5.1)),(6,.ref 6 [] false (dC v6.1)),(8,.val (i64 v7.1)),(12,.val (i64 s26.1)),(13,.val (i64 s26.2)),(105,.val (.bool (!v37)))] 10 rfl (by kernel_rfl) (by rfl) ?_ ?_
 ·simp [A1,A2,A3,A4,Bt,Bu,Bv,Bw]
 refine VW.cond rfl (fun Am => ?_) (fun Am => ?_)
 ·
  replace Am : v37 = false := by simpa [ieq,ilt,ile] using Am
  rw [if_pos Am] at A
  refine zs [(2,.val (.bool false))] ?_ ?_
  ·simp
  cases A
  dsimp only at B
  cases B
  have hq := Ap _ rfl
  subst hq
  dsimp only at h
  cases h
  refine VW.ret ?_
  simp [Post,PostM,PostC,PostC2,Nx,Bk]
 replace Am : ¬ (v37 = false) := by simpa [ieq,ilt,ile] using Am
 rw [if_neg Am] at A
 refine VW.skip ?_
 refine hK34 _ ?_
 obtain ⟨v39,Cn,A⟩ := bind_some A
 refine VW.wds tau_ok (Sound.none.add 112 (i_IsProper_ok Cn) rfl) try_mixed _ [(0,.val (.list (a0.map (D.int .u8)))),(3,.val (.ptr [i64 v4.1,dI v4.2])),(4,.ref 4 [] true (dC v5.1)),(6,.ref 6 [] false (dC v6.1)),(8,.val (i64 v7.1)),(12,.val (i64 s26.1)),(13,.val (i64 s26.2)),(14,.val (.bool v39.1)),(15,.val (i64 v39.2))] 11 rfl (by kernel_rfl) (by rfl) ?_ ?_
 ·simp [A1,A2,A3,A4]
 refine VW.sqc fun K40 hK40 hCK40 => ?_
 refine zs [(0,.val (.list (a0.map (D.int .u8)))),(3,.val (.ptr [i64 v4.1,dI v4.2])),(4,.ref 4 [] true (dC v5.1)),(6,.ref 6 [] false (dC v6.1)),(8,.val (i64 v7.1)),(12,.val (i64 s26.1)),(13,.val (i64 s26.2)),(14,.val (.bool v39.1)),(116,.val (.bool (!(ieq v39.2 0))))] ?_ ?_
 ·simp
 refine VW.cond rfl (fun An => ?_) (fun An => ?_)
 ·
  replace An : ¬ v39.2 = 0 := by simpa [ieq,ilt,ile] using An
  rw [if_pos An] at A
  refine zs [(2,.val (.bool false))] ?_ ?_
  ·simp
  cases A
  dsimp only at B
  cases B
  have hq := Ap _ rfl
  subst hq
  dsimp only at h
  cases h
  refine VW.ret ?_
  simp [Post,PostM,PostC,PostC2,Nx,Bk]
 replace An : ¬ (¬ v39.2 = 0) := by simpa [ieq,ilt,ile] using An
 rw [if_neg An] at A
 refine VW.skip ?_
 refine hK40 _ ?_
 refine zs [(0,.val (.list (a0.map (D.int .u8)))),(3,.val (.ptr [i64 v4.1,dI v4.2])),(4,.ref 4 [] true (dC v5.1)),(6,.ref 6 [] false (dC v6.1)),(8,.val (i64 v7.1)),(12,.val (i64 s26.1)),(13,.val (i64 s26.2)),(117,.val (.bool v39.1))] ?_ ?_
 ·simp
 refine VW.cond rfl (fun Ao => ?_) (fun Ao => ?_)
 rotate_left
 ·
  replace Ao : ¬ (v39.1 = true) := by simpa [ieq,ilt,ile] using Ao
  rw [if_neg Ao] at A
  refine VW.skip ?_
  cases A
  exact ⟨_,rfl,Fits.of rfl⟩
 replace Ao : v39.1 = true := by simpa [ieq,ilt,ile] using Ao
 rw [if_pos Ao] at A
 refine zr [(0,.val (.list (a0.map (D.int .u8)))),(3,.val (.ptr [i64 v4.1,dI v4.2])),(4,.ref 4 [] true (dC v5.1)),(6,.ref 6 [] false (dC v6.1)),(8,.val (i64 v7.1)),(12,.val (i64 (w64 (s26.1 + 1)))),(13,.val (i64 s26.2))] ?_ ?_
 ·simp
 cases A
 exact ⟨_,rfl,Fits.of rfl⟩
end Go.Vam
