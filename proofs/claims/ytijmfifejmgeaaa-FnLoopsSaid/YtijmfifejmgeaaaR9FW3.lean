import Derived.Test.YtijmfifejmgeaaaR9T
import Derived.Test.YtijmfifejmgeaaaFmG0
import Derived.Test.YtijmfifejmgeaaaR9FW1
import Derived.Test.YtijmfifejmgeaaaR9FW2
namespace Go.Vam
open Go Go.RowKit Go.Proofs
set_option maxRecDepth 100000
set_option linter.unusedSimpArgs false
set_option linter.unusedVariables false

theorem i_CountCommuting_ok {a0 : List (List Int)} {r : Int × Int} (h : i_CountCommuting a0 = some r) :
  VCall Try.prog 37 [dM a0] [.sc (i64 r.1),.sc (i64 r.2)] := by
 unfold i_CountCommuting at h
 refine VCall.enter Try.call37 Try.func37 rfl 43 Try.ntmps37 (by simp) [.tmp 2,.tmp 3] rfl ?_
 show VW _ _ _ (mk [(0,.val (dM a0))]) _
 refine zs [(0,.val (dM a0))] ?_ ?_
 ·simp
 refine VW.sqc fun K1 hK1 hCK1 => ?_
 obtain ⟨v2,U,h⟩ := bind_some h
 refine VW.ws tau_ok (Sound.none.add 9 (i_checkLoop_ok U) rfl) _ [(0,.val (dM a0)),(4,.val (i64 v2))] rfl ?_ ?_
 ·simp
 refine zs [(0,.val (dM a0)),(4,.val (i64 v2)),(11,.val (.bool (!(ieq v2 0))))] ?_ ?_
 ·simp
 refine VW.cond rfl (fun C => ?_) (fun C => ?_)
 ·
  replace C : ¬ v2 = 0 := by simpa [ieq,ilt,ile] using C
  rw [if_pos C] at h
  refine zs [(2,.val (i64 0)),(3,.val (i64 v2))] ?_ ?_
  ·simp
  cases h
  refine VW.ret ?_
  simp [Post,PostM,PostC,PostC2,Nx,Bk]
 replace C : ¬ (¬ v2 = 0) := by simpa [ieq,ilt,ile] using C
 rw [if_neg C] at h
 refine VW.skip ?_
 refine hK1 _ ?_
 refine zs [(0,.val (dM a0)),(5,.val (i64 0))] ?_ ?_
 ·simp
 refine VW.sqc fun K4 hK4 hCK4 => ?_
 refine zs [(0,.val (dM a0)),(5,.val (i64 0)),(14,.val (i64 (a0.length : Int))),(15,.val (i64 0))] ?_ ?_
 ·simp
 obtain ⟨x5,As,h⟩ := bind_some h
 refine VW.tlE [(5,.val (i64 x5))] (hCK4) ?_ ?_
 ·clear As
  refine hK4 _ ?_
  refine zs [(2,.val (i64 x5)),(3,.val (i64 0))] ?_ ?_
  ·simp
  cases h
  refine VW.ret ?_
  simp [Post,PostM,PostC,PostC2,Nx,Bk]
 refine VW.block ?_
 refine VW.loopF (i_CountCommuting_L0 a0) (fun s5 => [(0,.val (dM a0)),(5,.val (i64 s5.1)),(14,.val (i64 (a0.length : Int))),(15,.val (i64 s5.2))]) As (Fits.of rfl) ?_
 clear As
 intro s5 ox5 B W
 unfold i_CountCommuting_L0 at B
 refine zs [(0,.val (dM a0)),(5,.val (i64 s5.1)),(14,.val (i64 (a0.length : Int))),(15,.val (i64 s5.2)),(16,.val (.bool (ilt s5.2 (a0.length : Int))))] ?_ ?_
 ·simp
 refine VW.sqc fun K7 hK7 hCK7 => ?_
 refine VW.cond rfl (fun X => ?_) (fun X => ?_)
 rotate_left
 ·
  replace X : ¬ (s5.2 < (a0.length : Int)) := by simpa [ieq,ilt,ile] using X
  rw [if_neg X] at B
  refine VW.exit ?_
  cases B
  have hq := W _ rfl
  subst hq
  exact Fits.of rfl
 replace X : s5.2 < (a0.length : Int) := by simpa [ieq,ilt,ile] using X
 rw [if_pos X] at B
 refine VW.skip ?_
 refine hK7 _ ?_
 refine VW.sqc fun K9 hK9 hCK9 => ?_
 refine VW.block ?_
 refine zs [(0,.val (dM a0)),(5,.val (i64 s5.1)),(6,.val (i64 s5.2)),(14,.val (i64 (a0.length : Int))),(15,.val (i64 s5.2))] ?_ ?_
 ·simp
 refine zs [(0,.val (dM a0)),(5,.val (i64 s5.1)),(6,.val (i64 s5.2)),(14,.val (i64 (a0.length : Int))),(15,.val (i64 s5.2)),(19,.val (i64 (a0.length : Int))),(20,.val (i64 0))] ?_ ?_
 ·simp
 obtain ⟨x10,Y,B⟩ := bind_some B
 refine VW.tlE [(0,.val (dM a0)),(5,.val (i64 x10)),(14,.val (i64 (a0.length : Int))),(15,.val (i64 s5.2))] (hCK9) ?_ ?_
 ·clear Y
  refine hK9 _ ?_
  refine zr [(0,.val (dM a0)),(5,.val (i64 x10)),(14,.val (i64 (a0.length : Int))),(15,.val (i64 (w64 (s5.2 + 1))))] ?_ ?_
  ·simp
  cases B
  exact ⟨_,rfl,Fits.of rfl⟩
 refine VW.block ?_
 refine VW.loopF (i_CountCommuting_L1 a0 s5) (fun s10 => [(0,.val (dM a0)),(5,.val (i64 s10.1)),(6,.val (i64 s5.2)),(14,.val (i64 (a0.length : Int))),(15,.val (i64 s5.2)),(19,.val (i64 (a0.length : Int))),(20,.val (i64 s10.2))]) Y (Fits.of rfl) ?_
 clear Y
 intro s10 ox10 F Am
 unfold i_CountCommuting_L1 at F
 refine zs [(0,.val (dM a0)),(5,.val (i64 s10.1)),(6,.val (i64 s5.2)),(14,.val (i64 (a0.length : Int))),(15,.val (i64 s5.2)),(19,.val (i64 (a0.length : Int))),(20,.val (i64 s10.2)),(21,.val (.bool (ilt s10.2 (a0.length : Int))))] ?_ ?_
 ·simp
 refine VW.sqc fun K12 hK12 hCK12 => ?_
 refine VW.cond rfl (fun M => ?_) (fun M => ?_)
 rotate_left
 ·
  replace M : ¬ (s10.2 < (a0.length : Int)) := by simpa [ieq,ilt,ile] using M
  rw [if_neg M] at F
  refine VW.exit ?_
  cases F
  have hq := Am _ rfl
  subst hq
  exact Fits.of rfl
 replace M : s10.2 < (a0.length : Int) := by simpa [ieq,ilt,ile] using M
 rw [if_pos M] at F
 refine VW.skip ?_
 refine hK12 _ ?_
 obtain ⟨x14,L,F⟩ := bind_some F
 refine VW.sqE [(0,.val (dM a0)),(5,.val (i64 x14)),(6,.val (i64 s5.2)),(14,.val (i64 (a0.length : Int))),(15,.val (i64 s5.2)),(19,.val (i64 (a0.length : Int))),(20,.val (i64 s10.2))] ?_ ?_
 ·clear L
  refine zr [(0,.val (dM a0)),(5,.val (i64 x14)),(6,.val (i64 s5.2)),(14,.val (i64 (a0.length : Int))),(15,.val (i64 s5.2)),(19,.val (i64 (a0.length : Int))),(20,.val (i64 (w64 (s10.2 + 1))))] ?_ ?_
  ·simp
  cases F
  exact ⟨_,rfl,Fits.of rfl⟩
 refine VW.block ?_
 refine zs [(0,.val (dM a0)),(5,.val (i64 s10.1)),(6,.val (i64 s5.2)),(7,.val (i64 s10.2)),(14,.val (i64 (a0.length : Int))),(15,.val (i64 s5.2)),(19,.val (i64 (a0.length : Int))),(20,.val (i64 s10.2))] ?_ ?_
 ·simp
 obtain ⟨v16,By,L⟩ := bind_some L
 obtain ⟨Cg,Ch,Ci,Cj⟩ := idx_some By
 obtain ⟨v17,Ds,L⟩ := bind_some L
 obtain ⟨Ck,Cl,Cm,Cn⟩ := idx_some Ds
 obtain ⟨v18,Dt,L⟩ := bind_some L
 obtain ⟨Co,Cp,Cq,Cr⟩ := idx_some Dt
 obtain ⟨v19,Du,L⟩ := bind_some L
 obtain ⟨Cs,Ct,Cu,Cv⟩ := idx_some Du
 refine VW.wds tau_ok Sound.none try_mixed _ [(0,.val (dM a0)),(5,.val (i64 s10.1)),(6,.val (i64 s5.2)),(14,.val (i64 (a0.length : Int))),(15,.val (i64 s5.2)),(19,.val (i64 (a0.length : Int))),(20,.val (i64 s10.2)),(37,.val (.bool (ieq v17 v19)))] 15 rfl (by kernel_rfl) (by rfl) ?_ ?_
 ·simp [Cg,Ch,Ci,Cj,Ck,Cl,Cm,Cn,Co,Cp,Cq,Cr,Cs,Ct,Cu,Cv]
 refine VW.cond rfl (fun N => ?_) (fun N => ?_)
 rotate_left
 ·
  replace N : ¬ (v17 = v19) := by simpa [ieq,ilt,ile] using N
  rw [if_neg N] at L
  refine VW.skip ?_
  cases L
  exact Fits.of rfl
 replace N : v17 = v19 := by simpa [ieq,ilt,ile] using N
 rw [if_pos N] at L
 refine zr [(0,.val (dM a0)),(5,.val (i64 (w64 (s10.1 + 1)))),(6,.val (i64 s5.2)),(14,.val (i64 (a0.length : Int))),(15,.val (i64 s5.2)),(19,.val (i64 (a0.length : Int))),(20,.val (i64 s10.2))] ?_ ?_
 ·simp
 cases L
 exact Fits.of rfl

theorem i_CountAssociating_c1_ok {a0 : Int} {a1 : Int} {a2 : Int} {a3_0 : List (List Int)} {a4_0 : Int} {r : Bool × Int} (h : i_CountAssociating_c1 a0 a1 a2 a3_0 a4_0 = some r) :
  VCloR Try.prog 108 [i64 a0,i64 a1,i64 a2] [.fro (.ptr [dM a3_0]),.own [i64 a4_0]] [.fro (.ptr [dM a3_0]),.own [i64 r.2]] [.bool r.1] := by
 unfold i_CountAssociating_c1 at h
 refine VCloR.enter Try.call108 Try.func108 rfl 16 5 Try.ntmps108 rfl (by decide) [.tmp 8] rfl ?_
 show VW _ _ _ (mk [(0,.val (i64 a0)),(1,.val (i64 a1)),(2,.val (i64 a2)),(3,.val (.ptr [dM a3_0])),(4,.ref 4 [] true (.ptr [i64 a4_0]))]) _
 refine zs [(0,.val (i64 a0)),(1,.val (i64 a1)),(2,.val (i64 a2)),(3,.val (.ptr [dM a3_0])),(4,.ref 4 [] true (.ptr [i64 a4_0]))] ?_ ?_
 ·simp
 refine VW.sqc fun K1 hK1 hCK1 => ?_
 obtain ⟨v2,U,h⟩ := bind_some h
 refine VW.ws tau_ok (Sound.none.add 13 (i_associates_ok U) rfl) _ [(4,.ref 4 [] true (.ptr [i64 a4_0])),(13,.val (.bool v2))] rfl ?_ ?_
 ·simp
 obtain ⟨x3,Az,h⟩ := bind_some h
 refine VW.tlE [(4,.ref 4 [] true (.ptr [i64 x3]))] (hCK1) ?_ ?_
 ·clear Az
  refine hK1 _ ?_
  refine zs [(4,.ref 4 [] true (.ptr [i64 x3])),(8,.val (.bool true))] ?_ ?_
  ·simp
  cases h
  refine VW.ret ?_
  exact PostRx.r ⟨⟨_,rfl,rfl,rfl⟩,(by intro q hq; simp only [ownsOf,List.mem_cons,List.not_mem_nil,or_false] at hq; rcases hq with rfl <;> rfl)⟩
 refine VW.cond rfl (fun O => ?_) (fun O => ?_)
 rotate_left
 ·
  replace O : ¬ (v2 = true) := by simpa [ieq,ilt,ile] using O
  rw [if_neg O] at Az
  refine VW.skip ?_
  cases Az
  exact Fits.of rfl
 replace O : v2 = true := by simpa [ieq,ilt,ile] using O
 rw [if_pos O] at Az
 refine zr [(4,.ref 4 [] true (.ptr [i64 (w64 (a4_0 + 1))]))] ?_ ?_
 ·simp
 cases Az
 exact Fits.of rfl

theorem i_loopTriples_of_i_CountAssociating_c1_ok {a0 : List (List Int)} {a1_0 : List (List Int)} {a2_0 : Int} {r : Bool × Int} (h : i_loopTriples_of_i_CountAssociating_c1 a0 a1_0 a2_0 = some r) :
  VHof Try.prog 96 108 32 [dM a0] [.fro (.ptr [dM a1_0]),.own [i64 a2_0]] [.fro (.ptr [dM a1_0]),.own [i64 r.2]] [.bool r.1] := by
 unfold i_loopTriples_of_i_CountAssociating_c1 at h
 refine VHof.enter Try.call96 Try.func96 rfl 32 2 Try.ntmps96 rfl (by decide) [.tmp 4] rfl rfl ?_
 show VW _ _ _ (mk [(0,.val (dM a0)),(1,.clo 108 [.dat (.ptr [dM a1_0]),.tok 33]),(33,.gst 33 [i64 a2_0])]) _
 refine zs [(0,.val (dM a0)),(1,.clo 108 [.dat (.ptr [dM a1_0]),.tok 33]),(33,.gst 33 [i64 a2_0])] ?_ ?_
 ·simp
 refine VW.sqc fun K1 hK1 hCK1 => ?_
 obtain ⟨v2,U,h⟩ := bind_some h
 refine VW.ws tau_ok (Sound.none.add 9 (i_length_LI_ok U) rfl) _ [(0,.val (dM a0)),(1,.clo 108 [.dat (.ptr [dM a1_0]),.tok 33]),(9,.val (i64 v2)),(10,.val (i64 0)),(33,.gst 33 [i64 a2_0])] rfl ?_ ?_
 ·simp
 obtain ⟨x3,Az,h⟩ := bind_some h
 refine VW.tlO (fun y5 => [(1,.clo 108 [.dat (.ptr [dM a1_0]),.tok 33]),(33,.gst 33 [i64 y5])]) x3 (hCK1) ?_ ?_
 ·clear Az
  rintro y5 rfl
  dsimp only at h
  refine hK1 _ ?_
  refine zs [(1,.clo 108 [.dat (.ptr [dM a1_0]),.tok 33]),(4,.val (.bool true)),(33,.gst 33 [i64 y5])] ?_ ?_
  ·simp
  cases h
  refine VW.ret ?_
  exact PostHx.r ⟨⟨_,rfl,rfl,rfl⟩,rfl,(by intro q hq; simp only [ownsOf,List.mem_cons,List.not_mem_nil,or_false] at hq; rcases hq with rfl <;> rfl)⟩
 refine VW.block ?_
 refine VW.loopF (i_loopTriples_of_i_CountAssociating_c1_L0 a0 a1_0 v2) (fun s3 => [(0,.val (dM a0)),(1,.clo 108 [.dat (.ptr [dM a1_0]),.tok 33]),(9,.val (i64 v2)),(10,.val (i64 s3.1)),(33,.gst 33 [i64 s3.2])]) Az (Fits.of rfl) ?_
 clear Az
 intro s3 ox3 Q Cw
 unfold i_loopTriples_of_i_CountAssociating_c1_L0 at Q
 refine zs [(0,.val (dM a0)),(1,.clo 108 [.dat (.ptr [dM a1_0]),.tok 33]),(9,.val (i64 v2)),(10,.val (i64 s3.1)),(11,.val (.bool (ilt s3.1 v2))),(33,.gst 33 [i64 s3.2])] ?_ ?_
 ·simp
 refine VW.sqc fun K6 hK6 hCK6 => ?_
 refine VW.cond rfl (fun Z => ?_) (fun Z => ?_)
 rotate_left
 ·
  replace Z : ¬ (s3.1 < v2) := by simpa [ieq,ilt,ile] using Z
  rw [if_neg Z] at Q
  refine VW.exit ?_
  cases Q
  have hq := Cw _ rfl
  subst hq
  exact ⟨_,rfl,Fits.of rfl⟩
 replace Z : s3.1 < v2 := by simpa [ieq,ilt,ile] using Z
 rw [if_pos Z] at Q
 refine VW.skip ?_
 refine hK6 _ ?_
 refine VW.sqc fun K8 hK8 hCK8 => ?_
 refine VW.block ?_
 refine zs [(0,.val (dM a0)),(1,.clo 108 [.dat (.ptr [dM a1_0]),.tok 33]),(5,.val (i64 s3.1)),(9,.val (i64 v2)),(10,.val (i64 s3.1)),(33,.gst 33 [i64 s3.2])] ?_ ?_
 ·simp
 obtain ⟨v9,Bz,Q⟩ := bind_some Q
 refine VW.ws tau_ok (Sound.none.add 14 (i_length_LI_ok Bz) rfl) _ [(0,.val (dM a0)),(1,.clo 108 [.dat (.ptr [dM a1_0]),.tok 33]),(5,.val (i64 s3.1)),(9,.val (i64 v2)),(10,.val (i64 s3.1)),(14,.val (i64 v9)),(15,.val (i64 0)),(33,.gst 33 [i64 s3.2])] rfl ?_ ?_
 ·simp
 obtain ⟨x10,Y,Q⟩ := bind_some Q
 refine VW.tlO (fun y12 => [(0,.val (dM a0)),(1,.clo 108 [.dat (.ptr [dM a1_0]),.tok 33]),(9,.val (i64 v2)),(10,.val (i64 s3.1)),(33,.gst 33 [i64 y12])]) x10 (hCK8) ?_ ?_
 ·clear Y
  rintro y12 rfl
  dsimp only at Q
  refine hK8 _ ?_
  refine zr [(0,.val (dM a0)),(1,.clo 108 [.dat (.ptr [dM a1_0]),.tok 33]),(9,.val (i64 v2)),(10,.val (i64 (w64 (s3.1 + 1)))),(33,.gst 33 [i64 y12])] ?_ ?_
  ·simp
  cases Q
  exact ⟨_,rfl,Fits.of rfl⟩
 refine VW.block ?_
 refine VW.loopF (i_loopTriples_of_i_CountAssociating_c1_L1 a0 a1_0 s3 v9) (fun s10 => [(0,.val (dM a0)),(1,.clo 108 [.dat (.ptr [dM a1_0]),.tok 33]),(5,.val (i64 s3.1)),(9,.val (i64 v2)),(10,.val (i64 s3.1)),(14,.val (i64 v9)),(15,.val (i64 s10.1)),(33,.gst 33 [i64 s10.2])]) Y (Fits.of rfl) ?_
 clear Y
 intro s10 ox10 F Am
 unfold i_loopTriples_of_i_CountAssociating_c1_L1 at F
 refine zs [(0,.val (dM a0)),(1,.clo 108 [.dat (.ptr [dM a1_0]),.tok 33]),(5,.val (i64 s3.1)),(9,.val (i64 v2)),(10,.val (i64 s3.1)),(14,.val (i64 v9)),(15,.val (i64 s10.1)),(16,.val (.bool (ilt s10.1 v9))),(33,.gst 33 [i64 s10.2])] ?_ ?_
 ·simp
 refine VW.sqc fun K13 hK13 hCK13 => ?_
 refine VW.cond rfl (fun Aa => ?_) (fun Aa => ?_)
 rotate_left
 ·
  replace Aa : ¬ (s10.1 < v9) := by simpa [ieq,ilt,ile] using Aa
  rw [if_neg Aa] at F
  refine VW.exit ?_
  cases F
  have hq := Am _ rfl
  subst hq
  exact ⟨_,rfl,Fits.of rfl⟩
 replace Aa : s10.1 < v9 := by simpa [ieq,ilt,ile] using Aa
 rw [if_pos Aa] at F
 refine VW.skip ?_
 refine hK13 _ ?_
 refine VW.sqc fun K15 hK15 hCK15 => ?_
 refine VW.block ?_
 refine zs [(0,.val (dM a0)),(1,.clo 108 [.dat (.ptr [dM a1_0]),.tok 33]),(5,.val (i64 s3.1)),(6,.val (i64 s10.1)),(9,.val (i64 v2)),(10,.val (i64 s3.1)),(14,.val (i64 v9)),(15,.val (i64 s10.1)),(33,.gst 33 [i64 s10.2])] ?_ ?_
 ·simp
 obtain ⟨v16,By,F⟩ := bind_some F
 refine VW.ws tau_ok (Sound.none.add 19 (i_length_LI_ok By) rfl) _ [(0,.val (dM a0)),(1,.clo 108 [.dat (.ptr [dM a1_0]),.tok 33]),(5,.val (i64 s3.1)),(6,.val (i64 s10.1)),(9,.val (i64 v2)),(10,.val (i64 s3.1)),(14,.val (i64 v9)),(15,.val (i64 s10.1)),(19,.val (i64 v16)),(20,.val (i64 0)),(33,.gst 33 [i64 s10.2])] rfl ?_ ?_
 ·simp
 obtain ⟨x17,Ab,F⟩ := bind_some F
 refine VW.tlO (fun y19 => [(0,.val (dM a0)),(1,.clo 108 [.dat (.ptr [dM a1_0]),.tok 33]),(5,.val (i64 s3.1)),(9,.val (i64 v2)),(10,.val (i64 s3.1)),(14,.val (i64 v9)),(15,.val (i64 s10.1)),(33,.gst 33 [i64 y19])]) x17 (hCK15) ?_ ?_
 ·clear Ab
  rintro y19 rfl
  dsimp only at F
  refine hK15 _ ?_
  refine zr [(0,.val (dM a0)),(1,.clo 108 [.dat (.ptr [dM a1_0]),.tok 33]),(5,.val (i64 s3.1)),(9,.val (i64 v2)),(10,.val (i64 s3.1)),(14,.val (i64 v9)),(15,.val (i64 (w64 (s10.1 + 1)))),(33,.gst 33 [i64 y19])] ?_ ?_
  ·simp
  cases F
  exact ⟨_,rfl,Fits.of rfl⟩
 refine VW.block ?_
 refine VW.loopF (i_loopTriples_of_i_CountAssociating_c1_L2 a1_0 s3 s10 v16) (fun s17 => [(0,.val (dM a0)),(1,.clo 108 [.dat (.ptr [dM a1_0]),.tok 33]),(5,.val (i64 s3.1)),(6,.val (i64 s10.1)),(9,.val (i64 v2)),(10,.val (i64 s3.1)),(14,.val (i64 v9)),(15,.val (i64 s10.1)),(19,.val (i64 v16)),(20,.val (i64 s17.1)),(33,.gst 33 [i64 s17.2])]) Ab (Fits.of rfl) ?_
 clear Ab
 intro s17 ox17 A An
 unfold i_loopTriples_of_i_CountAssociating_c1_L2 at A
 refine zs [(0,.val (dM a0)),(1,.clo 108 [.dat (.ptr [dM a1_0]),.tok 33]),(5,.val (i64 s3.1)),(6,.val (i64 s10.1)),(9,.val (i64 v2)),(10,.val (i64 s3.1)),(14,.val (i64 v9)),(15,.val (i64 s10.1)),(19,.val (i64 v16)),(20,.val (i64 s17.1)),(21,.val (.bool (ilt s17.1 v16))),(33,.gst 33 [i64 s17.2])] ?_ ?_
 ·simp
 refine VW.sqc fun K20 hK20 hCK20 => ?_
 refine VW.cond rfl (fun Ac => ?_) (fun Ac => ?_)
 rotate_left
 ·
  replace Ac : ¬ (s17.1 < v16) := by simpa [ieq,ilt,ile] using Ac
  rw [if_neg Ac] at A
  refine VW.exit ?_
  cases A
  have hq := An _ rfl
  subst hq
  exact ⟨_,rfl,Fits.of rfl⟩
 replace Ac : s17.1 < v16 := by simpa [ieq,ilt,ile] using Ac
 rw [if_pos Ac] at A
 refine VW.skip ?_
 refine hK20 _ ?_
 refine VW.sqc fun K22 hK22 hCK22 => ?_
 refine VW.block ?_
 refine zs [(0,.val (dM a0)),(1,.clo 108 [.dat (.ptr [dM a1_0]),.tok 33]),(5,.val (i64 s3.1)),(6,.val (i64 s10.1)),(7,.val (i64 s17.1)),(9,.val (i64 v2)),(10,.val (i64 s3.1)),(14,.val (i64 v9)),(15,.val (i64 s10.1)),(19,.val (i64 v16)),(20,.val (i64 s17.1)),(33,.gst 33 [i64 s17.2])] ?_ ?_
 ·simp
 obtain ⟨v23,B0,A⟩ := bind_some A
 refine VW.mid tau_ok Sound.none _ 4 [(0,.val (dM a0)),(1,.clo 108 [.dat (.ptr [dM a1_0]),.tok 33]),(5,.val (i64 s3.1)),(6,.val (i64 s10.1)),(9,.val (i64 v2)),(10,.val (i64 s3.1)),(14,.val (i64 v9)),(15,.val (i64 s10.1)),(19,.val (i64 v16)),(20,.val (i64 s17.1)),(23,.clo 108 [.dat (.ptr [dM a1_0]),.tok 33]),(24,.val (i64 s3.1)),(25,.val (i64 s10.1)),(26,.val (i64 s17.1)),(33,.gst 33 [i64 s17.2])] _ (fun _ => [(0,.val (dM a0)),(1,.clo 108 [.dat (.ptr [dM a1_0]),.tok 33]),(5,.val (i64 s3.1)),(6,.val (i64 s10.1)),(9,.val (i64 v2)),(10,.val (i64 s3.1)),(14,.val (i64 v9)),(15,.val (i64 s10.1)),(19,.val (i64 v16)),(20,.val (i64 s17.1)),(28,.val (.bool (!v23.1))),(33,.gst 33 [i64 v23.2])]) (fun _ => True) _ rfl rfl rfl ?_ (step_cloR [(33,33,1,true,[i64 v23.2])] [1,23] rfl  rfl (by simp) rfl rfl (i_CountAssociating_c1_ok B0) (.cons (CapOkS.dat') (.cons (CapOkS.tok' 33 true rfl) (.nil))) rfl (show List.Nodup ([33] : List Nat) by decide) (show ∀ t ∈ ([] : List Nat),t ∉ ([33] : List Nat) by decide) (by intro q hq; simp only [List.mem_cons,List.not_mem_nil,or_false] at hq; rcases hq with rfl <;> exact ⟨rfl,rfl,_,rfl⟩) (by intro s hs; simp only [List.mem_cons,List.not_mem_nil,or_false] at hs; rcases hs with rfl | rfl <;> rfl)) (fun _ _ => ?_) (fun _ _ => ?_)
 ·simp
 ·simp
 refine VW.cond rfl (fun Ad => ?_) (fun Ad => ?_)
 rotate_left
 ·
  replace Ad : ¬ (v23.1 = false) := by simpa [ieq,ilt,ile] using Ad
  rw [if_neg Ad] at A
  refine VW.skip ?_
  refine hK22 _ ?_
  refine zr [(0,.val (dM a0)),(1,.clo 108 [.dat (.ptr [dM a1_0]),.tok 33]),(5,.val (i64 s3.1)),(6,.val (i64 s10.1)),(9,.val (i64 v2)),(10,.val (i64 s3.1)),(14,.val (i64 v9)),(15,.val (i64 s10.1)),(19,.val (i64 v16)),(20,.val (i64 (w64 (s17.1 + 1)))),(33,.gst 33 [i64 v23.2])] ?_ ?_
  ·simp
  cases A
  exact ⟨_,rfl,Fits.of rfl⟩
 replace Ad : v23.1 = false := by simpa [ieq,ilt,ile] using Ad
 rw [if_pos Ad] at A
 refine zs [(1,.clo 108 [.dat (.ptr [dM a1_0]),.tok 33]),(4,.val (.bool false)),(33,.gst 33 [i64 v23.2])] ?_ ?_
 ·simp
 cases A
 have hq := An _ rfl
 subst hq
 dsimp only at F
 cases F
 have hq := Am _ rfl
 subst hq
 dsimp only at Q
 cases Q
 have hq := Cw _ rfl
 subst hq
 dsimp only at h
 cases h
 refine VW.ret ?_
 exact PostHx.r ⟨⟨_,rfl,rfl,rfl⟩,rfl,(by intro q hq; simp only [ownsOf,List.mem_cons,List.not_mem_nil,or_false] at hq; rcases hq with rfl <;> rfl)⟩

theorem i_CountAssociating_ok {a0 : List (List Int)} {r : Int × Int} (h : i_CountAssociating a0 = some r) :
  VCall Try.prog 38 [dM a0] [.sc (i64 r.1),.sc (i64 r.2)] := by
 unfold i_CountAssociating at h
 refine VCall.enter Try.call38 Try.func38 rfl 15 Try.ntmps38 (by simp) [.tmp 2,.tmp 3] rfl ?_
 show VW _ _ _ (mk [(0,.val (dM a0))]) _
 refine zs [(1,.val (.ptr [dM a0]))] ?_ ?_
 ·simp
 refine VW.sqc fun K1 hK1 hCK1 => ?_
 obtain ⟨v2,U,h⟩ := bind_some h
 refine VW.ws tau_ok (Sound.none.add 7 (i_checkLoop_ok U) rfl) _ [(1,.val (.ptr [dM a0])),(4,.val (i64 v2))] rfl ?_ ?_
 ·simp
 refine zs [(1,.val (.ptr [dM a0])),(4,.val (i64 v2)),(9,.val (.bool (!(ieq v2 0))))] ?_ ?_
 ·simp
 refine VW.cond rfl (fun C => ?_) (fun C => ?_)
 ·
  replace C : ¬ v2 = 0 := by simpa [ieq,ilt,ile] using C
  rw [if_pos C] at h
  refine zs [(2,.val (i64 0)),(3,.val (i64 v2))] ?_ ?_
  ·simp
  cases h
  refine VW.ret ?_
  simp [Post,PostM,PostC,PostC2,Nx,Bk]
 replace C : ¬ (¬ v2 = 0) := by simpa [ieq,ilt,ile] using C
 rw [if_neg C] at h
 refine VW.skip ?_
 refine hK1 _ ?_
 refine zs [(1,.val (.ptr [dM a0])),(5,.ref 5 [] true (.ptr [i64 0]))] ?_ ?_
 ·simp
 obtain ⟨v4,B1,h⟩ := bind_some h
 refine VW.mid2 tau_ok Sound.none [some 11,some 12,some 13] 1 0 [(1,.val (.ptr [dM a0])),(5,.ref 5 [] true (.ptr [i64 0])),(11,.val (dM a0))] _ [(5,.ref 5 [] true (.ptr [i64 0])),(11,.val (dM a0)),(12,.clo 108 [.dat (.ptr [dM a0]),.tok 5])] _ [(5,.ref 5 [] true (.ptr [i64 v4.2]))] _ _ rfl rfl rfl rfl rfl ?_ (step_mkf rfl rfl (by simp) rfl) ?_ (step_hof [(5,5,1,false,[i64 v4.2])] [12] rfl rfl rfl (by simp) rfl rfl (i_loopTriples_of_i_CountAssociating_c1_ok B1) (.cons (CapOkS.dat') (.cons (CapOkS.tok' 5 false rfl) (.nil))) rfl (show List.Nodup ([5] : List Nat) by decide) (show ∀ t ∈ ([] : List Nat),t ∉ ([5] : List Nat) by decide) (by intro q hq; simp only [List.mem_cons,List.not_mem_nil,or_false] at hq; rcases hq with rfl <;> exact ⟨rfl,rfl,_,rfl⟩) (by intro s hs; simp only [List.mem_cons,List.not_mem_nil,or_false] at hs; rcases hs with rfl <;> rfl)) ?_ ?_
 ·simp
 ·simp
 ·simp
 refine zs [(2,.val (i64 v4.2)),(3,.val (i64 0))] ?_ ?_
 ·simp
 cases h
 refine VW.ret ?_
 simp [Post,PostM,PostC,PostC2,Nx,Bk]

theorem i_subloop_c1_ok {a0 : Int} {a1_0 : List Bool} {a2_0 : List Int} {r : (List Bool) × (List Int)} (h : i_subloop_c1 a0 a1_0 a2_0 = some r) :
  VClo Try.prog 161 [i64 a0] [.own [dB a1_0],.own [dI a2_0]] [.own [dB r.1],.own [dI r.2]] := by
 unfold i_subloop_c1 at h
 refine VClo.enter Try.call161 Try.func161 rfl 16 3 Try.ntmps161 rfl (by decide) rfl rfl ?_
 show VW _ _ _ (mk [(0,.val (i64 a0)),(1,.ref 1 [] true (.ptr [dB a1_0])),(2,.ref 2 [] true (.ptr [dI a2_0]))]) _
 obtain ⟨v1,Cx,h⟩ := bind_some h
 obtain ⟨Cy,Cz,C0,C1⟩ := idx_some Cx
 refine zs [(0,.val (i64 a0)),(1,.ref 1 [] true (.ptr [dB a1_0])),(2,.ref 2 [] true (.ptr [dI a2_0])),(8,.val (.bool (!v1)))] ?_ ?_
 ·simp [Cy,Cz,C0,C1]
 refine VW.cond rfl (fun R => ?_) (fun R => ?_)
 rotate_left
 ·
  replace R : ¬ (v1 = false) := by simpa [ieq,ilt,ile] using R
  rw [if_neg R] at h
  refine VW.skip ?_
  cases h
  exact PostClx.n (by simp [postOk,capV,capsAs,capAs])
 replace R : v1 = false := by simpa [ieq,ilt,ile] using R
 rw [if_pos R] at h
 refine zs [(0,.val (i64 a0)),(1,.ref 1 [] true (.ptr [dB (a1_0.set a0.toNat true)])),(2,.ref 2 [] true (.ptr [dI a2_0]))] ?_ ?_
 ·simp [Cy,Cz,C0,C1]
 obtain ⟨Ej,h⟩ := chk_some h
 have C2 := Ej
 try simp at C2
 refine zr [(1,.ref 1 [] true (.ptr [dB (a1_0.set a0.toNat true)])),(2,.ref 2 [] true (.ptr [dI (a2_0 ++ [a0])]))] ?_ ?_
 ·simp [Ej,C2]
 cases h
 exact PostClx.n (by simp [postOk,capV,capsAs,capAs])

theorem g_sortI_ok {xs : List Int} (h : xs.length ≤ 1099511627776) : VMutT Try.prog 162 (dI xs) [] [] (dI (srt xs)) := sort_mut Try.sortL h

theorem i_subloop_ok {a0 : List (List Int)} {a1 : List Int} {r : List Int} (h : i_subloop a0 a1 = some r) :
  VCall Try.prog 79 [dM a0,dI a1] [.own true (dI r)] := by
 unfold i_subloop at h
 refine VCall.enter Try.call79 Try.func79 rfl 73 Try.ntmps79 (by simp) [.tmp 4] rfl ?_
 show VW _ _ _ (mk [(0,.val (dM a0)),(1,.val (dI a1))]) _
 refine zs [(0,.val (dM a0)),(1,.val (dI a1))] ?_ ?_
 ·simp
 obtain ⟨Ek,h⟩ := chk_some h
 have C3 := Ek
 try simp at C3
 refine zs [(0,.val (dM a0)),(1,.val (dI a1)),(5,.ref 5 [] true (.ptr [dB (List.replicate (a0.length : Int).toNat false)])),(6,.ref 6 [] true (.ptr [dI []]))] ?_ ?_
 ·simp [Ek,C3]
 refine VW.mid tau_ok Sound.none _ 0 [(0,.val (dM a0)),(1,.val (dI a1)),(5,.ref 5 [] true (.ptr [dB (List.replicate (a0.length : Int).toNat false)])),(6,.ref 6 [] true (.ptr [dI []]))] _ (fun _ => [(0,.val (dM a0)),(1,.val (dI a1)),(5,.ref 5 [] true (.ptr [dB (List.replicate (a0.length : Int).toNat false)])),(6,.ref 6 [] true (.ptr [dI []])),(7,.clo 161 [.tok 5,.tok 6])]) (fun _ => True) _ rfl rfl rfl ?_ (step_mkf rfl rfl (by simp) rfl) (fun _ _ => ?_) (fun _ _ => ?_)
 ·simp
 ·simp
 obtain ⟨v2,U,h⟩ := bind_some h
 refine VW.mid tau_ok Sound.none _ 1 [(0,.val (dM a0)),(1,.val (dI a1)),(5,.ref 5 [] true (.ptr [dB (List.replicate (a0.length : Int).toNat false)])),(6,.ref 6 [] true (.ptr [dI []])),(7,.clo 161 [.tok 5,.tok 6]),(17,.clo 161 [.tok 5,.tok 6])] _ (fun _ => [(0,.val (dM a0)),(1,.val (dI a1)),(5,.ref 5 [] true (.ptr [dB v2.1])),(6,.ref 6 [] true (.ptr [dI v2.2])),(7,.clo 161 [.tok 5,.tok 6])]) (fun _ => True) _ rfl rfl rfl ?_ (step_clo [(5,5,0,.own [dB v2.1]),(6,6,1,.own [dI v2.2])] [7,17] rfl rfl (by simp) rfl rfl (i_subloop_c1_ok U) (.cons (CapOk.tok' 5 rfl) (.cons (CapOk.tok' 6 rfl) (.nil))) (.cons CapAs.tok' (.cons CapAs.tok' (.nil))) (show List.Nodup ([5,6] : List Nat) by decide) (by intro q hq; simp only [List.mem_cons,List.not_mem_nil,or_false] at hq; rcases hq with rfl | rfl <;> first | exact ⟨rfl,rfl,rfl,.inl ⟨_,rfl⟩⟩ | exact ⟨rfl,rfl,rfl,.inr rfl⟩) (by intro s hs; simp only [List.mem_cons,List.not_mem_nil,or_false] at hs; rcases hs with rfl | rfl <;> rfl)) (fun _ _ => ?_) (fun _ _ => ?_)
 ·simp
 ·simp
 refine VW.sqc fun K3 hK3 hCK3 => ?_
 refine zs [(0,.val (dM a0)),(5,.ref 5 [] true (.ptr [dB v2.1])),(6,.ref 6 [] true (.ptr [dI v2.2])),(7,.clo 161 [.tok 5,.tok 6]),(19,.val (dI a1)),(20,.val (i64 (a1.length : Int))),(21,.val (i64 0))] ?_ ?_
 ·simp
 obtain ⟨x4,Ae,h⟩ := bind_some h
 refine VW.tlE [(0,.val (dM a0)),(5,.ref 5 [] true (.ptr [dB x4.1])),(6,.ref 6 [] true (.ptr [dI x4.2])),(7,.clo 161 [.tok 5,.tok 6])] (hCK3) ?_ ?_
 ·clear Ae
  refine hK3 _ ?_
  refine VW.sqc fun K11 hK11 hCK11 => ?_
  refine zs [(0,.val (dM a0)),(5,.ref 5 [] true (.ptr [dB x4.1])),(6,.ref 6 [] true (.ptr [dI x4.2])),(7,.clo 161 [.tok 5,.tok 6]),(10,.val (i64 0))] ?_ ?_
  ·simp
  obtain ⟨x12,B2,h⟩ := bind_some h
  refine VW.tlE [(6,.ref 6 [] true (.ptr [dI x12]))] (hCK11) ?_ ?_
  ·clear B2
   refine hK11 _ ?_
   obtain ⟨A0,h⟩ := chk_some h
   have At := A0
   try simp at At
   refine VW.mid tau_ok Sound.none _ 1 [(6,.ref 6 [] true (.ptr [dI x12])),(70,.ref 6 [0] true (dI x12))] _ (fun _ => [(6,.ref 6 [] true (.ptr [dI (srt x12)]))]) (fun _ => True) _ rfl rfl rfl ?_ (step_mutT rfl rfl rfl (by simp) rfl rfl (g_sortI_ok (by simpa using A0))) (fun _ _ => ?_) (fun _ _ => ?_)
   ·simp [A0,At]
   ·simp [A0,At]
   refine zs [(4,.ref 6 [0] true (dI (srt x12)))] ?_ ?_
   ·simp
   have Em := Option.some.inj h
   subst Em
   refine VW.fits (fl' := [(4,.ref 4 [] true (dI (srt x12)))]) (Fits.part (s := 4) rfl (by decide) (Fits.of rfl)) ?_
   refine VW.ret ?_
   simp [Post,PostM,PostC,PostC2,Nx,Bk]
  refine VW.block ?_
  refine VW.loopF (i_subloop_L1 a0) (fun s12 => [(0,.val (dM a0)),(5,.ref 5 [] true (.ptr [dB s12.1])),(6,.ref 6 [] true (.ptr [dI s12.2.1])),(7,.clo 161 [.tok 5,.tok 6]),(10,.val (i64 s12.2.2))]) B2 (Fits.of rfl) ?_
  clear B2
  intro s12 ox12 S C4
  unfold i_subloop_L1 at S
  refine VW.sqc fun K14 hK14 hCK14 => ?_
  refine zs [(0,.val (dM a0)),(5,.ref 5 [] true (.ptr [dB s12.1])),(6,.ref 6 [] true (.ptr [dI s12.2.1])),(7,.clo 161 [.tok 5,.tok 6]),(10,.val (i64 s12.2.2)),(32,.val (.bool (ilt s12.2.2 (s12.2.1.length : Int))))] ?_ ?_
  ·simp
  refine VW.cond rfl (fun Af => ?_) (fun Af => ?_)
  rotate_left
  ·
   replace Af : ¬ (s12.2.2 < (s12.2.1.length : Int)) := by simpa [ieq,ilt,ile] using Af
   rw [if_neg Af] at S
   refine VW.exit ?_
   cases S
   have hq := C4 _ rfl
   subst hq
   exact Fits.of rfl
  replace Af : s12.2.2 < (s12.2.1.length : Int) := by simpa [ieq,ilt,ile] using Af
  rw [if_pos Af] at S
  refine VW.skip ?_
  refine hK14 _ ?_
  refine VW.sqc fun K16 hK16 hCK16 => ?_
  refine VW.block ?_
  refine zs [(0,.val (dM a0)),(5,.ref 5 [] true (.ptr [dB s12.1])),(6,.ref 6 [] true (.ptr [dI s12.2.1])),(7,.clo 161 [.tok 5,.tok 6]),(10,.val (i64 s12.2.2)),(11,.val (i64 0))] ?_ ?_
  ·simp
  obtain ⟨x17,Ab,S⟩ := bind_some S
  refine VW.tlE [(0,.val (dM a0)),(5,.ref 5 [] true (.ptr [dB x17.1])),(6,.ref 6 [] true (.ptr [dI x17.2])),(7,.clo 161 [.tok 5,.tok 6]),(10,.val (i64 s12.2.2))] (hCK16) ?_ ?_
  ·clear Ab
   refine hK16 _ ?_
   refine zr [(0,.val (dM a0)),(5,.ref 5 [] true (.ptr [dB x17.1])),(6,.ref 6 [] true (.ptr [dI x17.2])),(7,.clo 161 [.tok 5,.tok 6]),(10,.val (i64 (w64 (s12.2.2 + 1))))] ?_ ?_
   ·simp
   cases S
   exact ⟨_,rfl,Fits.of rfl⟩
  refine VW.block ?_
  refine VW.loopF (i_subloop_L2 a0 s12) (fun s17 => [(0,.val (dM a0)),(5,.ref 5 [] true (.ptr [dB s17.1])),(6,.ref 6 [] true (.ptr [dI s17.2.1])),(7,.clo 161 [.tok 5,.tok 6]),(10,.val (i64 s12.2.2)),(11,.val (i64 s17.2.2))]) Ab (Fits.of rfl) ?_
  clear Ab
  intro s17 ox17 A An
  unfold i_subloop_L2 at A
  refine VW.sqc fun K19 hK19 hCK19 => ?_
  refine zs [(0,.val (dM a0)),(5,.ref 5 [] true (.ptr [dB s17.1])),(6,.ref 6 [] true (.ptr [dI s17.2.1])),(7,.clo 161 [.tok 5,.tok 6]),(10,.val (i64 s12.2.2)),(11,.val (i64 s17.2.2)),(37,.val (.bool (ile s17.2.2 s12.2.2)))] ?_ ?_
  ·simp
  refine VW.cond rfl (fun N => ?_) (fun N => ?_)
  rotate_left
  ·
   replace N : ¬ (s17.2.2 ≤ s12.2.2) := by simpa [ieq,ilt,ile] using N
   rw [if_neg N] at A
   refine VW.exit ?_
   cases A
   have hq := An _ rfl
   subst hq
   exact Fits.of rfl
  replace N : s17.2.2 ≤ s12.2.2 := by simpa [ieq,ilt,ile] using N
  rw [if_pos N] at A
  refine VW.skip ?_
  refine hK19 _ ?_
  refine VW.sqc fun K21 hK21 hCK21 => ?_
  refine VW.block ?_
  obtain ⟨v22,Dv,A⟩ := bind_some A
  obtain ⟨A2,A3,A4,A5⟩ := idx_some Dv
  obtain ⟨v23,B0,A⟩ := bind_some A
  obtain ⟨A6,A7,A8,A9⟩ := idx_some B0
  obtain ⟨v24,Dw,A⟩ := bind_some A
  obtain ⟨Ba,Bb,Bc,Bd⟩ := idx_some Dw
  obtain ⟨v25,Dx,A⟩ := bind_some A
  obtain ⟨Be,Bf,Bg,Bh⟩ := idx_some Dx
  obtain ⟨v26,Dy,A⟩ := bind_some A
  refine VW.dls tau_ok Sound.none try_mixed [some 40,some 41,some 42,some 43,some 44,some 45,some 46,some 47,some 48,some 49,some 50,some 51,some 52,some 53,some 54] 14 [(0,.val (dM a0)),(5,.ref 5 [] true (.ptr [dB s17.1])),(6,.ref 6 [] true (.ptr [dI s17.2.1])),(7,.clo 161 [.tok 5,.tok 6]),(10,.val (i64 s12.2.2)),(11,.val (i64 s17.2.2)),(40,.clo 161 [.tok 5,.tok 6]),(53,.val (i64 v25))] _ (fun _ => [(0,.val (dM a0)),(5,.ref 5 [] true (.ptr [dB v26.1])),(6,.ref 6 [] true (.ptr [dI v26.2])),(7,.clo 161 [.tok 5,.tok 6]),(10,.val (i64 s12.2.2)),(11,.val (i64 s17.2.2))]) (fun _ => True) _ rfl rfl rfl (by kernel_rfl) (by rfl) ?_ (step_clo [(5,5,0,.own [dB v26.1]),(6,6,1,.own [dI v26.2])] [7,40] rfl rfl (by simp) rfl rfl (i_subloop_c1_ok Dy) (.cons (CapOk.tok' 5 rfl) (.cons (CapOk.tok' 6 rfl) (.nil))) (.cons CapAs.tok' (.cons CapAs.tok' (.nil))) (show List.Nodup ([5,6] : List Nat) by decide) (by intro q hq; simp only [List.mem_cons,List.not_mem_nil,or_false] at hq; rcases hq with rfl | rfl <;> first | exact ⟨rfl,rfl,rfl,.inl ⟨_,rfl⟩⟩ | exact ⟨rfl,rfl,rfl,.inr rfl⟩) (by intro s hs; simp only [List.mem_cons,List.not_mem_nil,or_false] at hs; rcases hs with rfl | rfl <;> rfl)) (fun _ _ => ?_) (fun _ _ => ?_)
  ·simp [A2,A3,A4,A5,A6,A7,A8,A9,Ba,Bb,Bc,Bd,Be,Bf,Bg,Bh]
  ·simp [A2,A3,A4,A5,A6,A7,A8,A9,Ba,Bb,Bc,Bd,Be,Bf,Bg,Bh]
  obtain ⟨v27,B3,A⟩ := bind_some A
  obtain ⟨Ao,Ap,Aq,Ar⟩ := idx_some B3
  obtain ⟨v28,Dz,A⟩ := bind_some A
  obtain ⟨Bi,Bj,Bl,Bm⟩ := idx_some Dz
  obtain ⟨v29,D0,A⟩ := bind_some A
  obtain ⟨Bn,Bo,Bp,Bq⟩ := idx_some D0
  obtain ⟨v30,D1,A⟩ := bind_some A
  obtain ⟨Br,Bs,Bt,Bu⟩ := idx_some D1
  obtain ⟨v31,D2,A⟩ := bind_some A
  refine VW.dlr tau_ok Sound.none try_mixed [some 55,some 56,some 57,some 58,some 59,some 60,some 61,some 62,some 63,some 64,some 65,some 66,some 67,some 68,some 69] 14 [(0,.val (dM a0)),(5,.ref 5 [] true (.ptr [dB v26.1])),(6,.ref 6 [] true (.ptr [dI v26.2])),(7,.clo 161 [.tok 5,.tok 6]),(10,.val (i64 s12.2.2)),(11,.val (i64 s17.2.2)),(55,.clo 161 [.tok 5,.tok 6]),(68,.val (i64 v30))] _ (fun _ => [(0,.val (dM a0)),(5,.ref 5 [] true (.ptr [dB v31.1])),(6,.ref 6 [] true (.ptr [dI v31.2])),(7,.clo 161 [.tok 5,.tok 6]),(10,.val (i64 s12.2.2)),(11,.val (i64 s17.2.2))]) (fun _ => True) _ rfl rfl rfl (by kernel_rfl) (by rfl) ?_ (step_clo [(5,5,0,.own [dB v31.1]),(6,6,1,.own [dI v31.2])] [7,55] rfl rfl (by simp) rfl rfl (i_subloop_c1_ok D2) (.cons (CapOk.tok' 5 rfl) (.cons (CapOk.tok' 6 rfl) (.nil))) (.cons CapAs.tok' (.cons CapAs.tok' (.nil))) (show List.Nodup ([5,6] : List Nat) by decide) (by intro q hq; simp only [List.mem_cons,List.not_mem_nil,or_false] at hq; rcases hq with rfl | rfl <;> first | exact ⟨rfl,rfl,rfl,.inl ⟨_,rfl⟩⟩ | exact ⟨rfl,rfl,rfl,.inr rfl⟩) (by intro s hs; simp only [List.mem_cons,List.not_mem_nil,or_false] at hs; rcases hs with rfl | rfl <;> rfl)) (fun _ _ => ?_) (fun _ _ => ?_)
  ·simp [Ao,Ap,Aq,Ar,Bi,Bj,Bl,Bm,Bn,Bo,Bp,Bq,Br,Bs,Bt,Bu]
  ·simp [Ao,Ap,Aq,Ar,Bi,Bj,Bl,Bm,Bn,Bo,Bp,Bq,Br,Bs,Bt,Bu]
  refine hK21 _ ?_
  refine zr [(0,.val (dM a0)),(5,.ref 5 [] true (.ptr [dB v31.1])),(6,.ref 6 [] true (.ptr [dI v31.2])),(7,.clo 161 [.tok 5,.tok 6]),(10,.val (i64 s12.2.2)),(11,.val (i64 (w64 (s17.2.2 + 1))))] ?_ ?_
  ·simp
  cases A
  exact ⟨_,rfl,Fits.of rfl⟩
 refine VW.block ?_
 refine VW.loopF (i_subloop_L0 a1) (fun s4 => [(0,.val (dM a0)),(5,.ref 5 [] true (.ptr [dB s4.1])),(6,.ref 6 [] true (.ptr [dI s4.2.1])),(7,.clo 161 [.tok 5,.tok 6]),(19,.val (dI a1)),(20,.val (i64 (a1.length : Int))),(21,.val (i64 s4.2.2))]) Ae (Fits.of rfl) ?_
 clear Ae
 intro s4 ox4 H A1
 unfold i_subloop_L0 at H
 refine zs [(0,.val (dM a0)),(5,.ref 5 [] true (.ptr [dB s4.1])),(6,.ref 6 [] true (.ptr [dI s4.2.1])),(7,.clo 161 [.tok 5,.tok 6]),(19,.val (dI a1)),(20,.val (i64 (a1.length : Int))),(21,.val (i64 s4.2.2)),(22,.val (.bool (ilt s4.2.2 (a1.length : Int))))] ?_ ?_
 ·simp
 refine VW.sqc fun K6 hK6 hCK6 => ?_
 refine VW.cond rfl (fun Z => ?_) (fun Z => ?_)
 rotate_left
 ·
  replace Z : ¬ (s4.2.2 < (a1.length : Int)) := by simpa [ieq,ilt,ile] using Z
  rw [if_neg Z] at H
  refine VW.exit ?_
  cases H
  have hq := A1 _ rfl
  subst hq
  exact Fits.of rfl
 replace Z : s4.2.2 < (a1.length : Int) := by simpa [ieq,ilt,ile] using Z
 rw [if_pos Z] at H
 refine VW.skip ?_
 refine hK6 _ ?_
 refine VW.sqc fun K8 hK8 hCK8 => ?_
 refine VW.block ?_
 obtain ⟨v9,Bz,H⟩ := bind_some H
 obtain ⟨D3,D4,D5,D6⟩ := idx_some Bz
 refine zs [(0,.val (dM a0)),(5,.ref 5 [] true (.ptr [dB s4.1])),(6,.ref 6 [] true (.ptr [dI s4.2.1])),(7,.clo 161 [.tok 5,.tok 6]),(9,.val (i64 v9)),(19,.val (dI a1)),(20,.val (i64 (a1.length : Int))),(21,.val (i64 s4.2.2))] ?_ ?_
 ·simp [D3,D4,D5,D6]
 obtain ⟨v10,B4,H⟩ := bind_some H
 refine VW.midr tau_ok Sound.none _ 2 [(0,.val (dM a0)),(5,.ref 5 [] true (.ptr [dB s4.1])),(6,.ref 6 [] true (.ptr [dI s4.2.1])),(7,.clo 161 [.tok 5,.tok 6]),(19,.val (dI a1)),(20,.val (i64 (a1.length : Int))),(21,.val (i64 s4.2.2)),(25,.clo 161 [.tok 5,.tok 6]),(26,.val (i64 v9))] _ (fun _ => [(0,.val (dM a0)),(5,.ref 5 [] true (.ptr [dB v10.1])),(6,.ref 6 [] true (.ptr [dI v10.2])),(7,.clo 161 [.tok 5,.tok 6]),(19,.val (dI a1)),(20,.val (i64 (a1.length : Int))),(21,.val (i64 s4.2.2))]) (fun _ => True) _ rfl rfl rfl ?_ (step_clo [(5,5,0,.own [dB v10.1]),(6,6,1,.own [dI v10.2])] [7,25] rfl rfl (by simp) rfl rfl (i_subloop_c1_ok B4) (.cons (CapOk.tok' 5 rfl) (.cons (CapOk.tok' 6 rfl) (.nil))) (.cons CapAs.tok' (.cons CapAs.tok' (.nil))) (show List.Nodup ([5,6] : List Nat) by decide) (by intro q hq; simp only [List.mem_cons,List.not_mem_nil,or_false] at hq; rcases hq with rfl | rfl <;> first | exact ⟨rfl,rfl,rfl,.inl ⟨_,rfl⟩⟩ | exact ⟨rfl,rfl,rfl,.inr rfl⟩) (by intro s hs; simp only [List.mem_cons,List.not_mem_nil,or_false] at hs; rcases hs with rfl | rfl <;> rfl)) (fun _ _ => ?_) (fun _ _ => ?_)
 ·simp
 ·simp
 refine hK8 _ ?_
 refine zr [(0,.val (dM a0)),(5,.ref 5 [] true (.ptr [dB v10.1])),(6,.ref 6 [] true (.ptr [dI v10.2])),(7,.clo 161 [.tok 5,.tok 6]),(19,.val (dI a1)),(20,.val (i64 (a1.length : Int))),(21,.val (i64 (w64 (s4.2.2 + 1))))] ?_ ?_
 ·simp
 cases H
 exact ⟨_,rfl,Fits.of rfl⟩

theorem i_IsDiassociativeLoop_c1_ok {a0 : Int} {a1_0 : List (List Int)} {a2_0 : Int} {a3_0 : Int} {r : Bool} (h : i_IsDiassociativeLoop_c1 a0 a1_0 a2_0 a3_0 = some r) :
  VCall Try.prog 83 [i64 a0,.ptr [dM a1_0],.ptr [i64 a2_0],.ptr [i64 a3_0]] [.sc (.bool r)] := by
 unfold i_IsDiassociativeLoop_c1 at h
 refine VCall.enter Try.call83 Try.func83 rfl 12 Try.ntmps83 (by simp) [.tmp 5] rfl ?_
 show VW _ _ _ (mk [(0,.val (i64 a0)),(1,.val (.ptr [dM a1_0])),(2,.val (.ptr [i64 a2_0])),(3,.val (.ptr [i64 a3_0]))]) _
 refine zs [(0,.val (i64 a0)),(1,.val (.ptr [dM a1_0])),(2,.val (.ptr [i64 a2_0])),(3,.val (.ptr [i64 a3_0]))] ?_ ?_
 ·simp
 obtain ⟨v1,Cx,h⟩ := bind_some h
 refine VW.ws tau_ok (Sound.none.add 10 (i_associates_ok Cx) rfl) _ [(5,.val (.bool (!v1)))] rfl ?_ ?_
 ·simp
 cases h
 refine VW.ret ?_
 simp [Post,PostM,PostC,PostC2,Nx,Bk]

theorem g_slices_IndexFunc_LI_I_of_i_IsDiassociativeLoop_c1_ok {a0 : List Int} {a1_0_0 : List (List Int)} {a1_1_0 : Int} {a1_2_0 : Int} {r : Int} (h : g_slices_IndexFunc_LI_I_of_i_IsDiassociativeLoop_c1 a0 a1_0_0 a1_1_0 a1_2_0 = some r) :
  VCall Try.prog 163 [dI a0,.fn 83 [.ptr [dM a1_0_0],.ptr [i64 a1_1_0],.ptr [i64 a1_2_0]]] [.sc (i64 r)] := by
 unfold g_slices_IndexFunc_LI_I_of_i_IsDiassociativeLoop_c1 at h
 refine VCall.enter Try.call163 Try.func163 rfl 19 Try.ntmps163 (by simp) [.tmp 4] rfl ?_
 show VW _ _ _ (mk [(0,.val (dI a0)),(1,.val (.fn 83 [.ptr [dM a1_0_0],.ptr [i64 a1_1_0],.ptr [i64 a1_2_0]]))]) _
 refine zs [(0,.val (dI a0)),(1,.val (.fn 83 [.ptr [dM a1_0_0],.ptr [i64 a1_1_0],.ptr [i64 a1_2_0]]))] ?_ ?_
 ·simp
 refine VW.sqc fun K1 hK1 hCK1 => ?_
 refine zs [(0,.val (dI a0)),(1,.val (.fn 83 [.ptr [dM a1_0_0],.ptr [i64 a1_1_0],.ptr [i64 a1_2_0]])),(7,.val (i64 (a0.length : Int))),(8,.val (i64 0))] ?_ ?_
 ·simp
 obtain ⟨x2,Au,h⟩ := bind_some h
 refine VW.tlO (fun y4 => []) x2 (hCK1) ?_ ?_
 ·clear Au
  rintro y4 rfl
  dsimp only at h
  refine hK1 _ ?_
  refine zs [(4,.val (i64 (-1)))] ?_ ?_
  ·simp
  cases h
  refine VW.ret ?_
  simp [Post,PostM,PostC,PostC2,Nx,Bk]
 refine VW.block ?_
 refine VW.loopF (g_slices_IndexFunc_LI_I_of_i_IsDiassociativeLoop_c1_L0 a0 a1_0_0 a1_1_0 a1_2_0) (fun s2 => [(0,.val (dI a0)),(1,.val (.fn 83 [.ptr [dM a1_0_0],.ptr [i64 a1_1_0],.ptr [i64 a1_2_0]])),(7,.val (i64 (a0.length : Int))),(8,.val (i64 s2))]) Au (Fits.of rfl) ?_
 clear Au
 intro s2 ox2 E Ag
 unfold g_slices_IndexFunc_LI_I_of_i_IsDiassociativeLoop_c1_L0 at E
 refine zs [(0,.val (dI a0)),(1,.val (.fn 83 [.ptr [dM a1_0_0],.ptr [i64 a1_1_0],.ptr [i64 a1_2_0]])),(7,.val (i64 (a0.length : Int))),(8,.val (i64 s2)),(9,.val (.bool (ilt s2 (a0.length : Int))))] ?_ ?_
 ·simp
 refine VW.sqc fun K5 hK5 hCK5 => ?_
 refine VW.cond rfl (fun T => ?_) (fun T => ?_)
 rotate_left
 ·
  replace T : ¬ (s2 < (a0.length : Int)) := by simpa [ieq,ilt,ile] using T
  rw [if_neg T] at E
  refine VW.exit ?_
  cases E
  have hq := Ag _ rfl
  subst hq
  exact ⟨_,rfl,Fits.of rfl⟩
 replace T : s2 < (a0.length : Int) := by simpa [ieq,ilt,ile] using T
 rw [if_pos T] at E
 refine VW.skip ?_
 refine hK5 _ ?_
 refine VW.sqc fun K7 hK7 hCK7 => ?_
 refine VW.block ?_
 refine zs [(0,.val (dI a0)),(1,.val (.fn 83 [.ptr [dM a1_0_0],.ptr [i64 a1_1_0],.ptr [i64 a1_2_0]])),(5,.val (i64 s2)),(7,.val (i64 (a0.length : Int))),(8,.val (i64 s2))] ?_ ?_
 ·simp
 obtain ⟨v8,D7,E⟩ := bind_some E
 obtain ⟨B5,B6,B7,B8⟩ := idx_some D7
 obtain ⟨v9,Bz,E⟩ := bind_some E
 refine VW.ws tau_ok (Sound.none.add 16 (i_IsDiassociativeLoop_c1_ok Bz) rfl) _ [(0,.val (dI a0)),(1,.val (.fn 83 [.ptr [dM a1_0_0],.ptr [i64 a1_1_0],.ptr [i64 a1_2_0]])),(5,.val (i64 s2)),(7,.val (i64 (a0.length : Int))),(8,.val (i64 s2)),(16,.val (.bool v9))] rfl ?_ ?_
 ·simp [B5,B6,B7,B8]
 refine VW.cond rfl (fun P => ?_) (fun P => ?_)
 rotate_left
 ·
  replace P : ¬ (v9 = true) := by simpa [ieq,ilt,ile] using P
  rw [if_neg P] at E
  refine VW.skip ?_
  refine hK7 _ ?_
  refine zr [(0,.val (dI a0)),(1,.val (.fn 83 [.ptr [dM a1_0_0],.ptr [i64 a1_1_0],.ptr [i64 a1_2_0]])),(7,.val (i64 (a0.length : Int))),(8,.val (i64 (w64 (s2 + 1))))] ?_ ?_
  ·simp
  cases E
  exact ⟨_,rfl,Fits.of rfl⟩
 replace P : v9 = true := by simpa [ieq,ilt,ile] using P
 rw [if_pos P] at E
 refine zs [(4,.val (i64 s2))] ?_ ?_
 ·simp
 cases E
 have hq := Ag _ rfl
 subst hq
 dsimp only at h
 cases h
 refine VW.ret ?_
 simp [Post,PostM,PostC,PostC2,Nx,Bk]

theorem g_slices_ContainsFunc_LI_I_of_i_IsDiassociativeLoop_c1_ok {a0 : List Int} {a1_0_0 : List (List Int)} {a1_1_0 : Int} {a1_2_0 : Int} {r : Bool} (h : g_slices_ContainsFunc_LI_I_of_i_IsDiassociativeLoop_c1 a0 a1_0_0 a1_1_0 a1_2_0 = some r) :
  VCall Try.prog 82 [dI a0,.fn 83 [.ptr [dM a1_0_0],.ptr [i64 a1_1_0],.ptr [i64 a1_2_0]]] [.sc (.bool r)] := by
 unfold g_slices_ContainsFunc_LI_I_of_i_IsDiassociativeLoop_c1 at h
 refine VCall.enter Try.call82 Try.func82 rfl 9 Try.ntmps82 (by simp) [.tmp 4] rfl ?_
 show VW _ _ _ (mk [(0,.val (dI a0)),(1,.val (.fn 83 [.ptr [dM a1_0_0],.ptr [i64 a1_1_0],.ptr [i64 a1_2_0]]))]) _
 refine zs [(0,.val (dI a0)),(1,.val (.fn 83 [.ptr [dM a1_0_0],.ptr [i64 a1_1_0],.ptr [i64 a1_2_0]]))] ?_ ?_
 ·simp
 obtain ⟨v1,Cx,h⟩ := bind_some h
 refine VW.ws tau_ok (Sound.none.add 7 (g_slices_IndexFunc_LI_I_of_i_IsDiassociativeLoop_c1_ok Cx) rfl) _ [(4,.val (.bool (ile 0 v1)))] rfl ?_ ?_
 ·simp
 cases h
 refine VW.ret ?_
 simp [Post,PostM,PostC,PostC2,Nx,Bk]

theorem i_IsDiassociativeLoop_ok {a0 : List (List Int)} {r : Bool × Int} (h : i_IsDiassociativeLoop a0 = some r) :
  VCall Try.prog 22 [dM a0] [.sc (.bool r.1),.sc (i64 r.2)] := by
 unfold i_IsDiassociativeLoop at h
 refine VCall.enter Try.call22 Try.func22 rfl 54 Try.ntmps22 (by simp) [.tmp 2,.tmp 3] rfl ?_
 show VW _ _ _ (mk [(0,.val (dM a0))]) _
 refine zs [(1,.val (.ptr [dM a0]))] ?_ ?_
 ·simp
 refine VW.sqc fun K1 hK1 hCK1 => ?_
 obtain ⟨v2,U,h⟩ := bind_some h
 refine VW.ws tau_ok (Sound.none.add 13 (i_checkLoop_ok U) rfl) _ [(1,.val (.ptr [dM a0])),(4,.val (i64 v2))] rfl ?_ ?_
 ·simp
 refine zs [(1,.val (.ptr [dM a0])),(4,.val (i64 v2)),(15,.val (.bool (!(ieq v2 0))))] ?_ ?_
 ·simp
 refine VW.cond rfl (fun C => ?_) (fun C => ?_)
 ·
  replace C : ¬ v2 = 0 := by simpa [ieq,ilt,ile] using C
  rw [if_pos C] at h
  refine zs [(2,.val (.bool false)),(3,.val (i64 v2))] ?_ ?_
  ·simp
  cases h
  refine VW.ret ?_
  simp [Post,PostM,PostC,PostC2,Nx,Bk]
 replace C : ¬ (¬ v2 = 0) := by simpa [ieq,ilt,ile] using C
 rw [if_neg C] at h
 refine VW.skip ?_
 refine hK1 _ ?_
 refine VW.sqc fun K4 hK4 hCK4 => ?_
 refine zs [(1,.val (.ptr [dM a0])),(19,.val (.bool (ilt 32 (a0.length : Int))))] ?_ ?_
 ·simp
 refine VW.cond rfl (fun O => ?_) (fun O => ?_)
 ·
  replace O : 32 < (a0.length : Int) := by simpa [ieq,ilt,ile] using O
  rw [if_pos O] at h
  refine zs [(2,.val (.bool false)),(3,.val (i64 3))] ?_ ?_
  ·simp
  cases h
  refine VW.ret ?_
  simp [Post,PostM,PostC,PostC2,Nx,Bk]
 replace O : ¬ (32 < (a0.length : Int)) := by simpa [ieq,ilt,ile] using O
 rw [if_neg O] at h
 refine VW.skip ?_
 refine hK4 _ ?_
 refine VW.sqc fun K6 hK6 hCK6 => ?_
 obtain ⟨v7,C5,h⟩ := bind_some h
 refine VW.ws tau_ok (Sound.none.add 21 (i_length_LI_ok C5) rfl) _ [(1,.val (.ptr [dM a0])),(21,.val (i64 v7)),(22,.val (i64 0))] rfl ?_ ?_
 ·simp
 obtain ⟨x8,D8,h⟩ := bind_some h
 refine VW.tlO (fun y10 => []) x8 (hCK6) ?_ ?_
 ·clear D8
  rintro y10 rfl
  dsimp only at h
  refine hK6 _ ?_
  refine zs [(2,.val (.bool true)),(3,.val (i64 0))] ?_ ?_
  ·simp
  cases h
  refine VW.ret ?_
  simp [Post,PostM,PostC,PostC2,Nx,Bk]
 refine VW.block ?_
 refine VW.loopF (i_IsDiassociativeLoop_L0 a0 v7) (fun s8 => [(1,.val (.ptr [dM a0])),(21,.val (i64 v7)),(22,.val (i64 s8))]) D8 (Fits.of rfl) ?_
 clear D8
 intro s8 ox8 V C6
 unfold i_IsDiassociativeLoop_L0 at V
 refine zs [(1,.val (.ptr [dM a0])),(21,.val (i64 v7)),(22,.val (i64 s8)),(23,.val (.bool (ilt s8 v7)))] ?_ ?_
 ·simp
 refine VW.sqc fun K11 hK11 hCK11 => ?_
 refine VW.cond rfl (fun G => ?_) (fun G => ?_)
 rotate_left
 ·
  replace G : ¬ (s8 < v7) := by simpa [ieq,ilt,ile] using G
  rw [if_neg G] at V
  refine VW.exit ?_
  cases V
  have hq := C6 _ rfl
  subst hq
  exact ⟨_,rfl,Fits.of rfl⟩
 replace G : s8 < v7 := by simpa [ieq,ilt,ile] using G
 rw [if_pos G] at V
 refine VW.skip ?_
 refine hK11 _ ?_
 refine VW.sqc fun K13 hK13 hCK13 => ?_
 refine VW.block ?_
 refine zs [(1,.val (.ptr [dM a0])),(5,.val (i64 s8)),(21,.val (i64 v7)),(22,.val (i64 s8))] ?_ ?_
 ·simp
 refine zs [(1,.val (.ptr [dM a0])),(5,.val (i64 s8)),(21,.val (i64 v7)),(22,.val (i64 s8)),(26,.val (i64 (w64 (s8 + 1)))),(27,.val (i64 0))] ?_ ?_
 ·simp
 obtain ⟨x14,L,V⟩ := bind_some V
 refine VW.tlO (fun y16 => [(1,.val (.ptr [dM a0])),(21,.val (i64 v7)),(22,.val (i64 s8))]) x14 (hCK13) ?_ ?_
 ·clear L
  rintro y16 rfl
  dsimp only at V
  refine hK13 _ ?_
  refine zr [(1,.val (.ptr [dM a0])),(21,.val (i64 v7)),(22,.val (i64 (w64 (s8 + 1))))] ?_ ?_
  ·simp
  cases V
  exact ⟨_,rfl,Fits.of rfl⟩
 refine VW.block ?_
 refine VW.loopF (i_IsDiassociativeLoop_L1 a0 s8) (fun s14 => [(1,.val (.ptr [dM a0])),(5,.val (i64 s8)),(21,.val (i64 v7)),(22,.val (i64 s8)),(26,.val (i64 (w64 (s8 + 1)))),(27,.val (i64 s14))]) L (Fits.of rfl) ?_
 clear L
 intro s14 ox14 I Bv
 unfold i_IsDiassociativeLoop_L1 at I
 refine zs [(1,.val (.ptr [dM a0])),(5,.val (i64 s8)),(21,.val (i64 v7)),(22,.val (i64 s8)),(26,.val (i64 (w64 (s8 + 1)))),(27,.val (i64 s14)),(28,.val (.bool (ilt s14 (w64 (s8 + 1)))))] ?_ ?_
 ·simp
 refine VW.sqc fun K17 hK17 hCK17 => ?_
 refine VW.cond rfl (fun Ah => ?_) (fun Ah => ?_)
 rotate_left
 ·
  replace Ah : ¬ (s14 < (w64 (s8 + 1))) := by simpa [ieq,ilt,ile] using Ah
  rw [if_neg Ah] at I
  refine VW.exit ?_
  cases I
  have hq := Bv _ rfl
  subst hq
  exact ⟨_,rfl,Fits.of rfl⟩
 replace Ah : s14 < (w64 (s8 + 1)) := by simpa [ieq,ilt,ile] using Ah
 rw [if_pos Ah] at I
 refine VW.skip ?_
 refine hK17 _ ?_
 refine VW.sqc fun K19 hK19 hCK19 => ?_
 refine VW.block ?_
 refine zs [(1,.val (.ptr [dM a0])),(5,.val (i64 s8)),(6,.val (i64 s14)),(21,.val (i64 v7)),(22,.val (i64 s8)),(26,.val (i64 (w64 (s8 + 1)))),(27,.val (i64 s14))] ?_ ?_
 ·simp
 obtain ⟨v20,D9,I⟩ := bind_some I
 refine VW.ws tau_ok (Sound.none.add 34 (i_subloop_ok D9) rfl) _ [(1,.val (.ptr [dM a0])),(5,.val (i64 s8)),(7,.ref 7 [] true (dI v20)),(21,.val (i64 v7)),(22,.val (i64 s8)),(26,.val (i64 (w64 (s8 + 1)))),(27,.val (i64 s14))] rfl ?_ ?_
 ·simp
 refine zs [(1,.val (.ptr [dM a0])),(5,.val (i64 s8)),(7,.ref 7 [] true (dI v20)),(21,.val (i64 v7)),(22,.val (i64 s8)),(26,.val (i64 (w64 (s8 + 1)))),(27,.val (i64 s14)),(35,.ref 7 [] true (dI v20)),(36,.val (i64 (v20.length : Int))),(37,.val (i64 0))] ?_ ?_
 ·simp
 obtain ⟨x21,B9,I⟩ := bind_some I
 refine VW.tlO (fun y23 => [(1,.val (.ptr [dM a0])),(5,.val (i64 s8)),(21,.val (i64 v7)),(22,.val (i64 s8)),(26,.val (i64 (w64 (s8 + 1)))),(27,.val (i64 s14))]) x21 (hCK19) ?_ ?_
 ·clear B9
  rintro y23 rfl
  dsimp only at I
  refine hK19 _ ?_
  refine zr [(1,.val (.ptr [dM a0])),(5,.val (i64 s8)),(21,.val (i64 v7)),(22,.val (i64 s8)),(26,.val (i64 (w64 (s8 + 1)))),(27,.val (i64 (w64 (s14 + 1))))] ?_ ?_
  ·simp
  cases I
  exact ⟨_,rfl,Fits.of rfl⟩
 refine VW.block ?_
 refine VW.loopF (i_IsDiassociativeLoop_L2 a0 v20) (fun s21 => [(1,.val (.ptr [dM a0])),(5,.val (i64 s8)),(7,.ref 7 [] true (dI v20)),(21,.val (i64 v7)),(22,.val (i64 s8)),(26,.val (i64 (w64 (s8 + 1)))),(27,.val (i64 s14)),(35,.ref 7 [] true (dI v20)),(36,.val (i64 (v20.length : Int))),(37,.val (i64 s21))]) B9 (Fits.of rfl) ?_
 clear B9
 intro s21 ox21 J Bw
 unfold i_IsDiassociativeLoop_L2 at J
 refine zs [(1,.val (.ptr [dM a0])),(5,.val (i64 s8)),(7,.ref 7 [] true (dI v20)),(21,.val (i64 v7)),(22,.val (i64 s8)),(26,.val (i64 (w64 (s8 + 1)))),(27,.val (i64 s14)),(35,.ref 7 [] true (dI v20)),(36,.val (i64 (v20.length : Int))),(37,.val (i64 s21)),(38,.val (.bool (ilt s21 (v20.length : Int))))] ?_ ?_
 ·simp
 refine VW.sqc fun K24 hK24 hCK24 => ?_
 refine VW.cond rfl (fun Ai => ?_) (fun Ai => ?_)
 rotate_left
 ·
  replace Ai : ¬ (s21 < (v20.length : Int)) := by simpa [ieq,ilt,ile] using Ai
  rw [if_neg Ai] at J
  refine VW.exit ?_
  cases J
  have hq := Bw _ rfl
  subst hq
  exact ⟨_,rfl,Fits.of rfl⟩
 replace Ai : s21 < (v20.length : Int) := by simpa [ieq,ilt,ile] using Ai
 rw [if_pos Ai] at J
 refine VW.skip ?_
 refine hK24 _ ?_
 refine VW.sqc fun K26 hK26 hCK26 => ?_
 refine VW.block ?_
 obtain ⟨v27,B3,J⟩ := bind_some J
 obtain ⟨Ao,Ap,Aq,Ar⟩ := idx_some B3
 refine zs [(1,.val (.ptr [dM a0])),(5,.val (i64 s8)),(7,.ref 7 [] true (dI v20)),(9,.ref 9 [] true (.ptr [i64 v27])),(21,.val (i64 v7)),(22,.val (i64 s8)),(26,.val (i64 (w64 (s8 + 1)))),(27,.val (i64 s14)),(35,.ref 7 [] true (dI v20)),(36,.val (i64 (v20.length : Int))),(37,.val (i64 s21))] ?_ ?_
 ·simp [Ao,Ap,Aq,Ar]
 refine zs [(1,.val (.ptr [dM a0])),(5,.val (i64 s8)),(7,.ref 7 [] true (dI v20)),(9,.ref 9 [] true (.ptr [i64 v27])),(21,.val (i64 v7)),(22,.val (i64 s8)),(26,.val (i64 (w64 (s8 + 1)))),(27,.val (i64 s14)),(35,.ref 7 [] true (dI v20)),(36,.val (i64 (v20.length : Int))),(37,.val (i64 s21)),(41,.ref 7 [] true (dI v20)),(42,.val (i64 (v20.length : Int))),(43,.val (i64 0))] ?_ ?_
 ·simp
 obtain ⟨x28,Ca,J⟩ := bind_some J
 refine VW.tlO (fun y30 => [(1,.val (.ptr [dM a0])),(5,.val (i64 s8)),(7,.ref 7 [] true (dI v20)),(21,.val (i64 v7)),(22,.val (i64 s8)),(26,.val (i64 (w64 (s8 + 1)))),(27,.val (i64 s14)),(35,.ref 7 [] true (dI v20)),(36,.val (i64 (v20.length : Int))),(37,.val (i64 s21))]) x28 (hCK26) ?_ ?_
 ·clear Ca
  rintro y30 rfl
  dsimp only at J
  refine hK26 _ ?_
  refine zr [(1,.val (.ptr [dM a0])),(5,.val (i64 s8)),(7,.ref 7 [] true (dI v20)),(21,.val (i64 v7)),(22,.val (i64 s8)),(26,.val (i64 (w64 (s8 + 1)))),(27,.val (i64 s14)),(35,.ref 7 [] true (dI v20)),(36,.val (i64 (v20.length : Int))),(37,.val (i64 (w64 (s21 + 1))))] ?_ ?_
  ·simp
  cases J
  exact ⟨_,rfl,Fits.of rfl⟩
 refine VW.block ?_
 refine VW.loopF (i_IsDiassociativeLoop_L3 a0 v20 v27) (fun s28 => [(1,.val (.ptr [dM a0])),(5,.val (i64 s8)),(7,.ref 7 [] true (dI v20)),(9,.val (.ptr [i64 v27])),(21,.val (i64 v7)),(22,.val (i64 s8)),(26,.val (i64 (w64 (s8 + 1)))),(27,.val (i64 s14)),(35,.ref 7 [] true (dI v20)),(36,.val (i64 (v20.length : Int))),(37,.val (i64 s21)),(41,.ref 7 [] true (dI v20)),(42,.val (i64 (v20.length : Int))),(43,.val (i64 s28))]) Ca (Fits.freeze (s := 9) rfl (by simp) (Fits.of rfl)) ?_
 clear Ca
 intro s28 ox28 K Bx
 unfold i_IsDiassociativeLoop_L3 at K
 refine zs [(1,.val (.ptr [dM a0])),(5,.val (i64 s8)),(7,.ref 7 [] true (dI v20)),(9,.val (.ptr [i64 v27])),(21,.val (i64 v7)),(22,.val (i64 s8)),(26,.val (i64 (w64 (s8 + 1)))),(27,.val (i64 s14)),(35,.ref 7 [] true (dI v20)),(36,.val (i64 (v20.length : Int))),(37,.val (i64 s21)),(41,.ref 7 [] true (dI v20)),(42,.val (i64 (v20.length : Int))),(43,.val (i64 s28)),(44,.val (.bool (ilt s28 (v20.length : Int))))] ?_ ?_
 ·simp
 refine VW.sqc fun K31 hK31 hCK31 => ?_
 refine VW.cond rfl (fun Aj => ?_) (fun Aj => ?_)
 rotate_left
 ·
  replace Aj : ¬ (s28 < (v20.length : Int)) := by simpa [ieq,ilt,ile] using Aj
  rw [if_neg Aj] at K
  refine VW.exit ?_
  cases K
  have hq := Bx _ rfl
  subst hq
  exact ⟨_,rfl,Fits.of rfl⟩
 replace Aj : s28 < (v20.length : Int) := by simpa [ieq,ilt,ile] using Aj
 rw [if_pos Aj] at K
 refine VW.skip ?_
 refine hK31 _ ?_
 refine VW.sqc fun K33 hK33 hCK33 => ?_
 refine VW.block ?_
 obtain ⟨v34,Ea,K⟩ := bind_some K
 obtain ⟨C7,C8,C9,Da⟩ := idx_some Ea
 refine zs [(1,.val (.ptr [dM a0])),(5,.val (i64 s8)),(7,.ref 7 [] true (dI v20)),(9,.val (.ptr [i64 v27])),(11,.ref 11 [] true (.ptr [i64 v34])),(21,.val (i64 v7)),(22,.val (i64 s8)),(26,.val (i64 (w64 (s8 + 1)))),(27,.val (i64 s14)),(35,.ref 7 [] true (dI v20)),(36,.val (i64 (v20.length : Int))),(37,.val (i64 s21)),(41,.ref 7 [] true (dI v20)),(42,.val (i64 (v20.length : Int))),(43,.val (i64 s28))] ?_ ?_
 ·simp [C7,C8,C9,Da]
 refine VW.fits (fl' := [(1,.val (.ptr [dM a0])),(5,.val (i64 s8)),(7,.ref 7 [] true (dI v20)),(9,.val (.ptr [i64 v27])),(11,.val (.ptr [i64 v34])),(21,.val (i64 v7)),(22,.val (i64 s8)),(26,.val (i64 (w64 (s8 + 1)))),(27,.val (i64 s14)),(35,.ref 7 [] true (dI v20)),(36,.val (i64 (v20.length : Int))),(37,.val (i64 s21)),(41,.ref 7 [] true (dI v20)),(42,.val (i64 (v20.length : Int))),(43,.val (i64 s28))]) (Fits.freeze (s := 11) rfl (by simp) (Fits.of rfl)) ?_
 obtain ⟨v35,Eb,K⟩ := bind_some K
 refine VW.ws tau_ok (Sound.none.add 49 (g_slices_ContainsFunc_LI_I_of_i_IsDiassociativeLoop_c1_ok Eb) rfl) _ [(1,.val (.ptr [dM a0])),(5,.val (i64 s8)),(7,.ref 7 [] true (dI v20)),(9,.val (.ptr [i64 v27])),(21,.val (i64 v7)),(22,.val (i64 s8)),(26,.val (i64 (w64 (s8 + 1)))),(27,.val (i64 s14)),(35,.ref 7 [] true (dI v20)),(36,.val (i64 (v20.length : Int))),(37,.val (i64 s21)),(41,.ref 7 [] true (dI v20)),(42,.val (i64 (v20.length : Int))),(43,.val (i64 s28)),(49,.val (.bool v35))] rfl ?_ ?_
 ·simp
 refine VW.cond rfl (fun Ak => ?_) (fun Ak => ?_)
 rotate_left
 ·
  replace Ak : ¬ (v35 = true) := by simpa [ieq,ilt,ile] using Ak
  rw [if_neg Ak] at K
  refine VW.skip ?_
  refine hK33 _ ?_
  refine zr [(1,.val (.ptr [dM a0])),(5,.val (i64 s8)),(7,.ref 7 [] true (dI v20)),(9,.val (.ptr [i64 v27])),(21,.val (i64 v7)),(22,.val (i64 s8)),(26,.val (i64 (w64 (s8 + 1)))),(27,.val (i64 s14)),(35,.ref 7 [] true (dI v20)),(36,.val (i64 (v20.length : Int))),(37,.val (i64 s21)),(41,.ref 7 [] true (dI v20)),(42,.val (i64 (v20.length : Int))),(43,.val (i64 (w64 (s28 + 1))))] ?_ ?_
  ·simp
  cases K
  exact ⟨_,rfl,Fits.of rfl⟩
 replace Ak : v35 = true := by simpa [ieq,ilt,ile] using Ak
 rw [if_pos Ak] at K
 refine zs [(2,.val (.bool false)),(3,.val (i64 0))] ?_ ?_
 ·simp
 cases K
 have hq := Bx _ rfl
 subst hq
 dsimp only at J
 cases J
 have hq := Bw _ rfl
 subst hq
 dsimp only at I
 cases I
 have hq := Bv _ rfl
 subst hq
 dsimp only at V
 cases V
 have hq := C6 _ rfl
 subst hq
 dsimp only at h
 cases h
 refine VW.ret ?_
 simp [Post,PostM,PostC,PostC2,Nx,Bk]

theorem i_SubloopFrom_ok {a0 : List (List Int)} {a1 : List Int} {r : (List Int) × Int} (h : i_SubloopFrom a0 a1 = some r) :
  VCall Try.prog 15 [dM a0,dI a1] [.own true (dI r.1),.sc (i64 r.2)] := by
 unfold i_SubloopFrom at h
 refine VCall.enter Try.call15 Try.func15 rfl 16 Try.ntmps15 (by simp) [.tmp 4,.tmp 5] rfl ?_
 show VW _ _ _ (mk [(0,.val (dM a0)),(1,.val (dI a1))]) _
 refine zs [(0,.val (dM a0)),(1,.val (dI a1))] ?_ ?_
 ·simp
 refine VW.sqc fun K1 hK1 hCK1 => ?_
 obtain ⟨v2,U,h⟩ := bind_some h
 refine VW.ws tau_ok (Sound.none.add 9 (i_checkLoop_ok U) rfl) _ [(0,.val (dM a0)),(1,.val (dI a1)),(6,.val (i64 v2))] rfl ?_ ?_
 ·simp
 refine zs [(0,.val (dM a0)),(1,.val (dI a1)),(6,.val (i64 v2)),(11,.val (.bool (!(ieq v2 0))))] ?_ ?_
 ·simp
 refine VW.cond rfl (fun C => ?_) (fun C => ?_)
 ·
  replace C : ¬ v2 = 0 := by simpa [ieq,ilt,ile] using C
  rw [if_pos C] at h
  refine zs [(4,.ref 4 [] true (.list [])),(5,.val (i64 v2))] ?_ ?_
  ·simp
  cases h
  refine VW.ret ?_
  simp [Post,PostM,PostC,PostC2,Nx,Bk]
 replace C : ¬ (¬ v2 = 0) := by simpa [ieq,ilt,ile] using C
 rw [if_neg C] at h
 refine VW.skip ?_
 refine hK1 _ ?_
 obtain ⟨v4,B1,h⟩ := bind_some h
 refine VW.ws tau_ok (Sound.none.add 15 (i_subloop_ok B1) rfl) _ [(4,.ref 4 [] true (dI v4)),(5,.val (i64 0))] rfl ?_ ?_
 ·simp
 cases h
 refine VW.ret ?_
 simp [Post,PostM,PostC,PostC2,Nx,Bk]

theorem l_likeInts_ok {a0 : List Int} {a1 : List Int} {r : Bool} (h : l_likeInts a0 a1 = some r) :
  VCall Try.prog 39 [dI a0,dI a1] [.sc (.bool r)] := by
 unfold l_likeInts at h
 refine VCall.enter Try.call39 Try.func39 rfl 26 Try.ntmps39 (by simp) [.tmp 4] rfl ?_
 show VW _ _ _ (mk [(0,.val (dI a0)),(1,.val (dI a1))]) _
 refine zs [(0,.val (dI a0)),(1,.val (dI a1))] ?_ ?_
 ·simp
 refine VW.sqc fun K1 hK1 hCK1 => ?_
 refine zs [(0,.val (dI a0)),(1,.val (dI a1)),(10,.val (.bool (!(ieq (a0.length : Int) (a1.length : Int)))))] ?_ ?_
 ·simp
 refine VW.cond rfl (fun R => ?_) (fun R => ?_)
 ·
  replace R : ¬ (a0.length : Int) = (a1.length : Int) := by simpa [ieq,ilt,ile] using R
  rw [if_pos R] at h
  refine zs [(4,.val (.bool false))] ?_ ?_
  ·simp
  cases h
  refine VW.ret ?_
  simp [Post,PostM,PostC,PostC2,Nx,Bk]
 replace R : ¬ (¬ (a0.length : Int) = (a1.length : Int)) := by simpa [ieq,ilt,ile] using R
 rw [if_neg R] at h
 refine VW.skip ?_
 refine hK1 _ ?_
 refine VW.sqc fun K3 hK3 hCK3 => ?_
 refine zs [(0,.val (dI a0)),(1,.val (dI a1)),(5,.val (i64 0))] ?_ ?_
 ·simp
 obtain ⟨x4,Ae,h⟩ := bind_some h
 refine VW.tlO (fun y6 => []) x4 (hCK3) ?_ ?_
 ·clear Ae
  rintro y6 rfl
  dsimp only at h
  refine hK3 _ ?_
  refine zs [(4,.val (.bool true))] ?_ ?_
  ·simp
  cases h
  refine VW.ret ?_
  simp [Post,PostM,PostC,PostC2,Nx,Bk]
 refine VW.block ?_
 refine VW.loopF (l_likeInts_L0 a0 a1) (fun s4 => [(0,.val (dI a0)),(1,.val (dI a1)),(5,.val (i64 s4))]) Ae (Fits.of rfl) ?_
 clear Ae
 intro s4 ox4 H A1
 unfold l_likeInts_L0 at H
 refine VW.sqc fun K7 hK7 hCK7 => ?_
 refine zs [(0,.val (dI a0)),(1,.val (dI a1)),(5,.val (i64 s4)),(14,.val (.bool (ilt s4 (a0.length : Int))))] ?_ ?_
 ·simp
 refine VW.cond rfl (fun X => ?_) (fun X => ?_)
 rotate_left
 ·
  replace X : ¬ (s4 < (a0.length : Int)) := by simpa [ieq,ilt,ile] using X
  rw [if_neg X] at H
  refine VW.exit ?_
  cases H
  have hq := A1 _ rfl
  subst hq
  exact ⟨_,rfl,Fits.of rfl⟩
 replace X : s4 < (a0.length : Int) := by simpa [ieq,ilt,ile] using X
 rw [if_pos X] at H
 refine VW.skip ?_
 refine hK7 _ ?_
 refine VW.sqc fun K9 hK9 hCK9 => ?_
 refine VW.block ?_
 obtain ⟨v10,B4,H⟩ := bind_some H
 obtain ⟨Db,Dc,Dd,De⟩ := idx_some B4
 obtain ⟨v11,Ec,H⟩ := bind_some H
 obtain ⟨Df,Dg,Dh,Di⟩ := idx_some Ec
 refine VW.wds tau_ok Sound.none try_mixed _ [(0,.val (dI a0)),(1,.val (dI a1)),(5,.val (i64 s4)),(25,.val (.bool (!(ieq v10 v11))))] 9 rfl (by kernel_rfl) (by rfl) ?_ ?_
 ·simp [Db,Dc,Dd,De,Df,Dg,Dh,Di]
 refine VW.cond rfl (fun G => ?_) (fun G => ?_)
 rotate_left
 ·
  replace G : ¬ (¬ v10 = v11) := by simpa [ieq,ilt,ile] using G
  rw [if_neg G] at H
  refine VW.skip ?_
  refine hK9 _ ?_
  refine zr [(0,.val (dI a0)),(1,.val (dI a1)),(5,.val (i64 (w64 (s4 + 1))))] ?_ ?_
  ·simp
  cases H
  exact ⟨_,rfl,Fits.of rfl⟩
 replace G : ¬ v10 = v11 := by simpa [ieq,ilt,ile] using G
 rw [if_pos G] at H
 refine zs [(4,.val (.bool false))] ?_ ?_
 ·simp
 cases H
 have hq := A1 _ rfl
 subst hq
 dsimp only at h
 cases h
 refine VW.ret ?_
 simp [Post,PostM,PostC,PostC2,Nx,Bk]

theorem l_roll_ok {a0 : List Int} {a1 : Int} {r : (List Int) × Int × Int} (h : l_roll a0 a1 = some r) :
  VCall Try.prog 40 [.list (a0.map (D.int .u8)),.int .u64 a1] [.own false (.ptr [.list (r.1.map (D.int .u8)),i64 r.2.1,.int .u64 r.2.2])] := by
 unfold l_roll at h
 refine VCall.enter Try.call40 Try.func40 rfl 38 Try.ntmps40 (by simp) [.tmp 4] rfl ?_
 show VW _ _ _ (mk [(0,.val (.list (a0.map (D.int .u8)))),(1,.val (.int .u64 a1))]) _
 refine zs [(0,.val (.list (a0.map (D.int .u8)))),(1,.val (.int .u64 a1))] ?_ ?_
 ·simp
 refine zs [(0,.val (.list (a0.map (D.int .u8)))),(5,.ref 5 [] false (.ptr [.list (a0.map (D.int .u8)),i64 0,.int .u64 (IntKind.u64.wrap ((IntKind.u64.wrap (a1 * 7681)) + (IntKind.u64.wrap ((a0.length : Int)))))]))] ?_ ?_
 ·simp
 refine VW.sqc fun K1 hK1 hCK1 => ?_
 refine zs [(0,.val (.list (a0.map (D.int .u8)))),(5,.ref 5 [] false (.ptr [.list (a0.map (D.int .u8)),i64 0,.int .u64 (IntKind.u64.wrap ((IntKind.u64.wrap (a1 * 7681)) + (IntKind.u64.wrap ((a0.length : Int)))))])),(6,.val (i64 0))] ?_ ?_
 ·simp
 obtain ⟨x2,Au,h⟩ := bind_some h
 refine VW.tlE [(5,.ref 5 [] false (.ptr [.list (x2.1.map (D.int .u8)),i64 x2.2.1,.int .u64 x2.2.2]))] (hCK1) ?_ ?_
 ·clear Au
  refine hK1 _ ?_
  refine zs [(4,.ref 4 [] false (.ptr [.list (x2.1.map (D.int .u8)),i64 x2.2.1,.int .u64 x2.2.2]))] ?_ ?_
  ·simp
  cases h
  refine VW.ret ?_
  simp [Post,PostM,PostC,PostC2,Nx,Bk]
 refine VW.block ?_
 refine VW.loopF (l_roll_L0 a0) (fun s2 => [(0,.val (.list (a0.map (D.int .u8)))),(5,.ref 5 [] false (.ptr [.list (s2.1.map (D.int .u8)),i64 s2.2.1,.int .u64 s2.2.2.1])),(6,.val (i64 s2.2.2.2))]) Au (Fits.of rfl) ?_
 clear Au
 intro s2 ox2 E Ag
 unfold l_roll_L0 at E
 refine VW.sqc fun K4 hK4 hCK4 => ?_
 refine zs [(0,.val (.list (a0.map (D.int .u8)))),(5,.ref 5 [] false (.ptr [.list (s2.1.map (D.int .u8)),i64 s2.2.1,.int .u64 s2.2.2.1])),(6,.val (i64 s2.2.2.2)),(19,.val (.bool (ilt s2.2.2.2 (a0.length : Int))))] ?_ ?_
 ·simp
 refine VW.cond rfl (fun O => ?_) (fun O => ?_)
 rotate_left
 ·
  replace O : ¬ (s2.2.2.2 < (a0.length : Int)) := by simpa [ieq,ilt,ile] using O
  rw [if_neg O] at E
  refine VW.exit ?_
  cases E
  have hq := Ag _ rfl
  subst hq
  exact Fits.of rfl
 replace O : s2.2.2.2 < (a0.length : Int) := by simpa [ieq,ilt,ile] using O
 rw [if_pos O] at E
 refine VW.skip ?_
 refine hK4 _ ?_
 refine VW.sqc fun K6 hK6 hCK6 => ?_
 refine VW.block ?_
 obtain ⟨v7,C5,E⟩ := bind_some E
 obtain ⟨Cb,Cc,Cd,Ce⟩ := idx_some C5
 refine VW.wdr tau_ok Sound.none try_mixed _ [(0,.val (.list (a0.map (D.int .u8)))),(5,.ref 5 [] false (.ptr [.list (s2.1.map (D.int .u8)),i64 s2.2.1,.int .u64 (IntKind.u64.wrap ((IntKind.u64.wrap ((IntKind.u64.wrap (s2.2.2.1 * 1099511628211)) + (IntKind.u64.wrap (v7)))) + 5))])),(6,.val (i64 s2.2.2.2))] 15 rfl (by kernel_rfl) (by rfl) ?_ ?_
 ·simp [Cb,Cc,Cd,Ce]
 refine hK6 _ ?_
 refine zr [(0,.val (.list (a0.map (D.int .u8)))),(5,.ref 5 [] false (.ptr [.list (s2.1.map (D.int .u8)),i64 s2.2.1,.int .u64 (IntKind.u64.wrap ((IntKind.u64.wrap ((IntKind.u64.wrap (s2.2.2.1 * 1099511628211)) + (IntKind.u64.wrap (v7)))) + 5))])),(6,.val (i64 (w64 (s2.2.2.2 + 1))))] ?_ ?_
 ·simp
 cases E
 exact ⟨_,rfl,Fits.of rfl⟩

theorem g_p_laws_dice_below_ok {a0_0 : List Int} {a0_1 : Int} {a0_2 : Int} {a1 : Int} {r : Int × ((List Int) × Int × Int)} (h : g_p_laws_dice_below a0_0 a0_1 a0_2 a1 = some r) :
  VPtr Try.prog 41 [.list (a0_0.map (D.int .u8)),i64 a0_1,.int .u64 a0_2] [i64 a1] [.sc (i64 r.1)] [.list (r.2.1.map (D.int .u8)),i64 r.2.2.1,.int .u64 r.2.2.2] := by
 unfold g_p_laws_dice_below at h
 refine VPtr.enter Try.call41 Try.func41 rfl 58 Try.ntmps41 (by simp) [.tmp 4] rfl ?_
 show VW _ _ _ (mk [(0,.ref 0 [] false (.ptr [.list (a0_0.map (D.int .u8)),i64 a0_1,.int .u64 a0_2])),(1,.val (i64 a1))]) _
 refine zs [(0,.ref 0 [] false (.ptr [.list (a0_0.map (D.int .u8)),i64 a0_1,.int .u64 a0_2])),(1,.val (i64 a1))] ?_ ?_
 ·simp
 refine VW.sqc fun K1 hK1 hCK1 => ?_
 refine zs [(0,.ref 0 [] false (.ptr [.list (a0_0.map (D.int .u8)),i64 a0_1,.int .u64 a0_2])),(1,.val (i64 a1)),(7,.val (.bool (ilt a1 1)))] ?_ ?_
 ·simp
 refine VW.cond rfl (fun R => ?_) (fun R => ?_)
 ·
  replace R : a1 < 1 := by simpa [ieq,ilt,ile] using R
  rw [if_pos R] at h
  refine zs [(0,.ref 0 [] false (.ptr [.list (a0_0.map (D.int .u8)),i64 a0_1,.int .u64 a0_2])),(4,.val (i64 0))] ?_ ?_
  ·simp
  cases h
  refine VW.ret ?_
  simp [PostW,resW,PostWC,resWC,Nx,Bk]
 replace R : ¬ (a1 < 1) := by simpa [ieq,ilt,ile] using R
 rw [if_neg R] at h
 refine VW.skip ?_
 refine hK1 _ ?_
 refine zs [(0,.ref 0 [] false (.ptr [.list (a0_0.map (D.int .u8)),i64 a0_1,.int .u64 (IntKind.u64.wrap ((IntKind.u64.wrap (a0_2 * 6364136223846793005)) + 1442695040888963407))])),(1,.val (i64 a1))] ?_ ?_
 ·simp
 refine zs [(0,.ref 0 [] false (.ptr [.list (a0_0.map (D.int .u8)),i64 a0_1,.int .u64 (IntKind.u64.wrap ((IntKind.u64.wrap (a0_2 * 6364136223846793005)) + 1442695040888963407))])),(1,.val (i64 a1)),(5,.val (i64 (w64 (band .u64 (shr .u64 (IntKind.u64.wrap ((IntKind.u64.wrap (a0_2 * 6364136223846793005)) + 1442695040888963407)) 33) 16777215))))] ?_ ?_
 ·simp
 refine VW.sqc fun K3 hK3 hCK3 => ?_
 refine VW.wds tau_ok Sound.none try_mixed _ [(0,.ref 0 [] false (.ptr [.list (a0_0.map (D.int .u8)),i64 a0_1,.int .u64 (IntKind.u64.wrap ((IntKind.u64.wrap (a0_2 * 6364136223846793005)) + 1442695040888963407))])),(1,.val (i64 a1)),(5,.val (i64 (w64 (band .u64 (shr .u64 (IntKind.u64.wrap ((IntKind.u64.wrap (a0_2 * 6364136223846793005)) + 1442695040888963407)) 33) 16777215)))),(33,.val (.bool (ilt a0_1 (a0_0.length : Int))))] 10 rfl (by kernel_rfl) (by rfl) ?_ ?_
 ·simp
 obtain ⟨x4,Ae,h⟩ := bind_some h
 refine VW.tlE [(0,.ref 0 [] false (.ptr [.list (x4.1.map (D.int .u8)),i64 x4.2.1,.int .u64 x4.2.2.1])),(1,.val (i64 a1)),(5,.val (i64 x4.2.2.2))] (hCK3) ?_ ?_
 ·clear Ae
  refine hK3 _ ?_
  obtain ⟨El,h⟩ := chk_some h
  have Dj := El
  try simp at Dj
  refine zs [(0,.ref 0 [] false (.ptr [.list (x4.1.map (D.int .u8)),i64 x4.2.1,.int .u64 x4.2.2.1])),(4,.val (i64 (x4.2.2.2.tmod a1)))] ?_ ?_
  ·simp [El,Dj]
  cases h
  refine VW.ret ?_
  simp [PostW,resW,PostWC,resWC,Nx,Bk]
 refine VW.cond rfl (fun T => ?_) (fun T => ?_)
 rotate_left
 ·
  replace T : ¬ (a0_1 < (a0_0.length : Int)) := by simpa [ieq,ilt,ile] using T
  rw [if_neg T] at Ae
  refine VW.skip ?_
  cases Ae
  exact Fits.of rfl
 replace T : a0_1 < (a0_0.length : Int) := by simpa [ieq,ilt,ile] using T
 rw [if_pos T] at Ae
 obtain ⟨v7,C5,Ae⟩ := bind_some Ae
 obtain ⟨Cb,Cc,Cd,Ce⟩ := idx_some C5
 refine VW.wds tau_ok Sound.none try_mixed _ [(0,.ref 0 [] false (.ptr [.list (a0_0.map (D.int .u8)),i64 a0_1,.int .u64 (IntKind.u64.wrap ((IntKind.u64.wrap (a0_2 * 6364136223846793005)) + 1442695040888963407))])),(1,.val (i64 a1)),(5,.val (i64 (w64 ((w64 (band .u64 (shr .u64 (IntKind.u64.wrap ((IntKind.u64.wrap (a0_2 * 6364136223846793005)) + 1442695040888963407)) 33) 16777215)) + (w64 (v7))))))] 14 rfl (by kernel_rfl) (by rfl) ?_ ?_
 ·simp [Cb,Cc,Cd,Ce]
 refine zr [(0,.ref 0 [] false (.ptr [.list (a0_0.map (D.int .u8)),i64 (w64 (a0_1 + 1)),.int .u64 (IntKind.u64.wrap ((IntKind.u64.wrap (a0_2 * 6364136223846793005)) + 1442695040888963407))])),(1,.val (i64 a1)),(5,.val (i64 (w64 ((w64 (band .u64 (shr .u64 (IntKind.u64.wrap ((IntKind.u64.wrap (a0_2 * 6364136223846793005)) + 1442695040888963407)) 33) 16777215)) + (w64 (v7))))))] ?_ ?_
 ·simp
 cases Ae
 exact Fits.of rfl

theorem g_slices_Index_LI_I_ok {a0 : List Int} {a1 : Int} {r : Int} (h : g_slices_Index_LI_I a0 a1 = some r) :
  VCall Try.prog 109 [dI a0,i64 a1] [.sc (i64 r)] := by
 unfold g_slices_Index_LI_I at h
 refine VCall.enter Try.call109 Try.func109 rfl 19 Try.ntmps109 (by simp) [.tmp 4] rfl ?_
 show VW _ _ _ (mk [(0,.val (dI a0)),(1,.val (i64 a1))]) _
 refine zs [(0,.val (dI a0)),(1,.val (i64 a1))] ?_ ?_
 ·simp
 refine VW.sqc fun K1 hK1 hCK1 => ?_
 refine zs [(0,.val (dI a0)),(1,.val (i64 a1)),(7,.val (i64 (a0.length : Int))),(8,.val (i64 0))] ?_ ?_
 ·simp
 obtain ⟨x2,Au,h⟩ := bind_some h
 refine VW.tlO (fun y4 => []) x2 (hCK1) ?_ ?_
 ·clear Au
  rintro y4 rfl
  dsimp only at h
  refine hK1 _ ?_
  refine zs [(4,.val (i64 (-1)))] ?_ ?_
  ·simp
  cases h
  refine VW.ret ?_
  simp [Post,PostM,PostC,PostC2,Nx,Bk]
 refine VW.block ?_
 refine VW.loopF (g_slices_Index_LI_I_L0 a0 a1) (fun s2 => [(0,.val (dI a0)),(1,.val (i64 a1)),(7,.val (i64 (a0.length : Int))),(8,.val (i64 s2))]) Au (Fits.of rfl) ?_
 clear Au
 intro s2 ox2 E Ag
 unfold g_slices_Index_LI_I_L0 at E
 refine zs [(0,.val (dI a0)),(1,.val (i64 a1)),(7,.val (i64 (a0.length : Int))),(8,.val (i64 s2)),(9,.val (.bool (ilt s2 (a0.length : Int))))] ?_ ?_
 ·simp
 refine VW.sqc fun K5 hK5 hCK5 => ?_
 refine VW.cond rfl (fun T => ?_) (fun T => ?_)
 rotate_left
 ·
  replace T : ¬ (s2 < (a0.length : Int)) := by simpa [ieq,ilt,ile] using T
  rw [if_neg T] at E
  refine VW.exit ?_
  cases E
  have hq := Ag _ rfl
  subst hq
  exact ⟨_,rfl,Fits.of rfl⟩
 replace T : s2 < (a0.length : Int) := by simpa [ieq,ilt,ile] using T
 rw [if_pos T] at E
 refine VW.skip ?_
 refine hK5 _ ?_
 refine VW.sqc fun K7 hK7 hCK7 => ?_
 refine VW.block ?_
 refine zs [(0,.val (dI a0)),(1,.val (i64 a1)),(5,.val (i64 s2)),(7,.val (i64 (a0.length : Int))),(8,.val (i64 s2))] ?_ ?_
 ·simp
 obtain ⟨v8,D7,E⟩ := bind_some E
 obtain ⟨B5,B6,B7,B8⟩ := idx_some D7
 refine zs [(0,.val (dI a0)),(1,.val (i64 a1)),(5,.val (i64 s2)),(7,.val (i64 (a0.length : Int))),(8,.val (i64 s2)),(16,.val (.bool (ieq a1 v8)))] ?_ ?_
 ·simp [B5,B6,B7,B8]
 refine VW.cond rfl (fun Al => ?_) (fun Al => ?_)
 rotate_left
 ·
  replace Al : ¬ (a1 = v8) := by simpa [ieq,ilt,ile] using Al
  rw [if_neg Al] at E
  refine VW.skip ?_
  refine hK7 _ ?_
  refine zr [(0,.val (dI a0)),(1,.val (i64 a1)),(7,.val (i64 (a0.length : Int))),(8,.val (i64 (w64 (s2 + 1))))] ?_ ?_
  ·simp
  cases E
  exact ⟨_,rfl,Fits.of rfl⟩
 replace Al : a1 = v8 := by simpa [ieq,ilt,ile] using Al
 rw [if_pos Al] at E
 refine zs [(4,.val (i64 s2))] ?_ ?_
 ·simp
 cases E
 have hq := Ag _ rfl
 subst hq
 dsimp only at h
 cases h
 refine VW.ret ?_
 simp [Post,PostM,PostC,PostC2,Nx,Bk]

theorem i_LoopInverse_ok {a0 : List (List Int)} {a1 : Int} {r : Int × Int} (h : i_LoopInverse a0 a1 = some r) :
  VCall Try.prog 42 [dM a0,i64 a1] [.sc (i64 r.1),.sc (i64 r.2)] := by
 unfold i_LoopInverse at h
 refine VCall.enter Try.call42 Try.func42 rfl 19 Try.ntmps42 (by simp) [.tmp 4,.tmp 5] rfl ?_
 show VW _ _ _ (mk [(0,.val (dM a0)),(1,.val (i64 a1))]) _
 refine zs [(0,.val (dM a0)),(1,.val (i64 a1))] ?_ ?_
 ·simp
 refine VW.sqc fun K1 hK1 hCK1 => ?_
 obtain ⟨v2,U,h⟩ := bind_some h
 refine VW.ws tau_ok (Sound.none.add 10 (i_checkLoop_ok U) rfl) _ [(0,.val (dM a0)),(1,.val (i64 a1)),(6,.val (i64 v2))] rfl ?_ ?_
 ·simp
 refine zs [(0,.val (dM a0)),(1,.val (i64 a1)),(6,.val (i64 v2)),(12,.val (.bool (!(ieq v2 0))))] ?_ ?_
 ·simp
 refine VW.cond rfl (fun C => ?_) (fun C => ?_)
 ·
  replace C : ¬ v2 = 0 := by simpa [ieq,ilt,ile] using C
  rw [if_pos C] at h
  refine zs [(4,.val (i64 0)),(5,.val (i64 v2))] ?_ ?_
  ·simp
  cases h
  refine VW.ret ?_
  simp [Post,PostM,PostC,PostC2,Nx,Bk]
 replace C : ¬ (¬ v2 = 0) := by simpa [ieq,ilt,ile] using C
 rw [if_neg C] at h
 refine VW.skip ?_
 refine hK1 _ ?_
 obtain ⟨v4,B1,h⟩ := bind_some h
 obtain ⟨Ed,Ee,Ef,Eg⟩ := idx_some B1
 obtain ⟨v5,En,h⟩ := bind_some h
 refine VW.ws tau_ok (Sound.none.add 18 (g_slices_Index_LI_I_ok En) rfl) _ [(4,.val (i64 v5)),(5,.val (i64 0))] rfl ?_ ?_
 ·simp [Ed,Ee,Ef,Eg]
 cases h
 refine VW.ret ?_
 simp [Post,PostM,PostC,PostC2,Nx,Bk]

theorem i_LoopOrder_ok {a0 : List (List Int)} {a1 : Int} {r : Int × Int} (h : i_LoopOrder a0 a1 = some r) :
  VCall Try.prog 43 [dM a0,i64 a1] [.sc (i64 r.1),.sc (i64 r.2)] := by
 unfold i_LoopOrder at h
 refine VCall.enter Try.call43 Try.func43 rfl 34 Try.ntmps43 (by simp) [.tmp 4,.tmp 5] rfl ?_
 show VW _ _ _ (mk [(0,.val (dM a0)),(1,.val (i64 a1))]) _
 refine zs [(0,.val (dM a0)),(1,.val (i64 a1))] ?_ ?_
 ·simp
 refine VW.sqc fun K1 hK1 hCK1 => ?_
 obtain ⟨v2,U,h⟩ := bind_some h
 refine VW.ws tau_ok (Sound.none.add 12 (i_checkLoop_ok U) rfl) _ [(0,.val (dM a0)),(1,.val (i64 a1)),(6,.val (i64 v2))] rfl ?_ ?_
 ·simp
 refine zs [(0,.val (dM a0)),(1,.val (i64 a1)),(6,.val (i64 v2)),(14,.val (.bool (!(ieq v2 0))))] ?_ ?_
 ·simp
 refine VW.cond rfl (fun C => ?_) (fun C => ?_)
 ·
  replace C : ¬ v2 = 0 := by simpa [ieq,ilt,ile] using C
  rw [if_pos C] at h
  refine zs [(4,.val (i64 0)),(5,.val (i64 v2))] ?_ ?_
  ·simp
  cases h
  refine VW.ret ?_
  simp [Post,PostM,PostC,PostC2,Nx,Bk]
 replace C : ¬ (¬ v2 = 0) := by simpa [ieq,ilt,ile] using C
 rw [if_neg C] at h
 refine VW.skip ?_
 refine hK1 _ ?_
 refine zs [(0,.val (dM a0)),(1,.val (i64 a1)),(7,.val (i64 a1))] ?_ ?_
 ·simp
 refine VW.sqc fun K4 hK4 hCK4 => ?_
 refine zs [(0,.val (dM a0)),(1,.val (i64 a1)),(7,.val (i64 a1)),(8,.val (i64 1))] ?_ ?_
 ·simp
 obtain ⟨x5,As,h⟩ := bind_some h
 refine VW.tlO (fun y7 => []) x5 (hCK4) ?_ ?_
 ·clear As
  rintro y7 rfl
  dsimp only at h
  refine hK4 _ ?_
  refine zs [(4,.val (i64 0)),(5,.val (i64 5))] ?_ ?_
  ·simp
  cases h
  refine VW.ret ?_
  simp [Post,PostM,PostC,PostC2,Nx,Bk]
 refine VW.block ?_
 refine VW.loopF (i_LoopOrder_L0 a0 a1) (fun s5 => [(0,.val (dM a0)),(1,.val (i64 a1)),(7,.val (i64 s5.1)),(8,.val (i64 s5.2))]) As (Fits.of rfl) ?_
 clear As
 intro s5 ox5 B W
 unfold i_LoopOrder_L0 at B
 refine VW.sqc fun K8 hK8 hCK8 => ?_
 obtain ⟨v9,Bz,B⟩ := bind_some B
 refine VW.ws tau_ok (Sound.none.add 19 (i_length_LI_ok Bz) rfl) _ [(0,.val (dM a0)),(1,.val (i64 a1)),(7,.val (i64 s5.1)),(8,.val (i64 s5.2)),(21,.val (.bool (ile s5.2 (w64 (v9 + 1)))))] rfl ?_ ?_
 ·simp
 refine VW.cond rfl (fun P => ?_) (fun P => ?_)
 rotate_left
 ·
  replace P : ¬ (s5.2 ≤ (w64 (v9 + 1))) := by simpa [ieq,ilt,ile] using P
  rw [if_neg P] at B
  refine VW.exit ?_
  cases B
  have hq := W _ rfl
  subst hq
  exact ⟨_,rfl,Fits.of rfl⟩
 replace P : s5.2 ≤ (w64 (v9 + 1)) := by simpa [ieq,ilt,ile] using P
 rw [if_pos P] at B
 refine VW.skip ?_
 refine hK8 _ ?_
 refine VW.sqc fun K11 hK11 hCK11 => ?_
 refine VW.block ?_
 refine VW.sqc fun K12 hK12 hCK12 => ?_
 refine zs [(0,.val (dM a0)),(1,.val (i64 a1)),(7,.val (i64 s5.1)),(8,.val (i64 s5.2)),(25,.val (.bool (ieq s5.1 0)))] ?_ ?_
 ·simp
 refine VW.cond rfl (fun M => ?_) (fun M => ?_)
 ·
  replace M : s5.1 = 0 := by simpa [ieq,ilt,ile] using M
  rw [if_pos M] at B
  refine zs [(4,.val (i64 s5.2)),(5,.val (i64 0))] ?_ ?_
  ·simp
  cases B
  have hq := W _ rfl
  subst hq
  dsimp only at h
  cases h
  refine VW.ret ?_
  simp [Post,PostM,PostC,PostC2,Nx,Bk]
 replace M : ¬ (s5.1 = 0) := by simpa [ieq,ilt,ile] using M
 rw [if_neg M] at B
 refine VW.skip ?_
 refine hK12 _ ?_
 obtain ⟨v14,Cf,B⟩ := bind_some B
 obtain ⟨Av,Aw,Ax,Ay⟩ := idx_some Cf
 obtain ⟨v15,Eh,B⟩ := bind_some B
 obtain ⟨Dk,Dl,Dm,Dn⟩ := idx_some Eh
 refine zr [(0,.val (dM a0)),(1,.val (i64 a1)),(7,.val (i64 v15)),(8,.val (i64 s5.2))] ?_ ?_
 ·simp [Av,Aw,Ax,Ay,Dk,Dl,Dm,Dn]
 refine hK11 _ ?_
 refine zr [(0,.val (dM a0)),(1,.val (i64 a1)),(7,.val (i64 v15)),(8,.val (i64 (w64 (s5.2 + 1))))] ?_ ?_
 ·simp
 cases B
 exact ⟨_,rfl,Fits.of rfl⟩

theorem s_l13Code_ok {a0 : List (List Int)} {a1 : Int} {r : Int} (h : s_l13Code a0 a1 = some r) :
  VCall Try.prog 110 [dM a0,i64 a1] [.sc (i64 r)] := by
 unfold s_l13Code at h
 refine VCall.enter Try.call110 Try.func110 rfl 16 Try.ntmps110 (by simp) [.tmp 4] rfl ?_
 show VW _ _ _ (mk [(0,.val (dM a0)),(1,.val (i64 a1))]) _
 refine zs [(0,.val (dM a0)),(1,.val (i64 a1))] ?_ ?_
 ·simp
 refine VW.sqc fun K1 hK1 hCK1 => ?_
 refine VW.block ?_
 obtain ⟨v2,U,h⟩ := bind_some h
 refine VW.ws tau_ok (Sound.none.add 7 (s_l13Is_ok U) rfl) _ [(0,.val (dM a0)),(1,.val (i64 a1)),(5,.val (.bool (!v2)))] rfl ?_ ?_
 ·simp
 refine VW.cond rfl (fun C => ?_) (fun C => ?_)
 ·
  replace C : v2 = false := by simpa [ieq,ilt,ile] using C
  rw [if_pos C] at h
  refine zs [(4,.val (i64 1))] ?_ ?_
  ·simp
  cases h
  refine VW.ret ?_
  simp [Post,PostM,PostC,PostC2,Nx,Bk]
 replace C : ¬ (v2 = false) := by simpa [ieq,ilt,ile] using C
 rw [if_neg C] at h
 obtain ⟨v4,B1,h⟩ := bind_some h
 refine VW.ws tau_ok (Sound.none.add 14 (s_l01In_ok B1) rfl) _ [(9,.val (.bool (!v4)))] rfl ?_ ?_
 ·simp
 refine VW.cond rfl (fun O => ?_) (fun O => ?_)
 ·
  replace O : v4 = false := by simpa [ieq,ilt,ile] using O
  rw [if_pos O] at h
  refine zs [(4,.val (i64 2))] ?_ ?_
  ·simp
  cases h
  refine VW.ret ?_
  simp [Post,PostM,PostC,PostC2,Nx,Bk]
 replace O : ¬ (v4 = false) := by simpa [ieq,ilt,ile] using O
 rw [if_neg O] at h
 refine VW.skip ?_
 refine hK1 _ ?_
 refine zs [(4,.val (i64 0))] ?_ ?_
 ·simp
 cases h
 refine VW.ret ?_
 simp [Post,PostM,PostC,PostC2,Nx,Bk]

theorem s_LoopOrder_ok {a0 : List (List Int)} {a1 : Int} {r : Int × Int} (h : s_LoopOrder a0 a1 = some r) :
  VCall Try.prog 44 [dM a0,i64 a1] [.sc (i64 r.1),.sc (i64 r.2)] := by
 unfold s_LoopOrder at h
 refine VCall.enter Try.call44 Try.func44 rfl 32 Try.ntmps44 (by simp) [.tmp 4,.tmp 5] rfl ?_
 show VW _ _ _ (mk [(0,.val (dM a0)),(1,.val (i64 a1))]) _
 refine zs [(0,.val (dM a0)),(1,.val (i64 a1))] ?_ ?_
 ·simp
 refine VW.sqc fun K1 hK1 hCK1 => ?_
 obtain ⟨v2,U,h⟩ := bind_some h
 refine VW.ws tau_ok (Sound.none.add 11 (s_l13Code_ok U) rfl) _ [(0,.val (dM a0)),(1,.val (i64 a1)),(6,.val (i64 v2))] rfl ?_ ?_
 ·simp
 refine zs [(0,.val (dM a0)),(1,.val (i64 a1)),(6,.val (i64 v2)),(13,.val (.bool (!(ieq v2 0))))] ?_ ?_
 ·simp
 refine VW.cond rfl (fun C => ?_) (fun C => ?_)
 ·
  replace C : ¬ v2 = 0 := by simpa [ieq,ilt,ile] using C
  rw [if_pos C] at h
  refine zs [(4,.val (i64 0)),(5,.val (i64 v2))] ?_ ?_
  ·simp
  cases h
  refine VW.ret ?_
  simp [Post,PostM,PostC,PostC2,Nx,Bk]
 replace C : ¬ (¬ v2 = 0) := by simpa [ieq,ilt,ile] using C
 rw [if_neg C] at h
 refine VW.skip ?_
 refine hK1 _ ?_
 refine zs [(0,.val (dM a0)),(1,.val (i64 a1)),(7,.val (i64 a1))] ?_ ?_
 ·simp
 refine VW.sqc fun K4 hK4 hCK4 => ?_
 refine zs [(0,.val (dM a0)),(1,.val (i64 a1)),(7,.val (i64 a1)),(8,.val (i64 1))] ?_ ?_
 ·simp
 obtain ⟨x5,As,h⟩ := bind_some h
 refine VW.tlO (fun y7 => []) x5 (hCK4) ?_ ?_
 ·clear As
  rintro y7 rfl
  dsimp only at h
  refine hK4 _ ?_
  refine zs [(4,.val (i64 0)),(5,.val (i64 5))] ?_ ?_
  ·simp
  cases h
  refine VW.ret ?_
  simp [Post,PostM,PostC,PostC2,Nx,Bk]
 refine VW.block ?_
 refine VW.loopF (s_LoopOrder_L0 a0 a1) (fun s5 => [(0,.val (dM a0)),(1,.val (i64 a1)),(7,.val (i64 s5.1)),(8,.val (i64 s5.2))]) As (Fits.of rfl) ?_
 clear As
 intro s5 ox5 B W
 unfold s_LoopOrder_L0 at B
 refine VW.sqc fun K8 hK8 hCK8 => ?_
 refine zs [(0,.val (dM a0)),(1,.val (i64 a1)),(7,.val (i64 s5.1)),(8,.val (i64 s5.2)),(19,.val (.bool (ile s5.2 (a0.length : Int))))] ?_ ?_
 ·simp
 refine VW.cond rfl (fun Al => ?_) (fun Al => ?_)
 rotate_left
 ·
  replace Al : ¬ (s5.2 ≤ (a0.length : Int)) := by simpa [ieq,ilt,ile] using Al
  rw [if_neg Al] at B
  refine VW.exit ?_
  cases B
  have hq := W _ rfl
  subst hq
  exact ⟨_,rfl,Fits.of rfl⟩
 replace Al : s5.2 ≤ (a0.length : Int) := by simpa [ieq,ilt,ile] using Al
 rw [if_pos Al] at B
 refine VW.skip ?_
 refine hK8 _ ?_
 refine VW.sqc fun K10 hK10 hCK10 => ?_
 refine VW.block ?_
 refine VW.sqc fun K11 hK11 hCK11 => ?_
 refine zs [(0,.val (dM a0)),(1,.val (i64 a1)),(7,.val (i64 s5.1)),(8,.val (i64 s5.2)),(23,.val (.bool (ieq s5.1 0)))] ?_ ?_
 ·simp
 refine VW.cond rfl (fun G => ?_) (fun G => ?_)
 ·
  replace G : s5.1 = 0 := by simpa [ieq,ilt,ile] using G
  rw [if_pos G] at B
  refine zs [(4,.val (i64 s5.2)),(5,.val (i64 0))] ?_ ?_
  ·simp
  cases B
  have hq := W _ rfl
  subst hq
  dsimp only at h
  cases h
  refine VW.ret ?_
  simp [Post,PostM,PostC,PostC2,Nx,Bk]
 replace G : ¬ (s5.1 = 0) := by simpa [ieq,ilt,ile] using G
 rw [if_neg G] at B
 refine VW.skip ?_
 refine hK11 _ ?_
 obtain ⟨v13,Ei,B⟩ := bind_some B
 obtain ⟨Do,Dp,Dq,Dr⟩ := idx_some Ei
 obtain ⟨v14,Cf,B⟩ := bind_some B
 obtain ⟨Av,Aw,Ax,Ay⟩ := idx_some Cf
 refine zr [(0,.val (dM a0)),(1,.val (i64 a1)),(7,.val (i64 v14)),(8,.val (i64 s5.2))] ?_ ?_
 ·simp [Do,Dp,Dq,Dr,Av,Aw,Ax,Ay]
 refine hK10 _ ?_
 refine zr [(0,.val (dM a0)),(1,.val (i64 a1)),(7,.val (i64 v14)),(8,.val (i64 (w64 (s5.2 + 1))))] ?_ ?_
 ·simp
 cases B
 exact ⟨_,rfl,Fits.of rfl⟩
end Go.Vam
