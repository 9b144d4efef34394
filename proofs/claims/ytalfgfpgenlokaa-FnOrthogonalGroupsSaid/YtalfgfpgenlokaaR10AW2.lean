import Derived.Test.YtalfgfpgenlokaaR10T
import Derived.Test.YtalfgfpgenlokaaFmG0
import Derived.Test.YtalfgfpgenlokaaR10AW1
namespace Go.Vam
open Go Go.RowKit Go.Proofs
set_option maxRecDepth 100000
set_option linter.unusedSimpArgs false
set_option linter.unusedVariables false

theorem s_l01Root_ok {a0 : Int} {a1 : Int} {r : Int} (h : s_l01Root a0 a1 = some r) :
  VCall Try.prog 73 [i64 a0,i64 a1] [.sc (i64 r)] := by
 unfold s_l01Root at h
 refine VCall.enter Try.call73 Try.func73 rfl 19 Try.ntmps73 (by simp) [.tmp 4] rfl ?_
 show VW _ _ _ (mk [(0,.val (i64 a0)),(1,.val (i64 a1))]) _
 refine zs [(0,.val (i64 a0)),(1,.val (i64 a1))] ?_ ?_
 ·simp
 refine VW.sqc fun K1 hK1 hCK1 => ?_
 refine zs [(0,.val (i64 a0)),(1,.val (i64 a1)),(5,.val (i64 0))] ?_ ?_
 ·simp
 obtain ⟨x2,L,h⟩ := bind_some h
 refine VW.tlO (fun y4 => []) x2 (hCK1) ?_ ?_
 ·clear L
  rintro y4 rfl
  dsimp only at h
  refine hK1 _ ?_
  refine zs [(4,.val (i64 (-1)))] ?_ ?_
  ·simp
  cases h
  refine VW.ret ?_
  simp [Post,PostM,PostC,PostC2,Nx,Bk]
 refine VW.block ?_
 refine VW.loopF (s_l01Root_L0 a0 a1) (fun s2 => [(0,.val (i64 a0)),(1,.val (i64 a1)),(5,.val (i64 s2))]) L (Fits.of rfl) ?_
 clear L
 intro s2 ox2 A R
 unfold s_l01Root_L0 at A
 refine VW.sqc fun K5 hK5 hCK5 => ?_
 refine zs [(0,.val (i64 a0)),(1,.val (i64 a1)),(5,.val (i64 s2)),(8,.val (.bool (ilt s2 a0)))] ?_ ?_
 ·simp
 refine VW.cond rfl (fun E => ?_) (fun E => ?_)
 rotate_left
 ·
  replace E : ¬ (s2 < a0) := by simpa [ieq,ilt,ile] using E
  rw [if_neg E] at A
  refine VW.exit ?_
  cases A
  have hq := R _ rfl
  subst hq
  exact ⟨_,rfl,Fits.of rfl⟩
 replace E : s2 < a0 := by simpa [ieq,ilt,ile] using E
 rw [if_pos E] at A
 refine VW.skip ?_
 refine hK5 _ ?_
 refine VW.sqc fun K7 hK7 hCK7 => ?_
 refine VW.block ?_
 obtain ⟨Cv,A⟩ := chk_some A
 have A0 := Cv
 try simp at A0
 refine zs [(0,.val (i64 a0)),(1,.val (i64 a1)),(5,.val (i64 s2)),(17,.val (.bool (ieq ((w64 (s2 * s2)).tmod a0) a1)))] ?_ ?_
 ·simp [Cv,A0]
 refine VW.cond rfl (fun Bb => ?_) (fun Bb => ?_)
 rotate_left
 ·
  replace Bb : ¬ (((w64 (s2 * s2)).tmod a0) = a1) := by simpa [ieq,ilt,ile] using Bb
  rw [if_neg Bb] at A
  refine VW.skip ?_
  refine hK7 _ ?_
  refine zr [(0,.val (i64 a0)),(1,.val (i64 a1)),(5,.val (i64 (w64 (s2 + 1))))] ?_ ?_
  ·simp
  cases A
  exact ⟨_,rfl,Fits.of rfl⟩
 replace Bb : ((w64 (s2 * s2)).tmod a0) = a1 := by simpa [ieq,ilt,ile] using Bb
 rw [if_pos Bb] at A
 refine zs [(4,.val (i64 s2))] ?_ ?_
 ·simp
 cases A
 have hq := R _ rfl
 subst hq
 dsimp only at h
 cases h
 refine VW.ret ?_
 simp [Post,PostM,PostC,PostC2,Nx,Bk]

theorem s_l03Witt_ok {a0_0 : Int} {a0_1 : List Int} {r : Int} (h : s_l03Witt a0_0 a0_1 = some r) :
  VCall Try.prog 48 [.agg [i64 a0_0,dI a0_1]] [.sc (i64 r)] := by
 unfold s_l03Witt at h
 refine VCall.enter Try.call48 Try.func48 rfl 35 Try.ntmps48 (by simp) [.tmp 2] rfl ?_
 show VW _ _ _ (mk [(0,.val (.agg [i64 a0_0,dI a0_1]))]) _
 refine zs [(1,.val (.ptr [i64 a0_0,dI a0_1]))] ?_ ?_
 ·simp
 refine zs [(1,.val (.ptr [i64 a0_0,dI a0_1])),(3,.val (i64 (a0_1.length : Int)))] ?_ ?_
 ·simp
 refine zs [(1,.val (.ptr [i64 a0_0,dI a0_1])),(3,.val (i64 (a0_1.length : Int))),(4,.val (i64 (w64 ((a0_1.length : Int).tdiv 2))))] ?_ ?_
 ·simp
 refine VW.sqc fun K1 hK1 hCK1 => ?_
 refine zs [(1,.val (.ptr [i64 a0_0,dI a0_1])),(4,.val (i64 (w64 ((a0_1.length : Int).tdiv 2)))),(13,.val (.bool (ieq ((a0_1.length : Int).tmod 2) 1)))] ?_ ?_
 ·simp
 refine VW.cond rfl (fun P => ?_) (fun P => ?_)
 ·
  replace P : ((a0_1.length : Int).tmod 2) = 1 := by simpa [ieq,ilt,ile] using P
  rw [if_pos P] at h
  refine zs [(2,.val (i64 (w64 ((a0_1.length : Int).tdiv 2))))] ?_ ?_
  ·simp
  cases h
  refine VW.ret ?_
  simp [Post,PostM,PostC,PostC2,Nx,Bk]
 replace P : ¬ (((a0_1.length : Int).tmod 2) = 1) := by simpa [ieq,ilt,ile] using P
 rw [if_neg P] at h
 refine VW.skip ?_
 refine hK1 _ ?_
 obtain ⟨v3,Cn,h⟩ := bind_some h
 refine VW.ws tau_ok (Sound.none.add 16 (s_l03Disc_ok Cn) rfl) _ [(1,.val (.ptr [i64 a0_0,dI a0_1])),(4,.val (i64 (w64 ((a0_1.length : Int).tdiv 2)))),(5,.val (i64 v3))] rfl ?_ ?_
 ·simp
 refine VW.sqc fun K4 hK4 hCK4 => ?_
 refine zs [(1,.val (.ptr [i64 a0_0,dI a0_1])),(4,.val (i64 (w64 ((a0_1.length : Int).tdiv 2)))),(5,.val (i64 v3)),(19,.val (.bool (ieq ((w64 ((a0_1.length : Int).tdiv 2)).tmod 2) 1)))] ?_ ?_
 ·simp
 obtain ⟨x5,Ba,h⟩ := bind_some h
 refine VW.tlE [(1,.val (.ptr [i64 a0_0,dI a0_1])),(4,.val (i64 (w64 ((a0_1.length : Int).tdiv 2)))),(5,.val (i64 x5))] (hCK4) ?_ ?_
 ·clear Ba
  refine hK4 _ ?_
  refine VW.sqc fun K9 hK9 hCK9 => ?_
  obtain ⟨v10,Ac,h⟩ := bind_some h
  refine VW.ws tau_ok (Sound.none.add 30 (s_l01Root_ok Ac) rfl) _ [(4,.val (i64 (w64 ((a0_1.length : Int).tdiv 2)))),(31,.val (.bool (ile 0 v10)))] rfl ?_ ?_
  ·simp
  refine VW.cond rfl (fun X => ?_) (fun X => ?_)
  ·
   replace X : 0 ≤ v10 := by simpa [ieq,ilt,ile] using X
   rw [if_pos X] at h
   refine zs [(2,.val (i64 (w64 ((a0_1.length : Int).tdiv 2))))] ?_ ?_
   ·simp
   cases h
   refine VW.ret ?_
   simp [Post,PostM,PostC,PostC2,Nx,Bk]
  replace X : ¬ (0 ≤ v10) := by simpa [ieq,ilt,ile] using X
  rw [if_neg X] at h
  refine VW.skip ?_
  refine hK9 _ ?_
  refine zs [(2,.val (i64 (w64 ((w64 ((a0_1.length : Int).tdiv 2)) - 1))))] ?_ ?_
  ·simp
  cases h
  refine VW.ret ?_
  simp [Post,PostM,PostC,PostC2,Nx,Bk]
 refine VW.cond rfl (fun Af => ?_) (fun Af => ?_)
 rotate_left
 ·
  replace Af : ¬ (((w64 ((a0_1.length : Int).tdiv 2)).tmod 2) = 1) := by simpa [ieq,ilt,ile] using Af
  rw [if_neg Af] at Ba
  refine VW.skip ?_
  cases Ba
  exact Fits.of rfl
 replace Af : ((w64 ((a0_1.length : Int).tdiv 2)).tmod 2) = 1 := by simpa [ieq,ilt,ile] using Af
 rw [if_pos Af] at Ba
 obtain ⟨Cv,Ba⟩ := chk_some Ba
 have A0 := Cv
 try simp at A0
 refine zr [(1,.val (.ptr [i64 a0_0,dI a0_1])),(4,.val (i64 (w64 ((a0_1.length : Int).tdiv 2)))),(5,.val (i64 ((w64 (a0_0 - v3)).tmod a0_0)))] ?_ ?_
 ·simp [Cv,A0]
 cases Ba
 exact Fits.of rfl

theorem s_l08Count_ok {a0_0 : Int} {a0_1 : List Int} {r : Int} (h : s_l08Count a0_0 a0_1 = some r) :
  VCall Try.prog 21 [.agg [i64 a0_0,dI a0_1]] [.sc (i64 r)] := by
 unfold s_l08Count at h
 refine VCall.enter Try.call21 Try.func21 rfl 61 Try.ntmps21 (by simp) [.tmp 2] rfl ?_
 show VW _ _ _ (mk [(0,.val (.agg [i64 a0_0,dI a0_1]))]) _
 refine zs [(1,.val (.ptr [i64 a0_0,dI a0_1]))] ?_ ?_
 ·simp
 refine VW.wds tau_ok Sound.none try_mixed _ [(1,.val (.ptr [i64 a0_0,dI a0_1])),(3,.val (i64 (a0_1.length : Int))),(4,.val (i64 a0_0))] 7 rfl (by kernel_rfl) (by rfl) ?_ ?_
 ·simp
 refine zs [(1,.val (.ptr [i64 a0_0,dI a0_1])),(3,.val (i64 (a0_1.length : Int))),(4,.val (i64 a0_0)),(5,.val (i64 (w64 ((a0_1.length : Int).tdiv 2))))] ?_ ?_
 ·simp
 refine zs [(1,.val (.ptr [i64 a0_0,dI a0_1])),(3,.val (i64 (a0_1.length : Int))),(4,.val (i64 a0_0)),(5,.val (i64 (w64 ((a0_1.length : Int).tdiv 2)))),(6,.val (i64 2))] ?_ ?_
 ·simp
 refine zs [(1,.val (.ptr [i64 a0_0,dI a0_1])),(3,.val (i64 (a0_1.length : Int))),(4,.val (i64 a0_0)),(5,.val (i64 (w64 ((a0_1.length : Int).tdiv 2)))),(6,.val (i64 2)),(7,.val (i64 (w64 ((a0_1.length : Int).tdiv 2))))] ?_ ?_
 ·simp
 refine VW.sqc fun K1 hK1 hCK1 => ?_
 refine zs [(1,.val (.ptr [i64 a0_0,dI a0_1])),(4,.val (i64 a0_0)),(5,.val (i64 (w64 ((a0_1.length : Int).tdiv 2)))),(6,.val (i64 2)),(7,.val (i64 (w64 ((a0_1.length : Int).tdiv 2)))),(20,.val (.bool (ieq ((a0_1.length : Int).tmod 2) 1)))] ?_ ?_
 ·simp
 obtain ⟨x2,L,h⟩ := bind_some h
 refine VW.tlE [(4,.val (i64 a0_0)),(6,.val (i64 x2.1)),(7,.val (i64 x2.2))] (hCK1) ?_ ?_
 ·clear L
  refine hK1 _ ?_
  refine VW.sqc fun K13 hK13 hCK13 => ?_
  refine zs [(4,.val (i64 a0_0)),(6,.val (i64 x2.1)),(7,.val (i64 x2.2)),(9,.val (i64 1))] ?_ ?_
  ·simp
  obtain ⟨x14,Da,h⟩ := bind_some h
  refine VW.tlE [(6,.val (i64 x14))] (hCK13) ?_ ?_
  ·clear Da
   refine hK13 _ ?_
   refine zs [(2,.val (i64 x14))] ?_ ?_
   ·simp
   cases h
   refine VW.ret ?_
   simp [Post,PostM,PostC,PostC2,Nx,Bk]
  refine VW.block ?_
  refine VW.loopF (s_l08Count_L0 a0_0 x2) (fun s14 => [(4,.val (i64 a0_0)),(6,.val (i64 s14.1)),(7,.val (i64 x2.2)),(9,.val (i64 s14.2))]) Da (Fits.of rfl) ?_
  clear Da
  intro s14 ox14 Ag Dr
  unfold s_l08Count_L0 at Ag
  refine VW.sqc fun K16 hK16 hCK16 => ?_
  refine zs [(4,.val (i64 a0_0)),(6,.val (i64 s14.1)),(7,.val (i64 x2.2)),(9,.val (i64 s14.2)),(50,.val (.bool (ile s14.2 x2.2)))] ?_ ?_
  ·simp
  refine VW.cond rfl (fun F => ?_) (fun F => ?_)
  rotate_left
  ·
   replace F : ¬ (s14.2 ≤ x2.2) := by simpa [ieq,ilt,ile] using F
   rw [if_neg F] at Ag
   refine VW.exit ?_
   cases Ag
   have hq := Dr _ rfl
   subst hq
   exact Fits.of rfl
  replace F : s14.2 ≤ x2.2 := by simpa [ieq,ilt,ile] using F
  rw [if_pos F] at Ag
  refine VW.skip ?_
  refine hK16 _ ?_
  refine VW.sqc fun K18 hK18 hCK18 => ?_
  refine VW.block ?_
  obtain ⟨v19,E7,Ag⟩ := bind_some Ag
  refine VW.wr tau_ok (Sound.none.add 57 (s_l08Raise_ok E7) rfl) _ [(4,.val (i64 a0_0)),(6,.val (i64 (w64 (s14.1 * (w64 (v19 - 1)))))),(7,.val (i64 x2.2)),(9,.val (i64 s14.2))] rfl ?_ ?_
  ·simp
  refine hK18 _ ?_
  refine zr [(4,.val (i64 a0_0)),(6,.val (i64 (w64 (s14.1 * (w64 (v19 - 1)))))),(7,.val (i64 x2.2)),(9,.val (i64 (w64 (s14.2 + 1))))] ?_ ?_
  ·simp
  cases Ag
  exact ⟨_,rfl,Fits.of rfl⟩
 refine VW.cond rfl (fun Db => ?_) (fun Db => ?_)
 ·
  replace Db : ((a0_1.length : Int).tmod 2) = 1 := by simpa [ieq,ilt,ile] using Db
  rw [if_pos Db] at L
  obtain ⟨v5,Co,L⟩ := bind_some L
  refine VW.wr tau_ok (Sound.none.add 26 (s_l08Raise_ok Co) rfl) _ [(4,.val (i64 a0_0)),(6,.val (i64 (w64 (2 * v5)))),(7,.val (i64 (w64 ((a0_1.length : Int).tdiv 2))))] rfl ?_ ?_
  ·simp
  cases L
  exact Fits.of rfl
 replace Db : ¬ (((a0_1.length : Int).tmod 2) = 1) := by simpa [ieq,ilt,ile] using Db
 rw [if_neg Db] at L
 refine zs [(1,.val (.ptr [i64 a0_0,dI a0_1])),(4,.val (i64 a0_0)),(5,.val (i64 (w64 ((a0_1.length : Int).tdiv 2)))),(6,.val (i64 2)),(8,.val (i64 (-1)))] ?_ ?_
 ·simp
 refine VW.sqc fun K6 hK6 hCK6 => ?_
 obtain ⟨v7,Au,L⟩ := bind_some L
 refine VW.ws tau_ok (Sound.none.add 29 (s_l03Witt_ok Au) rfl) _ [(4,.val (i64 a0_0)),(5,.val (i64 (w64 ((a0_1.length : Int).tdiv 2)))),(6,.val (i64 2)),(8,.val (i64 (-1))),(31,.val (.bool (ieq v7 (w64 ((a0_1.length : Int).tdiv 2)))))] rfl ?_ ?_
 ·simp
 obtain ⟨x8,Ds,L⟩ := bind_some L
 refine VW.tlE [(4,.val (i64 a0_0)),(5,.val (i64 (w64 ((a0_1.length : Int).tdiv 2)))),(6,.val (i64 2)),(8,.val (i64 x8))] (hCK6) ?_ ?_
 ·clear Ds
  refine hK6 _ ?_
  obtain ⟨v11,Ah,L⟩ := bind_some L
  obtain ⟨v12,A1,L⟩ := bind_some L
  refine VW.ws tau_ok ((Sound.none.add 38 (s_l08Raise_ok Ah) rfl).add 42 (s_l08Raise_ok A1) rfl) _ [(4,.val (i64 a0_0)),(5,.val (i64 (w64 ((a0_1.length : Int).tdiv 2)))),(6,.val (i64 (w64 ((w64 (2 * v11)) * (w64 (v12 - x8))))))] rfl ?_ ?_
  ·simp
  refine zr [(4,.val (i64 a0_0)),(6,.val (i64 (w64 ((w64 (2 * v11)) * (w64 (v12 - x8)))))),(7,.val (i64 (w64 ((w64 ((a0_1.length : Int).tdiv 2)) - 1))))] ?_ ?_
  ·simp
  cases L
  exact Fits.of rfl
 refine VW.cond rfl (fun Y => ?_) (fun Y => ?_)
 rotate_left
 ·
  replace Y : ¬ (v7 = (w64 ((a0_1.length : Int).tdiv 2))) := by simpa [ieq,ilt,ile] using Y
  rw [if_neg Y] at Ds
  refine VW.skip ?_
  cases Ds
  exact Fits.of rfl
 replace Y : v7 = (w64 ((a0_1.length : Int).tdiv 2)) := by simpa [ieq,ilt,ile] using Y
 rw [if_pos Y] at Ds
 refine zr [(4,.val (i64 a0_0)),(5,.val (i64 (w64 ((a0_1.length : Int).tdiv 2)))),(6,.val (i64 2)),(8,.val (i64 1))] ?_ ?_
 ·simp
 cases Ds
 exact Fits.of rfl

theorem s_l02Turn_ok {a0 : List (List Int)} {r : List (List Int)} (h : s_l02Turn a0 = some r) :
  VCall Try.prog 49 [dM a0] [.own true (dM r)] := by
 unfold s_l02Turn at h
 refine VCall.enter Try.call49 Try.func49 rfl 38 Try.ntmps49 (by simp) [.tmp 2] rfl ?_
 show VW _ _ _ (mk [(0,.val (dM a0))]) _
 refine zs [(0,.val (dM a0))] ?_ ?_
 ·simp
 refine zs [(0,.val (dM a0)),(3,.ref 3 [] true (dM []))] ?_ ?_
 ·simp
 refine VW.sqc fun K1 hK1 hCK1 => ?_
 refine zs [(0,.val (dM a0)),(3,.ref 3 [] true (dM [])),(4,.val (i64 0))] ?_ ?_
 ·simp
 obtain ⟨x2,L,h⟩ := bind_some h
 refine VW.tlE [(3,.ref 3 [] true (dM x2))] (hCK1) ?_ ?_
 ·clear L
  refine hK1 _ ?_
  refine zs [(2,.ref 2 [] true (dM x2))] ?_ ?_
  ·simp
  cases h
  refine VW.ret ?_
  simp [Post,PostM,PostC,PostC2,Nx,Bk]
 refine VW.block ?_
 refine VW.loopF (s_l02Turn_L0 a0) (fun s2 => [(0,.val (dM a0)),(3,.ref 3 [] true (dM s2.1)),(4,.val (i64 s2.2))]) L (Fits.of rfl) ?_
 clear L
 intro s2 ox2 A R
 unfold s_l02Turn_L0 at A
 refine VW.sqc fun K4 hK4 hCK4 => ?_
 obtain ⟨v5,Co,A⟩ := bind_some A
 obtain ⟨E8,Dc,Dd,De⟩ := idx_some Co
 replace Dc : 0 < a0.length := Dc
 replace Dd : a0[0]? = some v5 := Dd
 replace De : ∀ h,a0[0]'h = v5 := De
 refine zs [(0,.val (dM a0)),(3,.ref 3 [] true (dM s2.1)),(4,.val (i64 s2.2)),(13,.val (.bool (ilt s2.2 (v5.length : Int))))] ?_ ?_
 ·simp [E8,Dc,Dd,De]
 refine VW.cond rfl (fun E => ?_) (fun E => ?_)
 rotate_left
 ·
  replace E : ¬ (s2.2 < (v5.length : Int)) := by simpa [ieq,ilt,ile] using E
  rw [if_neg E] at A
  refine VW.exit ?_
  cases A
  have hq := R _ rfl
  subst hq
  exact Fits.of rfl
 replace E : s2.2 < (v5.length : Int) := by simpa [ieq,ilt,ile] using E
 rw [if_pos E] at A
 refine VW.skip ?_
 refine hK4 _ ?_
 refine VW.sqc fun K7 hK7 hCK7 => ?_
 refine VW.block ?_
 refine zs [(0,.val (dM a0)),(3,.ref 3 [] true (dM s2.1)),(4,.val (i64 s2.2)),(5,.ref 5 [] true (dI []))] ?_ ?_
 ·simp
 refine VW.sqc fun K8 hK8 hCK8 => ?_
 refine zs [(0,.val (dM a0)),(3,.ref 3 [] true (dM s2.1)),(4,.val (i64 s2.2)),(5,.ref 5 [] true (dI [])),(6,.val (i64 0))] ?_ ?_
 ·simp
 obtain ⟨x9,E9,A⟩ := bind_some A
 refine VW.tlE [(0,.val (dM a0)),(3,.ref 3 [] true (dM s2.1)),(4,.val (i64 s2.2)),(5,.ref 5 [] true (dI x9))] (hCK8) ?_ ?_
 ·clear E9
  refine hK8 _ ?_
  obtain ⟨Dt,A⟩ := chk_some A
  have Cw := Dt
  try simp at Cw
  refine zr [(0,.val (dM a0)),(3,.ref 3 [] true (dM (s2.1 ++ [x9]))),(4,.val (i64 s2.2))] ?_ ?_
  ·simp [Dt,Cw]
  refine hK7 _ ?_
  refine zr [(0,.val (dM a0)),(3,.ref 3 [] true (dM (s2.1 ++ [x9]))),(4,.val (i64 (w64 (s2.2 + 1))))] ?_ ?_
  ·simp
  cases A
  exact ⟨_,rfl,Fits.of rfl⟩
 refine VW.block ?_
 refine VW.loopF (s_l02Turn_L1 a0 s2) (fun s9 => [(0,.val (dM a0)),(3,.ref 3 [] true (dM s2.1)),(4,.val (i64 s2.2)),(5,.ref 5 [] true (dI s9.1)),(6,.val (i64 s9.2))]) E9 (Fits.of rfl) ?_
 clear E9
 intro s9 ox9 Ai Fa
 unfold s_l02Turn_L1 at Ai
 refine VW.sqc fun K11 hK11 hCK11 => ?_
 refine zs [(0,.val (dM a0)),(3,.ref 3 [] true (dM s2.1)),(4,.val (i64 s2.2)),(5,.ref 5 [] true (dI s9.1)),(6,.val (i64 s9.2)),(20,.val (.bool (ilt s9.2 (a0.length : Int))))] ?_ ?_
 ·simp
 refine VW.cond rfl (fun Q => ?_) (fun Q => ?_)
 rotate_left
 ·
  replace Q : ¬ (s9.2 < (a0.length : Int)) := by simpa [ieq,ilt,ile] using Q
  rw [if_neg Q] at Ai
  refine VW.exit ?_
  cases Ai
  have hq := Fa _ rfl
  subst hq
  exact Fits.of rfl
 replace Q : s9.2 < (a0.length : Int) := by simpa [ieq,ilt,ile] using Q
 rw [if_pos Q] at Ai
 refine VW.skip ?_
 refine hK11 _ ?_
 refine VW.sqc fun K13 hK13 hCK13 => ?_
 refine VW.block ?_
 obtain ⟨v14,Bx,Ai⟩ := bind_some Ai
 obtain ⟨By,Bz,B0,B1⟩ := idx_some Bx
 obtain ⟨v15,Bc,Ai⟩ := bind_some Ai
 obtain ⟨B2,B3,B4,B5⟩ := idx_some Bc
 obtain ⟨Du,Ai⟩ := chk_some Ai
 have Cx := Du
 try simp at Cx
 refine zr [(0,.val (dM a0)),(3,.ref 3 [] true (dM s2.1)),(4,.val (i64 s2.2)),(5,.ref 5 [] true (dI (s9.1 ++ [v15]))),(6,.val (i64 s9.2))] ?_ ?_
 ·simp [By,Bz,B0,B1,B2,B3,B4,B5,Du,Cx]
 refine hK13 _ ?_
 refine zr [(0,.val (dM a0)),(3,.ref 3 [] true (dM s2.1)),(4,.val (i64 s2.2)),(5,.ref 5 [] true (dI (s9.1 ++ [v15]))),(6,.val (i64 (w64 (s9.2 + 1))))] ?_ ?_
 ·simp
 cases Ai
 exact ⟨_,rfl,Fits.of rfl⟩

theorem s_l03Next_ok {a0 : Int} {a1 : List Int} {r : Bool × (List Int)} (h : s_l03Next a0 a1 = some r) :
  VMutZ Try.prog 50 (dI a1) [i64 a0] [.bool r.1] (dI r.2) := by
 unfold s_l03Next at h
 refine VMutZ.enter Try.call50 Try.func50 rfl 28 Try.ntmps50 (by simp) 2 rfl [.tmp 4] rfl ?_
 show VW _ _ _ (mk [(0,.val (i64 a0)),(1,.ref 1 [] true (dI a1))]) _
 refine zs [(0,.val (i64 a0)),(1,.ref 1 [] true (dI a1))] ?_ ?_
 ·simp
 refine VW.sqc fun K1 hK1 hCK1 => ?_
 refine zs [(0,.val (i64 a0)),(1,.ref 1 [] true (dI a1)),(5,.val (i64 (w64 ((a1.length : Int) - 1))))] ?_ ?_
 ·simp
 obtain ⟨x2,L,h⟩ := bind_some h
 refine VW.tlO (fun y4 => [(1,.ref 1 [] true (dI y4))]) x2 (hCK1) ?_ ?_
 ·clear L
  rintro y4 rfl
  dsimp only at h
  refine hK1 _ ?_
  refine zs [(1,.ref 1 [] true (dI y4)),(4,.val (.bool false))] ?_ ?_
  ·simp
  cases h
  refine VW.ret ?_
  exact PostZx.r ⟨⟨_,rfl,rfl,rfl⟩,_,_,rfl⟩
 refine VW.block ?_
 refine VW.loopF (s_l03Next_L0 a0) (fun s2 => [(0,.val (i64 a0)),(1,.ref 1 [] true (dI s2.1)),(5,.val (i64 s2.2))]) L (Fits.of rfl) ?_
 clear L
 intro s2 ox2 A R
 unfold s_l03Next_L0 at A
 refine VW.sqc fun K5 hK5 hCK5 => ?_
 refine zs [(0,.val (i64 a0)),(1,.ref 1 [] true (dI s2.1)),(5,.val (i64 s2.2)),(10,.val (.bool (ile 0 s2.2)))] ?_ ?_
 ·simp
 refine VW.cond rfl (fun E => ?_) (fun E => ?_)
 rotate_left
 ·
  replace E : ¬ (0 ≤ s2.2) := by simpa [ieq,ilt,ile] using E
  rw [if_neg E] at A
  refine VW.exit ?_
  cases A
  have hq := R _ rfl
  subst hq
  exact ⟨_,rfl,Fits.of rfl⟩
 replace E : 0 ≤ s2.2 := by simpa [ieq,ilt,ile] using E
 rw [if_pos E] at A
 refine VW.skip ?_
 refine hK5 _ ?_
 refine VW.sqc fun K7 hK7 hCK7 => ?_
 refine VW.block ?_
 obtain ⟨v8,Bv,A⟩ := bind_some A
 obtain ⟨Bd,Be,Bf,Bg⟩ := idx_some Bv
 refine zs [(0,.val (i64 a0)),(1,.ref 1 [] true (dI (s2.1.set s2.2.toNat (w64 (v8 + 1))))),(5,.val (i64 s2.2))] ?_ ?_
 ·simp [Bd,Be,Bf,Bg]
 refine VW.sqc fun K9 hK9 hCK9 => ?_
 obtain ⟨l10,Fb,A⟩ := bind_some A
 rw [Option.some.inj Fb]
 obtain ⟨v11,Ah,A⟩ := bind_some A
 obtain ⟨S,G,H,I⟩ := idx_some Ah
 refine zs [(0,.val (i64 a0)),(1,.ref 1 [] true (dI l10)),(5,.val (i64 s2.2)),(24,.val (.bool (ilt v11 a0)))] ?_ ?_
 ·simp [S,G,H,I]
 refine VW.cond rfl (fun Q => ?_) (fun Q => ?_)
 ·
  replace Q : v11 < a0 := by simpa [ieq,ilt,ile] using Q
  rw [if_pos Q] at A
  refine zs [(1,.ref 1 [] true (dI l10)),(4,.val (.bool true))] ?_ ?_
  ·simp
  cases A
  have hq := R _ rfl
  subst hq
  dsimp only at h
  cases h
  refine VW.ret ?_
  exact PostZx.r ⟨⟨_,rfl,rfl,rfl⟩,_,_,rfl⟩
 replace Q : ¬ (v11 < a0) := by simpa [ieq,ilt,ile] using Q
 rw [if_neg Q] at A
 refine VW.skip ?_
 refine hK9 _ ?_
 refine zr [(0,.val (i64 a0)),(1,.ref 1 [] true (dI (l10.set s2.2.toNat 0))),(5,.val (i64 s2.2))] ?_ ?_
 ·simp [S,G,H,I]
 refine hK7 _ ?_
 refine zr [(0,.val (i64 a0)),(1,.ref 1 [] true (dI (l10.set s2.2.toNat 0))),(5,.val (i64 (w64 (s2.2 - 1))))] ?_ ?_
 ·simp
 cases A
 exact ⟨_,rfl,Fits.of rfl⟩

theorem s_l03Pair_ok {a0_0 : Int} {a0_1 : List Int} {a1 : List Int} {a2 : List Int} {r : Int} (h : s_l03Pair a0_0 a0_1 a1 a2 = some r) :
  VCall Try.prog 51 [.agg [i64 a0_0,dI a0_1],dI a1,dI a2] [.sc (i64 r)] := by
 unfold s_l03Pair at h
 refine VCall.enter Try.call51 Try.func51 rfl 39 Try.ntmps51 (by simp) [.tmp 6] rfl ?_
 show VW _ _ _ (mk [(0,.val (.agg [i64 a0_0,dI a0_1])),(1,.val (dI a1)),(2,.val (dI a2))]) _
 refine zs [(1,.val (dI a1)),(2,.val (dI a2)),(3,.val (.ptr [i64 a0_0,dI a0_1]))] ?_ ?_
 ·simp
 refine zs [(1,.val (dI a1)),(2,.val (dI a2)),(3,.val (.ptr [i64 a0_0,dI a0_1])),(7,.val (i64 0))] ?_ ?_
 ·simp
 refine VW.sqc fun K1 hK1 hCK1 => ?_
 refine zs [(1,.val (dI a1)),(2,.val (dI a2)),(3,.val (.ptr [i64 a0_0,dI a0_1])),(7,.val (i64 0)),(8,.val (i64 0))] ?_ ?_
 ·simp
 obtain ⟨x2,L,h⟩ := bind_some h
 refine VW.tlE [(7,.val (i64 x2))] (hCK1) ?_ ?_
 ·clear L
  refine hK1 _ ?_
  refine zs [(6,.val (i64 x2))] ?_ ?_
  ·simp
  cases h
  refine VW.ret ?_
  simp [Post,PostM,PostC,PostC2,Nx,Bk]
 refine VW.block ?_
 refine VW.loopF (s_l03Pair_L0 a0_0 a0_1 a1 a2) (fun s2 => [(1,.val (dI a1)),(2,.val (dI a2)),(3,.val (.ptr [i64 a0_0,dI a0_1])),(7,.val (i64 s2.1)),(8,.val (i64 s2.2))]) L (Fits.of rfl) ?_
 clear L
 intro s2 ox2 A R
 unfold s_l03Pair_L0 at A
 refine VW.sqc fun K4 hK4 hCK4 => ?_
 refine zs [(1,.val (dI a1)),(2,.val (dI a2)),(3,.val (.ptr [i64 a0_0,dI a0_1])),(7,.val (i64 s2.1)),(8,.val (i64 s2.2)),(12,.val (.bool (ilt s2.2 (a1.length : Int))))] ?_ ?_
 ·simp
 refine VW.cond rfl (fun M => ?_) (fun M => ?_)
 rotate_left
 ·
  replace M : ¬ (s2.2 < (a1.length : Int)) := by simpa [ieq,ilt,ile] using M
  rw [if_neg M] at A
  refine VW.exit ?_
  cases A
  have hq := R _ rfl
  subst hq
  exact Fits.of rfl
 replace M : s2.2 < (a1.length : Int) := by simpa [ieq,ilt,ile] using M
 rw [if_pos M] at A
 refine VW.skip ?_
 refine hK4 _ ?_
 refine VW.sqc fun K6 hK6 hCK6 => ?_
 refine VW.block ?_
 obtain ⟨v7,Au,A⟩ := bind_some A
 obtain ⟨Aj,Ak,Al,Am⟩ := idx_some Au
 obtain ⟨v8,Bv,A⟩ := bind_some A
 obtain ⟨Bd,Be,Bf,Bg⟩ := idx_some Bv
 obtain ⟨Cy,A⟩ := chk_some A
 have A2 := Cy
 try simp at A2
 obtain ⟨v10,Ac,A⟩ := bind_some A
 obtain ⟨An,Ao,Ap,Aq⟩ := idx_some Ac
 obtain ⟨Dv,A⟩ := chk_some A
 have Cz := Dv
 try simp at Cz
 refine VW.wdr tau_ok Sound.none try_mixed _ [(1,.val (dI a1)),(2,.val (dI a2)),(3,.val (.ptr [i64 a0_0,dI a0_1])),(7,.val (i64 ((w64 (s2.1 + (w64 (((w64 (v7 * v8)).tmod a0_0) * v10)))).tmod a0_0))),(8,.val (i64 s2.2))] 24 rfl (by kernel_rfl) (by rfl) ?_ ?_
 ·simp [Aj,Ak,Al,Am,Bd,Be,Bf,Bg,Cy,A2,An,Ao,Ap,Aq,Dv,Cz]
 refine hK6 _ ?_
 refine zr [(1,.val (dI a1)),(2,.val (dI a2)),(3,.val (.ptr [i64 a0_0,dI a0_1])),(7,.val (i64 ((w64 (s2.1 + (w64 (((w64 (v7 * v8)).tmod a0_0) * v10)))).tmod a0_0))),(8,.val (i64 (w64 (s2.2 + 1))))] ?_ ?_
 ·simp
 cases A
 exact ⟨_,rfl,Fits.of rfl⟩

theorem s_l01Own_ok {a0 : List Int} {r : List Int} (h : s_l01Own a0 = some r) :
  VCall Try.prog 53 [dI a0] [.own true (dI r)] := by
 unfold s_l01Own at h
 refine VCall.enter Try.call53 Try.func53 rfl 6 Try.ntmps53 (by simp) [.tmp 2] rfl ?_
 show VW _ _ _ (mk [(0,.val (dI a0))]) _
 refine zs [(0,.val (dI a0))] ?_ ?_
 ·simp
 obtain ⟨Fr,h⟩ := chk_some h
 have Dw := Fr
 try simp at Dw
 refine zs [(2,.ref 2 [] true (dI (([] : List Int) ++ a0)))] ?_ ?_
 ·simp [Fr,Dw]
 cases h
 refine VW.ret ?_
 simp [Post,PostM,PostC,PostC2,Nx,Bk]

theorem s_l01Own2_ok {a0 : List (List Int)} {r : List (List Int)} (h : s_l01Own2 a0 = some r) :
  VCall Try.prog 52 [dM a0] [.own true (dM r)] := by
 unfold s_l01Own2 at h
 refine VCall.enter Try.call52 Try.func52 rfl 21 Try.ntmps52 (by simp) [.tmp 2] rfl ?_
 show VW _ _ _ (mk [(0,.val (dM a0))]) _
 refine zs [(0,.val (dM a0))] ?_ ?_
 ·simp
 refine zs [(0,.val (dM a0)),(3,.ref 3 [] true (dM []))] ?_ ?_
 ·simp
 refine VW.sqc fun K1 hK1 hCK1 => ?_
 refine zs [(0,.val (dM a0)),(3,.ref 3 [] true (dM [])),(4,.val (i64 0))] ?_ ?_
 ·simp
 obtain ⟨x2,L,h⟩ := bind_some h
 refine VW.tlE [(3,.ref 3 [] true (dM x2))] (hCK1) ?_ ?_
 ·clear L
  refine hK1 _ ?_
  refine zs [(2,.ref 2 [] true (dM x2))] ?_ ?_
  ·simp
  cases h
  refine VW.ret ?_
  simp [Post,PostM,PostC,PostC2,Nx,Bk]
 refine VW.block ?_
 refine VW.loopF (s_l01Own2_L0 a0) (fun s2 => [(0,.val (dM a0)),(3,.ref 3 [] true (dM s2.1)),(4,.val (i64 s2.2))]) L (Fits.of rfl) ?_
 clear L
 intro s2 ox2 A R
 unfold s_l01Own2_L0 at A
 refine VW.sqc fun K4 hK4 hCK4 => ?_
 refine zs [(0,.val (dM a0)),(3,.ref 3 [] true (dM s2.1)),(4,.val (i64 s2.2)),(9,.val (.bool (ilt s2.2 (a0.length : Int))))] ?_ ?_
 ·simp
 refine VW.cond rfl (fun M => ?_) (fun M => ?_)
 rotate_left
 ·
  replace M : ¬ (s2.2 < (a0.length : Int)) := by simpa [ieq,ilt,ile] using M
  rw [if_neg M] at A
  refine VW.exit ?_
  cases A
  have hq := R _ rfl
  subst hq
  exact Fits.of rfl
 replace M : s2.2 < (a0.length : Int) := by simpa [ieq,ilt,ile] using M
 rw [if_pos M] at A
 refine VW.skip ?_
 refine hK4 _ ?_
 refine VW.sqc fun K6 hK6 hCK6 => ?_
 refine VW.block ?_
 obtain ⟨v7,Au,A⟩ := bind_some A
 obtain ⟨Aj,Ak,Al,Am⟩ := idx_some Au
 obtain ⟨v8,Bv,A⟩ := bind_some A
 obtain ⟨Cy,A⟩ := chk_some A
 have A2 := Cy
 try simp at A2
 refine VW.wr tau_ok (Sound.none.add 17 (s_l01Own_ok Bv) rfl) _ [(0,.val (dM a0)),(3,.ref 3 [] true (dM (s2.1 ++ [v8]))),(4,.val (i64 s2.2))] rfl ?_ ?_
 ·simp [Aj,Ak,Al,Am,Cy,A2]
 refine hK6 _ ?_
 refine zr [(0,.val (dM a0)),(3,.ref 3 [] true (dM (s2.1 ++ [v8]))),(4,.val (i64 (w64 (s2.2 + 1))))] ?_ ?_
 ·simp
 cases A
 exact ⟨_,rfl,Fits.of rfl⟩

theorem s_l08Grow_b_ok {self : Int → (List Int) → (List (List Int)) → (List (List (List Int))) → Option (List (List (List Int)))} (hself : ∀ {a0_0 a0_1 a1 a2} {r : List (List (List Int))},self a0_0 a0_1 a1 a2 = some r → VTkW Try.prog 22 [.agg [i64 a0_0,dI a0_1],dM a1] (a2.map dM) (r.map dM)) {a0_0 : Int} {a0_1 : List Int} {a1 : List (List Int)} {a2 : List (List (List Int))} {r : List (List (List Int))} (h : s_l08Grow_b self a0_0 a0_1 a1 a2 = some r) :
  VTkW Try.prog 22 [.agg [i64 a0_0,dI a0_1],dM a1] (a2.map dM) (r.map dM) := by
 unfold s_l08Grow_b at h
 refine VTkW.enter Try.call22 Try.func22 rfl 68 Try.ntmps22 (by simp) 6 rfl ?_
 show VW _ _ _ (mk [(0,.val (.agg [i64 a0_0,dI a0_1])),(1,.val (dM a1)),(2,.ref 2 [] false (dC a2))]) _
 refine zs [(1,.val (dM a1)),(2,.ref 2 [] false (dC a2)),(3,.val (.ptr [i64 a0_0,dI a0_1]))] ?_ ?_
 ·simp
 refine VW.sqc fun K1 hK1 hCK1 => ?_
 refine zs [(1,.val (dM a1)),(2,.ref 2 [] false (dC a2)),(3,.val (.ptr [i64 a0_0,dI a0_1])),(15,.val (.bool (ieq (a1.length : Int) (a0_1.length : Int))))] ?_ ?_
 ·simp
 refine VW.cond rfl (fun P => ?_) (fun P => ?_)
 ·
  replace P : (a1.length : Int) = (a0_1.length : Int) := by simpa [ieq,ilt,ile] using P
  rw [if_pos P] at h
  obtain ⟨v3,Cn,h⟩ := bind_some h
  obtain ⟨Fs,h⟩ := chk_some h
  have Dx := Fs
  try simp at Dx
  refine VW.ws tau_ok (Sound.none.add 18 (s_l02Turn_ok Cn) rfl) _ [(6,.ref 6 [] false (dC (a2 ++ [v3])))] rfl ?_ ?_
  ·simp [Fs,Dx]
  cases h
  refine VW.ret ?_
  simp [Post,PostM,PostC,PostC2,Nx,Bk]
 replace P : ¬ ((a1.length : Int) = (a0_1.length : Int)) := by simpa [ieq,ilt,ile] using P
 rw [if_neg P] at h
 refine VW.skip ?_
 refine hK1 _ ?_
 obtain ⟨Ft,h⟩ := chk_some h
 have Dy := Ft
 try simp at Dy
 refine zs [(1,.val (dM a1)),(2,.ref 2 [] false (dC a2)),(3,.val (.ptr [i64 a0_0,dI a0_1])),(7,.ref 7 [] true (dI (List.replicate (a0_1.length : Int).toNat 0)))] ?_ ?_
 ·simp [Ft,Dy]
 refine VW.sqc fun K6 hK6 hCK6 => ?_
 obtain ⟨x7,Fc,h⟩ := bind_some h
 refine VW.tlE [(2,.ref 2 [] false (dC x7))] (hCK6) ?_ ?_
 ·clear Fc
  refine hK6 _ ?_
  refine zs [(6,.ref 6 [] false (dC x7))] ?_ ?_
  ·simp
  cases h
  refine VW.ret ?_
  simp [Post,PostM,PostC,PostC2,Nx,Bk]
 refine VW.block ?_
 refine VW.loopF (s_l08Grow_L0 a0_0 a0_1 a1 self) (fun s7 => [(1,.val (dM a1)),(2,.ref 2 [] false (dC s7.1)),(3,.val (.ptr [i64 a0_0,dI a0_1])),(7,.ref 7 [] true (dI s7.2))]) Fc (Fits.of rfl) ?_
 clear Fc
 intro s7 ox7 O Fd
 unfold s_l08Grow_L0 at O
 refine VW.sqc fun K9 hK9 hCK9 => ?_
 obtain ⟨v10,Ac,O⟩ := bind_some O
 refine VW.mid tau_ok Sound.none _ 3 [(1,.val (dM a1)),(2,.ref 2 [] false (dC s7.1)),(3,.val (.ptr [i64 a0_0,dI a0_1])),(7,.ref 7 [] true (dI s7.2)),(26,.val (i64 a0_0)),(27,.ref 7 [] true (dI s7.2))] _ (fun _ => [(1,.val (dM a1)),(2,.ref 2 [] false (dC s7.1)),(3,.val (.ptr [i64 a0_0,dI a0_1])),(7,.ref 7 [] true (dI v10.2)),(28,.val (.bool v10.1))]) (fun _ => True) _ rfl rfl rfl ?_ (step_mutZ rfl rfl rfl (by simp) rfl rfl (s_l03Next_ok Ac)) (fun _ _ => ?_) (fun _ _ => ?_)
 ·simp
 ·simp
 refine VW.cond rfl (fun X => ?_) (fun X => ?_)
 rotate_left
 ·
  replace X : ¬ (v10.1 = true) := by simpa [ieq,ilt,ile] using X
  rw [if_neg X] at O
  refine VW.exit ?_
  cases O
  have hq := Fd _ rfl
  subst hq
  exact Fits.of rfl
 replace X : v10.1 = true := by simpa [ieq,ilt,ile] using X
 rw [if_pos X] at O
 refine VW.skip ?_
 refine hK9 _ ?_
 refine VW.block ?_
 obtain ⟨v12,A1,O⟩ := bind_some O
 obtain ⟨v13,Fe,O⟩ := bind_some O
 obtain ⟨Dz,B6,B7,B8⟩ := idx_some Fe
 replace B6 : a1.length < a0_1.length := B6
 replace B7 : a0_1[a1.length]? = some v13 := B7
 replace B8 : ∀ h,a0_1[a1.length]'h = v13 := B8
 refine VW.wds tau_ok (Sound.none.add 32 (s_l03Pair_ok A1) rfl) try_mixed _ [(1,.val (dM a1)),(2,.ref 2 [] false (dC s7.1)),(3,.val (.ptr [i64 a0_0,dI a0_1])),(7,.ref 7 [] true (dI v10.2)),(8,.val (.bool (ieq v12 v13)))] 12 rfl (by kernel_rfl) (by rfl) ?_ ?_
 ·simp [Dz,B6,B7,B8]
 refine VW.sqc fun K14 hK14 hCK14 => ?_
 refine zs [(1,.val (dM a1)),(2,.ref 2 [] false (dC s7.1)),(3,.val (.ptr [i64 a0_0,dI a0_1])),(7,.ref 7 [] true (dI v10.2)),(8,.val (.bool (ieq v12 v13))),(9,.val (i64 0))] ?_ ?_
 ·simp
 obtain ⟨x15,Df,O⟩ := bind_some O
 refine VW.tlE [(1,.val (dM a1)),(2,.ref 2 [] false (dC s7.1)),(3,.val (.ptr [i64 a0_0,dI a0_1])),(7,.ref 7 [] true (dI v10.2)),(8,.val (.bool x15))] (hCK14) ?_ ?_
 ·clear Df
  refine hK14 _ ?_
  refine zs [(1,.val (dM a1)),(2,.ref 2 [] false (dC s7.1)),(3,.val (.ptr [i64 a0_0,dI a0_1])),(7,.ref 7 [] true (dI v10.2)),(57,.val (.bool x15))] ?_ ?_
  ·simp
  refine VW.cond rfl (fun Z => ?_) (fun Z => ?_)
  rotate_left
  ·
   replace Z : ¬ (x15 = true) := by simpa [ieq,ilt,ile] using Z
   rw [if_neg Z] at O
   refine VW.skip ?_
   cases O
   exact ⟨_,rfl,Fits.of rfl⟩
  replace Z : x15 = true := by simpa [ieq,ilt,ile] using Z
  rw [if_pos Z] at O
  obtain ⟨v25,Dg,O⟩ := bind_some O
  obtain ⟨v26,B9,O⟩ := bind_some O
  obtain ⟨Cp,O⟩ := chk_some O
  have Bt := Cp
  try simp at Bt
  obtain ⟨v28,Dh,O⟩ := bind_some O
  refine VW.dxr2 tau_ok ((Sound.none.add 60 (s_l01Own2_ok Dg) rfl).add 62 (s_l01Own_ok B9) rfl) try_mixed [some 58,some 59,some 60,some 61,some 62,some 63,some 64,some 65,some 66,some 2] 8 [(1,.val (dM a1)),(3,.val (.ptr [i64 a0_0,dI a0_1])),(7,.ref 7 [] true (dI v10.2)),(58,.val (.agg [i64 a0_0,dI a0_1])),(64,.ref 64 [] true (dM (v25 ++ [v26]))),(65,.ref 2 [] false (dC s7.1))] _ [(1,.val (dM a1)),(3,.val (.ptr [i64 a0_0,dI a0_1])),(7,.ref 7 [] true (dI v10.2)),(66,.ref 66 [] false (dC v28))] [(1,.val (dM a1)),(2,.ref 2 [] false (dC v28)),(3,.val (.ptr [i64 a0_0,dI a0_1])),(7,.ref 7 [] true (dI v10.2))] [1,0,0,0,0,2,2,0,3,3] [[3],[1],[59],[7],[61],[62],[60,63],[2],[58,64,65],[66]] [60,62,63,64] _ _ rfl rfl rfl rfl rfl rfl (by kernel_rfl) (by kernel_rfl) (by rfl) ?_ (OStep.fits (f1 := [(1,.val (dM a1)),(3,.val (.ptr [i64 a0_0,dI a0_1])),(7,.ref 7 [] true (dI v10.2)),(58,.val (.agg [i64 a0_0,dI a0_1])),(64,.val (dM (v25 ++ [v26]))),(65,.ref 2 [] false (dC s7.1))]) (Fits.freeze (s := 64) rfl (by simp) (Fits.of rfl)) (step_tkw' rfl rfl rfl (by simp) rfl (by simp) rfl (hself Dh))) ?_ ?_ ?_
  ·simp [Cp,Bt]
  ·simp [Cp,Bt]
  ·simp [Cp,Bt]
  cases O
  exact ⟨_,rfl,Fits.of rfl⟩
 refine VW.block ?_
 refine VW.loopF (s_l08Grow_L1 a0_0 a0_1 a1 v10) (fun s15 => [(1,.val (dM a1)),(2,.ref 2 [] false (dC s7.1)),(3,.val (.ptr [i64 a0_0,dI a0_1])),(7,.ref 7 [] true (dI v10.2)),(8,.val (.bool s15.1)),(9,.val (i64 s15.2))]) Df (Fits.of rfl) ?_
 clear Df
 intro s15 ox15 V D0
 unfold s_l08Grow_L1 at V
 refine VW.sqc fun K17 hK17 hCK17 => ?_
 obtain ⟨x19,Cq,V⟩ := bind_some V
 refine VW.cut [(1,.val (dM a1)),(2,.ref 2 [] false (dC s7.1)),(3,.val (.ptr [i64 a0_0,dI a0_1])),(7,.ref 7 [] true (dI v10.2)),(8,.val (.bool s15.1)),(9,.val (i64 s15.2)),(46,.val (.bool x19))] ?_ fun hy => ?_
 rotate_left
 ·clear V
  by_cases Cr : s15.2 < (a1.length : Int)
  ·rw [if_pos Cr] at Cq
   have A3 : ilt s15.2 (a1.length : Int) = true := by simpa [ieq,ilt,ile] using Cr
   have A4 := A3
   try simp at A4
   cases Cq
   refine VW.ws tau_ok Sound.none _ _ rfl ?_ hy
   simp [A3,A4]
  ·rw [if_neg Cr] at Cq
   have A3 : ilt s15.2 (a1.length : Int) = false := by simpa [ieq,ilt,ile] using Cr
   have A4 := A3
   try simp at A4
   cases Cq
   refine VW.ws tau_ok Sound.none _ _ rfl ?_ hy
   simp [A3,A4]
 refine VW.cond rfl (fun Bh => ?_) (fun Bh => ?_)
 rotate_left
 ·
  replace Bh : ¬ (x19 = true) := by simpa [ieq,ilt,ile] using Bh
  rw [if_neg Bh] at V
  refine VW.exit ?_
  cases V
  have hq := D0 _ rfl
  subst hq
  exact Fits.of rfl
 replace Bh : x19 = true := by simpa [ieq,ilt,ile] using Bh
 rw [if_pos Bh] at V
 refine VW.skip ?_
 refine hK17 _ ?_
 refine VW.sqc fun K21 hK21 hCK21 => ?_
 refine VW.block ?_
 obtain ⟨v22,Ff,V⟩ := bind_some V
 obtain ⟨D1,D2,D3,D4⟩ := idx_some Ff
 obtain ⟨v23,Fg,V⟩ := bind_some V
 refine VW.wdr tau_ok (Sound.none.add 55 (s_l03Pair_ok Fg) rfl) try_mixed _ [(1,.val (dM a1)),(2,.ref 2 [] false (dC s7.1)),(3,.val (.ptr [i64 a0_0,dI a0_1])),(7,.ref 7 [] true (dI v10.2)),(8,.val (.bool (ieq v23 0))),(9,.val (i64 s15.2))] 9 rfl (by kernel_rfl) (by rfl) ?_ ?_
 ·simp [D1,D2,D3,D4]
 refine hK21 _ ?_
 refine zr [(1,.val (dM a1)),(2,.ref 2 [] false (dC s7.1)),(3,.val (.ptr [i64 a0_0,dI a0_1])),(7,.ref 7 [] true (dI v10.2)),(8,.val (.bool (ieq v23 0))),(9,.val (i64 (w64 (s15.2 + 1))))] ?_ ?_
 ·simp
 cases V
 exact ⟨_,rfl,Fits.of rfl⟩
theorem s_l08Grow_ok : ∀ {n : Nat} {a0_0 : Int} {a0_1 : List Int} {a1 : List (List Int)} {a2 : List (List (List Int))} {r : List (List (List Int))} (_ : s_l08Grow n a0_0 a0_1 a1 a2 = some r),
  VTkW Try.prog 22 [.agg [i64 a0_0,dI a0_1],dM a1] (a2.map dM) (r.map dM)
 | 0,_,_,_,_,_,h => by cases h
 | n + 1,_,_,_,_,_,h => s_l08Grow_b_ok (fun h => s_l08Grow_ok (n := n) h) h

theorem s_AllOrthogonal_ok {a0_0 : Int} {a0_1 : List Int} {r : (List (List (List Int))) × Int} (h : s_AllOrthogonal a0_0 a0_1 = some r) :
  VCall Try.prog 7 [.agg [i64 a0_0,dI a0_1]] [.own false (dC r.1),.sc (i64 r.2)] := by
 unfold s_AllOrthogonal at h
 refine VCall.enter Try.call7 Try.func7 rfl 17 Try.ntmps7 (by simp) [.tmp 2,.tmp 3] rfl ?_
 show VW _ _ _ (mk [(0,.val (.agg [i64 a0_0,dI a0_1]))]) _
 refine zs [(1,.val (.ptr [i64 a0_0,dI a0_1]))] ?_ ?_
 ·simp
 refine VW.sqc fun K1 hK1 hCK1 => ?_
 obtain ⟨v2,Bw,h⟩ := bind_some h
 refine VW.ws tau_ok (Sound.none.add 5 (s_l03Is_ok Bw) rfl) _ [(1,.val (.ptr [i64 a0_0,dI a0_1])),(6,.val (.bool (!v2)))] rfl ?_ ?_
 ·simp
 refine VW.cond rfl (fun Aa => ?_) (fun Aa => ?_)
 ·
  replace Aa : v2 = false := by simpa [ieq,ilt,ile] using Aa
  rw [if_pos Aa] at h
  refine zs [(2,.ref 2 [] true (.list [])),(3,.val (i64 1))] ?_ ?_
  ·simp
  have D5 := Option.some.inj h
  subst D5
  refine VW.fits (fl' := [(2,.ref 2 [] false (.list [])),(3,.val (i64 1))]) (Fits.weak (s := 2) rfl (by simp) (Fits.of rfl)) ?_
  refine VW.ret ?_
  simp [Post,PostM,PostC,PostC2,Nx,Bk]
 replace Aa : ¬ (v2 = false) := by simpa [ieq,ilt,ile] using Aa
 rw [if_neg Aa] at h
 refine VW.skip ?_
 refine hK1 _ ?_
 refine VW.sqc fun K4 hK4 hCK4 => ?_
 obtain ⟨v5,Co,h⟩ := bind_some h
 refine VW.ws tau_ok (Sound.none.add 8 (s_l03Disc_ok Co) rfl) _ [(1,.val (.ptr [i64 a0_0,dI a0_1])),(9,.val (.bool (ieq v5 0)))] rfl ?_ ?_
 ·simp
 refine VW.cond rfl (fun E => ?_) (fun E => ?_)
 ·
  replace E : v5 = 0 := by simpa [ieq,ilt,ile] using E
  rw [if_pos E] at h
  refine zs [(2,.ref 2 [] true (.list [])),(3,.val (i64 5))] ?_ ?_
  ·simp
  have D5 := Option.some.inj h
  subst D5
  refine VW.fits (fl' := [(2,.ref 2 [] false (.list [])),(3,.val (i64 5))]) (Fits.weak (s := 2) rfl (by simp) (Fits.of rfl)) ?_
  refine VW.ret ?_
  simp [Post,PostM,PostC,PostC2,Nx,Bk]
 replace E : ¬ (v5 = 0) := by simpa [ieq,ilt,ile] using E
 rw [if_neg E] at h
 refine VW.skip ?_
 refine hK4 _ ?_
 refine VW.sqc fun K7 hK7 hCK7 => ?_
 obtain ⟨v8,Bv,h⟩ := bind_some h
 refine VW.ws tau_ok (Sound.none.add 11 (s_l08Count_ok Bv) rfl) _ [(1,.val (.ptr [i64 a0_0,dI a0_1])),(12,.val (.bool (ilt 500 v8)))] rfl ?_ ?_
 ·simp
 refine VW.cond rfl (fun Bb => ?_) (fun Bb => ?_)
 ·
  replace Bb : 500 < v8 := by simpa [ieq,ilt,ile] using Bb
  rw [if_pos Bb] at h
  refine zs [(2,.ref 2 [] true (.list [])),(3,.val (i64 3))] ?_ ?_
  ·simp
  have D5 := Option.some.inj h
  subst D5
  refine VW.fits (fl' := [(2,.ref 2 [] false (.list [])),(3,.val (i64 3))]) (Fits.weak (s := 2) rfl (by simp) (Fits.of rfl)) ?_
  refine VW.ret ?_
  simp [Post,PostM,PostC,PostC2,Nx,Bk]
 replace Bb : ¬ (500 < v8) := by simpa [ieq,ilt,ile] using Bb
 rw [if_neg Bb] at h
 refine VW.skip ?_
 refine hK7 _ ?_
 obtain ⟨v10,Ac,h⟩ := bind_some h
 refine VW.mid tau_ok Sound.none _ 3 [(13,.val (.agg [i64 a0_0,dI a0_1])),(14,.ref 14 [] true (dM [])),(15,.ref 15 [] true (dC []))] _ (fun _ => [(2,.ref 2 [] false (dC v10)),(3,.val (i64 0))]) (fun _ => True) _ rfl rfl rfl ?_ (OStep.fits (f1 := [(13,.val (.agg [i64 a0_0,dI a0_1])),(14,.val (dM [])),(15,.ref 15 [] true (dC []))]) (Fits.freeze (s := 14) rfl (by simp) (Fits.of rfl)) (step_tkw' rfl rfl rfl (by simp) rfl (by simp) rfl (s_l08Grow_ok (n := BIG) Ac))) (fun _ _ => ?_) (fun _ _ => ?_)
 ·simp
 ·simp
 cases h
 refine VW.ret ?_
 simp [Post,PostM,PostC,PostC2,Nx,Bk]

theorem s_CountOrthogonal_ok {a0_0 : Int} {a0_1 : List Int} {r : Int × Int} (h : s_CountOrthogonal a0_0 a0_1 = some r) :
  VCall Try.prog 9 [.agg [i64 a0_0,dI a0_1]] [.sc (i64 r.1),.sc (i64 r.2)] := by
 unfold s_CountOrthogonal at h
 refine VCall.enter Try.call9 Try.func9 rfl 12 Try.ntmps9 (by simp) [.tmp 2,.tmp 3] rfl ?_
 show VW _ _ _ (mk [(0,.val (.agg [i64 a0_0,dI a0_1]))]) _
 refine zs [(1,.val (.ptr [i64 a0_0,dI a0_1]))] ?_ ?_
 ·simp
 refine VW.sqc fun K1 hK1 hCK1 => ?_
 obtain ⟨v2,Bw,h⟩ := bind_some h
 refine VW.ws tau_ok (Sound.none.add 5 (s_l03Is_ok Bw) rfl) _ [(1,.val (.ptr [i64 a0_0,dI a0_1])),(6,.val (.bool (!v2)))] rfl ?_ ?_
 ·simp
 refine VW.cond rfl (fun Aa => ?_) (fun Aa => ?_)
 ·
  replace Aa : v2 = false := by simpa [ieq,ilt,ile] using Aa
  rw [if_pos Aa] at h
  refine zs [(2,.val (i64 0)),(3,.val (i64 1))] ?_ ?_
  ·simp
  cases h
  refine VW.ret ?_
  simp [Post,PostM,PostC,PostC2,Nx,Bk]
 replace Aa : ¬ (v2 = false) := by simpa [ieq,ilt,ile] using Aa
 rw [if_neg Aa] at h
 refine VW.skip ?_
 refine hK1 _ ?_
 refine VW.sqc fun K4 hK4 hCK4 => ?_
 obtain ⟨v5,Co,h⟩ := bind_some h
 refine VW.ws tau_ok (Sound.none.add 8 (s_l03Disc_ok Co) rfl) _ [(1,.val (.ptr [i64 a0_0,dI a0_1])),(9,.val (.bool (ieq v5 0)))] rfl ?_ ?_
 ·simp
 refine VW.cond rfl (fun E => ?_) (fun E => ?_)
 ·
  replace E : v5 = 0 := by simpa [ieq,ilt,ile] using E
  rw [if_pos E] at h
  refine zs [(2,.val (i64 0)),(3,.val (i64 5))] ?_ ?_
  ·simp
  cases h
  refine VW.ret ?_
  simp [Post,PostM,PostC,PostC2,Nx,Bk]
 replace E : ¬ (v5 = 0) := by simpa [ieq,ilt,ile] using E
 rw [if_neg E] at h
 refine VW.skip ?_
 refine hK4 _ ?_
 obtain ⟨v7,Au,h⟩ := bind_some h
 refine VW.ws tau_ok (Sound.none.add 11 (s_l08Count_ok Au) rfl) _ [(2,.val (i64 v7)),(3,.val (i64 0))] rfl ?_ ?_
 ·simp
 cases h
 refine VW.ret ?_
 simp [Post,PostM,PostC,PostC2,Nx,Bk]

theorem l_likeInts_ok {a0 : List Int} {a1 : List Int} {r : Bool} (h : l_likeInts a0 a1 = some r) :
  VCall Try.prog 26 [dI a0,dI a1] [.sc (.bool r)] := by
 unfold l_likeInts at h
 refine VCall.enter Try.call26 Try.func26 rfl 26 Try.ntmps26 (by simp) [.tmp 4] rfl ?_
 show VW _ _ _ (mk [(0,.val (dI a0)),(1,.val (dI a1))]) _
 refine zs [(0,.val (dI a0)),(1,.val (dI a1))] ?_ ?_
 ·simp
 refine VW.sqc fun K1 hK1 hCK1 => ?_
 refine zs [(0,.val (dI a0)),(1,.val (dI a1)),(10,.val (.bool (!(ieq (a0.length : Int) (a1.length : Int)))))] ?_ ?_
 ·simp
 refine VW.cond rfl (fun P => ?_) (fun P => ?_)
 ·
  replace P : ¬ (a0.length : Int) = (a1.length : Int) := by simpa [ieq,ilt,ile] using P
  rw [if_pos P] at h
  refine zs [(4,.val (.bool false))] ?_ ?_
  ·simp
  cases h
  refine VW.ret ?_
  simp [Post,PostM,PostC,PostC2,Nx,Bk]
 replace P : ¬ (¬ (a0.length : Int) = (a1.length : Int)) := by simpa [ieq,ilt,ile] using P
 rw [if_neg P] at h
 refine VW.skip ?_
 refine hK1 _ ?_
 refine VW.sqc fun K3 hK3 hCK3 => ?_
 refine zs [(0,.val (dI a0)),(1,.val (dI a1)),(5,.val (i64 0))] ?_ ?_
 ·simp
 obtain ⟨x4,Ax,h⟩ := bind_some h
 refine VW.tlO (fun y6 => []) x4 (hCK3) ?_ ?_
 ·clear Ax
  rintro y6 rfl
  dsimp only at h
  refine hK3 _ ?_
  refine zs [(4,.val (.bool true))] ?_ ?_
  ·simp
  cases h
  refine VW.ret ?_
  simp [Post,PostM,PostC,PostC2,Nx,Bk]
 refine VW.block ?_
 refine VW.loopF (l_likeInts_L0 a0 a1) (fun s4 => [(0,.val (dI a0)),(1,.val (dI a1)),(5,.val (i64 s4))]) Ax (Fits.of rfl) ?_
 clear Ax
 intro s4 ox4 C A5
 unfold l_likeInts_L0 at C
 refine VW.sqc fun K7 hK7 hCK7 => ?_
 refine zs [(0,.val (dI a0)),(1,.val (dI a1)),(5,.val (i64 s4)),(14,.val (.bool (ilt s4 (a0.length : Int))))] ?_ ?_
 ·simp
 refine VW.cond rfl (fun Ar => ?_) (fun Ar => ?_)
 rotate_left
 ·
  replace Ar : ¬ (s4 < (a0.length : Int)) := by simpa [ieq,ilt,ile] using Ar
  rw [if_neg Ar] at C
  refine VW.exit ?_
  cases C
  have hq := A5 _ rfl
  subst hq
  exact ⟨_,rfl,Fits.of rfl⟩
 replace Ar : s4 < (a0.length : Int) := by simpa [ieq,ilt,ile] using Ar
 rw [if_pos Ar] at C
 refine VW.skip ?_
 refine hK7 _ ?_
 refine VW.sqc fun K9 hK9 hCK9 => ?_
 refine VW.block ?_
 obtain ⟨v10,Ac,C⟩ := bind_some C
 obtain ⟨An,Ao,Ap,Aq⟩ := idx_some Ac
 obtain ⟨v11,Ah,C⟩ := bind_some C
 obtain ⟨S,G,H,I⟩ := idx_some Ah
 refine VW.wds tau_ok Sound.none try_mixed _ [(0,.val (dI a0)),(1,.val (dI a1)),(5,.val (i64 s4)),(25,.val (.bool (!(ieq v10 v11))))] 9 rfl (by kernel_rfl) (by rfl) ?_ ?_
 ·simp [An,Ao,Ap,Aq,S,G,H,I]
 refine VW.cond rfl (fun Q => ?_) (fun Q => ?_)
 rotate_left
 ·
  replace Q : ¬ (¬ v10 = v11) := by simpa [ieq,ilt,ile] using Q
  rw [if_neg Q] at C
  refine VW.skip ?_
  refine hK9 _ ?_
  refine zr [(0,.val (dI a0)),(1,.val (dI a1)),(5,.val (i64 (w64 (s4 + 1))))] ?_ ?_
  ·simp
  cases C
  exact ⟨_,rfl,Fits.of rfl⟩
 replace Q : ¬ v10 = v11 := by simpa [ieq,ilt,ile] using Q
 rw [if_pos Q] at C
 refine zs [(4,.val (.bool false))] ?_ ?_
 ·simp
 cases C
 have hq := A5 _ rfl
 subst hq
 dsimp only at h
 cases h
 refine VW.ret ?_
 simp [Post,PostM,PostC,PostC2,Nx,Bk]

theorem l_likeRows5_ok {a0 : List (List Int)} {a1 : List (List Int)} {r : Bool} (h : l_likeRows5 a0 a1 = some r) :
  VCall Try.prog 10 [dM a0,dM a1] [.sc (.bool r)] := by
 unfold l_likeRows5 at h
 refine VCall.enter Try.call10 Try.func10 rfl 27 Try.ntmps10 (by simp) [.tmp 4] rfl ?_
 show VW _ _ _ (mk [(0,.val (dM a0)),(1,.val (dM a1))]) _
 refine zs [(0,.val (dM a0)),(1,.val (dM a1))] ?_ ?_
 ·simp
 refine VW.sqc fun K1 hK1 hCK1 => ?_
 refine zs [(0,.val (dM a0)),(1,.val (dM a1)),(10,.val (.bool (!(ieq (a0.length : Int) (a1.length : Int)))))] ?_ ?_
 ·simp
 refine VW.cond rfl (fun P => ?_) (fun P => ?_)
 ·
  replace P : ¬ (a0.length : Int) = (a1.length : Int) := by simpa [ieq,ilt,ile] using P
  rw [if_pos P] at h
  refine zs [(4,.val (.bool false))] ?_ ?_
  ·simp
  cases h
  refine VW.ret ?_
  simp [Post,PostM,PostC,PostC2,Nx,Bk]
 replace P : ¬ (¬ (a0.length : Int) = (a1.length : Int)) := by simpa [ieq,ilt,ile] using P
 rw [if_neg P] at h
 refine VW.skip ?_
 refine hK1 _ ?_
 refine VW.sqc fun K3 hK3 hCK3 => ?_
 refine zs [(0,.val (dM a0)),(1,.val (dM a1)),(5,.val (i64 0))] ?_ ?_
 ·simp
 obtain ⟨x4,Ax,h⟩ := bind_some h
 refine VW.tlO (fun y6 => []) x4 (hCK3) ?_ ?_
 ·clear Ax
  rintro y6 rfl
  dsimp only at h
  refine hK3 _ ?_
  refine zs [(4,.val (.bool true))] ?_ ?_
  ·simp
  cases h
  refine VW.ret ?_
  simp [Post,PostM,PostC,PostC2,Nx,Bk]
 refine VW.block ?_
 refine VW.loopF (l_likeRows5_L0 a0 a1) (fun s4 => [(0,.val (dM a0)),(1,.val (dM a1)),(5,.val (i64 s4))]) Ax (Fits.of rfl) ?_
 clear Ax
 intro s4 ox4 C A5
 unfold l_likeRows5_L0 at C
 refine VW.sqc fun K7 hK7 hCK7 => ?_
 refine zs [(0,.val (dM a0)),(1,.val (dM a1)),(5,.val (i64 s4)),(14,.val (.bool (ilt s4 (a0.length : Int))))] ?_ ?_
 ·simp
 refine VW.cond rfl (fun Ar => ?_) (fun Ar => ?_)
 rotate_left
 ·
  replace Ar : ¬ (s4 < (a0.length : Int)) := by simpa [ieq,ilt,ile] using Ar
  rw [if_neg Ar] at C
  refine VW.exit ?_
  cases C
  have hq := A5 _ rfl
  subst hq
  exact ⟨_,rfl,Fits.of rfl⟩
 replace Ar : s4 < (a0.length : Int) := by simpa [ieq,ilt,ile] using Ar
 rw [if_pos Ar] at C
 refine VW.skip ?_
 refine hK7 _ ?_
 refine VW.sqc fun K9 hK9 hCK9 => ?_
 refine VW.block ?_
 obtain ⟨v10,Ac,C⟩ := bind_some C
 obtain ⟨An,Ao,Ap,Aq⟩ := idx_some Ac
 obtain ⟨v11,Ah,C⟩ := bind_some C
 obtain ⟨S,G,H,I⟩ := idx_some Ah
 obtain ⟨v12,A1,C⟩ := bind_some C
 refine VW.wds tau_ok (Sound.none.add 25 (l_likeInts_ok A1) rfl) try_mixed _ [(0,.val (dM a0)),(1,.val (dM a1)),(5,.val (i64 s4)),(26,.val (.bool (!v12)))] 10 rfl (by kernel_rfl) (by rfl) ?_ ?_
 ·simp [An,Ao,Ap,Aq,S,G,H,I]
 refine VW.cond rfl (fun Bi => ?_) (fun Bi => ?_)
 rotate_left
 ·
  replace Bi : ¬ (v12 = false) := by simpa [ieq,ilt,ile] using Bi
  rw [if_neg Bi] at C
  refine VW.skip ?_
  refine hK9 _ ?_
  refine zr [(0,.val (dM a0)),(1,.val (dM a1)),(5,.val (i64 (w64 (s4 + 1))))] ?_ ?_
  ·simp
  cases C
  exact ⟨_,rfl,Fits.of rfl⟩
 replace Bi : v12 = false := by simpa [ieq,ilt,ile] using Bi
 rw [if_pos Bi] at C
 refine zs [(4,.val (.bool false))] ?_ ?_
 ·simp
 cases C
 have hq := A5 _ rfl
 subst hq
 dsimp only at h
 cases h
 refine VW.ret ?_
 simp [Post,PostM,PostC,PostC2,Nx,Bk]

theorem i_field_isTable_ok {a0 : Int} {a1 : List (List Int)} {r : Bool} (h : i_field_isTable a0 a1 = some r) :
  VCall Try.prog 79 [i64 a0,dM a1] [.sc (.bool r)] := by
 unfold i_field_isTable at h
 refine VCall.enter Try.call79 Try.func79 rfl 40 Try.ntmps79 (by simp) [.tmp 4] rfl ?_
 show VW _ _ _ (mk [(0,.val (i64 a0)),(1,.val (dM a1))]) _
 refine zs [(0,.val (i64 a0)),(1,.val (dM a1))] ?_ ?_
 ·simp
 refine VW.sqc fun K1 hK1 hCK1 => ?_
 refine zs [(0,.val (i64 a0)),(1,.val (dM a1)),(9,.val (.bool (ilt 16 (a1.length : Int))))] ?_ ?_
 ·simp
 refine VW.cond rfl (fun P => ?_) (fun P => ?_)
 ·
  replace P : 16 < (a1.length : Int) := by simpa [ieq,ilt,ile] using P
  rw [if_pos P] at h
  refine zs [(4,.val (.bool false))] ?_ ?_
  ·simp
  cases h
  refine VW.ret ?_
  simp [Post,PostM,PostC,PostC2,Nx,Bk]
 replace P : ¬ (16 < (a1.length : Int)) := by simpa [ieq,ilt,ile] using P
 rw [if_neg P] at h
 refine VW.skip ?_
 refine hK1 _ ?_
 refine VW.sqc fun K3 hK3 hCK3 => ?_
 refine zs [(0,.val (i64 a0)),(1,.val (dM a1)),(10,.val (dM a1)),(11,.val (i64 (a1.length : Int))),(12,.val (i64 0))] ?_ ?_
 ·simp
 obtain ⟨x4,Ax,h⟩ := bind_some h
 refine VW.tlO (fun y6 => []) x4 (hCK3) ?_ ?_
 ·clear Ax
  rintro y6 rfl
  dsimp only at h
  refine hK3 _ ?_
  refine zs [(4,.val (.bool true))] ?_ ?_
  ·simp
  cases h
  refine VW.ret ?_
  simp [Post,PostM,PostC,PostC2,Nx,Bk]
 refine VW.block ?_
 refine VW.loopF (i_field_isTable_L0 a0 a1) (fun s4 => [(0,.val (i64 a0)),(1,.val (dM a1)),(10,.val (dM a1)),(11,.val (i64 (a1.length : Int))),(12,.val (i64 s4))]) Ax (Fits.of rfl) ?_
 clear Ax
 intro s4 ox4 C A5
 unfold i_field_isTable_L0 at C
 refine zs [(0,.val (i64 a0)),(1,.val (dM a1)),(10,.val (dM a1)),(11,.val (i64 (a1.length : Int))),(12,.val (i64 s4)),(13,.val (.bool (ilt s4 (a1.length : Int))))] ?_ ?_
 ·simp
 refine VW.sqc fun K7 hK7 hCK7 => ?_
 refine VW.cond rfl (fun Ar => ?_) (fun Ar => ?_)
 rotate_left
 ·
  replace Ar : ¬ (s4 < (a1.length : Int)) := by simpa [ieq,ilt,ile] using Ar
  rw [if_neg Ar] at C
  refine VW.exit ?_
  cases C
  have hq := A5 _ rfl
  subst hq
  exact ⟨_,rfl,Fits.of rfl⟩
 replace Ar : s4 < (a1.length : Int) := by simpa [ieq,ilt,ile] using Ar
 rw [if_pos Ar] at C
 refine VW.skip ?_
 refine hK7 _ ?_
 refine VW.sqc fun K9 hK9 hCK9 => ?_
 refine VW.block ?_
 obtain ⟨v10,Ac,C⟩ := bind_some C
 obtain ⟨An,Ao,Ap,Aq⟩ := idx_some Ac
 refine zs [(0,.val (i64 a0)),(1,.val (dM a1)),(6,.val (dI v10)),(10,.val (dM a1)),(11,.val (i64 (a1.length : Int))),(12,.val (i64 s4))] ?_ ?_
 ·simp [An,Ao,Ap,Aq]
 obtain ⟨x16,B,C⟩ := bind_some C
 refine VW.cut [(0,.val (i64 a0)),(1,.val (dM a1)),(10,.val (dM a1)),(11,.val (i64 (a1.length : Int))),(12,.val (i64 s4)),(38,.val (.bool x16))] ?_ fun hy => ?_
 rotate_left
 ·clear C
  obtain ⟨v11,Ah,B⟩ := bind_some B
  obtain ⟨S,G,H,I⟩ := idx_some Ah
  replace G : 0 < a1.length := G
  replace H : a1[0]? = some v11 := H
  replace I : ∀ h,a1[0]'h = v11 := I
  by_cases Cs : ¬ (v10.length : Int) = (v11.length : Int)
  ·rw [if_pos Cs] at B
   have As : ieq (v10.length : Int) (v11.length : Int) = false := by simpa [ieq,ilt,ile] using Cs
   have At := As
   try simp at At
   cases B
   refine VW.ws tau_ok Sound.none _ _ rfl ?_ hy
   simp [S,G,H,I,As,At]
  ·rw [if_neg Cs] at B
   have As : ieq (v10.length : Int) (v11.length : Int) = true := by simpa [ieq,ilt,ile] using Cs
   have At := As
   try simp at At
   by_cases Ab : (v10.length : Int) < 1
   ·rw [if_pos Ab] at B
    have J : ilt (v10.length : Int) 1 = true := by simpa [ieq,ilt,ile] using Ab
    have K := J
    try simp at K
    cases B
    refine VW.ws tau_ok Sound.none _ _ rfl ?_ hy
    simp [S,G,H,I,As,At,J,K]
   ·rw [if_neg Ab] at B
    have J : ilt (v10.length : Int) 1 = false := by simpa [ieq,ilt,ile] using Ab
    have K := J
    try simp at K
    by_cases Ct : 16 < (v10.length : Int)
    ·rw [if_pos Ct] at B
     have A6 : ilt 16 (v10.length : Int) = true := by simpa [ieq,ilt,ile] using Ct
     have A7 := A6
     try simp at A7
     cases B
     refine VW.ws tau_ok Sound.none _ _ rfl ?_ hy
     simp [S,G,H,I,As,At,J,K,A6,A7]
    ·rw [if_neg Ct] at B
     have A6 : ilt 16 (v10.length : Int) = false := by simpa [ieq,ilt,ile] using Ct
     have A7 := A6
     try simp at A7
     obtain ⟨v15,Bc,B⟩ := bind_some B
     cases B
     refine VW.ws tau_ok (Sound.none.add 36 (i_field_is_ok Bc) rfl) _ _ rfl ?_ hy
     simp [S,G,H,I,As,At,J,K,A6,A7]
 refine VW.cond rfl (fun F => ?_) (fun F => ?_)
 rotate_left
 ·
  replace F : ¬ (x16 = true) := by simpa [ieq,ilt,ile] using F
  rw [if_neg F] at C
  refine VW.skip ?_
  refine hK9 _ ?_
  refine zr [(0,.val (i64 a0)),(1,.val (dM a1)),(10,.val (dM a1)),(11,.val (i64 (a1.length : Int))),(12,.val (i64 (w64 (s4 + 1))))] ?_ ?_
  ·simp
  cases C
  exact ⟨_,rfl,Fits.of rfl⟩
 replace F : x16 = true := by simpa [ieq,ilt,ile] using F
 rw [if_pos F] at C
 refine zs [(4,.val (.bool false))] ?_ ?_
 ·simp
 cases C
 have hq := A5 _ rfl
 subst hq
 dsimp only at h
 cases h
 refine VW.ret ?_
 simp [Post,PostM,PostC,PostC2,Nx,Bk]

theorem i_field_isMatrix_ok {a0 : Int} {a1 : List (List Int)} {r : Bool} (h : i_field_isMatrix a0 a1 = some r) :
  VCall Try.prog 68 [i64 a0,dM a1] [.sc (.bool r)] := by
 unfold i_field_isMatrix at h
 refine VCall.enter Try.call68 Try.func68 rfl 13 Try.ntmps68 (by simp) [.tmp 4] rfl ?_
 show VW _ _ _ (mk [(0,.val (i64 a0)),(1,.val (dM a1))]) _
 refine zs [(0,.val (i64 a0)),(1,.val (dM a1))] ?_ ?_
 ·simp
 obtain ⟨x3,Cm,h⟩ := bind_some h
 refine VW.cut [(4,.val (.bool x3))] ?_ fun hy => ?_
 rotate_left
 ·clear h
  by_cases E2 : 0 < (a1.length : Int)
  ·rw [if_pos E2] at Cm
   have Ca : ilt 0 (a1.length : Int) = true := by simpa [ieq,ilt,ile] using E2
   have Cb := Ca
   try simp at Cb
   obtain ⟨v2,Bw,Cm⟩ := bind_some Cm
   cases Cm
   refine VW.ws tau_ok (Sound.none.add 11 (i_field_isTable_ok Bw) rfl) _ _ rfl ?_ hy
   simp [Ca,Cb]
  ·rw [if_neg E2] at Cm
   have Ca : ilt 0 (a1.length : Int) = false := by simpa [ieq,ilt,ile] using E2
   have Cb := Ca
   try simp at Cb
   cases Cm
   refine VW.ws tau_ok Sound.none _ _ rfl ?_ hy
   simp [Ca,Cb]
 cases h
 refine VW.ret ?_
 simp [Post,PostM,PostC,PostC2,Nx,Bk]

theorem i_cloneRows_ok {a0 : List (List Int)} {r : List (List Int)} (h : i_cloneRows a0 = some r) :
  VCall Try.prog 62 [dM a0] [.own true (dM r)] := by
 unfold i_cloneRows at h
 refine VCall.enter Try.call62 Try.func62 rfl 20 Try.ntmps62 (by simp) [.tmp 2] rfl ?_
 show VW _ _ _ (mk [(0,.val (dM a0))]) _
 refine zs [(0,.val (dM a0))] ?_ ?_
 ·simp
 refine zs [(0,.val (dM a0)),(3,.ref 3 [] true (dM []))] ?_ ?_
 ·simp
 refine VW.sqc fun K1 hK1 hCK1 => ?_
 refine zs [(3,.ref 3 [] true (dM [])),(7,.val (dM a0)),(8,.val (i64 (a0.length : Int))),(9,.val (i64 0))] ?_ ?_
 ·simp
 obtain ⟨x2,L,h⟩ := bind_some h
 refine VW.tlE [(3,.ref 3 [] true (dM x2))] (hCK1) ?_ ?_
 ·clear L
  refine hK1 _ ?_
  refine zs [(2,.ref 2 [] true (dM x2))] ?_ ?_
  ·simp
  cases h
  refine VW.ret ?_
  simp [Post,PostM,PostC,PostC2,Nx,Bk]
 refine VW.block ?_
 refine VW.loopF (i_cloneRows_L0 a0) (fun s2 => [(3,.ref 3 [] true (dM s2.1)),(7,.val (dM a0)),(8,.val (i64 (a0.length : Int))),(9,.val (i64 s2.2))]) L (Fits.of rfl) ?_
 clear L
 intro s2 ox2 A R
 unfold i_cloneRows_L0 at A
 refine zs [(3,.ref 3 [] true (dM s2.1)),(7,.val (dM a0)),(8,.val (i64 (a0.length : Int))),(9,.val (i64 s2.2)),(10,.val (.bool (ilt s2.2 (a0.length : Int))))] ?_ ?_
 ·simp
 refine VW.sqc fun K4 hK4 hCK4 => ?_
 refine VW.cond rfl (fun M => ?_) (fun M => ?_)
 rotate_left
 ·
  replace M : ¬ (s2.2 < (a0.length : Int)) := by simpa [ieq,ilt,ile] using M
  rw [if_neg M] at A
  refine VW.exit ?_
  cases A
  have hq := R _ rfl
  subst hq
  exact Fits.of rfl
 replace M : s2.2 < (a0.length : Int) := by simpa [ieq,ilt,ile] using M
 rw [if_pos M] at A
 refine VW.skip ?_
 refine hK4 _ ?_
 refine VW.sqc fun K6 hK6 hCK6 => ?_
 refine VW.block ?_
 obtain ⟨v7,Au,A⟩ := bind_some A
 obtain ⟨Aj,Ak,Al,Am⟩ := idx_some Au
 refine zs [(3,.ref 3 [] true (dM s2.1)),(5,.val (dI v7)),(7,.val (dM a0)),(8,.val (i64 (a0.length : Int))),(9,.val (i64 s2.2))] ?_ ?_
 ·simp [Aj,Ak,Al,Am]
 obtain ⟨v8,Bv,A⟩ := bind_some A
 obtain ⟨Cy,A⟩ := chk_some A
 have A2 := Cy
 try simp at A2
 refine VW.wr tau_ok (Sound.none.add 15 (g_slices_Clone_LI_I_ok Bv) rfl) _ [(3,.ref 3 [] true (dM (s2.1 ++ [v8]))),(7,.val (dM a0)),(8,.val (i64 (a0.length : Int))),(9,.val (i64 s2.2))] rfl ?_ ?_
 ·simp [Cy,A2]
 refine hK6 _ ?_
 refine zr [(3,.ref 3 [] true (dM (s2.1 ++ [v8]))),(7,.val (dM a0)),(8,.val (i64 (a0.length : Int))),(9,.val (i64 (w64 (s2.2 + 1))))] ?_ ?_
 ·simp
 cases A
 exact ⟨_,rfl,Fits.of rfl⟩

theorem i_field_pow_ok {a0 : Int} {a1 : Int} {a2 : Int} {r : Int} (h : i_field_pow a0 a1 a2 = some r) :
  VCall Try.prog 77 [i64 a0,i64 a1,i64 a2] [.sc (i64 r)] := by
 unfold i_field_pow at h
 refine VCall.enter Try.call77 Try.func77 rfl 18 Try.ntmps77 (by simp) [.tmp 6] rfl ?_
 show VW _ _ _ (mk [(0,.val (i64 a0)),(1,.val (i64 a1)),(2,.val (i64 a2))]) _
 refine zs [(0,.val (i64 a0)),(1,.val (i64 a1)),(2,.val (i64 a2))] ?_ ?_
 ·simp
 refine zs [(0,.val (i64 a0)),(1,.val (i64 a1)),(2,.val (i64 a2)),(7,.val (i64 1))] ?_ ?_
 ·simp
 refine VW.sqc fun K1 hK1 hCK1 => ?_
 refine zs [(0,.val (i64 a0)),(1,.val (i64 a1)),(7,.val (i64 1)),(8,.val (i64 a2)),(9,.val (i64 0))] ?_ ?_
 ·simp
 obtain ⟨x2,L,h⟩ := bind_some h
 refine VW.tlE [(7,.val (i64 x2))] (hCK1) ?_ ?_
 ·clear L
  refine hK1 _ ?_
  refine zs [(6,.val (i64 x2))] ?_ ?_
  ·simp
  cases h
  refine VW.ret ?_
  simp [Post,PostM,PostC,PostC2,Nx,Bk]
 refine VW.block ?_
 refine VW.loopF (i_field_pow_L0 a0 a1 a2) (fun s2 => [(0,.val (i64 a0)),(1,.val (i64 a1)),(7,.val (i64 s2.1)),(8,.val (i64 a2)),(9,.val (i64 s2.2))]) L (Fits.of rfl) ?_
 clear L
 intro s2 ox2 A R
 unfold i_field_pow_L0 at A
 refine zs [(0,.val (i64 a0)),(1,.val (i64 a1)),(7,.val (i64 s2.1)),(8,.val (i64 a2)),(9,.val (i64 s2.2)),(10,.val (.bool (ilt s2.2 a2)))] ?_ ?_
 ·simp
 refine VW.sqc fun K4 hK4 hCK4 => ?_
 refine VW.cond rfl (fun M => ?_) (fun M => ?_)
 rotate_left
 ·
  replace M : ¬ (s2.2 < a2) := by simpa [ieq,ilt,ile] using M
  rw [if_neg M] at A
  refine VW.exit ?_
  cases A
  have hq := R _ rfl
  subst hq
  exact Fits.of rfl
 replace M : s2.2 < a2 := by simpa [ieq,ilt,ile] using M
 rw [if_pos M] at A
 refine VW.skip ?_
 refine hK4 _ ?_
 refine VW.sqc fun K6 hK6 hCK6 => ?_
 refine VW.block ?_
 obtain ⟨v7,Au,A⟩ := bind_some A
 refine VW.wr tau_ok (Sound.none.add 15 (i_field_num_ok Au) rfl) _ [(0,.val (i64 a0)),(1,.val (i64 a1)),(7,.val (i64 v7)),(8,.val (i64 a2)),(9,.val (i64 s2.2))] rfl ?_ ?_
 ·simp
 refine hK6 _ ?_
 refine zr [(0,.val (i64 a0)),(1,.val (i64 a1)),(7,.val (i64 v7)),(8,.val (i64 a2)),(9,.val (i64 (w64 (s2.2 + 1))))] ?_ ?_
 ·simp
 cases A
 exact ⟨_,rfl,Fits.of rfl⟩

theorem i_field_inv_ok {a0 : Int} {a1 : Int} {r : Int} (h : i_field_inv a0 a1 = some r) :
  VCall Try.prog 65 [i64 a0,i64 a1] [.sc (i64 r)] := by
 unfold i_field_inv at h
 refine VCall.enter Try.call65 Try.func65 rfl 10 Try.ntmps65 (by simp) [.tmp 4] rfl ?_
 show VW _ _ _ (mk [(0,.val (i64 a0)),(1,.val (i64 a1))]) _
 refine zs [(0,.val (i64 a0)),(1,.val (i64 a1))] ?_ ?_
 ·simp
 obtain ⟨v1,Di,h⟩ := bind_some h
 refine VW.ws tau_ok (Sound.none.add 9 (i_field_pow_ok Di) rfl) _ [(4,.val (i64 v1))] rfl ?_ ?_
 ·simp
 cases h
 refine VW.ret ?_
 simp [Post,PostM,PostC,PostC2,Nx,Bk]

theorem i_field_plus_ok {a0 : Int} {a1 : List Int} {a2 : List Int} {a3 : Int} {r : List Int} (h : i_field_plus a0 a1 a2 a3 = some r) :
  VCall Try.prog 64 [i64 a0,dI a1,dI a2,i64 a3] [.own true (dI r)] := by
 unfold i_field_plus at h
 refine VCall.enter Try.call64 Try.func64 rfl 35 Try.ntmps64 (by simp) [.tmp 8] rfl ?_
 show VW _ _ _ (mk [(0,.val (i64 a0)),(1,.val (dI a1)),(2,.val (dI a2)),(3,.val (i64 a3))]) _
 refine zs [(0,.val (i64 a0)),(1,.val (dI a1)),(2,.val (dI a2)),(3,.val (i64 a3))] ?_ ?_
 ·simp
 refine zs [(0,.val (i64 a0)),(1,.val (dI a1)),(2,.val (dI a2)),(3,.val (i64 a3)),(9,.ref 9 [] true (dI []))] ?_ ?_
 ·simp
 refine VW.sqc fun K1 hK1 hCK1 => ?_
 refine zs [(0,.val (i64 a0)),(2,.val (dI a2)),(3,.val (i64 a3)),(9,.ref 9 [] true (dI [])),(13,.val (dI a1)),(14,.val (i64 (a1.length : Int))),(15,.val (i64 0))] ?_ ?_
 ·simp
 obtain ⟨x2,L,h⟩ := bind_some h
 refine VW.tlE [(9,.ref 9 [] true (dI x2))] (hCK1) ?_ ?_
 ·clear L
  refine hK1 _ ?_
  refine zs [(8,.ref 8 [] true (dI x2))] ?_ ?_
  ·simp
  cases h
  refine VW.ret ?_
  simp [Post,PostM,PostC,PostC2,Nx,Bk]
 refine VW.block ?_
 refine VW.loopF (i_field_plus_L0 a0 a1 a2 a3) (fun s2 => [(0,.val (i64 a0)),(2,.val (dI a2)),(3,.val (i64 a3)),(9,.ref 9 [] true (dI s2.1)),(13,.val (dI a1)),(14,.val (i64 (a1.length : Int))),(15,.val (i64 s2.2))]) L (Fits.of rfl) ?_
 clear L
 intro s2 ox2 A R
 unfold i_field_plus_L0 at A
 refine zs [(0,.val (i64 a0)),(2,.val (dI a2)),(3,.val (i64 a3)),(9,.ref 9 [] true (dI s2.1)),(13,.val (dI a1)),(14,.val (i64 (a1.length : Int))),(15,.val (i64 s2.2)),(16,.val (.bool (ilt s2.2 (a1.length : Int))))] ?_ ?_
 ·simp
 refine VW.sqc fun K4 hK4 hCK4 => ?_
 refine VW.cond rfl (fun M => ?_) (fun M => ?_)
 rotate_left
 ·
  replace M : ¬ (s2.2 < (a1.length : Int)) := by simpa [ieq,ilt,ile] using M
  rw [if_neg M] at A
  refine VW.exit ?_
  cases A
  have hq := R _ rfl
  subst hq
  exact Fits.of rfl
 replace M : s2.2 < (a1.length : Int) := by simpa [ieq,ilt,ile] using M
 rw [if_pos M] at A
 refine VW.skip ?_
 refine hK4 _ ?_
 refine VW.sqc fun K6 hK6 hCK6 => ?_
 refine VW.block ?_
 obtain ⟨v7,Au,A⟩ := bind_some A
 obtain ⟨Aj,Ak,Al,Am⟩ := idx_some Au
 refine zs [(0,.val (i64 a0)),(2,.val (dI a2)),(3,.val (i64 a3)),(9,.ref 9 [] true (dI s2.1)),(10,.val (i64 s2.2)),(11,.val (i64 v7)),(13,.val (dI a1)),(14,.val (i64 (a1.length : Int))),(15,.val (i64 s2.2))] ?_ ?_
 ·simp [Aj,Ak,Al,Am]
 obtain ⟨v8,Bv,A⟩ := bind_some A
 obtain ⟨Bd,Be,Bf,Bg⟩ := idx_some Bv
 obtain ⟨v9,Dj,A⟩ := bind_some A
 obtain ⟨D6,A⟩ := chk_some A
 have C0 := D6
 try simp at C0
 refine VW.wr tau_ok (Sound.none.add 30 (i_field_num_ok Dj) rfl) _ [(0,.val (i64 a0)),(2,.val (dI a2)),(3,.val (i64 a3)),(9,.ref 9 [] true (dI (s2.1 ++ [v9]))),(13,.val (dI a1)),(14,.val (i64 (a1.length : Int))),(15,.val (i64 s2.2))] rfl ?_ ?_
 ·simp [Bd,Be,Bf,Bg,D6,C0]
 refine hK6 _ ?_
 refine zr [(0,.val (i64 a0)),(2,.val (dI a2)),(3,.val (i64 a3)),(9,.ref 9 [] true (dI (s2.1 ++ [v9]))),(13,.val (dI a1)),(14,.val (i64 (a1.length : Int))),(15,.val (i64 (w64 (s2.2 + 1))))] ?_ ?_
 ·simp
 cases A
 exact ⟨_,rfl,Fits.of rfl⟩

theorem i_field_determinant_ok {a0 : Int} {a1 : List (List Int)} {r : Int} (h : i_field_determinant a0 a1 = some r) :
  VCall Try.prog 29 [i64 a0,dM a1] [.sc (i64 r)] := by
 unfold i_field_determinant at h
 refine VCall.enter Try.call29 Try.func29 rfl 111 Try.ntmps29 (by simp) [.tmp 4] rfl ?_
 show VW _ _ _ (mk [(0,.val (i64 a0)),(1,.val (dM a1))]) _
 refine zs [(0,.val (i64 a0)),(1,.val (dM a1))] ?_ ?_
 ·simp
 obtain ⟨v1,Di,h⟩ := bind_some h
 refine VW.ws tau_ok (Sound.none.add 11 (i_cloneRows_ok Di) rfl) _ [(0,.val (i64 a0)),(5,.ref 5 [] true (dM v1)),(6,.val (i64 1))] rfl ?_ ?_
 ·simp
 refine VW.sqc fun K2 hK2 hCK2 => ?_
 refine zs [(0,.val (i64 a0)),(5,.ref 5 [] true (dM v1)),(6,.val (i64 1)),(13,.val (i64 (v1.length : Int))),(14,.val (i64 0))] ?_ ?_
 ·simp
 obtain ⟨x3,Cm,h⟩ := bind_some h
 refine VW.tlO (fun y5 => [(6,.val (i64 y5))]) x3 (hCK2) ?_ ?_
 ·clear Cm
  rintro y5 rfl
  dsimp only at h
  refine hK2 _ ?_
  refine zs [(4,.val (i64 y5))] ?_ ?_
  ·simp
  cases h
  refine VW.ret ?_
  simp [Post,PostM,PostC,PostC2,Nx,Bk]
 refine VW.block ?_
 refine VW.loopF (i_field_determinant_L0 a0 v1) (fun s3 => [(0,.val (i64 a0)),(5,.ref 5 [] true (dM s3.1)),(6,.val (i64 s3.2.1)),(13,.val (i64 (v1.length : Int))),(14,.val (i64 s3.2.2))]) Cm (Fits.of rfl) ?_
 clear Cm
 intro s3 ox3 U D7
 unfold i_field_determinant_L0 at U
 refine zs [(0,.val (i64 a0)),(5,.ref 5 [] true (dM s3.1)),(6,.val (i64 s3.2.1)),(13,.val (i64 (v1.length : Int))),(14,.val (i64 s3.2.2)),(15,.val (.bool (ilt s3.2.2 (v1.length : Int))))] ?_ ?_
 ·simp
 refine VW.sqc fun K6 hK6 hCK6 => ?_
 refine VW.cond rfl (fun Af => ?_) (fun Af => ?_)
 rotate_left
 ·
  replace Af : ¬ (s3.2.2 < (v1.length : Int)) := by simpa [ieq,ilt,ile] using Af
  rw [if_neg Af] at U
  refine VW.exit ?_
  cases U
  have hq := D7 _ rfl
  subst hq
  exact ⟨_,rfl,Fits.of rfl⟩
 replace Af : s3.2.2 < (v1.length : Int) := by simpa [ieq,ilt,ile] using Af
 rw [if_pos Af] at U
 refine VW.skip ?_
 refine hK6 _ ?_
 refine VW.sqc fun K8 hK8 hCK8 => ?_
 refine VW.block ?_
 refine zs [(0,.val (i64 a0)),(5,.ref 5 [] true (dM s3.1)),(6,.val (i64 s3.2.1)),(7,.val (i64 s3.2.2)),(13,.val (i64 (v1.length : Int))),(14,.val (i64 s3.2.2))] ?_ ?_
 ·simp
 refine zs [(0,.val (i64 a0)),(5,.ref 5 [] true (dM s3.1)),(6,.val (i64 s3.2.1)),(7,.val (i64 s3.2.2)),(8,.val (i64 s3.2.2)),(13,.val (i64 (v1.length : Int))),(14,.val (i64 s3.2.2))] ?_ ?_
 ·simp
 refine VW.sqc fun K9 hK9 hCK9 => ?_
 obtain ⟨x10,Dk,U⟩ := bind_some U
 refine VW.tlE [(0,.val (i64 a0)),(5,.ref 5 [] true (dM s3.1)),(6,.val (i64 s3.2.1)),(7,.val (i64 s3.2.2)),(8,.val (i64 x10)),(13,.val (i64 (v1.length : Int))),(14,.val (i64 s3.2.2))] (hCK9) ?_ ?_
 ·clear Dk
  refine hK9 _ ?_
  refine VW.sqc fun K18 hK18 hCK18 => ?_
  refine zs [(0,.val (i64 a0)),(5,.ref 5 [] true (dM s3.1)),(6,.val (i64 s3.2.1)),(7,.val (i64 s3.2.2)),(8,.val (i64 x10)),(13,.val (i64 (v1.length : Int))),(14,.val (i64 s3.2.2)),(37,.val (.bool (ieq x10 (s3.1.length : Int))))] ?_ ?_
  ·simp
  refine VW.cond rfl (fun Bj => ?_) (fun Bj => ?_)
  ·
   replace Bj : x10 = (s3.1.length : Int) := by simpa [ieq,ilt,ile] using Bj
   rw [if_pos Bj] at U
   refine zs [(4,.val (i64 0))] ?_ ?_
   ·simp
   cases U
   have hq := D7 _ rfl
   subst hq
   dsimp only at h
   cases h
   refine VW.ret ?_
   simp [Post,PostM,PostC,PostC2,Nx,Bk]
  replace Bj : ¬ (x10 = (s3.1.length : Int)) := by simpa [ieq,ilt,ile] using Bj
  rw [if_neg Bj] at U
  refine VW.skip ?_
  refine hK18 _ ?_
  refine VW.sqc fun K20 hK20 hCK20 => ?_
  refine zs [(0,.val (i64 a0)),(5,.ref 5 [] true (dM s3.1)),(6,.val (i64 s3.2.1)),(7,.val (i64 s3.2.2)),(8,.val (i64 x10)),(13,.val (i64 (v1.length : Int))),(14,.val (i64 s3.2.2)),(40,.val (.bool (!(ieq x10 s3.2.2))))] ?_ ?_
  ·simp
  obtain ⟨x21,Ad,U⟩ := bind_some U
  refine VW.tlE [(0,.val (i64 a0)),(5,.ref 5 [] true (dM x21.1)),(6,.val (i64 x21.2)),(7,.val (i64 s3.2.2)),(13,.val (i64 (v1.length : Int))),(14,.val (i64 s3.2.2))] (hCK20) ?_ ?_
  ·clear Ad
   refine hK20 _ ?_
   obtain ⟨v28,Dh,U⟩ := bind_some U
   obtain ⟨D8,D9,Ea,Eb⟩ := idx_some Dh
   obtain ⟨v29,Fh,U⟩ := bind_some U
   obtain ⟨Ec,Ed,Ee,Ef⟩ := idx_some Fh
   obtain ⟨v30,Fi,U⟩ := bind_some U
   refine VW.ws tau_ok (Sound.none.add 69 (i_field_num_ok Fi) rfl) _ [(0,.val (i64 a0)),(5,.ref 5 [] true (dM x21.1)),(6,.val (i64 v30)),(7,.val (i64 s3.2.2)),(13,.val (i64 (v1.length : Int))),(14,.val (i64 s3.2.2))] rfl ?_ ?_
   ·simp [D8,D9,Ea,Eb,Ec,Ed,Ee,Ef]
   refine zs [(0,.val (i64 a0)),(5,.ref 5 [] true (dM x21.1)),(6,.val (i64 v30)),(7,.val (i64 s3.2.2)),(9,.val (i64 (w64 (s3.2.2 + 1)))),(13,.val (i64 (v1.length : Int))),(14,.val (i64 s3.2.2))] ?_ ?_
   ·simp
   obtain ⟨x31,Dl,U⟩ := bind_some U
   refine VW.tlE [(0,.val (i64 a0)),(5,.ref 5 [] true (dM x31)),(6,.val (i64 v30)),(13,.val (i64 (v1.length : Int))),(14,.val (i64 s3.2.2))] (hCK8) ?_ ?_
   ·clear Dl
    refine hK8 _ ?_
    refine zr [(0,.val (i64 a0)),(5,.ref 5 [] true (dM x31)),(6,.val (i64 v30)),(13,.val (i64 (v1.length : Int))),(14,.val (i64 (w64 (s3.2.2 + 1))))] ?_ ?_
    ·simp
    cases U
    exact ⟨_,rfl,Fits.of rfl⟩
   refine VW.block ?_
   refine VW.loopF (i_field_determinant_L2 a0 s3) (fun s31 => [(0,.val (i64 a0)),(5,.ref 5 [] true (dM s31.1)),(6,.val (i64 v30)),(7,.val (i64 s3.2.2)),(9,.val (i64 s31.2)),(13,.val (i64 (v1.length : Int))),(14,.val (i64 s3.2.2))]) Dl (Fits.of rfl) ?_
   clear Dl
   intro s31 ox31 N Eg
   unfold i_field_determinant_L2 at N
   refine VW.sqc fun K33 hK33 hCK33 => ?_
   refine zs [(0,.val (i64 a0)),(5,.ref 5 [] true (dM s31.1)),(6,.val (i64 v30)),(7,.val (i64 s3.2.2)),(9,.val (i64 s31.2)),(13,.val (i64 (v1.length : Int))),(14,.val (i64 s3.2.2)),(75,.val (.bool (ilt s31.2 (s31.1.length : Int))))] ?_ ?_
   ·simp
   refine VW.cond rfl (fun Bl => ?_) (fun Bl => ?_)
   rotate_left
   ·
    replace Bl : ¬ (s31.2 < (s31.1.length : Int)) := by simpa [ieq,ilt,ile] using Bl
    rw [if_neg Bl] at N
    refine VW.exit ?_
    cases N
    have hq := Eg _ rfl
    subst hq
    exact Fits.of rfl
   replace Bl : s31.2 < (s31.1.length : Int) := by simpa [ieq,ilt,ile] using Bl
   rw [if_pos Bl] at N
   refine VW.skip ?_
   refine hK33 _ ?_
   refine VW.sqc fun K35 hK35 hCK35 => ?_
   refine VW.block ?_
   obtain ⟨v36,Fj,N⟩ := bind_some N
   obtain ⟨Eh,Ei,Ej,Ek⟩ := idx_some Fj
   obtain ⟨v37,Fk,N⟩ := bind_some N
   obtain ⟨El,Em,En,Eo⟩ := idx_some Fk
   obtain ⟨v38,Dm,N⟩ := bind_some N
   obtain ⟨Cc,Cd,Ce,Cf⟩ := idx_some Dm
   obtain ⟨v39,Dn,N⟩ := bind_some N
   obtain ⟨Ep,Eq,Er,Es⟩ := idx_some Dn
   obtain ⟨v40,Fl,N⟩ := bind_some N
   obtain ⟨v41,Fm,N⟩ := bind_some N
   refine VW.wdr tau_ok ((Sound.none.add 105 (i_field_inv_ok Fl) rfl).add 107 (i_field_plus_ok Fm) rfl) try_mixed _ [(0,.val (i64 a0)),(5,.ref 5 [] true (dM (s31.1.set s31.2.toNat v41))),(6,.val (i64 v30)),(7,.val (i64 s3.2.2)),(9,.val (i64 s31.2)),(13,.val (i64 (v1.length : Int))),(14,.val (i64 s3.2.2))] 31 rfl (by kernel_rfl) (by rfl) ?_ ?_
   ·simp [Eh,Ei,Ej,Ek,El,Em,En,Eo,Cc,Cd,Ce,Cf,Ep,Eq,Er,Es]
   refine hK35 _ ?_
   refine zr [(0,.val (i64 a0)),(5,.ref 5 [] true (dM (s31.1.set s31.2.toNat v41))),(6,.val (i64 v30)),(7,.val (i64 s3.2.2)),(9,.val (i64 (w64 (s31.2 + 1)))),(13,.val (i64 (v1.length : Int))),(14,.val (i64 s3.2.2))] ?_ ?_
   ·simp
   cases N
   exact ⟨_,rfl,Fits.of rfl⟩
  refine VW.cond rfl (fun Bm => ?_) (fun Bm => ?_)
  rotate_left
  ·
   replace Bm : ¬ (¬ x10 = s3.2.2) := by simpa [ieq,ilt,ile] using Bm
   rw [if_neg Bm] at Ad
   refine VW.skip ?_
   cases Ad
   exact Fits.of rfl
  replace Bm : ¬ x10 = s3.2.2 := by simpa [ieq,ilt,ile] using Bm
  rw [if_pos Bm] at Ad
  obtain ⟨v24,Fn,Ad⟩ := bind_some Ad
  obtain ⟨C1,C2,Et,Eu⟩ := idx_some Fn
  obtain ⟨v25,Dg,Ad⟩ := bind_some Ad
  obtain ⟨C3,C4,Ev,Ew⟩ := idx_some Dg
  have C5 := C2
  try simp [C1] at C5
  have C6 := C4
  try simp [C3] at C6
  obtain ⟨v26,B9,Ad⟩ := bind_some Ad
  obtain ⟨Cg,Bu,Ch,Ci⟩ := idx_some B9
  have C7 := Bu
  try simp at C7
  refine VW.wds tau_ok Sound.none try_mixed _ [(0,.val (i64 a0)),(5,.ref 5 [] true (dM ((s3.1.set s3.2.2.toNat v24).set x10.toNat v25))),(6,.val (i64 s3.2.1)),(7,.val (i64 s3.2.2)),(13,.val (i64 (v1.length : Int))),(14,.val (i64 s3.2.2))] 13 rfl (by kernel_rfl) (by rfl) ?_ ?_
  ·simp [C1,C2,Et,Eu,C3,C4,Ev,Ew,C5,C6,Cg,Bu,Ch,Ci,C7]
  obtain ⟨v27,Fo,Ad⟩ := bind_some Ad
  refine VW.wr tau_ok (Sound.none.add 58 (i_field_num_ok Fo) rfl) _ [(0,.val (i64 a0)),(5,.ref 5 [] true (dM ((s3.1.set s3.2.2.toNat v24).set x10.toNat v25))),(6,.val (i64 v27)),(7,.val (i64 s3.2.2)),(13,.val (i64 (v1.length : Int))),(14,.val (i64 s3.2.2))] rfl ?_ ?_
  ·simp
  cases Ad
  exact Fits.of rfl
 refine VW.block ?_
 refine VW.loopF (i_field_determinant_L1 s3) (fun s10 => [(0,.val (i64 a0)),(5,.ref 5 [] true (dM s3.1)),(6,.val (i64 s3.2.1)),(7,.val (i64 s3.2.2)),(8,.val (i64 s10)),(13,.val (i64 (v1.length : Int))),(14,.val (i64 s3.2.2))]) Dk (Fits.of rfl) ?_
 clear Dk
 intro s10 ox10 Ae Ex
 unfold i_field_determinant_L1 at Ae
 refine VW.sqc fun K12 hK12 hCK12 => ?_
 obtain ⟨x16,B,Ae⟩ := bind_some Ae
 refine VW.cut [(0,.val (i64 a0)),(5,.ref 5 [] true (dM s3.1)),(6,.val (i64 s3.2.1)),(7,.val (i64 s3.2.2)),(8,.val (i64 s10)),(13,.val (i64 (v1.length : Int))),(14,.val (i64 s3.2.2)),(31,.val (.bool x16))] ?_ fun hy => ?_
 rotate_left
 ·clear Ae
  by_cases Ab : s10 < (s3.1.length : Int)
  ·rw [if_pos Ab] at B
   have J : ilt s10 (s3.1.length : Int) = true := by simpa [ieq,ilt,ile] using Ab
   have K := J
   try simp at K
   obtain ⟨v14,Bx,B⟩ := bind_some B
   obtain ⟨By,Bz,B0,B1⟩ := idx_some Bx
   obtain ⟨v15,Bc,B⟩ := bind_some B
   obtain ⟨B2,B3,B4,B5⟩ := idx_some Bc
   cases B
   refine VW.ws tau_ok Sound.none _ _ rfl ?_ hy
   simp [J,K,By,Bz,B0,B1,B2,B3,B4,B5]
  ·rw [if_neg Ab] at B
   have J : ilt s10 (s3.1.length : Int) = false := by simpa [ieq,ilt,ile] using Ab
   have K := J
   try simp at K
   cases B
   refine VW.ws tau_ok Sound.none _ _ rfl ?_ hy
   simp [J,K]
 refine VW.cond rfl (fun F => ?_) (fun F => ?_)
 rotate_left
 ·
  replace F : ¬ (x16 = true) := by simpa [ieq,ilt,ile] using F
  rw [if_neg F] at Ae
  refine VW.exit ?_
  cases Ae
  have hq := Ex _ rfl
  subst hq
  exact Fits.of rfl
 replace F : x16 = true := by simpa [ieq,ilt,ile] using F
 rw [if_pos F] at Ae
 refine VW.skip ?_
 refine hK12 _ ?_
 refine VW.block ?_
 refine zr [(0,.val (i64 a0)),(5,.ref 5 [] true (dM s3.1)),(6,.val (i64 s3.2.1)),(7,.val (i64 s3.2.2)),(8,.val (i64 (w64 (s10 + 1)))),(13,.val (i64 (v1.length : Int))),(14,.val (i64 s3.2.2))] ?_ ?_
 ·simp
 cases Ae
 exact ⟨_,rfl,Fits.of rfl⟩

theorem i_isIsometry_ok {a0_0 : Int} {a0_1 : List Int} {a1_0 : Int} {a1_1 : List Int} {a2 : List (List Int)} {r : Bool} (h : i_isIsometry a0_0 a0_1 a1_0 a1_1 a2 = some r) :
  VCall Try.prog 61 [.agg [i64 a0_0,dI a0_1],.agg [i64 a1_0,dI a1_1],dM a2] [.sc (.bool r)] := by
 unfold i_isIsometry at h
 refine VCall.enter Try.call61 Try.func61 rfl 87 Try.ntmps61 (by simp) [.tmp 6] rfl ?_
 show VW _ _ _ (mk [(0,.val (.agg [i64 a0_0,dI a0_1])),(1,.val (.agg [i64 a1_0,dI a1_1])),(2,.val (dM a2))]) _
 refine zs [(2,.val (dM a2)),(3,.val (.ptr [i64 a0_0,dI a0_1])),(4,.val (.ptr [i64 a1_0,dI a1_1]))] ?_ ?_
 ·simp
 refine VW.sqc fun K1 hK1 hCK1 => ?_
 obtain ⟨x16,B,h⟩ := bind_some h
 refine VW.cut [(2,.val (dM a2)),(3,.val (.ptr [i64 a0_0,dI a0_1])),(4,.val (.ptr [i64 a1_0,dI a1_1])),(54,.val (.bool x16))] ?_ fun hy => ?_
 rotate_left
 ·clear h
  by_cases E3 : ¬ a0_0 = a1_0
  ·rw [if_pos E3] at B
   have Ay : ieq a0_0 a1_0 = false := by simpa [ieq,ilt,ile] using E3
   have Az := Ay
   try simp at Az
   cases B
   refine VW.wds tau_ok Sound.none try_mixed _ _ 42 rfl (by kernel_rfl) (by rfl) ?_ hy
   simp [Ay,Az]
  ·rw [if_neg E3] at B
   have Ay : ieq a0_0 a1_0 = true := by simpa [ieq,ilt,ile] using E3
   have Az := Ay
   try simp at Az
   obtain ⟨v3,Cn,B⟩ := bind_some B
   obtain ⟨v4,Cj,B⟩ := bind_some B
   by_cases E4 : ¬ v3 = v4
   ·rw [if_pos E4] at B
    have A8 : ieq v3 v4 = false := by simpa [ieq,ilt,ile] using E4
    have A9 := A8
    try simp at A9
    cases B
    refine VW.wds tau_ok ((Sound.none.add 20 (i_Space_dim_ok Cn) rfl).add 22 (i_Space_dim_ok Cj) rfl) try_mixed _ _ 42 rfl (by kernel_rfl) (by rfl) ?_ hy
    simp [Ay,Az,A8,A9]
   ·rw [if_neg E4] at B
    have A8 : ieq v3 v4 = true := by simpa [ieq,ilt,ile] using E4
    have A9 := A8
    try simp at A9
    obtain ⟨v6,Dq,B⟩ := bind_some B
    obtain ⟨v7,Au,B⟩ := bind_some B
    by_cases E5 : v7 = false
    ·rw [if_pos E5] at B
     have Bn : v7 = false := by simpa [ieq,ilt,ile] using E5
     have Bo := Bn
     try simp at Bo
     cases B
     refine VW.wds tau_ok ((((Sound.none.add 20 (i_Space_dim_ok Cn) rfl).add 22 (i_Space_dim_ok Cj) rfl).add 27 (i_Space_field_ok Dq) rfl).add 29 (i_field_isMatrix_ok Au) rfl) try_mixed _ _ 42 rfl (by kernel_rfl) (by rfl) ?_ hy
     simp [Ay,Az,A8,A9,Bn,Bo]
    ·rw [if_neg E5] at B
     have Bn : v7 = true := by simpa [ieq,ilt,ile] using E5
     have Bo := Bn
     try simp at Bo
     obtain ⟨v9,Dj,B⟩ := bind_some B
     by_cases Cu : ¬ (a2.length : Int) = v9
     ·rw [if_pos Cu] at B
      have Av : ieq (a2.length : Int) v9 = false := by simpa [ieq,ilt,ile] using Cu
      have Aw := Av
      try simp at Aw
      cases B
      refine VW.wds tau_ok (((((Sound.none.add 20 (i_Space_dim_ok Cn) rfl).add 22 (i_Space_dim_ok Cj) rfl).add 27 (i_Space_field_ok Dq) rfl).add 29 (i_field_isMatrix_ok Au) rfl).add 36 (i_Space_dim_ok Dj) rfl) try_mixed _ _ 42 rfl (by kernel_rfl) (by rfl) ?_ hy
      simp [Ay,Az,A8,A9,Bn,Bo,Av,Aw]
     ·rw [if_neg Cu] at B
      have Av : ieq (a2.length : Int) v9 = true := by simpa [ieq,ilt,ile] using Cu
      have Aw := Av
      try simp at Aw
      obtain ⟨v11,Ah,B⟩ := bind_some B
      obtain ⟨S,G,H,I⟩ := idx_some Ah
      replace G : 0 < a2.length := G
      replace H : a2[0]? = some v11 := H
      replace I : ∀ h,a2[0]'h = v11 := I
      obtain ⟨v12,A1,B⟩ := bind_some B
      by_cases Ab : ¬ (v11.length : Int) = v12
      ·rw [if_pos Ab] at B
       have J : ieq (v11.length : Int) v12 = false := by simpa [ieq,ilt,ile] using Ab
       have K := J
       try simp at K
       cases B
       refine VW.wds tau_ok ((((((Sound.none.add 20 (i_Space_dim_ok Cn) rfl).add 22 (i_Space_dim_ok Cj) rfl).add 27 (i_Space_field_ok Dq) rfl).add 29 (i_field_isMatrix_ok Au) rfl).add 36 (i_Space_dim_ok Dj) rfl).add 45 (i_Space_dim_ok A1) rfl) try_mixed _ _ 42 rfl (by kernel_rfl) (by rfl) ?_ hy
       simp [Ay,Az,A8,A9,Bn,Bo,Av,Aw,S,G,H,I,J,K]
      ·rw [if_neg Ab] at B
       have J : ieq (v11.length : Int) v12 = true := by simpa [ieq,ilt,ile] using Ab
       have K := J
       try simp at K
       obtain ⟨v14,Bx,B⟩ := bind_some B
       obtain ⟨v15,Bc,B⟩ := bind_some B
       cases B
       refine VW.wds tau_ok ((((((((Sound.none.add 20 (i_Space_dim_ok Cn) rfl).add 22 (i_Space_dim_ok Cj) rfl).add 27 (i_Space_field_ok Dq) rfl).add 29 (i_field_isMatrix_ok Au) rfl).add 36 (i_Space_dim_ok Dj) rfl).add 45 (i_Space_dim_ok A1) rfl).add 50 (i_Space_field_ok Bx) rfl).add 52 (i_field_determinant_ok Bc) rfl) try_mixed _ _ 42 rfl (by kernel_rfl) (by rfl) ?_ hy
       simp [Ay,Az,A8,A9,Bn,Bo,Av,Aw,S,G,H,I,J,K]
 refine VW.cond rfl (fun F => ?_) (fun F => ?_)
 ·
  replace F : x16 = true := by simpa [ieq,ilt,ile] using F
  rw [if_pos F] at h
  refine zs [(6,.val (.bool false))] ?_ ?_
  ·simp
  cases h
  refine VW.ret ?_
  simp [Post,PostM,PostC,PostC2,Nx,Bk]
 replace F : ¬ (x16 = true) := by simpa [ieq,ilt,ile] using F
 rw [if_neg F] at h
 refine VW.skip ?_
 refine hK1 _ ?_
 obtain ⟨v18,Fp,h⟩ := bind_some h
 refine VW.ws tau_ok (Sound.none.add 56 (i_transpose_ok Fp) rfl) _ [(3,.val (.ptr [i64 a0_0,dI a0_1])),(4,.val (.ptr [i64 a1_0,dI a1_1])),(7,.ref 7 [] true (dM v18))] rfl ?_ ?_
 ·simp
 refine VW.sqc fun K19 hK19 hCK19 => ?_
 refine zs [(3,.val (.ptr [i64 a0_0,dI a0_1])),(4,.val (.ptr [i64 a1_0,dI a1_1])),(7,.ref 7 [] true (dM v18)),(57,.ref 7 [] true (dM v18)),(58,.val (i64 (v18.length : Int))),(59,.val (i64 0))] ?_ ?_
 ·simp
 obtain ⟨x20,Do,h⟩ := bind_some h
 refine VW.tlO (fun y22 => []) x20 (hCK19) ?_ ?_
 ·clear Do
  rintro y22 rfl
  dsimp only at h
  refine hK19 _ ?_
  refine zs [(6,.val (.bool true))] ?_ ?_
  ·simp
  cases h
  refine VW.ret ?_
  simp [Post,PostM,PostC,PostC2,Nx,Bk]
 refine VW.block ?_
 refine VW.loopF (i_isIsometry_L0 a0_1 a1_0 a1_1 v18) (fun s20 => [(3,.val (.ptr [i64 a0_0,dI a0_1])),(4,.val (.ptr [i64 a1_0,dI a1_1])),(7,.ref 7 [] true (dM v18)),(57,.ref 7 [] true (dM v18)),(58,.val (i64 (v18.length : Int))),(59,.val (i64 s20))]) Do (Fits.of rfl) ?_
 clear Do
 intro s20 ox20 W C8
 unfold i_isIsometry_L0 at W
 refine zs [(3,.val (.ptr [i64 a0_0,dI a0_1])),(4,.val (.ptr [i64 a1_0,dI a1_1])),(7,.ref 7 [] true (dM v18)),(57,.ref 7 [] true (dM v18)),(58,.val (i64 (v18.length : Int))),(59,.val (i64 s20)),(60,.val (.bool (ilt s20 (v18.length : Int))))] ?_ ?_
 ·simp
 refine VW.sqc fun K23 hK23 hCK23 => ?_
 refine VW.cond rfl (fun Z => ?_) (fun Z => ?_)
 rotate_left
 ·
  replace Z : ¬ (s20 < (v18.length : Int)) := by simpa [ieq,ilt,ile] using Z
  rw [if_neg Z] at W
  refine VW.exit ?_
  cases W
  have hq := C8 _ rfl
  subst hq
  exact ⟨_,rfl,Fits.of rfl⟩
 replace Z : s20 < (v18.length : Int) := by simpa [ieq,ilt,ile] using Z
 rw [if_pos Z] at W
 refine VW.skip ?_
 refine hK23 _ ?_
 refine VW.sqc fun K25 hK25 hCK25 => ?_
 refine VW.block ?_
 obtain ⟨v26,B9,W⟩ := bind_some W
 obtain ⟨Cg,Bu,Ch,Ci⟩ := idx_some B9
 refine zs [(3,.val (.ptr [i64 a0_0,dI a0_1])),(4,.val (.ptr [i64 a1_0,dI a1_1])),(7,.ref 7 [] true (dM v18)),(8,.val (i64 s20)),(9,.ref 7 [s20.toNat] true (dI v26)),(57,.ref 7 [] true (dM v18)),(58,.val (i64 (v18.length : Int))),(59,.val (i64 s20))] ?_ ?_
 ·simp [Cg,Bu,Ch,Ci]
 refine zs [(3,.val (.ptr [i64 a0_0,dI a0_1])),(4,.val (.ptr [i64 a1_0,dI a1_1])),(7,.ref 7 [] true (dM v18)),(8,.val (i64 s20)),(9,.ref 7 [s20.toNat] true (dI v26)),(57,.ref 7 [] true (dM v18)),(58,.val (i64 (v18.length : Int))),(59,.val (i64 s20)),(64,.ref 7 [] true (dM v18)),(65,.val (i64 (v18.length : Int))),(66,.val (i64 0))] ?_ ?_
 ·simp
 obtain ⟨x27,Dp,W⟩ := bind_some W
 refine VW.tlO (fun y29 => [(3,.val (.ptr [i64 a0_0,dI a0_1])),(4,.val (.ptr [i64 a1_0,dI a1_1])),(7,.ref 7 [] true (dM v18)),(57,.ref 7 [] true (dM v18)),(58,.val (i64 (v18.length : Int))),(59,.val (i64 s20))]) x27 (hCK25) ?_ ?_
 ·clear Dp
  rintro y29 rfl
  dsimp only at W
  refine hK25 _ ?_
  refine zr [(3,.val (.ptr [i64 a0_0,dI a0_1])),(4,.val (.ptr [i64 a1_0,dI a1_1])),(7,.ref 7 [] true (dM v18)),(57,.ref 7 [] true (dM v18)),(58,.val (i64 (v18.length : Int))),(59,.val (i64 (w64 (s20 + 1))))] ?_ ?_
  ·simp
  cases W
  exact ⟨_,rfl,Fits.of rfl⟩
 refine VW.block ?_
 refine VW.loopF (i_isIsometry_L1 a0_1 a1_0 a1_1 v18 s20 v26) (fun s27 => [(3,.val (.ptr [i64 a0_0,dI a0_1])),(4,.val (.ptr [i64 a1_0,dI a1_1])),(7,.ref 7 [] true (dM v18)),(8,.val (i64 s20)),(9,.ref 7 [s20.toNat] true (dI v26)),(57,.ref 7 [] true (dM v18)),(58,.val (i64 (v18.length : Int))),(59,.val (i64 s20)),(64,.ref 7 [] true (dM v18)),(65,.val (i64 (v18.length : Int))),(66,.val (i64 s27))]) Dp (Fits.of rfl) ?_
 clear Dp
 intro s27 ox27 T C9
 unfold i_isIsometry_L1 at T
 refine zs [(3,.val (.ptr [i64 a0_0,dI a0_1])),(4,.val (.ptr [i64 a1_0,dI a1_1])),(7,.ref 7 [] true (dM v18)),(8,.val (i64 s20)),(9,.ref 7 [s20.toNat] true (dI v26)),(57,.ref 7 [] true (dM v18)),(58,.val (i64 (v18.length : Int))),(59,.val (i64 s20)),(64,.ref 7 [] true (dM v18)),(65,.val (i64 (v18.length : Int))),(66,.val (i64 s27)),(67,.val (.bool (ilt s27 (v18.length : Int))))] ?_ ?_
 ·simp
 refine VW.sqc fun K30 hK30 hCK30 => ?_
 refine VW.cond rfl (fun Bp => ?_) (fun Bp => ?_)
 rotate_left
 ·
  replace Bp : ¬ (s27 < (v18.length : Int)) := by simpa [ieq,ilt,ile] using Bp
  rw [if_neg Bp] at T
  refine VW.exit ?_
  cases T
  have hq := C9 _ rfl
  subst hq
  exact ⟨_,rfl,Fits.of rfl⟩
 replace Bp : s27 < (v18.length : Int) := by simpa [ieq,ilt,ile] using Bp
 rw [if_pos Bp] at T
 refine VW.skip ?_
 refine hK30 _ ?_
 refine VW.sqc fun K32 hK32 hCK32 => ?_
 refine VW.block ?_
 obtain ⟨v33,Fq,T⟩ := bind_some T
 obtain ⟨Ey,Ez,E0,E1⟩ := idx_some Fq
 refine zs [(3,.val (.ptr [i64 a0_0,dI a0_1])),(4,.val (.ptr [i64 a1_0,dI a1_1])),(7,.ref 7 [] true (dM v18)),(8,.val (i64 s20)),(9,.ref 7 [s20.toNat] true (dI v26)),(10,.val (i64 s27)),(11,.ref 7 [s27.toNat] true (dI v33)),(57,.ref 7 [] true (dM v18)),(58,.val (i64 (v18.length : Int))),(59,.val (i64 s20)),(64,.ref 7 [] true (dM v18)),(65,.val (i64 (v18.length : Int))),(66,.val (i64 s27))] ?_ ?_
 ·simp [Ey,Ez,E0,E1]
 refine zs [(3,.val (.ptr [i64 a0_0,dI a0_1])),(4,.val (.ptr [i64 a1_0,dI a1_1])),(7,.ref 7 [] true (dM v18)),(8,.val (i64 s20)),(9,.ref 7 [s20.toNat] true (dI v26)),(10,.val (i64 s27)),(11,.ref 7 [s27.toNat] true (dI v33)),(12,.val (i64 0)),(57,.ref 7 [] true (dM v18)),(58,.val (i64 (v18.length : Int))),(59,.val (i64 s20)),(64,.ref 7 [] true (dM v18)),(65,.val (i64 (v18.length : Int))),(66,.val (i64 s27))] ?_ ?_
 ·simp
 refine VW.sqc fun K34 hK34 hCK34 => ?_
 refine zs [(3,.val (.ptr [i64 a0_0,dI a0_1])),(4,.val (.ptr [i64 a1_0,dI a1_1])),(7,.ref 7 [] true (dM v18)),(8,.val (i64 s20)),(9,.ref 7 [s20.toNat] true (dI v26)),(11,.ref 7 [s27.toNat] true (dI v33)),(12,.val (i64 0)),(57,.ref 7 [] true (dM v18)),(58,.val (i64 (v18.length : Int))),(59,.val (i64 s20)),(64,.ref 7 [] true (dM v18)),(65,.val (i64 (v18.length : Int))),(66,.val (i64 s27)),(73,.val (.bool (ieq s20 s27)))] ?_ ?_
 ·simp
 obtain ⟨x35,Bq,T⟩ := bind_some T
 refine VW.tlE [(3,.val (.ptr [i64 a0_0,dI a0_1])),(4,.val (.ptr [i64 a1_0,dI a1_1])),(7,.ref 7 [] true (dM v18)),(8,.val (i64 s20)),(9,.ref 7 [s20.toNat] true (dI v26)),(11,.ref 7 [s27.toNat] true (dI v33)),(12,.val (i64 x35)),(57,.ref 7 [] true (dM v18)),(58,.val (i64 (v18.length : Int))),(59,.val (i64 s20)),(64,.ref 7 [] true (dM v18)),(65,.val (i64 (v18.length : Int))),(66,.val (i64 s27))] (hCK34) ?_ ?_
 ·clear Bq
  refine hK34 _ ?_
  obtain ⟨v39,Dn,T⟩ := bind_some T
  refine VW.ws tau_ok (Sound.none.add 82 (i_Space_pair_ok Dn) rfl) _ [(3,.val (.ptr [i64 a0_0,dI a0_1])),(4,.val (.ptr [i64 a1_0,dI a1_1])),(7,.ref 7 [] true (dM v18)),(8,.val (i64 s20)),(9,.ref 7 [s20.toNat] true (dI v26)),(57,.ref 7 [] true (dM v18)),(58,.val (i64 (v18.length : Int))),(59,.val (i64 s20)),(64,.ref 7 [] true (dM v18)),(65,.val (i64 (v18.length : Int))),(66,.val (i64 s27)),(84,.val (.bool (!(ieq v39 x35))))] rfl ?_ ?_
  ·simp
  refine VW.cond rfl (fun Br => ?_) (fun Br => ?_)
  rotate_left
  ·
   replace Br : ¬ (¬ v39 = x35) := by simpa [ieq,ilt,ile] using Br
   rw [if_neg Br] at T
   refine VW.skip ?_
   refine hK32 _ ?_
   refine zr [(3,.val (.ptr [i64 a0_0,dI a0_1])),(4,.val (.ptr [i64 a1_0,dI a1_1])),(7,.ref 7 [] true (dM v18)),(8,.val (i64 s20)),(9,.ref 7 [s20.toNat] true (dI v26)),(57,.ref 7 [] true (dM v18)),(58,.val (i64 (v18.length : Int))),(59,.val (i64 s20)),(64,.ref 7 [] true (dM v18)),(65,.val (i64 (v18.length : Int))),(66,.val (i64 (w64 (s27 + 1))))] ?_ ?_
   ·simp
   cases T
   exact ⟨_,rfl,Fits.of rfl⟩
  replace Br : ¬ v39 = x35 := by simpa [ieq,ilt,ile] using Br
  rw [if_pos Br] at T
  refine zs [(6,.val (.bool false))] ?_ ?_
  ·simp
  cases T
  have hq := C9 _ rfl
  subst hq
  dsimp only at W
  cases W
  have hq := C8 _ rfl
  subst hq
  dsimp only at h
  cases h
  refine VW.ret ?_
  simp [Post,PostM,PostC,PostC2,Nx,Bk]
 refine VW.cond rfl (fun Bs => ?_) (fun Bs => ?_)
 rotate_left
 ·
  replace Bs : ¬ (s20 = s27) := by simpa [ieq,ilt,ile] using Bs
  rw [if_neg Bs] at Bq
  refine VW.skip ?_
  cases Bq
  exact Fits.of rfl
 replace Bs : s20 = s27 := by simpa [ieq,ilt,ile] using Bs
 rw [if_pos Bs] at Bq
 obtain ⟨v38,Dm,Bq⟩ := bind_some Bq
 obtain ⟨Cc,Cd,Ce,Cf⟩ := idx_some Dm
 refine zr [(3,.val (.ptr [i64 a0_0,dI a0_1])),(4,.val (.ptr [i64 a1_0,dI a1_1])),(7,.ref 7 [] true (dM v18)),(8,.val (i64 s20)),(9,.ref 7 [s20.toNat] true (dI v26)),(11,.ref 7 [s27.toNat] true (dI v33)),(12,.val (i64 v38)),(57,.ref 7 [] true (dM v18)),(58,.val (i64 (v18.length : Int))),(59,.val (i64 s20)),(64,.ref 7 [] true (dM v18)),(65,.val (i64 (v18.length : Int))),(66,.val (i64 s27))] ?_ ?_
 ·simp [Cc,Cd,Ce,Cf]
 cases Bq
 exact Fits.of rfl

theorem i_checkOrthogonal_ok {a0_0 : Int} {a0_1 : List Int} {a1 : List (List Int)} {r : Int} (h : i_checkOrthogonal a0_0 a0_1 a1 = some r) :
  VCall Try.prog 27 [.agg [i64 a0_0,dI a0_1],dM a1] [.sc (i64 r)] := by
 unfold i_checkOrthogonal at h
 refine VCall.enter Try.call27 Try.func27 rfl 19 Try.ntmps27 (by simp) [.tmp 4] rfl ?_
 show VW _ _ _ (mk [(0,.val (.agg [i64 a0_0,dI a0_1])),(1,.val (dM a1))]) _
 refine zs [(1,.val (dM a1)),(2,.val (.ptr [i64 a0_0,dI a0_1]))] ?_ ?_
 ·simp
 refine VW.sqc fun K1 hK1 hCK1 => ?_
 refine VW.block ?_
 obtain ⟨v2,Bw,h⟩ := bind_some h
 refine VW.ws tau_ok (Sound.none.add 7 (i_IsSpace_ok Bw) rfl) _ [(1,.val (dM a1)),(2,.val (.ptr [i64 a0_0,dI a0_1])),(5,.val (.bool (!v2)))] rfl ?_ ?_
 ·simp
 refine VW.cond rfl (fun Aa => ?_) (fun Aa => ?_)
 ·
  replace Aa : v2 = false := by simpa [ieq,ilt,ile] using Aa
  rw [if_pos Aa] at h
  refine zs [(4,.val (i64 1))] ?_ ?_
  ·simp
  cases h
  refine VW.ret ?_
  simp [Post,PostM,PostC,PostC2,Nx,Bk]
 replace Aa : ¬ (v2 = false) := by simpa [ieq,ilt,ile] using Aa
 rw [if_neg Aa] at h
 obtain ⟨v4,Cj,h⟩ := bind_some h
 refine VW.ws tau_ok (Sound.none.add 11 (i_Space_regular_ok Cj) rfl) _ [(1,.val (dM a1)),(2,.val (.ptr [i64 a0_0,dI a0_1])),(9,.val (.bool (!v4)))] rfl ?_ ?_
 ·simp
 refine VW.cond rfl (fun M => ?_) (fun M => ?_)
 ·
  replace M : v4 = false := by simpa [ieq,ilt,ile] using M
  rw [if_pos M] at h
  refine zs [(4,.val (i64 5))] ?_ ?_
  ·simp
  cases h
  refine VW.ret ?_
  simp [Post,PostM,PostC,PostC2,Nx,Bk]
 replace M : ¬ (v4 = false) := by simpa [ieq,ilt,ile] using M
 rw [if_neg M] at h
 obtain ⟨v6,Dq,h⟩ := bind_some h
 refine VW.ws tau_ok (Sound.none.add 17 (i_isIsometry_ok Dq) rfl) _ [(13,.val (.bool (!v6)))] rfl ?_ ?_
 ·simp
 refine VW.cond rfl (fun Af => ?_) (fun Af => ?_)
 ·
  replace Af : v6 = false := by simpa [ieq,ilt,ile] using Af
  rw [if_pos Af] at h
  refine zs [(4,.val (i64 2))] ?_ ?_
  ·simp
  cases h
  refine VW.ret ?_
  simp [Post,PostM,PostC,PostC2,Nx,Bk]
 replace Af : ¬ (v6 = false) := by simpa [ieq,ilt,ile] using Af
 rw [if_neg Af] at h
 refine VW.skip ?_
 refine hK1 _ ?_
 refine zs [(4,.val (i64 0))] ?_ ?_
 ·simp
 cases h
 refine VW.ret ?_
 simp [Post,PostM,PostC,PostC2,Nx,Bk]

theorem i_IsProper_ok {a0_0 : Int} {a0_1 : List Int} {a1 : List (List Int)} {r : Bool × Int} (h : i_IsProper a0_0 a0_1 a1 = some r) :
  VCall Try.prog 11 [.agg [i64 a0_0,dI a0_1],dM a1] [.sc (.bool r.1),.sc (i64 r.2)] := by
 unfold i_IsProper at h
 refine VCall.enter Try.call11 Try.func11 rfl 18 Try.ntmps11 (by simp) [.tmp 4,.tmp 5] rfl ?_
 show VW _ _ _ (mk [(0,.val (.agg [i64 a0_0,dI a0_1])),(1,.val (dM a1))]) _
 refine zs [(1,.val (dM a1)),(2,.val (.ptr [i64 a0_0,dI a0_1]))] ?_ ?_
 ·simp
 refine VW.sqc fun K1 hK1 hCK1 => ?_
 obtain ⟨v2,Bw,h⟩ := bind_some h
 refine VW.ws tau_ok (Sound.none.add 9 (i_checkOrthogonal_ok Bw) rfl) _ [(1,.val (dM a1)),(2,.val (.ptr [i64 a0_0,dI a0_1])),(6,.val (i64 v2))] rfl ?_ ?_
 ·simp
 refine zs [(1,.val (dM a1)),(2,.val (.ptr [i64 a0_0,dI a0_1])),(6,.val (i64 v2)),(11,.val (.bool (!(ieq v2 0))))] ?_ ?_
 ·simp
 refine VW.cond rfl (fun Aa => ?_) (fun Aa => ?_)
 ·
  replace Aa : ¬ v2 = 0 := by simpa [ieq,ilt,ile] using Aa
  rw [if_pos Aa] at h
  refine zs [(4,.val (.bool false)),(5,.val (i64 v2))] ?_ ?_
  ·simp
  cases h
  refine VW.ret ?_
  simp [Post,PostM,PostC,PostC2,Nx,Bk]
 replace Aa : ¬ (¬ v2 = 0) := by simpa [ieq,ilt,ile] using Aa
 rw [if_neg Aa] at h
 refine VW.skip ?_
 refine hK1 _ ?_
 obtain ⟨v4,Cj,h⟩ := bind_some h
 obtain ⟨v5,Co,h⟩ := bind_some h
 refine VW.ws tau_ok ((Sound.none.add 14 (i_Space_field_ok Cj) rfl).add 16 (i_field_determinant_ok Co) rfl) _ [(4,.val (.bool (ieq v5 1))),(5,.val (i64 0))] rfl ?_ ?_
 ·simp
 cases h
 refine VW.ret ?_
 simp [Post,PostM,PostC,PostC2,Nx,Bk]

theorem l_roll_ok {a0 : List Int} {a1 : Int} {r : (List Int) × Int × Int} (h : l_roll a0 a1 = some r) :
  VCall Try.prog 12 [.list (a0.map (D.int .u8)),.int .u64 a1] [.own false (.ptr [.list (r.1.map (D.int .u8)),i64 r.2.1,.int .u64 r.2.2])] := by
 unfold l_roll at h
 refine VCall.enter Try.call12 Try.func12 rfl 38 Try.ntmps12 (by simp) [.tmp 4] rfl ?_
 show VW _ _ _ (mk [(0,.val (.list (a0.map (D.int .u8)))),(1,.val (.int .u64 a1))]) _
 refine zs [(0,.val (.list (a0.map (D.int .u8)))),(1,.val (.int .u64 a1))] ?_ ?_
 ·simp
 refine zs [(0,.val (.list (a0.map (D.int .u8)))),(5,.ref 5 [] false (.ptr [.list (a0.map (D.int .u8)),i64 0,.int .u64 (IntKind.u64.wrap ((IntKind.u64.wrap (a1 * 7681)) + (IntKind.u64.wrap ((a0.length : Int)))))]))] ?_ ?_
 ·simp
 refine VW.sqc fun K1 hK1 hCK1 => ?_
 refine zs [(0,.val (.list (a0.map (D.int .u8)))),(5,.ref 5 [] false (.ptr [.list (a0.map (D.int .u8)),i64 0,.int .u64 (IntKind.u64.wrap ((IntKind.u64.wrap (a1 * 7681)) + (IntKind.u64.wrap ((a0.length : Int)))))])),(6,.val (i64 0))] ?_ ?_
 ·simp
 obtain ⟨x2,L,h⟩ := bind_some h
 refine VW.tlE [(5,.ref 5 [] false (.ptr [.list (x2.1.map (D.int .u8)),i64 x2.2.1,.int .u64 x2.2.2]))] (hCK1) ?_ ?_
 ·clear L
  refine hK1 _ ?_
  refine zs [(4,.ref 4 [] false (.ptr [.list (x2.1.map (D.int .u8)),i64 x2.2.1,.int .u64 x2.2.2]))] ?_ ?_
  ·simp
  cases h
  refine VW.ret ?_
  simp [Post,PostM,PostC,PostC2,Nx,Bk]
 refine VW.block ?_
 refine VW.loopF (l_roll_L0 a0) (fun s2 => [(0,.val (.list (a0.map (D.int .u8)))),(5,.ref 5 [] false (.ptr [.list (s2.1.map (D.int .u8)),i64 s2.2.1,.int .u64 s2.2.2.1])),(6,.val (i64 s2.2.2.2))]) L (Fits.of rfl) ?_
 clear L
 intro s2 ox2 A R
 unfold l_roll_L0 at A
 refine VW.sqc fun K4 hK4 hCK4 => ?_
 refine zs [(0,.val (.list (a0.map (D.int .u8)))),(5,.ref 5 [] false (.ptr [.list (s2.1.map (D.int .u8)),i64 s2.2.1,.int .u64 s2.2.2.1])),(6,.val (i64 s2.2.2.2)),(19,.val (.bool (ilt s2.2.2.2 (a0.length : Int))))] ?_ ?_
 ·simp
 refine VW.cond rfl (fun M => ?_) (fun M => ?_)
 rotate_left
 ·
  replace M : ¬ (s2.2.2.2 < (a0.length : Int)) := by simpa [ieq,ilt,ile] using M
  rw [if_neg M] at A
  refine VW.exit ?_
  cases A
  have hq := R _ rfl
  subst hq
  exact Fits.of rfl
 replace M : s2.2.2.2 < (a0.length : Int) := by simpa [ieq,ilt,ile] using M
 rw [if_pos M] at A
 refine VW.skip ?_
 refine hK4 _ ?_
 refine VW.sqc fun K6 hK6 hCK6 => ?_
 refine VW.block ?_
 obtain ⟨v7,Au,A⟩ := bind_some A
 obtain ⟨Aj,Ak,Al,Am⟩ := idx_some Au
 refine VW.wdr tau_ok Sound.none try_mixed _ [(0,.val (.list (a0.map (D.int .u8)))),(5,.ref 5 [] false (.ptr [.list (s2.1.map (D.int .u8)),i64 s2.2.1,.int .u64 (IntKind.u64.wrap ((IntKind.u64.wrap ((IntKind.u64.wrap (s2.2.2.1 * 1099511628211)) + (IntKind.u64.wrap (v7)))) + 5))])),(6,.val (i64 s2.2.2.2))] 15 rfl (by kernel_rfl) (by rfl) ?_ ?_
 ·simp [Aj,Ak,Al,Am]
 refine hK6 _ ?_
 refine zr [(0,.val (.list (a0.map (D.int .u8)))),(5,.ref 5 [] false (.ptr [.list (s2.1.map (D.int .u8)),i64 s2.2.1,.int .u64 (IntKind.u64.wrap ((IntKind.u64.wrap ((IntKind.u64.wrap (s2.2.2.1 * 1099511628211)) + (IntKind.u64.wrap (v7)))) + 5))])),(6,.val (i64 (w64 (s2.2.2.2 + 1))))] ?_ ?_
 ·simp
 cases A
 exact ⟨_,rfl,Fits.of rfl⟩

theorem g_p_laws_dice_below_ok {a0_0 : List Int} {a0_1 : Int} {a0_2 : Int} {a1 : Int} {r : Int × ((List Int) × Int × Int)} (h : g_p_laws_dice_below a0_0 a0_1 a0_2 a1 = some r) :
  VPtr Try.prog 14 [.list (a0_0.map (D.int .u8)),i64 a0_1,.int .u64 a0_2] [i64 a1] [.sc (i64 r.1)] [.list (r.2.1.map (D.int .u8)),i64 r.2.2.1,.int .u64 r.2.2.2] := by
 unfold g_p_laws_dice_below at h
 refine VPtr.enter Try.call14 Try.func14 rfl 58 Try.ntmps14 (by simp) [.tmp 4] rfl ?_
 show VW _ _ _ (mk [(0,.ref 0 [] false (.ptr [.list (a0_0.map (D.int .u8)),i64 a0_1,.int .u64 a0_2])),(1,.val (i64 a1))]) _
 refine zs [(0,.ref 0 [] false (.ptr [.list (a0_0.map (D.int .u8)),i64 a0_1,.int .u64 a0_2])),(1,.val (i64 a1))] ?_ ?_
 ·simp
 refine VW.sqc fun K1 hK1 hCK1 => ?_
 refine zs [(0,.ref 0 [] false (.ptr [.list (a0_0.map (D.int .u8)),i64 a0_1,.int .u64 a0_2])),(1,.val (i64 a1)),(7,.val (.bool (ilt a1 1)))] ?_ ?_
 ·simp
 refine VW.cond rfl (fun P => ?_) (fun P => ?_)
 ·
  replace P : a1 < 1 := by simpa [ieq,ilt,ile] using P
  rw [if_pos P] at h
  refine zs [(0,.ref 0 [] false (.ptr [.list (a0_0.map (D.int .u8)),i64 a0_1,.int .u64 a0_2])),(4,.val (i64 0))] ?_ ?_
  ·simp
  cases h
  refine VW.ret ?_
  simp [PostW,resW,PostWC,resWC,Nx,Bk]
 replace P : ¬ (a1 < 1) := by simpa [ieq,ilt,ile] using P
 rw [if_neg P] at h
 refine VW.skip ?_
 refine hK1 _ ?_
 refine zs [(0,.ref 0 [] false (.ptr [.list (a0_0.map (D.int .u8)),i64 a0_1,.int .u64 (IntKind.u64.wrap ((IntKind.u64.wrap (a0_2 * 6364136223846793005)) + 1442695040888963407))])),(1,.val (i64 a1))] ?_ ?_
 ·simp
 refine zs [(0,.ref 0 [] false (.ptr [.list (a0_0.map (D.int .u8)),i64 a0_1,.int .u64 (IntKind.u64.wrap ((IntKind.u64.wrap (a0_2 * 6364136223846793005)) + 1442695040888963407))])),(1,.val (i64 a1)),(5,.val (i64 (w64 (band .u64 (shr .u64 (IntKind.u64.wrap ((IntKind.u64.wrap (a0_2 * 6364136223846793005)) + 1442695040888963407)) 33) 16777215))))] ?_ ?_
 ·simp
 refine VW.sqc fun K3 hK3 hCK3 => ?_
 refine VW.wds tau_ok Sound.none try_mixed _ [(0,.ref 0 [] false (.ptr [.list (a0_0.map (D.int .u8)),i64 a0_1,.int .u64 (IntKind.u64.wrap ((IntKind.u64.wrap (a0_2 * 6364136223846793005)) + 1442695040888963407))])),(1,.val (i64 a1)),(5,.val (i64 (w64 (band .u64 (shr .u64 (IntKind.u64.wrap ((IntKind.u64.wrap (a0_2 * 6364136223846793005)) + 1442695040888963407)) 33) 16777215)))),(33,.val (.bool (ilt a0_1 (a0_0.length : Int))))] 10 rfl (by kernel_rfl) (by rfl) ?_ ?_
 ·simp
 obtain ⟨x4,Ax,h⟩ := bind_some h
 refine VW.tlE [(0,.ref 0 [] false (.ptr [.list (x4.1.map (D.int .u8)),i64 x4.2.1,.int .u64 x4.2.2.1])),(1,.val (i64 a1)),(5,.val (i64 x4.2.2.2))] (hCK3) ?_ ?_
 ·clear Ax
  refine hK3 _ ?_
  obtain ⟨Cv,h⟩ := chk_some h
  have A0 := Cv
  try simp at A0
  refine zs [(0,.ref 0 [] false (.ptr [.list (x4.1.map (D.int .u8)),i64 x4.2.1,.int .u64 x4.2.2.1])),(4,.val (i64 (x4.2.2.2.tmod a1)))] ?_ ?_
  ·simp [Cv,A0]
  cases h
  refine VW.ret ?_
  simp [PostW,resW,PostWC,resWC,Nx,Bk]
 refine VW.cond rfl (fun E => ?_) (fun E => ?_)
 rotate_left
 ·
  replace E : ¬ (a0_1 < (a0_0.length : Int)) := by simpa [ieq,ilt,ile] using E
  rw [if_neg E] at Ax
  refine VW.skip ?_
  cases Ax
  exact Fits.of rfl
 replace E : a0_1 < (a0_0.length : Int) := by simpa [ieq,ilt,ile] using E
 rw [if_pos E] at Ax
 obtain ⟨v7,Au,Ax⟩ := bind_some Ax
 obtain ⟨Aj,Ak,Al,Am⟩ := idx_some Au
 refine VW.wds tau_ok Sound.none try_mixed _ [(0,.ref 0 [] false (.ptr [.list (a0_0.map (D.int .u8)),i64 a0_1,.int .u64 (IntKind.u64.wrap ((IntKind.u64.wrap (a0_2 * 6364136223846793005)) + 1442695040888963407))])),(1,.val (i64 a1)),(5,.val (i64 (w64 ((w64 (band .u64 (shr .u64 (IntKind.u64.wrap ((IntKind.u64.wrap (a0_2 * 6364136223846793005)) + 1442695040888963407)) 33) 16777215)) + (w64 (v7))))))] 14 rfl (by kernel_rfl) (by rfl) ?_ ?_
 ·simp [Aj,Ak,Al,Am]
 refine zr [(0,.ref 0 [] false (.ptr [.list (a0_0.map (D.int .u8)),i64 (w64 (a0_1 + 1)),.int .u64 (IntKind.u64.wrap ((IntKind.u64.wrap (a0_2 * 6364136223846793005)) + 1442695040888963407))])),(1,.val (i64 a1)),(5,.val (i64 (w64 ((w64 (band .u64 (shr .u64 (IntKind.u64.wrap ((IntKind.u64.wrap (a0_2 * 6364136223846793005)) + 1442695040888963407)) 33) 16777215)) + (w64 (v7))))))] ?_ ?_
 ·simp
 cases Ax
 exact Fits.of rfl

theorem i_checkMatrices_c1_ok {a0 : List (List Int)} {a1_0 : Int} {r : Bool} (h : i_checkMatrices_c1 a0 a1_0 = some r) :
  VCall Try.prog 67 [dM a0,.ptr [i64 a1_0]] [.sc (.bool r)] := by
 unfold i_checkMatrices_c1 at h
 refine VCall.enter Try.call67 Try.func67 rfl 8 Try.ntmps67 (by simp) [.tmp 3] rfl ?_
 show VW _ _ _ (mk [(0,.val (dM a0)),(1,.val (.ptr [i64 a1_0]))]) _
 refine zs [(0,.val (dM a0)),(1,.val (.ptr [i64 a1_0]))] ?_ ?_
 ·simp
 obtain ⟨v1,Di,h⟩ := bind_some h
 refine VW.ws tau_ok (Sound.none.add 6 (i_field_isMatrix_ok Di) rfl) _ [(3,.val (.bool (!v1)))] rfl ?_ ?_
 ·simp
 cases h
 refine VW.ret ?_
 simp [Post,PostM,PostC,PostC2,Nx,Bk]

theorem g_slices_IndexFunc_LLLI_LLI_of_i_checkMatrices_c1_ok {a0 : List (List (List Int))} {a1_0_0 : Int} {r : Int} (h : g_slices_IndexFunc_LLLI_LLI_of_i_checkMatrices_c1 a0 a1_0_0 = some r) :
  VCall Try.prog 78 [dC a0,.fn 67 [.ptr [i64 a1_0_0]]] [.sc (i64 r)] := by
 unfold g_slices_IndexFunc_LLLI_LLI_of_i_checkMatrices_c1 at h
 refine VCall.enter Try.call78 Try.func78 rfl 19 Try.ntmps78 (by simp) [.tmp 4] rfl ?_
 show VW _ _ _ (mk [(0,.val (dC a0)),(1,.val (.fn 67 [.ptr [i64 a1_0_0]]))]) _
 refine zs [(0,.val (dC a0)),(1,.val (.fn 67 [.ptr [i64 a1_0_0]]))] ?_ ?_
 ·simp
 refine VW.sqc fun K1 hK1 hCK1 => ?_
 refine zs [(0,.val (dC a0)),(1,.val (.fn 67 [.ptr [i64 a1_0_0]])),(7,.val (i64 (a0.length : Int))),(8,.val (i64 0))] ?_ ?_
 ·simp
 obtain ⟨x2,L,h⟩ := bind_some h
 refine VW.tlO (fun y4 => []) x2 (hCK1) ?_ ?_
 ·clear L
  rintro y4 rfl
  dsimp only at h
  refine hK1 _ ?_
  refine zs [(4,.val (i64 (-1)))] ?_ ?_
  ·simp
  cases h
  refine VW.ret ?_
  simp [Post,PostM,PostC,PostC2,Nx,Bk]
 refine VW.block ?_
 refine VW.loopF (g_slices_IndexFunc_LLLI_LLI_of_i_checkMatrices_c1_L0 a0 a1_0_0) (fun s2 => [(0,.val (dC a0)),(1,.val (.fn 67 [.ptr [i64 a1_0_0]])),(7,.val (i64 (a0.length : Int))),(8,.val (i64 s2))]) L (Fits.of rfl) ?_
 clear L
 intro s2 ox2 A R
 unfold g_slices_IndexFunc_LLLI_LLI_of_i_checkMatrices_c1_L0 at A
 refine zs [(0,.val (dC a0)),(1,.val (.fn 67 [.ptr [i64 a1_0_0]])),(7,.val (i64 (a0.length : Int))),(8,.val (i64 s2)),(9,.val (.bool (ilt s2 (a0.length : Int))))] ?_ ?_
 ·simp
 refine VW.sqc fun K5 hK5 hCK5 => ?_
 refine VW.cond rfl (fun E => ?_) (fun E => ?_)
 rotate_left
 ·
  replace E : ¬ (s2 < (a0.length : Int)) := by simpa [ieq,ilt,ile] using E
  rw [if_neg E] at A
  refine VW.exit ?_
  cases A
  have hq := R _ rfl
  subst hq
  exact ⟨_,rfl,Fits.of rfl⟩
 replace E : s2 < (a0.length : Int) := by simpa [ieq,ilt,ile] using E
 rw [if_pos E] at A
 refine VW.skip ?_
 refine hK5 _ ?_
 refine VW.sqc fun K7 hK7 hCK7 => ?_
 refine VW.block ?_
 refine zs [(0,.val (dC a0)),(1,.val (.fn 67 [.ptr [i64 a1_0_0]])),(5,.val (i64 s2)),(7,.val (i64 (a0.length : Int))),(8,.val (i64 s2))] ?_ ?_
 ·simp
 obtain ⟨v8,Bv,A⟩ := bind_some A
 obtain ⟨Bd,Be,Bf,Bg⟩ := idx_some Bv
 obtain ⟨v9,Dj,A⟩ := bind_some A
 refine VW.ws tau_ok (Sound.none.add 16 (i_checkMatrices_c1_ok Dj) rfl) _ [(0,.val (dC a0)),(1,.val (.fn 67 [.ptr [i64 a1_0_0]])),(5,.val (i64 s2)),(7,.val (i64 (a0.length : Int))),(8,.val (i64 s2)),(16,.val (.bool v9))] rfl ?_ ?_
 ·simp [Bd,Be,Bf,Bg]
 refine VW.cond rfl (fun Y => ?_) (fun Y => ?_)
 rotate_left
 ·
  replace Y : ¬ (v9 = true) := by simpa [ieq,ilt,ile] using Y
  rw [if_neg Y] at A
  refine VW.skip ?_
  refine hK7 _ ?_
  refine zr [(0,.val (dC a0)),(1,.val (.fn 67 [.ptr [i64 a1_0_0]])),(7,.val (i64 (a0.length : Int))),(8,.val (i64 (w64 (s2 + 1))))] ?_ ?_
  ·simp
  cases A
  exact ⟨_,rfl,Fits.of rfl⟩
 replace Y : v9 = true := by simpa [ieq,ilt,ile] using Y
 rw [if_pos Y] at A
 refine zs [(4,.val (i64 s2))] ?_ ?_
 ·simp
 cases A
 have hq := R _ rfl
 subst hq
 dsimp only at h
 cases h
 refine VW.ret ?_
 simp [Post,PostM,PostC,PostC2,Nx,Bk]

theorem g_slices_ContainsFunc_LLLI_LLI_of_i_checkMatrices_c1_ok {a0 : List (List (List Int))} {a1_0_0 : Int} {r : Bool} (h : g_slices_ContainsFunc_LLLI_LLI_of_i_checkMatrices_c1 a0 a1_0_0 = some r) :
  VCall Try.prog 66 [dC a0,.fn 67 [.ptr [i64 a1_0_0]]] [.sc (.bool r)] := by
 unfold g_slices_ContainsFunc_LLLI_LLI_of_i_checkMatrices_c1 at h
 refine VCall.enter Try.call66 Try.func66 rfl 9 Try.ntmps66 (by simp) [.tmp 4] rfl ?_
 show VW _ _ _ (mk [(0,.val (dC a0)),(1,.val (.fn 67 [.ptr [i64 a1_0_0]]))]) _
 refine zs [(0,.val (dC a0)),(1,.val (.fn 67 [.ptr [i64 a1_0_0]]))] ?_ ?_
 ·simp
 obtain ⟨v1,Di,h⟩ := bind_some h
 refine VW.ws tau_ok (Sound.none.add 7 (g_slices_IndexFunc_LLLI_LLI_of_i_checkMatrices_c1_ok Di) rfl) _ [(4,.val (.bool (ile 0 v1)))] rfl ?_ ?_
 ·simp
 cases h
 refine VW.ret ?_
 simp [Post,PostM,PostC,PostC2,Nx,Bk]

theorem i_checkMatrices_ok {a0 : Int} {a1 : List (List (List Int))} {r : Int} (h : i_checkMatrices a0 a1 = some r) :
  VCall Try.prog 30 [i64 a0,dC a1] [.sc (i64 r)] := by
 unfold i_checkMatrices at h
 refine VCall.enter Try.call30 Try.func30 rfl 13 Try.ntmps30 (by simp) [.tmp 4] rfl ?_
 show VW _ _ _ (mk [(0,.val (i64 a0)),(1,.val (dC a1))]) _
 refine zs [(1,.val (dC a1)),(2,.val (.ptr [i64 a0]))] ?_ ?_
 ·simp
 refine VW.sqc fun K1 hK1 hCK1 => ?_
 obtain ⟨x5,Ba,h⟩ := bind_some h
 refine VW.cut [(12,.val (.bool x5))] ?_ fun hy => ?_
 rotate_left
 ·clear h
  obtain ⟨v2,Bw,Ba⟩ := bind_some Ba
  by_cases E6 : v2 = false
  ·rw [if_pos E6] at Ba
   have Ck : v2 = false := by simpa [ieq,ilt,ile] using E6
   have Cl := Ck
   try simp at Cl
   cases Ba
   refine VW.ws tau_ok (Sound.none.add 6 (i_IsPrime_ok Bw) rfl) _ _ rfl ?_ hy
   simp [Ck,Cl]
  ·rw [if_neg E6] at Ba
   have Ck : v2 = true := by simpa [ieq,ilt,ile] using E6
   have Cl := Ck
   try simp at Cl
   obtain ⟨v4,Cj,Ba⟩ := bind_some Ba
   cases Ba
   refine VW.ws tau_ok ((Sound.none.add 6 (i_IsPrime_ok Bw) rfl).add 11 (g_slices_ContainsFunc_LLLI_LLI_of_i_checkMatrices_c1_ok Cj) rfl) _ _ rfl ?_ hy
   simp [Ck,Cl]
 refine VW.cond rfl (fun E => ?_) (fun E => ?_)
 ·
  replace E : x5 = true := by simpa [ieq,ilt,ile] using E
  rw [if_pos E] at h
  refine zs [(4,.val (i64 1))] ?_ ?_
  ·simp
  cases h
  refine VW.ret ?_
  simp [Post,PostM,PostC,PostC2,Nx,Bk]
 replace E : ¬ (x5 = true) := by simpa [ieq,ilt,ile] using E
 rw [if_neg E] at h
 refine VW.skip ?_
 refine hK1 _ ?_
 refine zs [(4,.val (i64 0))] ?_ ?_
 ·simp
 cases h
 refine VW.ret ?_
 simp [Post,PostM,PostC,PostC2,Nx,Bk]
end Go.Vam
