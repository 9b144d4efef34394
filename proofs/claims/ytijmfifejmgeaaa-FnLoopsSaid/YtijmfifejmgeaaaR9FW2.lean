import Derived.Test.YtijmfifejmgeaaaR9T
import Derived.Test.YtijmfifejmgeaaaFmG0
import Derived.Test.YtijmfifejmgeaaaR9FW1
namespace Go.Vam
open Go Go.RowKit Go.Proofs
set_option maxRecDepth 100000
set_option linter.unusedSimpArgs false
set_option linter.unusedVariables false

theorem i_isOnce_ok {a0 : List Int} {r : Bool} (h : i_isOnce a0 = some r) :
  VCall Try.prog 101 [dI a0] [.sc (.bool r)] := by
 unfold i_isOnce at h
 refine VCall.enter Try.call101 Try.func101 rfl 31 Try.ntmps101 (by simp) [.tmp 2] rfl ?_
 show VW _ _ _ (mk [(0,.val (dI a0))]) _
 refine zs [(0,.val (dI a0))] ?_ ?_
 ·simp
 obtain ⟨Ig,h⟩ := chk_some h
 have Fd := Ig
 try simp at Fd
 refine zs [(0,.val (dI a0)),(3,.ref 3 [] true (dB (List.replicate (a0.length : Int).toNat false)))] ?_ ?_
 ·simp [Ig,Fd]
 refine VW.sqc fun K2 hK2 hCK2 => ?_
 refine zs [(0,.val (dI a0)),(3,.ref 3 [] true (dB (List.replicate (a0.length : Int).toNat false))),(9,.val (dI a0)),(10,.val (i64 (a0.length : Int))),(11,.val (i64 0))] ?_ ?_
 ·simp
 obtain ⟨x3,Aj,h⟩ := bind_some h
 refine VW.tlO (fun y5 => []) x3 (hCK2) ?_ ?_
 ·clear Aj
  rintro y5 rfl
  dsimp only at h
  refine hK2 _ ?_
  refine zs [(2,.val (.bool true))] ?_ ?_
  ·simp
  cases h
  refine VW.ret ?_
  simp [Post,PostM,PostC,PostC2,Nx,Bk]
 refine VW.block ?_
 refine VW.loopF (i_isOnce_L0 a0) (fun s3 => [(0,.val (dI a0)),(3,.ref 3 [] true (dB s3.1)),(9,.val (dI a0)),(10,.val (i64 (a0.length : Int))),(11,.val (i64 s3.2))]) Aj (Fits.of rfl) ?_
 clear Aj
 intro s3 ox3 B Ah
 unfold i_isOnce_L0 at B
 refine zs [(0,.val (dI a0)),(3,.ref 3 [] true (dB s3.1)),(9,.val (dI a0)),(10,.val (i64 (a0.length : Int))),(11,.val (i64 s3.2)),(12,.val (.bool (ilt s3.2 (a0.length : Int))))] ?_ ?_
 ·simp
 refine VW.sqc fun K6 hK6 hCK6 => ?_
 refine VW.cond rfl (fun Ak => ?_) (fun Ak => ?_)
 rotate_left
 ·
  replace Ak : ¬ (s3.2 < (a0.length : Int)) := by simpa [ieq,ilt,ile] using Ak
  rw [if_neg Ak] at B
  refine VW.exit ?_
  cases B
  have hq := Ah _ rfl
  subst hq
  exact ⟨_,rfl,Fits.of rfl⟩
 replace Ak : s3.2 < (a0.length : Int) := by simpa [ieq,ilt,ile] using Ak
 rw [if_pos Ak] at B
 refine VW.skip ?_
 refine hK6 _ ?_
 refine VW.sqc fun K8 hK8 hCK8 => ?_
 refine VW.block ?_
 obtain ⟨v9,B3,B⟩ := bind_some B
 obtain ⟨Cz,C0,C1,C2⟩ := idx_some B3
 refine zs [(0,.val (dI a0)),(3,.ref 3 [] true (dB s3.1)),(5,.val (i64 v9)),(9,.val (dI a0)),(10,.val (i64 (a0.length : Int))),(11,.val (i64 s3.2))] ?_ ?_
 ·simp [Cz,C0,C1,C2]
 refine VW.sqc fun K10 hK10 hCK10 => ?_
 obtain ⟨x15,Ae,B⟩ := bind_some B
 refine VW.cut [(0,.val (dI a0)),(3,.ref 3 [] true (dB s3.1)),(5,.val (i64 v9)),(9,.val (dI a0)),(10,.val (i64 (a0.length : Int))),(11,.val (i64 s3.2)),(26,.val (.bool x15))] ?_ fun hy => ?_
 rotate_left
 ·clear B
  obtain ⟨v11,Af,Ae⟩ := bind_some Ae
  obtain ⟨v12,Bn,Ae⟩ := bind_some Ae
  by_cases Du : v12 = false
  ·rw [if_pos Du] at Ae
   have Bo : v12 = false := by simpa [ieq,ilt,ile] using Du
   have Bp := Bo
   try simp at Bp
   cases Ae
   refine VW.ws tau_ok ((Sound.none.add 17 (i_length_I_ok Af) rfl).add 19 (i_inRange_ok Bn) rfl) _ _ rfl ?_ hy
   simp [Bo,Bp]
  ·rw [if_neg Du] at Ae
   have Bo : v12 = true := by simpa [ieq,ilt,ile] using Du
   have Bp := Bo
   try simp at Bp
   obtain ⟨v14,C3,Ae⟩ := bind_some Ae
   obtain ⟨Bq,Br,Bs,Bt⟩ := idx_some C3
   cases Ae
   refine VW.ws tau_ok ((Sound.none.add 17 (i_length_I_ok Af) rfl).add 19 (i_inRange_ok Bn) rfl) _ _ rfl ?_ hy
   simp [Bo,Bp,Bq,Br,Bs,Bt]
 refine VW.cond rfl (fun B4 => ?_) (fun B4 => ?_)
 ·
  replace B4 : x15 = true := by simpa [ieq,ilt,ile] using B4
  rw [if_pos B4] at B
  refine zs [(2,.val (.bool false))] ?_ ?_
  ·simp
  cases B
  have hq := Ah _ rfl
  subst hq
  dsimp only at h
  cases h
  refine VW.ret ?_
  simp [Post,PostM,PostC,PostC2,Nx,Bk]
 replace B4 : ¬ (x15 = true) := by simpa [ieq,ilt,ile] using B4
 rw [if_neg B4] at B
 refine VW.skip ?_
 refine hK10 _ ?_
 obtain ⟨v17,Ho,B⟩ := bind_some B
 obtain ⟨Fe,Ff,Fg,Fh⟩ := idx_some Ho
 refine zr [(0,.val (dI a0)),(3,.ref 3 [] true (dB (s3.1.set v9.toNat true))),(9,.val (dI a0)),(10,.val (i64 (a0.length : Int))),(11,.val (i64 s3.2))] ?_ ?_
 ·simp [Fe,Ff,Fg,Fh]
 refine hK8 _ ?_
 refine zr [(0,.val (dI a0)),(3,.ref 3 [] true (dB (s3.1.set v9.toNat true))),(9,.val (dI a0)),(10,.val (i64 (a0.length : Int))),(11,.val (i64 (w64 (s3.2 + 1))))] ?_ ?_
 ·simp
 cases B
 exact ⟨_,rfl,Fits.of rfl⟩

theorem i_transpose_ok {a0 : List (List Int)} {r : List (List Int)} (h : i_transpose a0 = some r) :
  VCall Try.prog 100 [dM a0] [.own true (dM r)] := by
 unfold i_transpose at h
 refine VCall.enter Try.call100 Try.func100 rfl 38 Try.ntmps100 (by simp) [.tmp 2] rfl ?_
 show VW _ _ _ (mk [(0,.val (dM a0))]) _
 refine zs [(0,.val (dM a0))] ?_ ?_
 ·simp
 refine zs [(0,.val (dM a0)),(3,.ref 3 [] true (dM []))] ?_ ?_
 ·simp
 refine VW.sqc fun K1 hK1 hCK1 => ?_
 obtain ⟨v2,Ag,h⟩ := bind_some h
 obtain ⟨C4,B5,B6,B7⟩ := idx_some Ag
 replace B5 : 0 < a0.length := B5
 replace B6 : a0[0]? = some v2 := B6
 replace B7 : ∀ h,a0[0]'h = v2 := B7
 refine zs [(0,.val (dM a0)),(3,.ref 3 [] true (dM [])),(11,.val (i64 (v2.length : Int))),(12,.val (i64 0))] ?_ ?_
 ·simp [C4,B5,B6,B7]
 obtain ⟨x3,Aj,h⟩ := bind_some h
 refine VW.tlE [(3,.ref 3 [] true (dM x3))] (hCK1) ?_ ?_
 ·clear Aj
  refine hK1 _ ?_
  refine zs [(2,.ref 2 [] true (dM x3))] ?_ ?_
  ·simp
  cases h
  refine VW.ret ?_
  simp [Post,PostM,PostC,PostC2,Nx,Bk]
 refine VW.block ?_
 refine VW.loopF (i_transpose_L0 a0 v2) (fun s3 => [(0,.val (dM a0)),(3,.ref 3 [] true (dM s3.1)),(11,.val (i64 (v2.length : Int))),(12,.val (i64 s3.2))]) Aj (Fits.of rfl) ?_
 clear Aj
 intro s3 ox3 B Ah
 unfold i_transpose_L0 at B
 refine zs [(0,.val (dM a0)),(3,.ref 3 [] true (dM s3.1)),(11,.val (i64 (v2.length : Int))),(12,.val (i64 s3.2)),(13,.val (.bool (ilt s3.2 (v2.length : Int))))] ?_ ?_
 ·simp
 refine VW.sqc fun K5 hK5 hCK5 => ?_
 refine VW.cond rfl (fun M => ?_) (fun M => ?_)
 rotate_left
 ·
  replace M : ¬ (s3.2 < (v2.length : Int)) := by simpa [ieq,ilt,ile] using M
  rw [if_neg M] at B
  refine VW.exit ?_
  cases B
  have hq := Ah _ rfl
  subst hq
  exact Fits.of rfl
 replace M : s3.2 < (v2.length : Int) := by simpa [ieq,ilt,ile] using M
 rw [if_pos M] at B
 refine VW.skip ?_
 refine hK5 _ ?_
 refine VW.sqc fun K7 hK7 hCK7 => ?_
 refine VW.block ?_
 refine zs [(0,.val (dM a0)),(3,.ref 3 [] true (dM s3.1)),(4,.val (i64 s3.2)),(11,.val (i64 (v2.length : Int))),(12,.val (i64 s3.2))] ?_ ?_
 ·simp
 refine zs [(0,.val (dM a0)),(3,.ref 3 [] true (dM s3.1)),(4,.val (i64 s3.2)),(5,.ref 5 [] true (dI [])),(11,.val (i64 (v2.length : Int))),(12,.val (i64 s3.2))] ?_ ?_
 ·simp
 refine VW.sqc fun K8 hK8 hCK8 => ?_
 refine zs [(0,.val (dM a0)),(3,.ref 3 [] true (dM s3.1)),(4,.val (i64 s3.2)),(5,.ref 5 [] true (dI [])),(11,.val (i64 (v2.length : Int))),(12,.val (i64 s3.2)),(17,.val (i64 (a0.length : Int))),(18,.val (i64 0))] ?_ ?_
 ·simp
 obtain ⟨x9,B8,B⟩ := bind_some B
 refine VW.tlE [(0,.val (dM a0)),(3,.ref 3 [] true (dM s3.1)),(5,.ref 5 [] true (dI x9)),(11,.val (i64 (v2.length : Int))),(12,.val (i64 s3.2))] (hCK8) ?_ ?_
 ·clear B8
  refine hK8 _ ?_
  obtain ⟨Fi,B⟩ := chk_some B
  have D4 := Fi
  try simp at D4
  refine zr [(0,.val (dM a0)),(3,.ref 3 [] true (dM (s3.1 ++ [x9]))),(11,.val (i64 (v2.length : Int))),(12,.val (i64 s3.2))] ?_ ?_
  ·simp [Fi,D4]
  refine hK7 _ ?_
  refine zr [(0,.val (dM a0)),(3,.ref 3 [] true (dM (s3.1 ++ [x9]))),(11,.val (i64 (v2.length : Int))),(12,.val (i64 (w64 (s3.2 + 1))))] ?_ ?_
  ·simp
  cases B
  exact ⟨_,rfl,Fits.of rfl⟩
 refine VW.block ?_
 refine VW.loopF (i_transpose_L1 a0 s3) (fun s9 => [(0,.val (dM a0)),(3,.ref 3 [] true (dM s3.1)),(4,.val (i64 s3.2)),(5,.ref 5 [] true (dI s9.1)),(11,.val (i64 (v2.length : Int))),(12,.val (i64 s3.2)),(17,.val (i64 (a0.length : Int))),(18,.val (i64 s9.2))]) B8 (Fits.of rfl) ?_
 clear B8
 intro s9 ox9 Al Hp
 unfold i_transpose_L1 at Al
 refine zs [(0,.val (dM a0)),(3,.ref 3 [] true (dM s3.1)),(4,.val (i64 s3.2)),(5,.ref 5 [] true (dI s9.1)),(11,.val (i64 (v2.length : Int))),(12,.val (i64 s3.2)),(17,.val (i64 (a0.length : Int))),(18,.val (i64 s9.2)),(19,.val (.bool (ilt s9.2 (a0.length : Int))))] ?_ ?_
 ·simp
 refine VW.sqc fun K11 hK11 hCK11 => ?_
 refine VW.cond rfl (fun H => ?_) (fun H => ?_)
 rotate_left
 ·
  replace H : ¬ (s9.2 < (a0.length : Int)) := by simpa [ieq,ilt,ile] using H
  rw [if_neg H] at Al
  refine VW.exit ?_
  cases Al
  have hq := Hp _ rfl
  subst hq
  exact Fits.of rfl
 replace H : s9.2 < (a0.length : Int) := by simpa [ieq,ilt,ile] using H
 rw [if_pos H] at Al
 refine VW.skip ?_
 refine hK11 _ ?_
 refine VW.sqc fun K13 hK13 hCK13 => ?_
 refine VW.block ?_
 refine zs [(0,.val (dM a0)),(3,.ref 3 [] true (dM s3.1)),(4,.val (i64 s3.2)),(5,.ref 5 [] true (dI s9.1)),(6,.val (i64 s9.2)),(11,.val (i64 (v2.length : Int))),(12,.val (i64 s3.2)),(17,.val (i64 (a0.length : Int))),(18,.val (i64 s9.2))] ?_ ?_
 ·simp
 obtain ⟨v14,C3,Al⟩ := bind_some Al
 obtain ⟨Bq,Br,Bs,Bt⟩ := idx_some C3
 obtain ⟨v15,Hq,Al⟩ := bind_some Al
 obtain ⟨Fj,Fk,Fl,Fm⟩ := idx_some Hq
 obtain ⟨C5,Al⟩ := chk_some Al
 have Bu := C5
 try simp at Bu
 refine zr [(0,.val (dM a0)),(3,.ref 3 [] true (dM s3.1)),(4,.val (i64 s3.2)),(5,.ref 5 [] true (dI (s9.1 ++ [v15]))),(11,.val (i64 (v2.length : Int))),(12,.val (i64 s3.2)),(17,.val (i64 (a0.length : Int))),(18,.val (i64 s9.2))] ?_ ?_
 ·simp [Bq,Br,Bs,Bt,Fj,Fk,Fl,Fm,C5,Bu]
 refine hK13 _ ?_
 refine zr [(0,.val (dM a0)),(3,.ref 3 [] true (dM s3.1)),(4,.val (i64 s3.2)),(5,.ref 5 [] true (dI (s9.1 ++ [v15]))),(11,.val (i64 (v2.length : Int))),(12,.val (i64 s3.2)),(17,.val (i64 (a0.length : Int))),(18,.val (i64 (w64 (s9.2 + 1))))] ?_ ?_
 ·simp
 cases Al
 exact ⟨_,rfl,Fits.of rfl⟩

theorem i_IsLoop_c1_ok {a0 : List Int} {r : Bool} (h : i_IsLoop_c1 a0 = some r) :
  VCall Try.prog 103 [dI a0] [.sc (.bool r)] := by
 unfold i_IsLoop_c1 at h
 refine VCall.enter Try.call103 Try.func103 rfl 6 Try.ntmps103 (by simp) [.tmp 2] rfl ?_
 show VW _ _ _ (mk [(0,.val (dI a0))]) _
 refine zs [(0,.val (dI a0))] ?_ ?_
 ·simp
 obtain ⟨v1,Be,h⟩ := bind_some h
 refine VW.ws tau_ok (Sound.none.add 4 (i_isOnce_ok Be) rfl) _ [(2,.val (.bool (!v1)))] rfl ?_ ?_
 ·simp
 cases h
 refine VW.ret ?_
 simp [Post,PostM,PostC,PostC2,Nx,Bk]

theorem g_slices_IndexFunc_LLI_LI_of_i_IsLoop_c1_ok {a0 : List (List Int)} {r : Int} (h : g_slices_IndexFunc_LLI_LI_of_i_IsLoop_c1 a0 = some r) :
  VCall Try.prog 175 [dM a0,.fn 103 []] [.sc (i64 r)] := by
 unfold g_slices_IndexFunc_LLI_LI_of_i_IsLoop_c1 at h
 refine VCall.enter Try.call175 Try.func175 rfl 19 Try.ntmps175 (by simp) [.tmp 4] rfl ?_
 show VW _ _ _ (mk [(0,.val (dM a0)),(1,.val (.fn 103 []))]) _
 refine zs [(0,.val (dM a0)),(1,.val (.fn 103 []))] ?_ ?_
 ·simp
 refine VW.sqc fun K1 hK1 hCK1 => ?_
 refine zs [(0,.val (dM a0)),(1,.val (.fn 103 [])),(7,.val (i64 (a0.length : Int))),(8,.val (i64 0))] ?_ ?_
 ·simp
 obtain ⟨x2,B9,h⟩ := bind_some h
 refine VW.tlO (fun y4 => []) x2 (hCK1) ?_ ?_
 ·clear B9
  rintro y4 rfl
  dsimp only at h
  refine hK1 _ ?_
  refine zs [(4,.val (i64 (-1)))] ?_ ?_
  ·simp
  cases h
  refine VW.ret ?_
  simp [Post,PostM,PostC,PostC2,Nx,Bk]
 refine VW.block ?_
 refine VW.loopF (g_slices_IndexFunc_LLI_LI_of_i_IsLoop_c1_L0 a0) (fun s2 => [(0,.val (dM a0)),(1,.val (.fn 103 [])),(7,.val (i64 (a0.length : Int))),(8,.val (i64 s2))]) B9 (Fits.of rfl) ?_
 clear B9
 intro s2 ox2 C Am
 unfold g_slices_IndexFunc_LLI_LI_of_i_IsLoop_c1_L0 at C
 refine zs [(0,.val (dM a0)),(1,.val (.fn 103 [])),(7,.val (i64 (a0.length : Int))),(8,.val (i64 s2)),(9,.val (.bool (ilt s2 (a0.length : Int))))] ?_ ?_
 ·simp
 refine VW.sqc fun K5 hK5 hCK5 => ?_
 refine VW.cond rfl (fun M => ?_) (fun M => ?_)
 rotate_left
 ·
  replace M : ¬ (s2 < (a0.length : Int)) := by simpa [ieq,ilt,ile] using M
  rw [if_neg M] at C
  refine VW.exit ?_
  cases C
  have hq := Am _ rfl
  subst hq
  exact ⟨_,rfl,Fits.of rfl⟩
 replace M : s2 < (a0.length : Int) := by simpa [ieq,ilt,ile] using M
 rw [if_pos M] at C
 refine VW.skip ?_
 refine hK5 _ ?_
 refine VW.sqc fun K7 hK7 hCK7 => ?_
 refine VW.block ?_
 refine zs [(0,.val (dM a0)),(1,.val (.fn 103 [])),(5,.val (i64 s2)),(7,.val (i64 (a0.length : Int))),(8,.val (i64 s2))] ?_ ?_
 ·simp
 obtain ⟨v8,Dv,C⟩ := bind_some C
 obtain ⟨Bf,Bg,Bh,Bi⟩ := idx_some Dv
 obtain ⟨v9,B3,C⟩ := bind_some C
 refine VW.ws tau_ok (Sound.none.add 16 (i_IsLoop_c1_ok B3) rfl) _ [(0,.val (dM a0)),(1,.val (.fn 103 [])),(5,.val (i64 s2)),(7,.val (i64 (a0.length : Int))),(8,.val (i64 s2)),(16,.val (.bool v9))] rfl ?_ ?_
 ·simp [Bf,Bg,Bh,Bi]
 refine VW.cond rfl (fun I => ?_) (fun I => ?_)
 rotate_left
 ·
  replace I : ¬ (v9 = true) := by simpa [ieq,ilt,ile] using I
  rw [if_neg I] at C
  refine VW.skip ?_
  refine hK7 _ ?_
  refine zr [(0,.val (dM a0)),(1,.val (.fn 103 [])),(7,.val (i64 (a0.length : Int))),(8,.val (i64 (w64 (s2 + 1))))] ?_ ?_
  ·simp
  cases C
  exact ⟨_,rfl,Fits.of rfl⟩
 replace I : v9 = true := by simpa [ieq,ilt,ile] using I
 rw [if_pos I] at C
 refine zs [(4,.val (i64 s2))] ?_ ?_
 ·simp
 cases C
 have hq := Am _ rfl
 subst hq
 dsimp only at h
 cases h
 refine VW.ret ?_
 simp [Post,PostM,PostC,PostC2,Nx,Bk]

theorem g_slices_ContainsFunc_LLI_LI_of_i_IsLoop_c1_ok {a0 : List (List Int)} {r : Bool} (h : g_slices_ContainsFunc_LLI_LI_of_i_IsLoop_c1 a0 = some r) :
  VCall Try.prog 102 [dM a0,.fn 103 []] [.sc (.bool r)] := by
 unfold g_slices_ContainsFunc_LLI_LI_of_i_IsLoop_c1 at h
 refine VCall.enter Try.call102 Try.func102 rfl 9 Try.ntmps102 (by simp) [.tmp 4] rfl ?_
 show VW _ _ _ (mk [(0,.val (dM a0)),(1,.val (.fn 103 []))]) _
 refine zs [(0,.val (dM a0)),(1,.val (.fn 103 []))] ?_ ?_
 ·simp
 obtain ⟨v1,Be,h⟩ := bind_some h
 refine VW.ws tau_ok (Sound.none.add 7 (g_slices_IndexFunc_LLI_LI_of_i_IsLoop_c1_ok Be) rfl) _ [(4,.val (.bool (ile 0 v1)))] rfl ?_ ?_
 ·simp
 cases h
 refine VW.ret ?_
 simp [Post,PostM,PostC,PostC2,Nx,Bk]

theorem i_IsLoop_ok {a0 : List (List Int)} {r : Bool} (h : i_IsLoop a0 = some r) :
  VCall Try.prog 31 [dM a0] [.sc (.bool r)] := by
 unfold i_IsLoop at h
 refine VCall.enter Try.call31 Try.func31 rfl 59 Try.ntmps31 (by simp) [.tmp 2] rfl ?_
 show VW _ _ _ (mk [(0,.val (dM a0))]) _
 refine zs [(0,.val (dM a0))] ?_ ?_
 ·simp
 refine zs [(0,.val (dM a0)),(3,.val (i64 (a0.length : Int)))] ?_ ?_
 ·simp
 refine VW.sqc fun K1 hK1 hCK1 => ?_
 obtain ⟨x3,Aj,h⟩ := bind_some h
 refine VW.cut [(0,.val (dM a0)),(3,.val (i64 (a0.length : Int))),(15,.val (.bool x3))] ?_ fun hy => ?_
 rotate_left
 ·clear h
  by_cases Hn : (a0.length : Int) < 1
  ·rw [if_pos Hn] at Aj
   have C6 : ilt (a0.length : Int) 1 = true := by simpa [ieq,ilt,ile] using Hn
   have C7 := C6
   try simp at C7
   cases Aj
   refine VW.ws tau_ok Sound.none _ _ rfl ?_ hy
   simp [C6,C7]
  ·rw [if_neg Hn] at Aj
   have C6 : ilt (a0.length : Int) 1 = false := by simpa [ieq,ilt,ile] using Hn
   have C7 := C6
   try simp at C7
   cases Aj
   refine VW.ws tau_ok Sound.none _ _ rfl ?_ hy
   simp [C6,C7]
 refine VW.cond rfl (fun Eh => ?_) (fun Eh => ?_)
 ·
  replace Eh : x3 = true := by simpa [ieq,ilt,ile] using Eh
  rw [if_pos Eh] at h
  refine zs [(2,.val (.bool false))] ?_ ?_
  ·simp
  cases h
  refine VW.ret ?_
  simp [Post,PostM,PostC,PostC2,Nx,Bk]
 replace Eh : ¬ (x3 = true) := by simpa [ieq,ilt,ile] using Eh
 rw [if_neg Eh] at h
 refine VW.skip ?_
 refine hK1 _ ?_
 refine VW.sqc fun K5 hK5 hCK5 => ?_
 refine zs [(0,.val (dM a0)),(3,.val (i64 (a0.length : Int))),(16,.val (dM a0)),(17,.val (i64 (a0.length : Int))),(18,.val (i64 0))] ?_ ?_
 ·simp
 obtain ⟨x6,Hr,h⟩ := bind_some h
 refine VW.tlO (fun y8 => [(0,.val (dM a0))]) x6 (hCK5) ?_ ?_
 ·clear Hr
  rintro y8 rfl
  dsimp only at h
  refine hK5 _ ?_
  refine VW.sqc fun K14 hK14 hCK14 => ?_
  refine zs [(0,.val (dM a0)),(27,.val (dM a0)),(28,.val (i64 (a0.length : Int))),(29,.val (i64 0))] ?_ ?_
  ·simp
  obtain ⟨x15,Ae,h⟩ := bind_some h
  refine VW.tlO (fun y17 => [(0,.val (dM a0))]) x15 (hCK14) ?_ ?_
  ·clear Ae
   rintro y17 rfl
   dsimp only at h
   refine hK14 _ ?_
   obtain ⟨v30,C8,h⟩ := bind_some h
   obtain ⟨v31,C9,h⟩ := bind_some h
   refine VW.ws tau_ok ((Sound.none.add 56 (i_transpose_ok C8) rfl).add 57 (g_slices_ContainsFunc_LLI_LI_of_i_IsLoop_c1_ok C9) rfl) _ [(2,.val (.bool (!v31)))] rfl ?_ ?_
   ·simp
   cases h
   refine VW.ret ?_
   simp [Post,PostM,PostC,PostC2,Nx,Bk]
  refine VW.block ?_
  refine VW.loopF (i_IsLoop_L1 a0) (fun s15 => [(0,.val (dM a0)),(27,.val (dM a0)),(28,.val (i64 (a0.length : Int))),(29,.val (i64 s15))]) Ae (Fits.of rfl) ?_
  clear Ae
  intro s15 ox15 S D5
  unfold i_IsLoop_L1 at S
  refine zs [(0,.val (dM a0)),(27,.val (dM a0)),(28,.val (i64 (a0.length : Int))),(29,.val (i64 s15)),(30,.val (.bool (ilt s15 (a0.length : Int))))] ?_ ?_
  ·simp
  refine VW.sqc fun K18 hK18 hCK18 => ?_
  refine VW.cond rfl (fun Ca => ?_) (fun Ca => ?_)
  rotate_left
  ·
   replace Ca : ¬ (s15 < (a0.length : Int)) := by simpa [ieq,ilt,ile] using Ca
   rw [if_neg Ca] at S
   refine VW.exit ?_
   cases S
   have hq := D5 _ rfl
   subst hq
   exact ⟨_,rfl,Fits.of rfl⟩
  replace Ca : s15 < (a0.length : Int) := by simpa [ieq,ilt,ile] using Ca
  rw [if_pos Ca] at S
  refine VW.skip ?_
  refine hK18 _ ?_
  refine VW.sqc fun K20 hK20 hCK20 => ?_
  refine VW.block ?_
  obtain ⟨v21,Hs,S⟩ := bind_some S
  obtain ⟨Fn,Fo,Fp,Fq⟩ := idx_some Hs
  refine zs [(0,.val (dM a0)),(6,.val (i64 s15)),(7,.val (dI v21)),(27,.val (dM a0)),(28,.val (i64 (a0.length : Int))),(29,.val (i64 s15))] ?_ ?_
  ·simp [Fn,Fo,Fp,Fq]
  obtain ⟨x28,G,S⟩ := bind_some S
  refine VW.cut [(0,.val (dM a0)),(27,.val (dM a0)),(28,.val (i64 (a0.length : Int))),(29,.val (i64 s15)),(53,.val (.bool x28))] ?_ fun hy => ?_
  rotate_left
  ·clear S
   obtain ⟨v22,Ht,G⟩ := bind_some G
   obtain ⟨Da,Bv,Bw,Bx⟩ := idx_some Ht
   replace Bv : 0 < v21.length := Bv
   replace Bw : v21[0]? = some v22 := Bw
   replace Bx : ∀ h,v21[0]'h = v22 := Bx
   by_cases Dw : ¬ v22 = s15
   ·rw [if_pos Dw] at G
    have Ax : ieq v22 s15 = false := by simpa [ieq,ilt,ile] using Dw
    have Ay := Ax
    try simp at Ay
    cases G
    refine VW.ws tau_ok Sound.none _ _ rfl ?_ hy
    simp [Da,Bv,Bw,Bx,Ax,Ay]
   ·rw [if_neg Dw] at G
    have Ax : ieq v22 s15 = true := by simpa [ieq,ilt,ile] using Dw
    have Ay := Ax
    try simp at Ay
    obtain ⟨v24,Ei,G⟩ := bind_some G
    obtain ⟨Cn,Az,A0,A1⟩ := idx_some Ei
    replace Az : 0 < a0.length := Az
    replace A0 : a0[0]? = some v24 := A0
    replace A1 : ∀ h,a0[0]'h = v24 := A1
    obtain ⟨v25,Cw,G⟩ := bind_some G
    obtain ⟨Co,Cp,Cq,Cr⟩ := idx_some Cw
    by_cases Bj : ¬ v25 = s15
    ·rw [if_pos Bj] at G
     have U : ieq v25 s15 = false := by simpa [ieq,ilt,ile] using Bj
     have V := U
     try simp at V
     cases G
     refine VW.ws tau_ok Sound.none _ _ rfl ?_ hy
     simp [Da,Bv,Bw,Bx,Ax,Ay,Cn,Az,A0,A1,Co,Cp,Cq,Cr,U,V]
    ·rw [if_neg Bj] at G
     have U : ieq v25 s15 = true := by simpa [ieq,ilt,ile] using Bj
     have V := U
     try simp at V
     obtain ⟨v27,Db,G⟩ := bind_some G
     cases G
     refine VW.ws tau_ok (Sound.none.add 51 (i_isOnce_ok Db) rfl) _ _ rfl ?_ hy
     simp [Da,Bv,Bw,Bx,Ax,Ay,Cn,Az,A0,A1,Co,Cp,Cq,Cr,U,V]
  refine VW.cond rfl (fun Ab => ?_) (fun Ab => ?_)
  rotate_left
  ·
   replace Ab : ¬ (x28 = true) := by simpa [ieq,ilt,ile] using Ab
   rw [if_neg Ab] at S
   refine VW.skip ?_
   refine hK20 _ ?_
   refine zr [(0,.val (dM a0)),(27,.val (dM a0)),(28,.val (i64 (a0.length : Int))),(29,.val (i64 (w64 (s15 + 1))))] ?_ ?_
   ·simp
   cases S
   exact ⟨_,rfl,Fits.of rfl⟩
  replace Ab : x28 = true := by simpa [ieq,ilt,ile] using Ab
  rw [if_pos Ab] at S
  refine zs [(2,.val (.bool false))] ?_ ?_
  ·simp
  cases S
  have hq := D5 _ rfl
  subst hq
  dsimp only at h
  cases h
  refine VW.ret ?_
  simp [Post,PostM,PostC,PostC2,Nx,Bk]
 refine VW.block ?_
 refine VW.loopF (i_IsLoop_L0 a0) (fun s6 => [(0,.val (dM a0)),(3,.val (i64 (a0.length : Int))),(16,.val (dM a0)),(17,.val (i64 (a0.length : Int))),(18,.val (i64 s6))]) Hr (Fits.of rfl) ?_
 clear Hr
 intro s6 ox6 Aw Fr
 unfold i_IsLoop_L0 at Aw
 refine zs [(0,.val (dM a0)),(3,.val (i64 (a0.length : Int))),(16,.val (dM a0)),(17,.val (i64 (a0.length : Int))),(18,.val (i64 s6)),(19,.val (.bool (ilt s6 (a0.length : Int))))] ?_ ?_
 ·simp
 refine VW.sqc fun K9 hK9 hCK9 => ?_
 refine VW.cond rfl (fun I => ?_) (fun I => ?_)
 rotate_left
 ·
  replace I : ¬ (s6 < (a0.length : Int)) := by simpa [ieq,ilt,ile] using I
  rw [if_neg I] at Aw
  refine VW.exit ?_
  cases Aw
  have hq := Fr _ rfl
  subst hq
  exact ⟨_,rfl,Fits.of rfl⟩
 replace I : s6 < (a0.length : Int) := by simpa [ieq,ilt,ile] using I
 rw [if_pos I] at Aw
 refine VW.skip ?_
 refine hK9 _ ?_
 refine VW.sqc fun K11 hK11 hCK11 => ?_
 refine VW.block ?_
 obtain ⟨v12,Bn,Aw⟩ := bind_some Aw
 obtain ⟨Fs,Ft,Fu,Fv⟩ := idx_some Bn
 refine zs [(0,.val (dM a0)),(3,.val (i64 (a0.length : Int))),(5,.val (dI v12)),(16,.val (dM a0)),(17,.val (i64 (a0.length : Int))),(18,.val (i64 s6))] ?_ ?_
 ·simp [Fs,Ft,Fu,Fv]
 refine zs [(0,.val (dM a0)),(3,.val (i64 (a0.length : Int))),(16,.val (dM a0)),(17,.val (i64 (a0.length : Int))),(18,.val (i64 s6)),(25,.val (.bool (!(ieq (v12.length : Int) (a0.length : Int)))))] ?_ ?_
 ·simp
 refine VW.cond rfl (fun P => ?_) (fun P => ?_)
 rotate_left
 ·
  replace P : ¬ (¬ (v12.length : Int) = (a0.length : Int)) := by simpa [ieq,ilt,ile] using P
  rw [if_neg P] at Aw
  refine VW.skip ?_
  refine hK11 _ ?_
  refine zr [(0,.val (dM a0)),(3,.val (i64 (a0.length : Int))),(16,.val (dM a0)),(17,.val (i64 (a0.length : Int))),(18,.val (i64 (w64 (s6 + 1))))] ?_ ?_
  ·simp
  cases Aw
  exact ⟨_,rfl,Fits.of rfl⟩
 replace P : ¬ (v12.length : Int) = (a0.length : Int) := by simpa [ieq,ilt,ile] using P
 rw [if_pos P] at Aw
 refine zs [(2,.val (.bool false))] ?_ ?_
 ·simp
 cases Aw
 have hq := Fr _ rfl
 subst hq
 dsimp only at h
 cases h
 refine VW.ret ?_
 simp [Post,PostM,PostC,PostC2,Nx,Bk]

theorem i_length_LI_ok {a0 : List (List Int)} {r : Int} (h : i_length_LI a0 = some r) :
  VCall Try.prog 81 [dM a0] [.sc (i64 r)] := by
 unfold i_length_LI at h
 refine VCall.enter Try.call81 Try.func81 rfl 5 Try.ntmps81 (by simp) [.tmp 2] rfl ?_
 show VW _ _ _ (mk [(0,.val (dM a0))]) _
 refine zs [(0,.val (dM a0))] ?_ ?_
 ·simp
 refine zs [(2,.val (i64 (a0.length : Int)))] ?_ ?_
 ·simp
 cases h
 refine VW.ret ?_
 simp [Post,PostM,PostC,PostC2,Nx,Bk]

theorem i_checkLoop_c1_ok {a0 : Int} {a1_0 : List (List Int)} {r : Bool} (h : i_checkLoop_c1 a0 a1_0 = some r) :
  VCall Try.prog 159 [i64 a0,.ptr [dM a1_0]] [.sc (.bool r)] := by
 unfold i_checkLoop_c1 at h
 refine VCall.enter Try.call159 Try.func159 rfl 10 Try.ntmps159 (by simp) [.tmp 3] rfl ?_
 show VW _ _ _ (mk [(0,.val (i64 a0)),(1,.val (.ptr [dM a1_0]))]) _
 refine zs [(0,.val (i64 a0)),(1,.val (.ptr [dM a1_0]))] ?_ ?_
 ·simp
 obtain ⟨v1,Be,h⟩ := bind_some h
 obtain ⟨v2,Ag,h⟩ := bind_some h
 refine VW.ws tau_ok ((Sound.none.add 6 (i_length_LI_ok Be) rfl).add 8 (i_inRange_ok Ag) rfl) _ [(3,.val (.bool (!v2)))] rfl ?_ ?_
 ·simp
 cases h
 refine VW.ret ?_
 simp [Post,PostM,PostC,PostC2,Nx,Bk]

theorem g_slices_IndexFunc_LI_I_of_i_checkLoop_c1_ok {a0 : List Int} {a1_0_0 : List (List Int)} {r : Int} (h : g_slices_IndexFunc_LI_I_of_i_checkLoop_c1 a0 a1_0_0 = some r) :
  VCall Try.prog 163 [dI a0,.fn 159 [.ptr [dM a1_0_0]]] [.sc (i64 r)] := by
 unfold g_slices_IndexFunc_LI_I_of_i_checkLoop_c1 at h
 refine VCall.enter Try.call163 Try.func163 rfl 19 Try.ntmps163 (by simp) [.tmp 4] rfl ?_
 show VW _ _ _ (mk [(0,.val (dI a0)),(1,.val (.fn 159 [.ptr [dM a1_0_0]]))]) _
 refine zs [(0,.val (dI a0)),(1,.val (.fn 159 [.ptr [dM a1_0_0]]))] ?_ ?_
 ·simp
 refine VW.sqc fun K1 hK1 hCK1 => ?_
 refine zs [(0,.val (dI a0)),(1,.val (.fn 159 [.ptr [dM a1_0_0]])),(7,.val (i64 (a0.length : Int))),(8,.val (i64 0))] ?_ ?_
 ·simp
 obtain ⟨x2,B9,h⟩ := bind_some h
 refine VW.tlO (fun y4 => []) x2 (hCK1) ?_ ?_
 ·clear B9
  rintro y4 rfl
  dsimp only at h
  refine hK1 _ ?_
  refine zs [(4,.val (i64 (-1)))] ?_ ?_
  ·simp
  cases h
  refine VW.ret ?_
  simp [Post,PostM,PostC,PostC2,Nx,Bk]
 refine VW.block ?_
 refine VW.loopF (g_slices_IndexFunc_LI_I_of_i_checkLoop_c1_L0 a0 a1_0_0) (fun s2 => [(0,.val (dI a0)),(1,.val (.fn 159 [.ptr [dM a1_0_0]])),(7,.val (i64 (a0.length : Int))),(8,.val (i64 s2))]) B9 (Fits.of rfl) ?_
 clear B9
 intro s2 ox2 C Am
 unfold g_slices_IndexFunc_LI_I_of_i_checkLoop_c1_L0 at C
 refine zs [(0,.val (dI a0)),(1,.val (.fn 159 [.ptr [dM a1_0_0]])),(7,.val (i64 (a0.length : Int))),(8,.val (i64 s2)),(9,.val (.bool (ilt s2 (a0.length : Int))))] ?_ ?_
 ·simp
 refine VW.sqc fun K5 hK5 hCK5 => ?_
 refine VW.cond rfl (fun M => ?_) (fun M => ?_)
 rotate_left
 ·
  replace M : ¬ (s2 < (a0.length : Int)) := by simpa [ieq,ilt,ile] using M
  rw [if_neg M] at C
  refine VW.exit ?_
  cases C
  have hq := Am _ rfl
  subst hq
  exact ⟨_,rfl,Fits.of rfl⟩
 replace M : s2 < (a0.length : Int) := by simpa [ieq,ilt,ile] using M
 rw [if_pos M] at C
 refine VW.skip ?_
 refine hK5 _ ?_
 refine VW.sqc fun K7 hK7 hCK7 => ?_
 refine VW.block ?_
 refine zs [(0,.val (dI a0)),(1,.val (.fn 159 [.ptr [dM a1_0_0]])),(5,.val (i64 s2)),(7,.val (i64 (a0.length : Int))),(8,.val (i64 s2))] ?_ ?_
 ·simp
 obtain ⟨v8,Dv,C⟩ := bind_some C
 obtain ⟨Bf,Bg,Bh,Bi⟩ := idx_some Dv
 obtain ⟨v9,B3,C⟩ := bind_some C
 refine VW.ws tau_ok (Sound.none.add 16 (i_checkLoop_c1_ok B3) rfl) _ [(0,.val (dI a0)),(1,.val (.fn 159 [.ptr [dM a1_0_0]])),(5,.val (i64 s2)),(7,.val (i64 (a0.length : Int))),(8,.val (i64 s2)),(16,.val (.bool v9))] rfl ?_ ?_
 ·simp [Bf,Bg,Bh,Bi]
 refine VW.cond rfl (fun I => ?_) (fun I => ?_)
 rotate_left
 ·
  replace I : ¬ (v9 = true) := by simpa [ieq,ilt,ile] using I
  rw [if_neg I] at C
  refine VW.skip ?_
  refine hK7 _ ?_
  refine zr [(0,.val (dI a0)),(1,.val (.fn 159 [.ptr [dM a1_0_0]])),(7,.val (i64 (a0.length : Int))),(8,.val (i64 (w64 (s2 + 1))))] ?_ ?_
  ·simp
  cases C
  exact ⟨_,rfl,Fits.of rfl⟩
 replace I : v9 = true := by simpa [ieq,ilt,ile] using I
 rw [if_pos I] at C
 refine zs [(4,.val (i64 s2))] ?_ ?_
 ·simp
 cases C
 have hq := Am _ rfl
 subst hq
 dsimp only at h
 cases h
 refine VW.ret ?_
 simp [Post,PostM,PostC,PostC2,Nx,Bk]

theorem g_slices_ContainsFunc_LI_I_of_i_checkLoop_c1_ok {a0 : List Int} {a1_0_0 : List (List Int)} {r : Bool} (h : g_slices_ContainsFunc_LI_I_of_i_checkLoop_c1 a0 a1_0_0 = some r) :
  VCall Try.prog 82 [dI a0,.fn 159 [.ptr [dM a1_0_0]]] [.sc (.bool r)] := by
 unfold g_slices_ContainsFunc_LI_I_of_i_checkLoop_c1 at h
 refine VCall.enter Try.call82 Try.func82 rfl 9 Try.ntmps82 (by simp) [.tmp 4] rfl ?_
 show VW _ _ _ (mk [(0,.val (dI a0)),(1,.val (.fn 159 [.ptr [dM a1_0_0]]))]) _
 refine zs [(0,.val (dI a0)),(1,.val (.fn 159 [.ptr [dM a1_0_0]]))] ?_ ?_
 ·simp
 obtain ⟨v1,Be,h⟩ := bind_some h
 refine VW.ws tau_ok (Sound.none.add 7 (g_slices_IndexFunc_LI_I_of_i_checkLoop_c1_ok Be) rfl) _ [(4,.val (.bool (ile 0 v1)))] rfl ?_ ?_
 ·simp
 cases h
 refine VW.ret ?_
 simp [Post,PostM,PostC,PostC2,Nx,Bk]

theorem i_checkLoop_ok {a0 : List (List Int)} {a1 : List Int} {r : Int} (h : i_checkLoop a0 a1 = some r) :
  VCall Try.prog 78 [dM a0,dI a1] [.sc (i64 r)] := by
 unfold i_checkLoop at h
 refine VCall.enter Try.call78 Try.func78 rfl 11 Try.ntmps78 (by simp) [.tmp 4] rfl ?_
 show VW _ _ _ (mk [(0,.val (dM a0)),(1,.val (dI a1))]) _
 refine zs [(1,.val (dI a1)),(2,.val (.ptr [dM a0]))] ?_ ?_
 ·simp
 refine VW.sqc fun K1 hK1 hCK1 => ?_
 obtain ⟨v2,Ag,h⟩ := bind_some h
 refine VW.ws tau_ok (Sound.none.add 6 (i_IsLoop_ok Ag) rfl) _ [(1,.val (dI a1)),(2,.val (.ptr [dM a0])),(7,.val (.bool (!v2)))] rfl ?_ ?_
 ·simp
 refine VW.cond rfl (fun E => ?_) (fun E => ?_)
 ·
  replace E : v2 = false := by simpa [ieq,ilt,ile] using E
  rw [if_pos E] at h
  refine zs [(4,.val (i64 1))] ?_ ?_
  ·simp
  cases h
  refine VW.ret ?_
  simp [Post,PostM,PostC,PostC2,Nx,Bk]
 replace E : ¬ (v2 = false) := by simpa [ieq,ilt,ile] using E
 rw [if_neg E] at h
 refine VW.skip ?_
 refine hK1 _ ?_
 refine VW.sqc fun K4 hK4 hCK4 => ?_
 obtain ⟨v5,Dx,h⟩ := bind_some h
 refine VW.ws tau_ok (Sound.none.add 10 (g_slices_ContainsFunc_LI_I_of_i_checkLoop_c1_ok Dx) rfl) _ [(10,.val (.bool v5))] rfl ?_ ?_
 ·simp
 refine VW.cond rfl (fun M => ?_) (fun M => ?_)
 ·
  replace M : v5 = true := by simpa [ieq,ilt,ile] using M
  rw [if_pos M] at h
  refine zs [(4,.val (i64 2))] ?_ ?_
  ·simp
  cases h
  refine VW.ret ?_
  simp [Post,PostM,PostC,PostC2,Nx,Bk]
 replace M : ¬ (v5 = true) := by simpa [ieq,ilt,ile] using M
 rw [if_neg M] at h
 refine VW.skip ?_
 refine hK4 _ ?_
 refine zs [(4,.val (i64 0))] ?_ ?_
 ·simp
 cases h
 refine VW.ret ?_
 simp [Post,PostM,PostC,PostC2,Nx,Bk]

theorem i_IsMoufangLoop_c1_ok {a0 : Int} {a1 : Int} {a2 : Int} {a3_0 : List (List Int)} {r : Bool} (h : i_IsMoufangLoop_c1 a0 a1 a2 a3_0 = some r) :
  VCall Try.prog 98 [i64 a0,i64 a1,i64 a2,.ptr [dM a3_0]] [.sc (.bool r)] := by
 unfold i_IsMoufangLoop_c1 at h
 refine VCall.enter Try.call98 Try.func98 rfl 47 Try.ntmps98 (by simp) [.tmp 7] rfl ?_
 show VW _ _ _ (mk [(0,.val (i64 a0)),(1,.val (i64 a1)),(2,.val (i64 a2)),(3,.val (.ptr [dM a3_0]))]) _
 refine zs [(0,.val (i64 a0)),(1,.val (i64 a1)),(2,.val (i64 a2)),(3,.val (.ptr [dM a3_0]))] ?_ ?_
 ·simp
 obtain ⟨v1,Be,h⟩ := bind_some h
 obtain ⟨Ej,Ek,El,Em⟩ := idx_some Be
 obtain ⟨v2,Ag,h⟩ := bind_some h
 obtain ⟨C4,B5,B6,B7⟩ := idx_some Ag
 obtain ⟨v3,Hu,h⟩ := bind_some h
 obtain ⟨En,Eo,Ep,Eq⟩ := idx_some Hu
 obtain ⟨v4,Cx,h⟩ := bind_some h
 obtain ⟨Er,Es,Et,Eu⟩ := idx_some Cx
 obtain ⟨v5,Dx,h⟩ := bind_some h
 obtain ⟨Ev,Ew,Ex,Ey⟩ := idx_some Dx
 obtain ⟨v6,Hv,h⟩ := bind_some h
 obtain ⟨Ez,E0,E1,E2⟩ := idx_some Hv
 obtain ⟨v7,Hw,h⟩ := bind_some h
 obtain ⟨E3,E4,E5,E6⟩ := idx_some Hw
 obtain ⟨v8,Dv,h⟩ := bind_some h
 obtain ⟨Bf,Bg,Bh,Bi⟩ := idx_some Dv
 obtain ⟨v9,B3,h⟩ := bind_some h
 obtain ⟨Cz,C0,C1,C2⟩ := idx_some B3
 obtain ⟨v10,Bl,h⟩ := bind_some h
 obtain ⟨An,Ao,Ap,Aq⟩ := idx_some Bl
 obtain ⟨v11,Af,h⟩ := bind_some h
 obtain ⟨W,X,Y,Z⟩ := idx_some Af
 refine VW.wds tau_ok Sound.none try_mixed _ [(7,.val (.bool (ieq v6 v11)))] 40 rfl (by kernel_rfl) (by rfl) ?_ ?_
 ·simp [Ej,Ek,El,Em,C4,B5,B6,B7,En,Eo,Ep,Eq,Er,Es,Et,Eu,Ev,Ew,Ex,Ey,Ez,E0,E1,E2,E3,E4,E5,E6,Bf,Bg,Bh,Bi,Cz,C0,C1,C2,An,Ao,Ap,Aq,W,X,Y,Z]
 cases h
 refine VW.ret ?_
 simp [Post,PostM,PostC,PostC2,Nx,Bk]

theorem i_loopTriples_of_i_IsMoufangLoop_c1_ok {a0 : List (List Int)} {a1_0_0 : List (List Int)} {r : Bool} (h : i_loopTriples_of_i_IsMoufangLoop_c1 a0 a1_0_0 = some r) :
  VCall Try.prog 96 [dM a0,.fn 98 [.ptr [dM a1_0_0]]] [.sc (.bool r)] := by
 unfold i_loopTriples_of_i_IsMoufangLoop_c1 at h
 refine VCall.enter Try.call96 Try.func96 rfl 32 Try.ntmps96 (by simp) [.tmp 4] rfl ?_
 show VW _ _ _ (mk [(0,.val (dM a0)),(1,.val (.fn 98 [.ptr [dM a1_0_0]]))]) _
 refine zs [(0,.val (dM a0)),(1,.val (.fn 98 [.ptr [dM a1_0_0]]))] ?_ ?_
 ·simp
 refine VW.sqc fun K1 hK1 hCK1 => ?_
 obtain ⟨v2,Ag,h⟩ := bind_some h
 refine VW.ws tau_ok (Sound.none.add 9 (i_length_LI_ok Ag) rfl) _ [(0,.val (dM a0)),(1,.val (.fn 98 [.ptr [dM a1_0_0]])),(9,.val (i64 v2)),(10,.val (i64 0))] rfl ?_ ?_
 ·simp
 obtain ⟨x3,Aj,h⟩ := bind_some h
 refine VW.tlO (fun y5 => []) x3 (hCK1) ?_ ?_
 ·clear Aj
  rintro y5 rfl
  dsimp only at h
  refine hK1 _ ?_
  refine zs [(4,.val (.bool true))] ?_ ?_
  ·simp
  cases h
  refine VW.ret ?_
  simp [Post,PostM,PostC,PostC2,Nx,Bk]
 refine VW.block ?_
 refine VW.loopF (i_loopTriples_of_i_IsMoufangLoop_c1_L0 a0 a1_0_0 v2) (fun s3 => [(0,.val (dM a0)),(1,.val (.fn 98 [.ptr [dM a1_0_0]])),(9,.val (i64 v2)),(10,.val (i64 s3))]) Aj (Fits.of rfl) ?_
 clear Aj
 intro s3 ox3 B Ah
 unfold i_loopTriples_of_i_IsMoufangLoop_c1_L0 at B
 refine zs [(0,.val (dM a0)),(1,.val (.fn 98 [.ptr [dM a1_0_0]])),(9,.val (i64 v2)),(10,.val (i64 s3)),(11,.val (.bool (ilt s3 v2)))] ?_ ?_
 ·simp
 refine VW.sqc fun K6 hK6 hCK6 => ?_
 refine VW.cond rfl (fun Ak => ?_) (fun Ak => ?_)
 rotate_left
 ·
  replace Ak : ¬ (s3 < v2) := by simpa [ieq,ilt,ile] using Ak
  rw [if_neg Ak] at B
  refine VW.exit ?_
  cases B
  have hq := Ah _ rfl
  subst hq
  exact ⟨_,rfl,Fits.of rfl⟩
 replace Ak : s3 < v2 := by simpa [ieq,ilt,ile] using Ak
 rw [if_pos Ak] at B
 refine VW.skip ?_
 refine hK6 _ ?_
 refine VW.sqc fun K8 hK8 hCK8 => ?_
 refine VW.block ?_
 refine zs [(0,.val (dM a0)),(1,.val (.fn 98 [.ptr [dM a1_0_0]])),(5,.val (i64 s3)),(9,.val (i64 v2)),(10,.val (i64 s3))] ?_ ?_
 ·simp
 obtain ⟨v9,B3,B⟩ := bind_some B
 refine VW.ws tau_ok (Sound.none.add 14 (i_length_LI_ok B3) rfl) _ [(0,.val (dM a0)),(1,.val (.fn 98 [.ptr [dM a1_0_0]])),(5,.val (i64 s3)),(9,.val (i64 v2)),(10,.val (i64 s3)),(14,.val (i64 v9)),(15,.val (i64 0))] rfl ?_ ?_
 ·simp
 obtain ⟨x10,Cb,B⟩ := bind_some B
 refine VW.tlO (fun y12 => [(0,.val (dM a0)),(1,.val (.fn 98 [.ptr [dM a1_0_0]])),(9,.val (i64 v2)),(10,.val (i64 s3))]) x10 (hCK8) ?_ ?_
 ·clear Cb
  rintro y12 rfl
  dsimp only at B
  refine hK8 _ ?_
  refine zr [(0,.val (dM a0)),(1,.val (.fn 98 [.ptr [dM a1_0_0]])),(9,.val (i64 v2)),(10,.val (i64 (w64 (s3 + 1))))] ?_ ?_
  ·simp
  cases B
  exact ⟨_,rfl,Fits.of rfl⟩
 refine VW.block ?_
 refine VW.loopF (i_loopTriples_of_i_IsMoufangLoop_c1_L1 a0 a1_0_0 s3 v9) (fun s10 => [(0,.val (dM a0)),(1,.val (.fn 98 [.ptr [dM a1_0_0]])),(5,.val (i64 s3)),(9,.val (i64 v2)),(10,.val (i64 s3)),(14,.val (i64 v9)),(15,.val (i64 s10))]) Cb (Fits.of rfl) ?_
 clear Cb
 intro s10 ox10 D By
 unfold i_loopTriples_of_i_IsMoufangLoop_c1_L1 at D
 refine zs [(0,.val (dM a0)),(1,.val (.fn 98 [.ptr [dM a1_0_0]])),(5,.val (i64 s3)),(9,.val (i64 v2)),(10,.val (i64 s3)),(14,.val (i64 v9)),(15,.val (i64 s10)),(16,.val (.bool (ilt s10 v9)))] ?_ ?_
 ·simp
 refine VW.sqc fun K13 hK13 hCK13 => ?_
 refine VW.cond rfl (fun Q => ?_) (fun Q => ?_)
 rotate_left
 ·
  replace Q : ¬ (s10 < v9) := by simpa [ieq,ilt,ile] using Q
  rw [if_neg Q] at D
  refine VW.exit ?_
  cases D
  have hq := By _ rfl
  subst hq
  exact ⟨_,rfl,Fits.of rfl⟩
 replace Q : s10 < v9 := by simpa [ieq,ilt,ile] using Q
 rw [if_pos Q] at D
 refine VW.skip ?_
 refine hK13 _ ?_
 refine VW.sqc fun K15 hK15 hCK15 => ?_
 refine VW.block ?_
 refine zs [(0,.val (dM a0)),(1,.val (.fn 98 [.ptr [dM a1_0_0]])),(5,.val (i64 s3)),(6,.val (i64 s10)),(9,.val (i64 v2)),(10,.val (i64 s3)),(14,.val (i64 v9)),(15,.val (i64 s10))] ?_ ?_
 ·simp
 obtain ⟨v16,Dc,D⟩ := bind_some D
 refine VW.ws tau_ok (Sound.none.add 19 (i_length_LI_ok Dc) rfl) _ [(0,.val (dM a0)),(1,.val (.fn 98 [.ptr [dM a1_0_0]])),(5,.val (i64 s3)),(6,.val (i64 s10)),(9,.val (i64 v2)),(10,.val (i64 s3)),(14,.val (i64 v9)),(15,.val (i64 s10)),(19,.val (i64 v16)),(20,.val (i64 0))] rfl ?_ ?_
 ·simp
 obtain ⟨x17,Ac,D⟩ := bind_some D
 refine VW.tlO (fun y19 => [(0,.val (dM a0)),(1,.val (.fn 98 [.ptr [dM a1_0_0]])),(5,.val (i64 s3)),(9,.val (i64 v2)),(10,.val (i64 s3)),(14,.val (i64 v9)),(15,.val (i64 s10))]) x17 (hCK15) ?_ ?_
 ·clear Ac
  rintro y19 rfl
  dsimp only at D
  refine hK15 _ ?_
  refine zr [(0,.val (dM a0)),(1,.val (.fn 98 [.ptr [dM a1_0_0]])),(5,.val (i64 s3)),(9,.val (i64 v2)),(10,.val (i64 s3)),(14,.val (i64 v9)),(15,.val (i64 (w64 (s10 + 1))))] ?_ ?_
  ·simp
  cases D
  exact ⟨_,rfl,Fits.of rfl⟩
 refine VW.block ?_
 refine VW.loopF (i_loopTriples_of_i_IsMoufangLoop_c1_L2 a1_0_0 s3 s10 v16) (fun s17 => [(0,.val (dM a0)),(1,.val (.fn 98 [.ptr [dM a1_0_0]])),(5,.val (i64 s3)),(6,.val (i64 s10)),(9,.val (i64 v2)),(10,.val (i64 s3)),(14,.val (i64 v9)),(15,.val (i64 s10)),(19,.val (i64 v16)),(20,.val (i64 s17))]) Ac (Fits.of rfl) ?_
 clear Ac
 intro s17 ox17 A Aa
 unfold i_loopTriples_of_i_IsMoufangLoop_c1_L2 at A
 refine zs [(0,.val (dM a0)),(1,.val (.fn 98 [.ptr [dM a1_0_0]])),(5,.val (i64 s3)),(6,.val (i64 s10)),(9,.val (i64 v2)),(10,.val (i64 s3)),(14,.val (i64 v9)),(15,.val (i64 s10)),(19,.val (i64 v16)),(20,.val (i64 s17)),(21,.val (.bool (ilt s17 v16)))] ?_ ?_
 ·simp
 refine VW.sqc fun K20 hK20 hCK20 => ?_
 refine VW.cond rfl (fun R => ?_) (fun R => ?_)
 rotate_left
 ·
  replace R : ¬ (s17 < v16) := by simpa [ieq,ilt,ile] using R
  rw [if_neg R] at A
  refine VW.exit ?_
  cases A
  have hq := Aa _ rfl
  subst hq
  exact ⟨_,rfl,Fits.of rfl⟩
 replace R : s17 < v16 := by simpa [ieq,ilt,ile] using R
 rw [if_pos R] at A
 refine VW.skip ?_
 refine hK20 _ ?_
 refine VW.sqc fun K22 hK22 hCK22 => ?_
 refine VW.block ?_
 refine zs [(0,.val (dM a0)),(1,.val (.fn 98 [.ptr [dM a1_0_0]])),(5,.val (i64 s3)),(6,.val (i64 s10)),(7,.val (i64 s17)),(9,.val (i64 v2)),(10,.val (i64 s3)),(14,.val (i64 v9)),(15,.val (i64 s10)),(19,.val (i64 v16)),(20,.val (i64 s17))] ?_ ?_
 ·simp
 obtain ⟨v23,Bm,A⟩ := bind_some A
 refine VW.ws tau_ok (Sound.none.add 27 (i_IsMoufangLoop_c1_ok Bm) rfl) _ [(0,.val (dM a0)),(1,.val (.fn 98 [.ptr [dM a1_0_0]])),(5,.val (i64 s3)),(6,.val (i64 s10)),(9,.val (i64 v2)),(10,.val (i64 s3)),(14,.val (i64 v9)),(15,.val (i64 s10)),(19,.val (i64 v16)),(20,.val (i64 s17)),(28,.val (.bool (!v23)))] rfl ?_ ?_
 ·simp
 refine VW.cond rfl (fun Ad => ?_) (fun Ad => ?_)
 rotate_left
 ·
  replace Ad : ¬ (v23 = false) := by simpa [ieq,ilt,ile] using Ad
  rw [if_neg Ad] at A
  refine VW.skip ?_
  refine hK22 _ ?_
  refine zr [(0,.val (dM a0)),(1,.val (.fn 98 [.ptr [dM a1_0_0]])),(5,.val (i64 s3)),(6,.val (i64 s10)),(9,.val (i64 v2)),(10,.val (i64 s3)),(14,.val (i64 v9)),(15,.val (i64 s10)),(19,.val (i64 v16)),(20,.val (i64 (w64 (s17 + 1))))] ?_ ?_
  ·simp
  cases A
  exact ⟨_,rfl,Fits.of rfl⟩
 replace Ad : v23 = false := by simpa [ieq,ilt,ile] using Ad
 rw [if_pos Ad] at A
 refine zs [(4,.val (.bool false))] ?_ ?_
 ·simp
 cases A
 have hq := Aa _ rfl
 subst hq
 dsimp only at D
 cases D
 have hq := By _ rfl
 subst hq
 dsimp only at B
 cases B
 have hq := Ah _ rfl
 subst hq
 dsimp only at h
 cases h
 refine VW.ret ?_
 simp [Post,PostM,PostC,PostC2,Nx,Bk]

theorem i_IsMoufangLoop_ok {a0 : List (List Int)} {r : Bool × Int} (h : i_IsMoufangLoop a0 = some r) :
  VCall Try.prog 29 [dM a0] [.sc (.bool r.1),.sc (i64 r.2)] := by
 unfold i_IsMoufangLoop at h
 refine VCall.enter Try.call29 Try.func29 rfl 13 Try.ntmps29 (by simp) [.tmp 2,.tmp 3] rfl ?_
 show VW _ _ _ (mk [(0,.val (dM a0))]) _
 refine zs [(1,.val (.ptr [dM a0]))] ?_ ?_
 ·simp
 refine VW.sqc fun K1 hK1 hCK1 => ?_
 obtain ⟨v2,Ag,h⟩ := bind_some h
 refine VW.ws tau_ok (Sound.none.add 6 (i_checkLoop_ok Ag) rfl) _ [(1,.val (.ptr [dM a0])),(4,.val (i64 v2))] rfl ?_ ?_
 ·simp
 refine zs [(1,.val (.ptr [dM a0])),(4,.val (i64 v2)),(8,.val (.bool (!(ieq v2 0))))] ?_ ?_
 ·simp
 refine VW.cond rfl (fun E => ?_) (fun E => ?_)
 ·
  replace E : ¬ v2 = 0 := by simpa [ieq,ilt,ile] using E
  rw [if_pos E] at h
  refine zs [(2,.val (.bool false)),(3,.val (i64 v2))] ?_ ?_
  ·simp
  cases h
  refine VW.ret ?_
  simp [Post,PostM,PostC,PostC2,Nx,Bk]
 replace E : ¬ (¬ v2 = 0) := by simpa [ieq,ilt,ile] using E
 rw [if_neg E] at h
 refine VW.skip ?_
 refine hK1 _ ?_
 obtain ⟨v4,Cx,h⟩ := bind_some h
 refine VW.ws tau_ok (Sound.none.add 12 (i_loopTriples_of_i_IsMoufangLoop_c1_ok Cx) rfl) _ [(2,.val (.bool v4)),(3,.val (i64 0))] rfl ?_ ?_
 ·simp
 cases h
 refine VW.ret ?_
 simp [Post,PostM,PostC,PostC2,Nx,Bk]

theorem s_l13Is_ok {a0 : List (List Int)} {r : Bool} (h : s_l13Is a0 = some r) :
  VCall Try.prog 75 [dM a0] [.sc (.bool r)] := by
 unfold s_l13Is at h
 refine VCall.enter Try.call75 Try.func75 rfl 124 Try.ntmps75 (by simp) [.tmp 2] rfl ?_
 show VW _ _ _ (mk [(0,.val (dM a0))]) _
 refine zs [(0,.val (dM a0))] ?_ ?_
 ·simp
 refine zs [(0,.val (dM a0)),(3,.val (i64 (a0.length : Int)))] ?_ ?_
 ·simp
 refine VW.sqc fun K1 hK1 hCK1 => ?_
 obtain ⟨v2,Ag,h⟩ := bind_some h
 refine VW.ws tau_ok (Sound.none.add 12 (s_l01In_ok Ag) rfl) _ [(0,.val (dM a0)),(3,.val (i64 (a0.length : Int))),(13,.val (.bool (!v2)))] rfl ?_ ?_
 ·simp
 refine VW.cond rfl (fun E => ?_) (fun E => ?_)
 ·
  replace E : v2 = false := by simpa [ieq,ilt,ile] using E
  rw [if_pos E] at h
  refine zs [(2,.val (.bool false))] ?_ ?_
  ·simp
  cases h
  refine VW.ret ?_
  simp [Post,PostM,PostC,PostC2,Nx,Bk]
 replace E : ¬ (v2 = false) := by simpa [ieq,ilt,ile] using E
 rw [if_neg E] at h
 refine VW.skip ?_
 refine hK1 _ ?_
 refine VW.sqc fun K4 hK4 hCK4 => ?_
 refine zs [(0,.val (dM a0)),(3,.val (i64 (a0.length : Int))),(4,.val (i64 0))] ?_ ?_
 ·simp
 obtain ⟨x5,Dd,h⟩ := bind_some h
 refine VW.tlO (fun y7 => [(0,.val (dM a0)),(3,.val (i64 (a0.length : Int)))]) x5 (hCK4) ?_ ?_
 ·clear Dd
  rintro y7 rfl
  dsimp only at h
  refine hK4 _ ?_
  refine VW.sqc fun K13 hK13 hCK13 => ?_
  refine zs [(0,.val (dM a0)),(3,.val (i64 (a0.length : Int))),(5,.val (i64 0))] ?_ ?_
  ·simp
  obtain ⟨x14,E7,h⟩ := bind_some h
  refine VW.tlO (fun y16 => []) x14 (hCK13) ?_ ?_
  ·clear E7
   rintro y16 rfl
   dsimp only at h
   refine hK13 _ ?_
   refine zs [(2,.val (.bool true))] ?_ ?_
   ·simp
   cases h
   refine VW.ret ?_
   simp [Post,PostM,PostC,PostC2,Nx,Bk]
  refine VW.block ?_
  refine VW.loopF (s_l13Is_L1 a0) (fun s14 => [(0,.val (dM a0)),(3,.val (i64 (a0.length : Int))),(5,.val (i64 s14))]) E7 (Fits.of rfl) ?_
  clear E7
  intro s14 ox14 J De
  unfold s_l13Is_L1 at J
  refine VW.sqc fun K17 hK17 hCK17 => ?_
  refine zs [(0,.val (dM a0)),(3,.val (i64 (a0.length : Int))),(5,.val (i64 s14)),(28,.val (.bool (ilt s14 (a0.length : Int))))] ?_ ?_
  ·simp
  refine VW.cond rfl (fun Cc => ?_) (fun Cc => ?_)
  rotate_left
  ·
   replace Cc : ¬ (s14 < (a0.length : Int)) := by simpa [ieq,ilt,ile] using Cc
   rw [if_neg Cc] at J
   refine VW.exit ?_
   cases J
   have hq := De _ rfl
   subst hq
   exact ⟨_,rfl,Fits.of rfl⟩
  replace Cc : s14 < (a0.length : Int) := by simpa [ieq,ilt,ile] using Cc
  rw [if_pos Cc] at J
  refine VW.skip ?_
  refine hK17 _ ?_
  refine VW.sqc fun K19 hK19 hCK19 => ?_
  refine VW.block ?_
  obtain ⟨E8,J⟩ := chk_some J
  have Df := E8
  try simp at Df
  obtain ⟨E9,J⟩ := chk_some J
  have Dg := E9
  try simp at Dg
  refine VW.wdsE tau_ok Sound.none try_mixed [some 31,some 32,some 33,some 34,some 6,some 7] [(0,.val (dM a0)),(3,.val (i64 (a0.length : Int))),(5,.val (i64 s14)),(6,.ref 6 [] true (dB (List.replicate (a0.length : Int).toNat false))),(7,.ref 7 [] true (dB (List.replicate (a0.length : Int).toNat false)))] 4 [3] rfl (by kernel_rfl) (by kernel_rfl) (by rfl) (by
  intro i hi hE
  simp only [List.mem_cons,List.not_mem_nil,or_false] at hi
  rcases hi with rfl
  all_goals first | (simp [isEx] at hE; done) | simp [exS,E8,Df,E9,Dg]) ?_ ?_
  ·simp [E8,Df,E9,Dg]
  refine VW.sqc fun K22 hK22 hCK22 => ?_
  refine zs [(0,.val (dM a0)),(3,.val (i64 (a0.length : Int))),(5,.val (i64 s14)),(6,.ref 6 [] true (dB (List.replicate (a0.length : Int).toNat false))),(7,.ref 7 [] true (dB (List.replicate (a0.length : Int).toNat false))),(8,.val (i64 0))] ?_ ?_
  ·simp
  obtain ⟨x23,Fa,J⟩ := bind_some J
  refine VW.tlO (fun y25 => [(0,.val (dM a0)),(3,.val (i64 (a0.length : Int))),(5,.val (i64 s14))]) x23 (hCK22) ?_ ?_
  ·clear Fa
   rintro y25 rfl
   dsimp only at J
   refine hK22 _ ?_
   obtain ⟨x54,Ai,J⟩ := bind_some J
   refine VW.cut [(0,.val (dM a0)),(3,.val (i64 (a0.length : Int))),(5,.val (i64 s14)),(123,.val (.bool x54))] ?_ fun hy => ?_
   rotate_left
   ·clear J
    obtain ⟨v49,Hx,Ai⟩ := bind_some Ai
    obtain ⟨D6,Cs,Ct,Cu⟩ := idx_some Hx
    replace Cs : 0 < a0.length := Cs
    replace Ct : a0[0]? = some v49 := Ct
    replace Cu : ∀ h,a0[0]'h = v49 := Cu
    obtain ⟨v50,Hy,Ai⟩ := bind_some Ai
    obtain ⟨D7,D8,D9,Ea⟩ := idx_some Hy
    by_cases Dy : ¬ v50 = s14
    ·rw [if_pos Dy] at Ai
     have Bz : ieq v50 s14 = false := by simpa [ieq,ilt,ile] using Dy
     have B0 := Bz
     try simp at B0
     cases Ai
     refine VW.ws tau_ok Sound.none _ _ rfl ?_ hy
     simp [D6,Cs,Ct,Cu,D7,D8,D9,Ea,Bz,B0]
    ·rw [if_neg Dy] at Ai
     have Bz : ieq v50 s14 = true := by simpa [ieq,ilt,ile] using Dy
     have B0 := Bz
     try simp at B0
     obtain ⟨v52,Hz,Ai⟩ := bind_some Ai
     obtain ⟨Fw,Fx,Fy,Fz⟩ := idx_some Hz
     obtain ⟨v53,H0,Ai⟩ := bind_some Ai
     obtain ⟨F0,Dh,Di,Dj⟩ := idx_some H0
     replace Dh : 0 < v52.length := Dh
     replace Di : v52[0]? = some v53 := Di
     replace Dj : ∀ h,v52[0]'h = v53 := Dj
     cases Ai
     refine VW.ws tau_ok Sound.none _ _ rfl ?_ hy
     simp [D6,Cs,Ct,Cu,D7,D8,D9,Ea,Bz,B0,Fw,Fx,Fy,Fz,F0,Dh,Di,Dj]
   refine VW.cond rfl (fun Cd => ?_) (fun Cd => ?_)
   rotate_left
   ·
    replace Cd : ¬ (x54 = true) := by simpa [ieq,ilt,ile] using Cd
    rw [if_neg Cd] at J
    refine VW.skip ?_
    refine hK19 _ ?_
    refine zr [(0,.val (dM a0)),(3,.val (i64 (a0.length : Int))),(5,.val (i64 (w64 (s14 + 1))))] ?_ ?_
    ·simp
    cases J
    exact ⟨_,rfl,Fits.of rfl⟩
   replace Cd : x54 = true := by simpa [ieq,ilt,ile] using Cd
   rw [if_pos Cd] at J
   refine zs [(2,.val (.bool false))] ?_ ?_
   ·simp
   cases J
   have hq := De _ rfl
   subst hq
   dsimp only at h
   cases h
   refine VW.ret ?_
   simp [Post,PostM,PostC,PostC2,Nx,Bk]
  refine VW.block ?_
  refine VW.loopF (s_l13Is_L2 a0 s14) (fun s23 => [(0,.val (dM a0)),(3,.val (i64 (a0.length : Int))),(5,.val (i64 s14)),(6,.ref 6 [] true (dB s23.1)),(7,.ref 7 [] true (dB s23.2.1)),(8,.val (i64 s23.2.2))]) Fa (Fits.of rfl) ?_
  clear Fa
  intro s23 ox23 F Eb
  unfold s_l13Is_L2 at F
  refine VW.sqc fun K26 hK26 hCK26 => ?_
  refine zs [(0,.val (dM a0)),(3,.val (i64 (a0.length : Int))),(5,.val (i64 s14)),(6,.ref 6 [] true (dB s23.1)),(7,.ref 7 [] true (dB s23.2.1)),(8,.val (i64 s23.2.2)),(37,.val (.bool (ilt s23.2.2 (a0.length : Int))))] ?_ ?_
  ·simp
  refine VW.cond rfl (fun Ce => ?_) (fun Ce => ?_)
  rotate_left
  ·
   replace Ce : ¬ (s23.2.2 < (a0.length : Int)) := by simpa [ieq,ilt,ile] using Ce
   rw [if_neg Ce] at F
   refine VW.exit ?_
   cases F
   have hq := Eb _ rfl
   subst hq
   exact ⟨_,rfl,Fits.of rfl⟩
  replace Ce : s23.2.2 < (a0.length : Int) := by simpa [ieq,ilt,ile] using Ce
  rw [if_pos Ce] at F
  refine VW.skip ?_
  refine hK26 _ ?_
  refine VW.sqc fun K28 hK28 hCK28 => ?_
  refine VW.block ?_
  refine VW.sqc fun K29 hK29 hCK29 => ?_
  obtain ⟨x41,O,F⟩ := bind_some F
  refine VW.cut [(0,.val (dM a0)),(3,.val (i64 (a0.length : Int))),(5,.val (i64 s14)),(6,.ref 6 [] true (dB s23.1)),(7,.ref 7 [] true (dB s23.2.1)),(8,.val (i64 s23.2.2)),(87,.val (.bool x41))] ?_ fun hy => ?_
  rotate_left
  ·clear F
   obtain ⟨v30,C8,O⟩ := bind_some O
   obtain ⟨A2,A3,A4,A5⟩ := idx_some C8
   obtain ⟨v31,C9,O⟩ := bind_some O
   obtain ⟨A6,A7,A8,A9⟩ := idx_some C9
   obtain ⟨v32,Cy,O⟩ := bind_some O
   by_cases Dz : v32 = false
   ·rw [if_pos Dz] at O
    have Ar : v32 = false := by simpa [ieq,ilt,ile] using Dz
    have As := Ar
    try simp at As
    cases O
    refine VW.ws tau_ok (Sound.none.add 49 (s_l01In_ok Cy) rfl) _ _ rfl ?_ hy
    simp [A2,A3,A4,A5,A6,A7,A8,A9,Ar,As]
   ·rw [if_neg Dz] at O
    have Ar : v32 = true := by simpa [ieq,ilt,ile] using Dz
    have As := Ar
    try simp at As
    obtain ⟨v34,H1,O⟩ := bind_some O
    obtain ⟨Dk,Dl,Dm,Dn⟩ := idx_some H1
    obtain ⟨v35,H2,O⟩ := bind_some O
    obtain ⟨Do,Dp,Dq,Dr⟩ := idx_some H2
    obtain ⟨v36,Fb,O⟩ := bind_some O
    by_cases D0 : v36 = false
    ·rw [if_pos D0] at O
     have Ba : v36 = false := by simpa [ieq,ilt,ile] using D0
     have Bb := Ba
     try simp at Bb
     cases O
     refine VW.ws tau_ok ((Sound.none.add 49 (s_l01In_ok Cy) rfl).add 61 (s_l01In_ok Fb) rfl) _ _ rfl ?_ hy
     simp [A2,A3,A4,A5,A6,A7,A8,A9,Ar,As,Dk,Dl,Dm,Dn,Do,Dp,Dq,Dr,Ba,Bb]
    ·rw [if_neg D0] at O
     have Ba : v36 = true := by simpa [ieq,ilt,ile] using D0
     have Bb := Ba
     try simp at Bb
     obtain ⟨v38,H3,O⟩ := bind_some O
     obtain ⟨Ec,Ed,Ee,Ef⟩ := idx_some H3
     by_cases D1 : v38 = true
     ·rw [if_pos D1] at O
      have B1 : v38 = true := by simpa [ieq,ilt,ile] using D1
      have B2 := B1
      try simp at B2
      cases O
      refine VW.ws tau_ok ((Sound.none.add 49 (s_l01In_ok Cy) rfl).add 61 (s_l01In_ok Fb) rfl) _ _ rfl ?_ hy
      simp [A2,A3,A4,A5,A6,A7,A8,A9,Ar,As,Dk,Dl,Dm,Dn,Do,Dp,Dq,Dr,Ba,Bb,Ec,Ed,Ee,Ef,B1,B2]
     ·rw [if_neg D1] at O
      have B1 : v38 = false := by simpa [ieq,ilt,ile] using D1
      have B2 := B1
      try simp at B2
      obtain ⟨v40,H4,O⟩ := bind_some O
      obtain ⟨F1,F2,F3,F4⟩ := idx_some H4
      cases O
      refine VW.ws tau_ok ((Sound.none.add 49 (s_l01In_ok Cy) rfl).add 61 (s_l01In_ok Fb) rfl) _ _ rfl ?_ hy
      simp [A2,A3,A4,A5,A6,A7,A8,A9,Ar,As,Dk,Dl,Dm,Dn,Do,Dp,Dq,Dr,Ba,Bb,Ec,Ed,Ee,Ef,B1,B2,F1,F2,F3,F4]
  refine VW.cond rfl (fun Cf => ?_) (fun Cf => ?_)
  ·
   replace Cf : x41 = true := by simpa [ieq,ilt,ile] using Cf
   rw [if_pos Cf] at F
   refine zs [(2,.val (.bool false))] ?_ ?_
   ·simp
   cases F
   have hq := Eb _ rfl
   subst hq
   dsimp only at J
   cases J
   have hq := De _ rfl
   subst hq
   dsimp only at h
   cases h
   refine VW.ret ?_
   simp [Post,PostM,PostC,PostC2,Nx,Bk]
  replace Cf : ¬ (x41 = true) := by simpa [ieq,ilt,ile] using Cf
  rw [if_neg Cf] at F
  refine VW.skip ?_
  refine hK29 _ ?_
  obtain ⟨v43,H5,F⟩ := bind_some F
  obtain ⟨F5,F6,F7,F8⟩ := idx_some H5
  obtain ⟨v44,H6,F⟩ := bind_some F
  obtain ⟨F9,Ga,Gb,Gc⟩ := idx_some H6
  obtain ⟨v45,H7,F⟩ := bind_some F
  obtain ⟨Gd,Ge,Gf,Gg⟩ := idx_some H7
  refine zs [(0,.val (dM a0)),(3,.val (i64 (a0.length : Int))),(5,.val (i64 s14)),(6,.ref 6 [] true (dB (s23.1.set v44.toNat true))),(7,.ref 7 [] true (dB s23.2.1)),(8,.val (i64 s23.2.2))] ?_ ?_
  ·simp [F5,F6,F7,F8,F9,Ga,Gb,Gc,Gd,Ge,Gf,Gg]
  obtain ⟨v46,H8,F⟩ := bind_some F
  obtain ⟨Gh,Gi,Gj,Gk⟩ := idx_some H8
  obtain ⟨v47,H9,F⟩ := bind_some F
  obtain ⟨Gl,Gm,Gn,Gp⟩ := idx_some H9
  obtain ⟨v48,Ia,F⟩ := bind_some F
  obtain ⟨Gq,Gr,Gs,Gt⟩ := idx_some Ia
  refine zr [(0,.val (dM a0)),(3,.val (i64 (a0.length : Int))),(5,.val (i64 s14)),(6,.ref 6 [] true (dB (s23.1.set v44.toNat true))),(7,.ref 7 [] true (dB (s23.2.1.set v47.toNat true))),(8,.val (i64 s23.2.2))] ?_ ?_
  ·simp [Gh,Gi,Gj,Gk,Gl,Gm,Gn,Gp,Gq,Gr,Gs,Gt]
  refine hK28 _ ?_
  refine zr [(0,.val (dM a0)),(3,.val (i64 (a0.length : Int))),(5,.val (i64 s14)),(6,.ref 6 [] true (dB (s23.1.set v44.toNat true))),(7,.ref 7 [] true (dB (s23.2.1.set v47.toNat true))),(8,.val (i64 (w64 (s23.2.2 + 1))))] ?_ ?_
  ·simp
  cases F
  exact ⟨_,rfl,Fits.of rfl⟩
 refine VW.block ?_
 refine VW.loopF (s_l13Is_L0 a0) (fun s5 => [(0,.val (dM a0)),(3,.val (i64 (a0.length : Int))),(4,.val (i64 s5))]) Dd (Fits.of rfl) ?_
 clear Dd
 intro s5 ox5 L Cg
 unfold s_l13Is_L0 at L
 refine VW.sqc fun K8 hK8 hCK8 => ?_
 refine zs [(0,.val (dM a0)),(3,.val (i64 (a0.length : Int))),(4,.val (i64 s5)),(16,.val (.bool (ilt s5 (a0.length : Int))))] ?_ ?_
 ·simp
 refine VW.cond rfl (fun Ch => ?_) (fun Ch => ?_)
 rotate_left
 ·
  replace Ch : ¬ (s5 < (a0.length : Int)) := by simpa [ieq,ilt,ile] using Ch
  rw [if_neg Ch] at L
  refine VW.exit ?_
  cases L
  have hq := Cg _ rfl
  subst hq
  exact ⟨_,rfl,Fits.of rfl⟩
 replace Ch : s5 < (a0.length : Int) := by simpa [ieq,ilt,ile] using Ch
 rw [if_pos Ch] at L
 refine VW.skip ?_
 refine hK8 _ ?_
 refine VW.sqc fun K10 hK10 hCK10 => ?_
 refine VW.block ?_
 obtain ⟨v11,Af,L⟩ := bind_some L
 obtain ⟨W,X,Y,Z⟩ := idx_some Af
 refine zs [(0,.val (dM a0)),(3,.val (i64 (a0.length : Int))),(4,.val (i64 s5)),(25,.val (.bool (!(ieq (v11.length : Int) (a0.length : Int)))))] ?_ ?_
 ·simp [W,X,Y,Z]
 refine VW.cond rfl (fun H => ?_) (fun H => ?_)
 rotate_left
 ·
  replace H : ¬ (¬ (v11.length : Int) = (a0.length : Int)) := by simpa [ieq,ilt,ile] using H
  rw [if_neg H] at L
  refine VW.skip ?_
  refine hK10 _ ?_
  refine zr [(0,.val (dM a0)),(3,.val (i64 (a0.length : Int))),(4,.val (i64 (w64 (s5 + 1))))] ?_ ?_
  ·simp
  cases L
  exact ⟨_,rfl,Fits.of rfl⟩
 replace H : ¬ (v11.length : Int) = (a0.length : Int) := by simpa [ieq,ilt,ile] using H
 rw [if_pos H] at L
 refine zs [(2,.val (.bool false))] ?_ ?_
 ·simp
 cases L
 have hq := Cg _ rfl
 subst hq
 dsimp only at h
 cases h
 refine VW.ret ?_
 simp [Post,PostM,PostC,PostC2,Nx,Bk]

theorem s_IsMoufangLoop_ok {a0 : List (List Int)} {r : Bool × Int} (h : s_IsMoufangLoop a0 = some r) :
  VCall Try.prog 33 [dM a0] [.sc (.bool r.1),.sc (i64 r.2)] := by
 unfold s_IsMoufangLoop at h
 refine VCall.enter Try.call33 Try.func33 rfl 67 Try.ntmps33 (by simp) [.tmp 2,.tmp 3] rfl ?_
 show VW _ _ _ (mk [(0,.val (dM a0))]) _
 refine zs [(0,.val (dM a0))] ?_ ?_
 ·simp
 refine VW.sqc fun K1 hK1 hCK1 => ?_
 obtain ⟨v2,Ag,h⟩ := bind_some h
 refine VW.ws tau_ok (Sound.none.add 8 (s_l13Is_ok Ag) rfl) _ [(0,.val (dM a0)),(9,.val (.bool (!v2)))] rfl ?_ ?_
 ·simp
 refine VW.cond rfl (fun E => ?_) (fun E => ?_)
 ·
  replace E : v2 = false := by simpa [ieq,ilt,ile] using E
  rw [if_pos E] at h
  refine zs [(2,.val (.bool false)),(3,.val (i64 1))] ?_ ?_
  ·simp
  cases h
  refine VW.ret ?_
  simp [Post,PostM,PostC,PostC2,Nx,Bk]
 replace E : ¬ (v2 = false) := by simpa [ieq,ilt,ile] using E
 rw [if_neg E] at h
 refine VW.skip ?_
 refine hK1 _ ?_
 refine VW.sqc fun K4 hK4 hCK4 => ?_
 refine zs [(0,.val (dM a0)),(4,.val (i64 0))] ?_ ?_
 ·simp
 obtain ⟨x5,Dd,h⟩ := bind_some h
 refine VW.tlO (fun y7 => []) x5 (hCK4) ?_ ?_
 ·clear Dd
  rintro y7 rfl
  dsimp only at h
  refine hK4 _ ?_
  refine zs [(2,.val (.bool true)),(3,.val (i64 0))] ?_ ?_
  ·simp
  cases h
  refine VW.ret ?_
  simp [Post,PostM,PostC,PostC2,Nx,Bk]
 refine VW.block ?_
 refine VW.loopF (s_IsMoufangLoop_L0 a0) (fun s5 => [(0,.val (dM a0)),(4,.val (i64 s5))]) Dd (Fits.of rfl) ?_
 clear Dd
 intro s5 ox5 L Cg
 unfold s_IsMoufangLoop_L0 at L
 refine VW.sqc fun K8 hK8 hCK8 => ?_
 refine zs [(0,.val (dM a0)),(4,.val (i64 s5)),(13,.val (.bool (ilt s5 (a0.length : Int))))] ?_ ?_
 ·simp
 refine VW.cond rfl (fun Ch => ?_) (fun Ch => ?_)
 rotate_left
 ·
  replace Ch : ¬ (s5 < (a0.length : Int)) := by simpa [ieq,ilt,ile] using Ch
  rw [if_neg Ch] at L
  refine VW.exit ?_
  cases L
  have hq := Cg _ rfl
  subst hq
  exact ⟨_,rfl,Fits.of rfl⟩
 replace Ch : s5 < (a0.length : Int) := by simpa [ieq,ilt,ile] using Ch
 rw [if_pos Ch] at L
 refine VW.skip ?_
 refine hK8 _ ?_
 refine VW.sqc fun K10 hK10 hCK10 => ?_
 refine VW.block ?_
 refine zs [(0,.val (dM a0)),(4,.val (i64 s5)),(5,.val (i64 0))] ?_ ?_
 ·simp
 obtain ⟨x11,Ci,L⟩ := bind_some L
 refine VW.tlO (fun y13 => [(0,.val (dM a0)),(4,.val (i64 s5))]) x11 (hCK10) ?_ ?_
 ·clear Ci
  rintro y13 rfl
  dsimp only at L
  refine hK10 _ ?_
  refine zr [(0,.val (dM a0)),(4,.val (i64 (w64 (s5 + 1))))] ?_ ?_
  ·simp
  cases L
  exact ⟨_,rfl,Fits.of rfl⟩
 refine VW.block ?_
 refine VW.loopF (s_IsMoufangLoop_L1 a0 s5) (fun s11 => [(0,.val (dM a0)),(4,.val (i64 s5)),(5,.val (i64 s11))]) Ci (Fits.of rfl) ?_
 clear Ci
 intro s11 ox11 K Cv
 unfold s_IsMoufangLoop_L1 at K
 refine VW.sqc fun K14 hK14 hCK14 => ?_
 refine zs [(0,.val (dM a0)),(4,.val (i64 s5)),(5,.val (i64 s11)),(19,.val (.bool (ilt s11 (a0.length : Int))))] ?_ ?_
 ·simp
 refine VW.cond rfl (fun Cj => ?_) (fun Cj => ?_)
 rotate_left
 ·
  replace Cj : ¬ (s11 < (a0.length : Int)) := by simpa [ieq,ilt,ile] using Cj
  rw [if_neg Cj] at K
  refine VW.exit ?_
  cases K
  have hq := Cv _ rfl
  subst hq
  exact ⟨_,rfl,Fits.of rfl⟩
 replace Cj : s11 < (a0.length : Int) := by simpa [ieq,ilt,ile] using Cj
 rw [if_pos Cj] at K
 refine VW.skip ?_
 refine hK14 _ ?_
 refine VW.sqc fun K16 hK16 hCK16 => ?_
 refine VW.block ?_
 refine zs [(0,.val (dM a0)),(4,.val (i64 s5)),(5,.val (i64 s11)),(6,.val (i64 0))] ?_ ?_
 ·simp
 obtain ⟨x17,Ac,K⟩ := bind_some K
 refine VW.tlO (fun y19 => [(0,.val (dM a0)),(4,.val (i64 s5)),(5,.val (i64 s11))]) x17 (hCK16) ?_ ?_
 ·clear Ac
  rintro y19 rfl
  dsimp only at K
  refine hK16 _ ?_
  refine zr [(0,.val (dM a0)),(4,.val (i64 s5)),(5,.val (i64 (w64 (s11 + 1))))] ?_ ?_
  ·simp
  cases K
  exact ⟨_,rfl,Fits.of rfl⟩
 refine VW.block ?_
 refine VW.loopF (s_IsMoufangLoop_L2 a0 s5 s11) (fun s17 => [(0,.val (dM a0)),(4,.val (i64 s5)),(5,.val (i64 s11)),(6,.val (i64 s17))]) Ac (Fits.of rfl) ?_
 clear Ac
 intro s17 ox17 A Aa
 unfold s_IsMoufangLoop_L2 at A
 refine VW.sqc fun K20 hK20 hCK20 => ?_
 refine zs [(0,.val (dM a0)),(4,.val (i64 s5)),(5,.val (i64 s11)),(6,.val (i64 s17)),(25,.val (.bool (ilt s17 (a0.length : Int))))] ?_ ?_
 ·simp
 refine VW.cond rfl (fun R => ?_) (fun R => ?_)
 rotate_left
 ·
  replace R : ¬ (s17 < (a0.length : Int)) := by simpa [ieq,ilt,ile] using R
  rw [if_neg R] at A
  refine VW.exit ?_
  cases A
  have hq := Aa _ rfl
  subst hq
  exact ⟨_,rfl,Fits.of rfl⟩
 replace R : s17 < (a0.length : Int) := by simpa [ieq,ilt,ile] using R
 rw [if_pos R] at A
 refine VW.skip ?_
 refine hK20 _ ?_
 refine VW.sqc fun K22 hK22 hCK22 => ?_
 refine VW.block ?_
 obtain ⟨v23,Bm,A⟩ := bind_some A
 obtain ⟨Gu,Gv,Gw,Gx⟩ := idx_some Bm
 obtain ⟨v24,Ei,A⟩ := bind_some A
 obtain ⟨Cn,Az,A0,A1⟩ := idx_some Ei
 obtain ⟨v25,Cw,A⟩ := bind_some A
 obtain ⟨Co,Cp,Cq,Cr⟩ := idx_some Cw
 obtain ⟨v26,Ib,A⟩ := bind_some A
 obtain ⟨Gy,Gz,G0,G1⟩ := idx_some Ib
 obtain ⟨v27,Db,A⟩ := bind_some A
 obtain ⟨G2,G3,G4,G5⟩ := idx_some Db
 obtain ⟨v28,Ic,A⟩ := bind_some A
 obtain ⟨G6,G7,G8,G9⟩ := idx_some Ic
 obtain ⟨v29,Id,A⟩ := bind_some A
 obtain ⟨Ha,Hb,Hc,Hd⟩ := idx_some Id
 obtain ⟨v30,C8,A⟩ := bind_some A
 obtain ⟨A2,A3,A4,A5⟩ := idx_some C8
 obtain ⟨v31,C9,A⟩ := bind_some A
 obtain ⟨A6,A7,A8,A9⟩ := idx_some C9
 obtain ⟨v32,Cy,A⟩ := bind_some A
 obtain ⟨He,Hf,Hg,Hh⟩ := idx_some Cy
 obtain ⟨v33,Ie,A⟩ := bind_some A
 obtain ⟨Hi,Hj,Hk,Hl⟩ := idx_some Ie
 refine VW.wds tau_ok Sound.none try_mixed _ [(0,.val (dM a0)),(4,.val (i64 s5)),(5,.val (i64 s11)),(6,.val (i64 s17)),(66,.val (.bool (!(ieq v28 v33))))] 39 rfl (by kernel_rfl) (by rfl) ?_ ?_
 ·simp [Gu,Gv,Gw,Gx,Cn,Az,A0,A1,Co,Cp,Cq,Cr,Gy,Gz,G0,G1,G2,G3,G4,G5,G6,G7,G8,G9,Ha,Hb,Hc,Hd,A2,A3,A4,A5,A6,A7,A8,A9,He,Hf,Hg,Hh,Hi,Hj,Hk,Hl]
 refine VW.cond rfl (fun Ck => ?_) (fun Ck => ?_)
 rotate_left
 ·
  replace Ck : ¬ (¬ v28 = v33) := by simpa [ieq,ilt,ile] using Ck
  rw [if_neg Ck] at A
  refine VW.skip ?_
  refine hK22 _ ?_
  refine zr [(0,.val (dM a0)),(4,.val (i64 s5)),(5,.val (i64 s11)),(6,.val (i64 (w64 (s17 + 1))))] ?_ ?_
  ·simp
  cases A
  exact ⟨_,rfl,Fits.of rfl⟩
 replace Ck : ¬ v28 = v33 := by simpa [ieq,ilt,ile] using Ck
 rw [if_pos Ck] at A
 refine zs [(2,.val (.bool false)),(3,.val (i64 0))] ?_ ?_
 ·simp
 cases A
 have hq := Aa _ rfl
 subst hq
 dsimp only at K
 cases K
 have hq := Cv _ rfl
 subst hq
 dsimp only at L
 cases L
 have hq := Cg _ rfl
 subst hq
 dsimp only at h
 cases h
 refine VW.ret ?_
 simp [Post,PostM,PostC,PostC2,Nx,Bk]

theorem s_IsLoop_ok {a0 : List (List Int)} {r : Bool} (h : s_IsLoop a0 = some r) :
  VCall Try.prog 34 [dM a0] [.sc (.bool r)] := by
 unfold s_IsLoop at h
 refine VCall.enter Try.call34 Try.func34 rfl 5 Try.ntmps34 (by simp) [.tmp 2] rfl ?_
 show VW _ _ _ (mk [(0,.val (dM a0))]) _
 refine zs [(0,.val (dM a0))] ?_ ?_
 ·simp
 obtain ⟨v1,Be,h⟩ := bind_some h
 refine VW.ws tau_ok (Sound.none.add 4 (s_l13Is_ok Be) rfl) _ [(2,.val (.bool v1))] rfl ?_ ?_
 ·simp
 cases h
 refine VW.ret ?_
 simp [Post,PostM,PostC,PostC2,Nx,Bk]

theorem i_associates_ok {a0 : List (List Int)} {a1 : Int} {a2 : Int} {a3 : Int} {r : Bool} (h : i_associates a0 a1 a2 a3 = some r) :
  VCall Try.prog 84 [dM a0,i64 a1,i64 a2,i64 a3] [.sc (.bool r)] := by
 unfold i_associates at h
 refine VCall.enter Try.call84 Try.func84 rfl 36 Try.ntmps84 (by simp) [.tmp 8] rfl ?_
 show VW _ _ _ (mk [(0,.val (dM a0)),(1,.val (i64 a1)),(2,.val (i64 a2)),(3,.val (i64 a3))]) _
 refine zs [(0,.val (dM a0)),(1,.val (i64 a1)),(2,.val (i64 a2)),(3,.val (i64 a3))] ?_ ?_
 ·simp
 obtain ⟨v1,Be,h⟩ := bind_some h
 obtain ⟨Ej,Ek,El,Em⟩ := idx_some Be
 obtain ⟨v2,Ag,h⟩ := bind_some h
 obtain ⟨C4,B5,B6,B7⟩ := idx_some Ag
 obtain ⟨v3,Hu,h⟩ := bind_some h
 obtain ⟨En,Eo,Ep,Eq⟩ := idx_some Hu
 obtain ⟨v4,Cx,h⟩ := bind_some h
 obtain ⟨Er,Es,Et,Eu⟩ := idx_some Cx
 obtain ⟨v5,Dx,h⟩ := bind_some h
 obtain ⟨Ev,Ew,Ex,Ey⟩ := idx_some Dx
 obtain ⟨v6,Hv,h⟩ := bind_some h
 obtain ⟨Ez,E0,E1,E2⟩ := idx_some Hv
 obtain ⟨v7,Hw,h⟩ := bind_some h
 obtain ⟨E3,E4,E5,E6⟩ := idx_some Hw
 refine VW.wds tau_ok Sound.none try_mixed _ [(8,.val (.bool (ieq v4 v7)))] 28 rfl (by kernel_rfl) (by rfl) ?_ ?_
 ·simp [Ej,Ek,El,Em,C4,B5,B6,B7,En,Eo,Ep,Eq,Er,Es,Et,Eu,Ev,Ew,Ex,Ey,Ez,E0,E1,E2,E3,E4,E5,E6]
 cases h
 refine VW.ret ?_
 simp [Post,PostM,PostC,PostC2,Nx,Bk]

theorem i_IsAssociativeLoop_c1_ok {a0 : Int} {a1 : Int} {a2 : Int} {a3_0 : List (List Int)} {r : Bool} (h : i_IsAssociativeLoop_c1 a0 a1 a2 a3_0 = some r) :
  VCall Try.prog 97 [i64 a0,i64 a1,i64 a2,.ptr [dM a3_0]] [.sc (.bool r)] := by
 unfold i_IsAssociativeLoop_c1 at h
 refine VCall.enter Try.call97 Try.func97 rfl 13 Try.ntmps97 (by simp) [.tmp 7] rfl ?_
 show VW _ _ _ (mk [(0,.val (i64 a0)),(1,.val (i64 a1)),(2,.val (i64 a2)),(3,.val (.ptr [dM a3_0]))]) _
 refine zs [(0,.val (i64 a0)),(1,.val (i64 a1)),(2,.val (i64 a2)),(3,.val (.ptr [dM a3_0]))] ?_ ?_
 ·simp
 obtain ⟨v1,Be,h⟩ := bind_some h
 refine VW.ws tau_ok (Sound.none.add 12 (i_associates_ok Be) rfl) _ [(7,.val (.bool v1))] rfl ?_ ?_
 ·simp
 cases h
 refine VW.ret ?_
 simp [Post,PostM,PostC,PostC2,Nx,Bk]

theorem i_loopTriples_of_i_IsAssociativeLoop_c1_ok {a0 : List (List Int)} {a1_0_0 : List (List Int)} {r : Bool} (h : i_loopTriples_of_i_IsAssociativeLoop_c1 a0 a1_0_0 = some r) :
  VCall Try.prog 96 [dM a0,.fn 97 [.ptr [dM a1_0_0]]] [.sc (.bool r)] := by
 unfold i_loopTriples_of_i_IsAssociativeLoop_c1 at h
 refine VCall.enter Try.call96 Try.func96 rfl 32 Try.ntmps96 (by simp) [.tmp 4] rfl ?_
 show VW _ _ _ (mk [(0,.val (dM a0)),(1,.val (.fn 97 [.ptr [dM a1_0_0]]))]) _
 refine zs [(0,.val (dM a0)),(1,.val (.fn 97 [.ptr [dM a1_0_0]]))] ?_ ?_
 ·simp
 refine VW.sqc fun K1 hK1 hCK1 => ?_
 obtain ⟨v2,Ag,h⟩ := bind_some h
 refine VW.ws tau_ok (Sound.none.add 9 (i_length_LI_ok Ag) rfl) _ [(0,.val (dM a0)),(1,.val (.fn 97 [.ptr [dM a1_0_0]])),(9,.val (i64 v2)),(10,.val (i64 0))] rfl ?_ ?_
 ·simp
 obtain ⟨x3,Aj,h⟩ := bind_some h
 refine VW.tlO (fun y5 => []) x3 (hCK1) ?_ ?_
 ·clear Aj
  rintro y5 rfl
  dsimp only at h
  refine hK1 _ ?_
  refine zs [(4,.val (.bool true))] ?_ ?_
  ·simp
  cases h
  refine VW.ret ?_
  simp [Post,PostM,PostC,PostC2,Nx,Bk]
 refine VW.block ?_
 refine VW.loopF (i_loopTriples_of_i_IsAssociativeLoop_c1_L0 a0 a1_0_0 v2) (fun s3 => [(0,.val (dM a0)),(1,.val (.fn 97 [.ptr [dM a1_0_0]])),(9,.val (i64 v2)),(10,.val (i64 s3))]) Aj (Fits.of rfl) ?_
 clear Aj
 intro s3 ox3 B Ah
 unfold i_loopTriples_of_i_IsAssociativeLoop_c1_L0 at B
 refine zs [(0,.val (dM a0)),(1,.val (.fn 97 [.ptr [dM a1_0_0]])),(9,.val (i64 v2)),(10,.val (i64 s3)),(11,.val (.bool (ilt s3 v2)))] ?_ ?_
 ·simp
 refine VW.sqc fun K6 hK6 hCK6 => ?_
 refine VW.cond rfl (fun Ak => ?_) (fun Ak => ?_)
 rotate_left
 ·
  replace Ak : ¬ (s3 < v2) := by simpa [ieq,ilt,ile] using Ak
  rw [if_neg Ak] at B
  refine VW.exit ?_
  cases B
  have hq := Ah _ rfl
  subst hq
  exact ⟨_,rfl,Fits.of rfl⟩
 replace Ak : s3 < v2 := by simpa [ieq,ilt,ile] using Ak
 rw [if_pos Ak] at B
 refine VW.skip ?_
 refine hK6 _ ?_
 refine VW.sqc fun K8 hK8 hCK8 => ?_
 refine VW.block ?_
 refine zs [(0,.val (dM a0)),(1,.val (.fn 97 [.ptr [dM a1_0_0]])),(5,.val (i64 s3)),(9,.val (i64 v2)),(10,.val (i64 s3))] ?_ ?_
 ·simp
 obtain ⟨v9,B3,B⟩ := bind_some B
 refine VW.ws tau_ok (Sound.none.add 14 (i_length_LI_ok B3) rfl) _ [(0,.val (dM a0)),(1,.val (.fn 97 [.ptr [dM a1_0_0]])),(5,.val (i64 s3)),(9,.val (i64 v2)),(10,.val (i64 s3)),(14,.val (i64 v9)),(15,.val (i64 0))] rfl ?_ ?_
 ·simp
 obtain ⟨x10,Cb,B⟩ := bind_some B
 refine VW.tlO (fun y12 => [(0,.val (dM a0)),(1,.val (.fn 97 [.ptr [dM a1_0_0]])),(9,.val (i64 v2)),(10,.val (i64 s3))]) x10 (hCK8) ?_ ?_
 ·clear Cb
  rintro y12 rfl
  dsimp only at B
  refine hK8 _ ?_
  refine zr [(0,.val (dM a0)),(1,.val (.fn 97 [.ptr [dM a1_0_0]])),(9,.val (i64 v2)),(10,.val (i64 (w64 (s3 + 1))))] ?_ ?_
  ·simp
  cases B
  exact ⟨_,rfl,Fits.of rfl⟩
 refine VW.block ?_
 refine VW.loopF (i_loopTriples_of_i_IsAssociativeLoop_c1_L1 a0 a1_0_0 s3 v9) (fun s10 => [(0,.val (dM a0)),(1,.val (.fn 97 [.ptr [dM a1_0_0]])),(5,.val (i64 s3)),(9,.val (i64 v2)),(10,.val (i64 s3)),(14,.val (i64 v9)),(15,.val (i64 s10))]) Cb (Fits.of rfl) ?_
 clear Cb
 intro s10 ox10 D By
 unfold i_loopTriples_of_i_IsAssociativeLoop_c1_L1 at D
 refine zs [(0,.val (dM a0)),(1,.val (.fn 97 [.ptr [dM a1_0_0]])),(5,.val (i64 s3)),(9,.val (i64 v2)),(10,.val (i64 s3)),(14,.val (i64 v9)),(15,.val (i64 s10)),(16,.val (.bool (ilt s10 v9)))] ?_ ?_
 ·simp
 refine VW.sqc fun K13 hK13 hCK13 => ?_
 refine VW.cond rfl (fun Q => ?_) (fun Q => ?_)
 rotate_left
 ·
  replace Q : ¬ (s10 < v9) := by simpa [ieq,ilt,ile] using Q
  rw [if_neg Q] at D
  refine VW.exit ?_
  cases D
  have hq := By _ rfl
  subst hq
  exact ⟨_,rfl,Fits.of rfl⟩
 replace Q : s10 < v9 := by simpa [ieq,ilt,ile] using Q
 rw [if_pos Q] at D
 refine VW.skip ?_
 refine hK13 _ ?_
 refine VW.sqc fun K15 hK15 hCK15 => ?_
 refine VW.block ?_
 refine zs [(0,.val (dM a0)),(1,.val (.fn 97 [.ptr [dM a1_0_0]])),(5,.val (i64 s3)),(6,.val (i64 s10)),(9,.val (i64 v2)),(10,.val (i64 s3)),(14,.val (i64 v9)),(15,.val (i64 s10))] ?_ ?_
 ·simp
 obtain ⟨v16,Dc,D⟩ := bind_some D
 refine VW.ws tau_ok (Sound.none.add 19 (i_length_LI_ok Dc) rfl) _ [(0,.val (dM a0)),(1,.val (.fn 97 [.ptr [dM a1_0_0]])),(5,.val (i64 s3)),(6,.val (i64 s10)),(9,.val (i64 v2)),(10,.val (i64 s3)),(14,.val (i64 v9)),(15,.val (i64 s10)),(19,.val (i64 v16)),(20,.val (i64 0))] rfl ?_ ?_
 ·simp
 obtain ⟨x17,Ac,D⟩ := bind_some D
 refine VW.tlO (fun y19 => [(0,.val (dM a0)),(1,.val (.fn 97 [.ptr [dM a1_0_0]])),(5,.val (i64 s3)),(9,.val (i64 v2)),(10,.val (i64 s3)),(14,.val (i64 v9)),(15,.val (i64 s10))]) x17 (hCK15) ?_ ?_
 ·clear Ac
  rintro y19 rfl
  dsimp only at D
  refine hK15 _ ?_
  refine zr [(0,.val (dM a0)),(1,.val (.fn 97 [.ptr [dM a1_0_0]])),(5,.val (i64 s3)),(9,.val (i64 v2)),(10,.val (i64 s3)),(14,.val (i64 v9)),(15,.val (i64 (w64 (s10 + 1))))] ?_ ?_
  ·simp
  cases D
  exact ⟨_,rfl,Fits.of rfl⟩
 refine VW.block ?_
 refine VW.loopF (i_loopTriples_of_i_IsAssociativeLoop_c1_L2 a1_0_0 s3 s10 v16) (fun s17 => [(0,.val (dM a0)),(1,.val (.fn 97 [.ptr [dM a1_0_0]])),(5,.val (i64 s3)),(6,.val (i64 s10)),(9,.val (i64 v2)),(10,.val (i64 s3)),(14,.val (i64 v9)),(15,.val (i64 s10)),(19,.val (i64 v16)),(20,.val (i64 s17))]) Ac (Fits.of rfl) ?_
 clear Ac
 intro s17 ox17 A Aa
 unfold i_loopTriples_of_i_IsAssociativeLoop_c1_L2 at A
 refine zs [(0,.val (dM a0)),(1,.val (.fn 97 [.ptr [dM a1_0_0]])),(5,.val (i64 s3)),(6,.val (i64 s10)),(9,.val (i64 v2)),(10,.val (i64 s3)),(14,.val (i64 v9)),(15,.val (i64 s10)),(19,.val (i64 v16)),(20,.val (i64 s17)),(21,.val (.bool (ilt s17 v16)))] ?_ ?_
 ·simp
 refine VW.sqc fun K20 hK20 hCK20 => ?_
 refine VW.cond rfl (fun R => ?_) (fun R => ?_)
 rotate_left
 ·
  replace R : ¬ (s17 < v16) := by simpa [ieq,ilt,ile] using R
  rw [if_neg R] at A
  refine VW.exit ?_
  cases A
  have hq := Aa _ rfl
  subst hq
  exact ⟨_,rfl,Fits.of rfl⟩
 replace R : s17 < v16 := by simpa [ieq,ilt,ile] using R
 rw [if_pos R] at A
 refine VW.skip ?_
 refine hK20 _ ?_
 refine VW.sqc fun K22 hK22 hCK22 => ?_
 refine VW.block ?_
 refine zs [(0,.val (dM a0)),(1,.val (.fn 97 [.ptr [dM a1_0_0]])),(5,.val (i64 s3)),(6,.val (i64 s10)),(7,.val (i64 s17)),(9,.val (i64 v2)),(10,.val (i64 s3)),(14,.val (i64 v9)),(15,.val (i64 s10)),(19,.val (i64 v16)),(20,.val (i64 s17))] ?_ ?_
 ·simp
 obtain ⟨v23,Bm,A⟩ := bind_some A
 refine VW.ws tau_ok (Sound.none.add 27 (i_IsAssociativeLoop_c1_ok Bm) rfl) _ [(0,.val (dM a0)),(1,.val (.fn 97 [.ptr [dM a1_0_0]])),(5,.val (i64 s3)),(6,.val (i64 s10)),(9,.val (i64 v2)),(10,.val (i64 s3)),(14,.val (i64 v9)),(15,.val (i64 s10)),(19,.val (i64 v16)),(20,.val (i64 s17)),(28,.val (.bool (!v23)))] rfl ?_ ?_
 ·simp
 refine VW.cond rfl (fun Ad => ?_) (fun Ad => ?_)
 rotate_left
 ·
  replace Ad : ¬ (v23 = false) := by simpa [ieq,ilt,ile] using Ad
  rw [if_neg Ad] at A
  refine VW.skip ?_
  refine hK22 _ ?_
  refine zr [(0,.val (dM a0)),(1,.val (.fn 97 [.ptr [dM a1_0_0]])),(5,.val (i64 s3)),(6,.val (i64 s10)),(9,.val (i64 v2)),(10,.val (i64 s3)),(14,.val (i64 v9)),(15,.val (i64 s10)),(19,.val (i64 v16)),(20,.val (i64 (w64 (s17 + 1))))] ?_ ?_
  ·simp
  cases A
  exact ⟨_,rfl,Fits.of rfl⟩
 replace Ad : v23 = false := by simpa [ieq,ilt,ile] using Ad
 rw [if_pos Ad] at A
 refine zs [(4,.val (.bool false))] ?_ ?_
 ·simp
 cases A
 have hq := Aa _ rfl
 subst hq
 dsimp only at D
 cases D
 have hq := By _ rfl
 subst hq
 dsimp only at B
 cases B
 have hq := Ah _ rfl
 subst hq
 dsimp only at h
 cases h
 refine VW.ret ?_
 simp [Post,PostM,PostC,PostC2,Nx,Bk]

theorem i_IsAssociativeLoop_ok {a0 : List (List Int)} {r : Bool × Int} (h : i_IsAssociativeLoop a0 = some r) :
  VCall Try.prog 28 [dM a0] [.sc (.bool r.1),.sc (i64 r.2)] := by
 unfold i_IsAssociativeLoop at h
 refine VCall.enter Try.call28 Try.func28 rfl 13 Try.ntmps28 (by simp) [.tmp 2,.tmp 3] rfl ?_
 show VW _ _ _ (mk [(0,.val (dM a0))]) _
 refine zs [(1,.val (.ptr [dM a0]))] ?_ ?_
 ·simp
 refine VW.sqc fun K1 hK1 hCK1 => ?_
 obtain ⟨v2,Ag,h⟩ := bind_some h
 refine VW.ws tau_ok (Sound.none.add 6 (i_checkLoop_ok Ag) rfl) _ [(1,.val (.ptr [dM a0])),(4,.val (i64 v2))] rfl ?_ ?_
 ·simp
 refine zs [(1,.val (.ptr [dM a0])),(4,.val (i64 v2)),(8,.val (.bool (!(ieq v2 0))))] ?_ ?_
 ·simp
 refine VW.cond rfl (fun E => ?_) (fun E => ?_)
 ·
  replace E : ¬ v2 = 0 := by simpa [ieq,ilt,ile] using E
  rw [if_pos E] at h
  refine zs [(2,.val (.bool false)),(3,.val (i64 v2))] ?_ ?_
  ·simp
  cases h
  refine VW.ret ?_
  simp [Post,PostM,PostC,PostC2,Nx,Bk]
 replace E : ¬ (¬ v2 = 0) := by simpa [ieq,ilt,ile] using E
 rw [if_neg E] at h
 refine VW.skip ?_
 refine hK1 _ ?_
 obtain ⟨v4,Cx,h⟩ := bind_some h
 refine VW.ws tau_ok (Sound.none.add 12 (i_loopTriples_of_i_IsAssociativeLoop_c1_ok Cx) rfl) _ [(2,.val (.bool v4)),(3,.val (i64 0))] rfl ?_ ?_
 ·simp
 cases h
 refine VW.ret ?_
 simp [Post,PostM,PostC,PostC2,Nx,Bk]

theorem g_slices_Equal_LI_I_ok {a0 : List Int} {a1 : List Int} {r : Bool} (h : g_slices_Equal_LI_I a0 a1 = some r) :
  VCall Try.prog 173 [dI a0,dI a1] [.sc (.bool r)] := by
 unfold g_slices_Equal_LI_I at h
 refine VCall.enter Try.call173 Try.func173 rfl 26 Try.ntmps173 (by simp) [.tmp 4] rfl ?_
 show VW _ _ _ (mk [(0,.val (dI a0)),(1,.val (dI a1))]) _
 refine zs [(0,.val (dI a0)),(1,.val (dI a1))] ?_ ?_
 ·simp
 refine VW.sqc fun K1 hK1 hCK1 => ?_
 refine zs [(0,.val (dI a0)),(1,.val (dI a1)),(10,.val (.bool (!(ieq (a0.length : Int) (a1.length : Int)))))] ?_ ?_
 ·simp
 refine VW.cond rfl (fun Cl => ?_) (fun Cl => ?_)
 ·
  replace Cl : ¬ (a0.length : Int) = (a1.length : Int) := by simpa [ieq,ilt,ile] using Cl
  rw [if_pos Cl] at h
  refine zs [(4,.val (.bool false))] ?_ ?_
  ·simp
  cases h
  refine VW.ret ?_
  simp [Post,PostM,PostC,PostC2,Nx,Bk]
 replace Cl : ¬ (¬ (a0.length : Int) = (a1.length : Int)) := by simpa [ieq,ilt,ile] using Cl
 rw [if_neg Cl] at h
 refine VW.skip ?_
 refine hK1 _ ?_
 refine VW.sqc fun K3 hK3 hCK3 => ?_
 refine zs [(0,.val (dI a0)),(1,.val (dI a1)),(12,.val (i64 (a0.length : Int))),(13,.val (i64 0))] ?_ ?_
 ·simp
 obtain ⟨x4,Fc,h⟩ := bind_some h
 refine VW.tlO (fun y6 => []) x4 (hCK3) ?_ ?_
 ·clear Fc
  rintro y6 rfl
  dsimp only at h
  refine hK3 _ ?_
  refine zs [(4,.val (.bool true))] ?_ ?_
  ·simp
  cases h
  refine VW.ret ?_
  simp [Post,PostM,PostC,PostC2,Nx,Bk]
 refine VW.block ?_
 refine VW.loopF (g_slices_Equal_LI_I_L0 a0 a1) (fun s4 => [(0,.val (dI a0)),(1,.val (dI a1)),(12,.val (i64 (a0.length : Int))),(13,.val (i64 s4))]) Fc (Fits.of rfl) ?_
 clear Fc
 intro s4 ox4 N Ds
 unfold g_slices_Equal_LI_I_L0 at N
 refine zs [(0,.val (dI a0)),(1,.val (dI a1)),(12,.val (i64 (a0.length : Int))),(13,.val (i64 s4)),(14,.val (.bool (ilt s4 (a0.length : Int))))] ?_ ?_
 ·simp
 refine VW.sqc fun K7 hK7 hCK7 => ?_
 refine VW.cond rfl (fun At => ?_) (fun At => ?_)
 rotate_left
 ·
  replace At : ¬ (s4 < (a0.length : Int)) := by simpa [ieq,ilt,ile] using At
  rw [if_neg At] at N
  refine VW.exit ?_
  cases N
  have hq := Ds _ rfl
  subst hq
  exact ⟨_,rfl,Fits.of rfl⟩
 replace At : s4 < (a0.length : Int) := by simpa [ieq,ilt,ile] using At
 rw [if_pos At] at N
 refine VW.skip ?_
 refine hK7 _ ?_
 refine VW.sqc fun K9 hK9 hCK9 => ?_
 refine VW.block ?_
 refine zs [(0,.val (dI a0)),(1,.val (dI a1)),(5,.val (i64 s4)),(12,.val (i64 (a0.length : Int))),(13,.val (i64 s4))] ?_ ?_
 ·simp
 obtain ⟨v10,Bl,N⟩ := bind_some N
 obtain ⟨An,Ao,Ap,Aq⟩ := idx_some Bl
 obtain ⟨v11,Af,N⟩ := bind_some N
 obtain ⟨W,X,Y,Z⟩ := idx_some Af
 refine VW.wds tau_ok Sound.none try_mixed _ [(0,.val (dI a0)),(1,.val (dI a1)),(12,.val (i64 (a0.length : Int))),(13,.val (i64 s4)),(24,.val (.bool (!(ieq v10 v11))))] 9 rfl (by kernel_rfl) (by rfl) ?_ ?_
 ·simp [An,Ao,Ap,Aq,W,X,Y,Z]
 refine VW.cond rfl (fun H => ?_) (fun H => ?_)
 rotate_left
 ·
  replace H : ¬ (¬ v10 = v11) := by simpa [ieq,ilt,ile] using H
  rw [if_neg H] at N
  refine VW.skip ?_
  refine hK9 _ ?_
  refine zr [(0,.val (dI a0)),(1,.val (dI a1)),(12,.val (i64 (a0.length : Int))),(13,.val (i64 (w64 (s4 + 1))))] ?_ ?_
  ·simp
  cases N
  exact ⟨_,rfl,Fits.of rfl⟩
 replace H : ¬ v10 = v11 := by simpa [ieq,ilt,ile] using H
 rw [if_pos H] at N
 refine zs [(4,.val (.bool false))] ?_ ?_
 ·simp
 cases N
 have hq := Ds _ rfl
 subst hq
 dsimp only at h
 cases h
 refine VW.ret ?_
 simp [Post,PostM,PostC,PostC2,Nx,Bk]

theorem g_slices_EqualFunc_LLI_LLI_LI_LI_of_g_slices_Equal_LI_I_ok {a0 : List (List Int)} {a1 : List (List Int)} {r : Bool} (h : g_slices_EqualFunc_LLI_LLI_LI_LI_of_g_slices_Equal_LI_I a0 a1 = some r) :
  VCall Try.prog 172 [dM a0,dM a1,.fn 173 []] [.sc (.bool r)] := by
 unfold g_slices_EqualFunc_LLI_LLI_LI_LI_of_g_slices_Equal_LI_I at h
 refine VCall.enter Try.call172 Try.func172 rfl 32 Try.ntmps172 (by simp) [.tmp 6] rfl ?_
 show VW _ _ _ (mk [(0,.val (dM a0)),(1,.val (dM a1)),(2,.val (.fn 173 []))]) _
 refine zs [(0,.val (dM a0)),(1,.val (dM a1)),(2,.val (.fn 173 []))] ?_ ?_
 ·simp
 refine VW.sqc fun K1 hK1 hCK1 => ?_
 refine zs [(0,.val (dM a0)),(1,.val (dM a1)),(2,.val (.fn 173 [])),(14,.val (.bool (!(ieq (a0.length : Int) (a1.length : Int)))))] ?_ ?_
 ·simp
 refine VW.cond rfl (fun Cl => ?_) (fun Cl => ?_)
 ·
  replace Cl : ¬ (a0.length : Int) = (a1.length : Int) := by simpa [ieq,ilt,ile] using Cl
  rw [if_pos Cl] at h
  refine zs [(6,.val (.bool false))] ?_ ?_
  ·simp
  cases h
  refine VW.ret ?_
  simp [Post,PostM,PostC,PostC2,Nx,Bk]
 replace Cl : ¬ (¬ (a0.length : Int) = (a1.length : Int)) := by simpa [ieq,ilt,ile] using Cl
 rw [if_neg Cl] at h
 refine VW.skip ?_
 refine hK1 _ ?_
 refine VW.sqc fun K3 hK3 hCK3 => ?_
 refine zs [(1,.val (dM a1)),(2,.val (.fn 173 [])),(15,.val (dM a0)),(16,.val (i64 (a0.length : Int))),(17,.val (i64 0))] ?_ ?_
 ·simp
 obtain ⟨x4,Fc,h⟩ := bind_some h
 refine VW.tlO (fun y6 => []) x4 (hCK3) ?_ ?_
 ·clear Fc
  rintro y6 rfl
  dsimp only at h
  refine hK3 _ ?_
  refine zs [(6,.val (.bool true))] ?_ ?_
  ·simp
  cases h
  refine VW.ret ?_
  simp [Post,PostM,PostC,PostC2,Nx,Bk]
 refine VW.block ?_
 refine VW.loopF (g_slices_EqualFunc_LLI_LLI_LI_LI_of_g_slices_Equal_LI_I_L0 a0 a1) (fun s4 => [(1,.val (dM a1)),(2,.val (.fn 173 [])),(15,.val (dM a0)),(16,.val (i64 (a0.length : Int))),(17,.val (i64 s4))]) Fc (Fits.of rfl) ?_
 clear Fc
 intro s4 ox4 N Ds
 unfold g_slices_EqualFunc_LLI_LLI_LI_LI_of_g_slices_Equal_LI_I_L0 at N
 refine zs [(1,.val (dM a1)),(2,.val (.fn 173 [])),(15,.val (dM a0)),(16,.val (i64 (a0.length : Int))),(17,.val (i64 s4)),(18,.val (.bool (ilt s4 (a0.length : Int))))] ?_ ?_
 ·simp
 refine VW.sqc fun K7 hK7 hCK7 => ?_
 refine VW.cond rfl (fun At => ?_) (fun At => ?_)
 rotate_left
 ·
  replace At : ¬ (s4 < (a0.length : Int)) := by simpa [ieq,ilt,ile] using At
  rw [if_neg At] at N
  refine VW.exit ?_
  cases N
  have hq := Ds _ rfl
  subst hq
  exact ⟨_,rfl,Fits.of rfl⟩
 replace At : s4 < (a0.length : Int) := by simpa [ieq,ilt,ile] using At
 rw [if_pos At] at N
 refine VW.skip ?_
 refine hK7 _ ?_
 refine VW.sqc fun K9 hK9 hCK9 => ?_
 refine VW.block ?_
 obtain ⟨v10,Bl,N⟩ := bind_some N
 obtain ⟨An,Ao,Ap,Aq⟩ := idx_some Bl
 refine zs [(1,.val (dM a1)),(2,.val (.fn 173 [])),(7,.val (i64 s4)),(8,.val (dI v10)),(15,.val (dM a0)),(16,.val (i64 (a0.length : Int))),(17,.val (i64 s4))] ?_ ?_
 ·simp [An,Ao,Ap,Aq]
 obtain ⟨v11,Af,N⟩ := bind_some N
 obtain ⟨W,X,Y,Z⟩ := idx_some Af
 refine zs [(1,.val (dM a1)),(2,.val (.fn 173 [])),(8,.val (dI v10)),(9,.val (dI v11)),(15,.val (dM a0)),(16,.val (i64 (a0.length : Int))),(17,.val (i64 s4))] ?_ ?_
 ·simp [W,X,Y,Z]
 obtain ⟨v12,Bn,N⟩ := bind_some N
 refine VW.ws tau_ok (Sound.none.add 29 (g_slices_Equal_LI_I_ok Bn) rfl) _ [(1,.val (dM a1)),(2,.val (.fn 173 [])),(15,.val (dM a0)),(16,.val (i64 (a0.length : Int))),(17,.val (i64 s4)),(30,.val (.bool (!v12)))] rfl ?_ ?_
 ·simp
 refine VW.cond rfl (fun P => ?_) (fun P => ?_)
 rotate_left
 ·
  replace P : ¬ (v12 = false) := by simpa [ieq,ilt,ile] using P
  rw [if_neg P] at N
  refine VW.skip ?_
  refine hK9 _ ?_
  refine zr [(1,.val (dM a1)),(2,.val (.fn 173 [])),(15,.val (dM a0)),(16,.val (i64 (a0.length : Int))),(17,.val (i64 (w64 (s4 + 1))))] ?_ ?_
  ·simp
  cases N
  exact ⟨_,rfl,Fits.of rfl⟩
 replace P : v12 = false := by simpa [ieq,ilt,ile] using P
 rw [if_pos P] at N
 refine zs [(6,.val (.bool false))] ?_ ?_
 ·simp
 cases N
 have hq := Ds _ rfl
 subst hq
 dsimp only at h
 cases h
 refine VW.ret ?_
 simp [Post,PostM,PostC,PostC2,Nx,Bk]

theorem i_sameRows_ok {a0 : List (List Int)} {a1 : List (List Int)} {r : Bool} (h : i_sameRows a0 a1 = some r) :
  VCall Try.prog 99 [dM a0,dM a1] [.sc (.bool r)] := by
 unfold i_sameRows at h
 refine VCall.enter Try.call99 Try.func99 rfl 8 Try.ntmps99 (by simp) [.tmp 4] rfl ?_
 show VW _ _ _ (mk [(0,.val (dM a0)),(1,.val (dM a1))]) _
 refine zs [(0,.val (dM a0)),(1,.val (dM a1))] ?_ ?_
 ·simp
 obtain ⟨v1,Be,h⟩ := bind_some h
 refine VW.ws tau_ok (Sound.none.add 7 (g_slices_EqualFunc_LLI_LLI_LI_LI_of_g_slices_Equal_LI_I_ok Be) rfl) _ [(4,.val (.bool v1))] rfl ?_ ?_
 ·simp
 cases h
 refine VW.ret ?_
 simp [Post,PostM,PostC,PostC2,Nx,Bk]

theorem i_IsCommutativeLoop_ok {a0 : List (List Int)} {r : Bool × Int} (h : i_IsCommutativeLoop a0 = some r) :
  VCall Try.prog 30 [dM a0] [.sc (.bool r.1),.sc (i64 r.2)] := by
 unfold i_IsCommutativeLoop at h
 refine VCall.enter Try.call30 Try.func30 rfl 14 Try.ntmps30 (by simp) [.tmp 2,.tmp 3] rfl ?_
 show VW _ _ _ (mk [(0,.val (dM a0))]) _
 refine zs [(0,.val (dM a0))] ?_ ?_
 ·simp
 refine VW.sqc fun K1 hK1 hCK1 => ?_
 obtain ⟨v2,Ag,h⟩ := bind_some h
 refine VW.ws tau_ok (Sound.none.add 6 (i_checkLoop_ok Ag) rfl) _ [(0,.val (dM a0)),(4,.val (i64 v2))] rfl ?_ ?_
 ·simp
 refine zs [(0,.val (dM a0)),(4,.val (i64 v2)),(8,.val (.bool (!(ieq v2 0))))] ?_ ?_
 ·simp
 refine VW.cond rfl (fun E => ?_) (fun E => ?_)
 ·
  replace E : ¬ v2 = 0 := by simpa [ieq,ilt,ile] using E
  rw [if_pos E] at h
  refine zs [(2,.val (.bool false)),(3,.val (i64 v2))] ?_ ?_
  ·simp
  cases h
  refine VW.ret ?_
  simp [Post,PostM,PostC,PostC2,Nx,Bk]
 replace E : ¬ (¬ v2 = 0) := by simpa [ieq,ilt,ile] using E
 rw [if_neg E] at h
 refine VW.skip ?_
 refine hK1 _ ?_
 obtain ⟨v4,Cx,h⟩ := bind_some h
 obtain ⟨v5,Dx,h⟩ := bind_some h
 refine VW.ws tau_ok ((Sound.none.add 12 (i_transpose_ok Cx) rfl).add 13 (i_sameRows_ok Dx) rfl) _ [(2,.val (.bool v5)),(3,.val (i64 0))] rfl ?_ ?_
 ·simp
 cases h
 refine VW.ret ?_
 simp [Post,PostM,PostC,PostC2,Nx,Bk]

theorem i_nucleus_ok {a0 : List (List Int)} {r : List Int} (h : i_nucleus a0 = some r) :
  VCall Try.prog 105 [dM a0] [.own true (dI r)] := by
 unfold i_nucleus at h
 refine VCall.enter Try.call105 Try.func105 rfl 55 Try.ntmps105 (by simp) [.tmp 2] rfl ?_
 show VW _ _ _ (mk [(0,.val (dM a0))]) _
 refine zs [(0,.val (dM a0))] ?_ ?_
 ·simp
 refine zs [(0,.val (dM a0)),(3,.ref 3 [] true (dI []))] ?_ ?_
 ·simp
 refine VW.sqc fun K1 hK1 hCK1 => ?_
 obtain ⟨v2,Ag,h⟩ := bind_some h
 refine VW.ws tau_ok (Sound.none.add 10 (i_length_LI_ok Ag) rfl) _ [(0,.val (dM a0)),(3,.ref 3 [] true (dI [])),(10,.val (i64 v2)),(11,.val (i64 0))] rfl ?_ ?_
 ·simp
 obtain ⟨x3,Aj,h⟩ := bind_some h
 refine VW.tlE [(3,.ref 3 [] true (dI x3))] (hCK1) ?_ ?_
 ·clear Aj
  refine hK1 _ ?_
  refine zs [(2,.ref 2 [] true (dI x3))] ?_ ?_
  ·simp
  cases h
  refine VW.ret ?_
  simp [Post,PostM,PostC,PostC2,Nx,Bk]
 refine VW.block ?_
 refine VW.loopF (i_nucleus_L0 a0 v2) (fun s3 => [(0,.val (dM a0)),(3,.ref 3 [] true (dI s3.1)),(10,.val (i64 v2)),(11,.val (i64 s3.2))]) Aj (Fits.of rfl) ?_
 clear Aj
 intro s3 ox3 B Ah
 unfold i_nucleus_L0 at B
 refine zs [(0,.val (dM a0)),(3,.ref 3 [] true (dI s3.1)),(10,.val (i64 v2)),(11,.val (i64 s3.2)),(12,.val (.bool (ilt s3.2 v2)))] ?_ ?_
 ·simp
 refine VW.sqc fun K5 hK5 hCK5 => ?_
 refine VW.cond rfl (fun M => ?_) (fun M => ?_)
 rotate_left
 ·
  replace M : ¬ (s3.2 < v2) := by simpa [ieq,ilt,ile] using M
  rw [if_neg M] at B
  refine VW.exit ?_
  cases B
  have hq := Ah _ rfl
  subst hq
  exact Fits.of rfl
 replace M : s3.2 < v2 := by simpa [ieq,ilt,ile] using M
 rw [if_pos M] at B
 refine VW.skip ?_
 refine hK5 _ ?_
 obtain ⟨x7,Dt,B⟩ := bind_some B
 refine VW.sqE [(0,.val (dM a0)),(3,.ref 3 [] true (dI x7)),(10,.val (i64 v2)),(11,.val (i64 s3.2))] ?_ ?_
 ·clear Dt
  refine zr [(0,.val (dM a0)),(3,.ref 3 [] true (dI x7)),(10,.val (i64 v2)),(11,.val (i64 (w64 (s3.2 + 1))))] ?_ ?_
  ·simp
  cases B
  exact ⟨_,rfl,Fits.of rfl⟩
 refine VW.block ?_
 refine zs [(0,.val (dM a0)),(3,.ref 3 [] true (dI s3.1)),(4,.val (i64 s3.2)),(10,.val (i64 v2)),(11,.val (i64 s3.2))] ?_ ?_
 ·simp
 refine zs [(0,.val (dM a0)),(3,.ref 3 [] true (dI s3.1)),(4,.val (i64 s3.2)),(5,.val (.bool true)),(10,.val (i64 v2)),(11,.val (i64 s3.2))] ?_ ?_
 ·simp
 refine VW.sqc fun K9 hK9 hCK9 => ?_
 obtain ⟨v10,Bl,Dt⟩ := bind_some Dt
 refine VW.ws tau_ok (Sound.none.add 15 (i_length_LI_ok Bl) rfl) _ [(0,.val (dM a0)),(3,.ref 3 [] true (dI s3.1)),(4,.val (i64 s3.2)),(5,.val (.bool true)),(10,.val (i64 v2)),(11,.val (i64 s3.2)),(15,.val (i64 v10)),(16,.val (i64 0))] rfl ?_ ?_
 ·simp
 obtain ⟨x11,Ci,Dt⟩ := bind_some Dt
 refine VW.tlE [(0,.val (dM a0)),(3,.ref 3 [] true (dI s3.1)),(4,.val (i64 s3.2)),(5,.val (.bool x11)),(10,.val (i64 v2)),(11,.val (i64 s3.2))] (hCK9) ?_ ?_
 ·clear Ci
  refine hK9 _ ?_
  refine zs [(0,.val (dM a0)),(3,.ref 3 [] true (dI s3.1)),(4,.val (i64 s3.2)),(10,.val (i64 v2)),(11,.val (i64 s3.2)),(48,.val (.bool x11))] ?_ ?_
  ·simp
  refine VW.cond rfl (fun Ab => ?_) (fun Ab => ?_)
  rotate_left
  ·
   replace Ab : ¬ (x11 = true) := by simpa [ieq,ilt,ile] using Ab
   rw [if_neg Ab] at Dt
   refine VW.skip ?_
   cases Dt
   exact Fits.of rfl
  replace Ab : x11 = true := by simpa [ieq,ilt,ile] using Ab
  rw [if_pos Ab] at Dt
  obtain ⟨Hm,Dt⟩ := chk_some Dt
  have Eg := Hm
  try simp at Eg
  refine zr [(0,.val (dM a0)),(3,.ref 3 [] true (dI (s3.1 ++ [s3.2]))),(10,.val (i64 v2)),(11,.val (i64 s3.2))] ?_ ?_
  ·simp [Hm,Eg]
  cases Dt
  exact Fits.of rfl
 refine VW.block ?_
 refine VW.loopF (i_nucleus_L1 a0 s3 v10) (fun s11 => [(0,.val (dM a0)),(3,.ref 3 [] true (dI s3.1)),(4,.val (i64 s3.2)),(5,.val (.bool s11.1)),(10,.val (i64 v2)),(11,.val (i64 s3.2)),(15,.val (i64 v10)),(16,.val (i64 s11.2))]) Ci (Fits.of rfl) ?_
 clear Ci
 intro s11 ox11 K Cv
 unfold i_nucleus_L1 at K
 refine zs [(0,.val (dM a0)),(3,.ref 3 [] true (dI s3.1)),(4,.val (i64 s3.2)),(5,.val (.bool s11.1)),(10,.val (i64 v2)),(11,.val (i64 s3.2)),(15,.val (i64 v10)),(16,.val (i64 s11.2)),(17,.val (.bool (ilt s11.2 v10)))] ?_ ?_
 ·simp
 refine VW.sqc fun K13 hK13 hCK13 => ?_
 refine VW.cond rfl (fun Q => ?_) (fun Q => ?_)
 rotate_left
 ·
  replace Q : ¬ (s11.2 < v10) := by simpa [ieq,ilt,ile] using Q
  rw [if_neg Q] at K
  refine VW.exit ?_
  cases K
  have hq := Cv _ rfl
  subst hq
  exact Fits.of rfl
 replace Q : s11.2 < v10 := by simpa [ieq,ilt,ile] using Q
 rw [if_pos Q] at K
 refine VW.skip ?_
 refine hK13 _ ?_
 refine VW.sqc fun K15 hK15 hCK15 => ?_
 refine VW.block ?_
 refine zs [(0,.val (dM a0)),(3,.ref 3 [] true (dI s3.1)),(4,.val (i64 s3.2)),(5,.val (.bool s11.1)),(6,.val (i64 s11.2)),(10,.val (i64 v2)),(11,.val (i64 s3.2)),(15,.val (i64 v10)),(16,.val (i64 s11.2))] ?_ ?_
 ·simp
 obtain ⟨v16,Dc,K⟩ := bind_some K
 refine VW.ws tau_ok (Sound.none.add 20 (i_length_LI_ok Dc) rfl) _ [(0,.val (dM a0)),(3,.ref 3 [] true (dI s3.1)),(4,.val (i64 s3.2)),(5,.val (.bool s11.1)),(6,.val (i64 s11.2)),(10,.val (i64 v2)),(11,.val (i64 s3.2)),(15,.val (i64 v10)),(16,.val (i64 s11.2)),(20,.val (i64 v16)),(21,.val (i64 0))] rfl ?_ ?_
 ·simp
 obtain ⟨x17,Ac,K⟩ := bind_some K
 refine VW.tlE [(0,.val (dM a0)),(3,.ref 3 [] true (dI s3.1)),(4,.val (i64 s3.2)),(5,.val (.bool x17)),(10,.val (i64 v2)),(11,.val (i64 s3.2)),(15,.val (i64 v10)),(16,.val (i64 s11.2))] (hCK15) ?_ ?_
 ·clear Ac
  refine hK15 _ ?_
  refine zr [(0,.val (dM a0)),(3,.ref 3 [] true (dI s3.1)),(4,.val (i64 s3.2)),(5,.val (.bool x17)),(10,.val (i64 v2)),(11,.val (i64 s3.2)),(15,.val (i64 v10)),(16,.val (i64 (w64 (s11.2 + 1))))] ?_ ?_
  ·simp
  cases K
  exact ⟨_,rfl,Fits.of rfl⟩
 refine VW.block ?_
 refine VW.loopF (i_nucleus_L2 a0 s3 s11 v16) (fun s17 => [(0,.val (dM a0)),(3,.ref 3 [] true (dI s3.1)),(4,.val (i64 s3.2)),(5,.val (.bool s17.1)),(6,.val (i64 s11.2)),(10,.val (i64 v2)),(11,.val (i64 s3.2)),(15,.val (i64 v10)),(16,.val (i64 s11.2)),(20,.val (i64 v16)),(21,.val (i64 s17.2))]) Ac (Fits.of rfl) ?_
 clear Ac
 intro s17 ox17 A Aa
 unfold i_nucleus_L2 at A
 refine zs [(0,.val (dM a0)),(3,.ref 3 [] true (dI s3.1)),(4,.val (i64 s3.2)),(5,.val (.bool s17.1)),(6,.val (i64 s11.2)),(10,.val (i64 v2)),(11,.val (i64 s3.2)),(15,.val (i64 v10)),(16,.val (i64 s11.2)),(20,.val (i64 v16)),(21,.val (i64 s17.2)),(22,.val (.bool (ilt s17.2 v16)))] ?_ ?_
 ·simp
 refine VW.sqc fun K19 hK19 hCK19 => ?_
 refine VW.cond rfl (fun Cm => ?_) (fun Cm => ?_)
 rotate_left
 ·
  replace Cm : ¬ (s17.2 < v16) := by simpa [ieq,ilt,ile] using Cm
  rw [if_neg Cm] at A
  refine VW.exit ?_
  cases A
  have hq := Aa _ rfl
  subst hq
  exact Fits.of rfl
 replace Cm : s17.2 < v16 := by simpa [ieq,ilt,ile] using Cm
 rw [if_pos Cm] at A
 refine VW.skip ?_
 refine hK19 _ ?_
 refine VW.sqc fun K21 hK21 hCK21 => ?_
 refine VW.block ?_
 refine zs [(0,.val (dM a0)),(3,.ref 3 [] true (dI s3.1)),(4,.val (i64 s3.2)),(5,.val (.bool s17.1)),(6,.val (i64 s11.2)),(7,.val (i64 s17.2)),(10,.val (i64 v2)),(11,.val (i64 s3.2)),(15,.val (i64 v10)),(16,.val (i64 s11.2)),(20,.val (i64 v16)),(21,.val (i64 s17.2))] ?_ ?_
 ·simp
 obtain ⟨x28,G,A⟩ := bind_some A
 refine VW.cutr [(0,.val (dM a0)),(3,.ref 3 [] true (dI s3.1)),(4,.val (i64 s3.2)),(5,.val (.bool x28)),(6,.val (i64 s11.2)),(10,.val (i64 v2)),(11,.val (i64 s3.2)),(15,.val (i64 v10)),(16,.val (i64 s11.2)),(20,.val (i64 v16)),(21,.val (i64 s17.2))] ?_ fun hy => ?_
 rotate_left
 ·clear A
  by_cases D2 : s17.1 = true
  ·rw [if_pos D2] at G
   have Au : s17.1 = true := by simpa [ieq,ilt,ile] using D2
   have Av := Au
   try simp at Av
   obtain ⟨v23,Bm,G⟩ := bind_some G
   by_cases D3 : v23 = true
   ·rw [if_pos D3] at G
    have Bc : v23 = true := by simpa [ieq,ilt,ile] using D3
    have Bd := Bc
    try simp at Bd
    obtain ⟨v25,Cw,G⟩ := bind_some G
    by_cases Bj : v25 = true
    ·rw [if_pos Bj] at G
     have U : v25 = true := by simpa [ieq,ilt,ile] using Bj
     have V := U
     try simp at V
     obtain ⟨v27,Db,G⟩ := bind_some G
     cases G
     refine VW.wr tau_ok (((Sound.none.add 30 (i_associates_ok Bm) rfl).add 37 (i_associates_ok Cw) rfl).add 44 (i_associates_ok Db) rfl) _ _ rfl ?_ hy
     simp [Au,Av,Bc,Bd,U,V]
    ·rw [if_neg Bj] at G
     have U : v25 = false := by simpa [ieq,ilt,ile] using Bj
     have V := U
     try simp at V
     cases G
     refine VW.wr tau_ok ((Sound.none.add 30 (i_associates_ok Bm) rfl).add 37 (i_associates_ok Cw) rfl) _ _ rfl ?_ hy
     simp [Au,Av,Bc,Bd,U,V]
   ·rw [if_neg D3] at G
    have Bc : v23 = false := by simpa [ieq,ilt,ile] using D3
    have Bd := Bc
    try simp at Bd
    cases G
    refine VW.wr tau_ok (Sound.none.add 30 (i_associates_ok Bm) rfl) _ _ rfl ?_ hy
    simp [Au,Av,Bc,Bd]
  ·rw [if_neg D2] at G
   have Au : s17.1 = false := by simpa [ieq,ilt,ile] using D2
   have Av := Au
   try simp at Av
   cases G
   refine VW.wr tau_ok Sound.none _ _ rfl ?_ hy
   simp [Au,Av]
 refine hK21 _ ?_
 refine zr [(0,.val (dM a0)),(3,.ref 3 [] true (dI s3.1)),(4,.val (i64 s3.2)),(5,.val (.bool x28)),(6,.val (i64 s11.2)),(10,.val (i64 v2)),(11,.val (i64 s3.2)),(15,.val (i64 v10)),(16,.val (i64 s11.2)),(20,.val (i64 v16)),(21,.val (i64 (w64 (s17.2 + 1))))] ?_ ?_
 ·simp
 cases A
 exact ⟨_,rfl,Fits.of rfl⟩

theorem i_LoopNucleus_ok {a0 : List (List Int)} {r : (List Int) × Int} (h : i_LoopNucleus a0 = some r) :
  VCall Try.prog 35 [dM a0] [.own true (dI r.1),.sc (i64 r.2)] := by
 unfold i_LoopNucleus at h
 refine VCall.enter Try.call35 Try.func35 rfl 12 Try.ntmps35 (by simp) [.tmp 2,.tmp 3] rfl ?_
 show VW _ _ _ (mk [(0,.val (dM a0))]) _
 refine zs [(0,.val (dM a0))] ?_ ?_
 ·simp
 refine VW.sqc fun K1 hK1 hCK1 => ?_
 obtain ⟨v2,Ag,h⟩ := bind_some h
 refine VW.ws tau_ok (Sound.none.add 6 (i_checkLoop_ok Ag) rfl) _ [(0,.val (dM a0)),(4,.val (i64 v2))] rfl ?_ ?_
 ·simp
 refine zs [(0,.val (dM a0)),(4,.val (i64 v2)),(8,.val (.bool (!(ieq v2 0))))] ?_ ?_
 ·simp
 refine VW.cond rfl (fun E => ?_) (fun E => ?_)
 ·
  replace E : ¬ v2 = 0 := by simpa [ieq,ilt,ile] using E
  rw [if_pos E] at h
  refine zs [(2,.ref 2 [] true (.list [])),(3,.val (i64 v2))] ?_ ?_
  ·simp
  cases h
  refine VW.ret ?_
  simp [Post,PostM,PostC,PostC2,Nx,Bk]
 replace E : ¬ (¬ v2 = 0) := by simpa [ieq,ilt,ile] using E
 rw [if_neg E] at h
 refine VW.skip ?_
 refine hK1 _ ?_
 obtain ⟨v4,Cx,h⟩ := bind_some h
 refine VW.ws tau_ok (Sound.none.add 11 (i_nucleus_ok Cx) rfl) _ [(2,.ref 2 [] true (dI v4)),(3,.val (i64 0))] rfl ?_ ?_
 ·simp
 cases h
 refine VW.ret ?_
 simp [Post,PostM,PostC,PostC2,Nx,Bk]

theorem i_LoopCentre_c1_ok {a0 : Int} {a1_0 : List (List Int)} {r : Bool} (h : i_LoopCentre_c1 a0 a1_0 = some r) :
  VCall Try.prog 107 [i64 a0,.ptr [dM a1_0]] [.sc (.bool r)] := by
 unfold i_LoopCentre_c1 at h
 refine VCall.enter Try.call107 Try.func107 rfl 26 Try.ntmps107 (by simp) [.tmp 3] rfl ?_
 show VW _ _ _ (mk [(0,.val (i64 a0)),(1,.val (.ptr [dM a1_0]))]) _
 refine zs [(0,.val (i64 a0)),(1,.val (.ptr [dM a1_0]))] ?_ ?_
 ·simp
 refine VW.sqc fun K1 hK1 hCK1 => ?_
 refine zs [(0,.val (i64 a0)),(1,.val (.ptr [dM a1_0])),(6,.val (i64 (a1_0.length : Int))),(7,.val (i64 0))] ?_ ?_
 ·simp
 obtain ⟨x2,B9,h⟩ := bind_some h
 refine VW.tlO (fun y4 => []) x2 (hCK1) ?_ ?_
 ·clear B9
  rintro y4 rfl
  dsimp only at h
  refine hK1 _ ?_
  refine zs [(3,.val (.bool false))] ?_ ?_
  ·simp
  cases h
  refine VW.ret ?_
  simp [Post,PostM,PostC,PostC2,Nx,Bk]
 refine VW.block ?_
 refine VW.loopF (i_LoopCentre_c1_L0 a0 a1_0) (fun s2 => [(0,.val (i64 a0)),(1,.val (.ptr [dM a1_0])),(6,.val (i64 (a1_0.length : Int))),(7,.val (i64 s2))]) B9 (Fits.of rfl) ?_
 clear B9
 intro s2 ox2 C Am
 unfold i_LoopCentre_c1_L0 at C
 refine zs [(0,.val (i64 a0)),(1,.val (.ptr [dM a1_0])),(6,.val (i64 (a1_0.length : Int))),(7,.val (i64 s2)),(8,.val (.bool (ilt s2 (a1_0.length : Int))))] ?_ ?_
 ·simp
 refine VW.sqc fun K5 hK5 hCK5 => ?_
 refine VW.cond rfl (fun M => ?_) (fun M => ?_)
 rotate_left
 ·
  replace M : ¬ (s2 < (a1_0.length : Int)) := by simpa [ieq,ilt,ile] using M
  rw [if_neg M] at C
  refine VW.exit ?_
  cases C
  have hq := Am _ rfl
  subst hq
  exact ⟨_,rfl,Fits.of rfl⟩
 replace M : s2 < (a1_0.length : Int) := by simpa [ieq,ilt,ile] using M
 rw [if_pos M] at C
 refine VW.skip ?_
 refine hK5 _ ?_
 refine VW.sqc fun K7 hK7 hCK7 => ?_
 refine VW.block ?_
 refine zs [(0,.val (i64 a0)),(1,.val (.ptr [dM a1_0])),(4,.val (i64 s2)),(6,.val (i64 (a1_0.length : Int))),(7,.val (i64 s2))] ?_ ?_
 ·simp
 obtain ⟨v8,Dv,C⟩ := bind_some C
 obtain ⟨Bf,Bg,Bh,Bi⟩ := idx_some Dv
 obtain ⟨v9,B3,C⟩ := bind_some C
 obtain ⟨Cz,C0,C1,C2⟩ := idx_some B3
 obtain ⟨v10,Bl,C⟩ := bind_some C
 obtain ⟨An,Ao,Ap,Aq⟩ := idx_some Bl
 obtain ⟨v11,Af,C⟩ := bind_some C
 obtain ⟨W,X,Y,Z⟩ := idx_some Af
 refine VW.wds tau_ok Sound.none try_mixed _ [(0,.val (i64 a0)),(1,.val (.ptr [dM a1_0])),(6,.val (i64 (a1_0.length : Int))),(7,.val (i64 s2)),(24,.val (.bool (!(ieq v9 v11))))] 15 rfl (by kernel_rfl) (by rfl) ?_ ?_
 ·simp [Bf,Bg,Bh,Bi,Cz,C0,C1,C2,An,Ao,Ap,Aq,W,X,Y,Z]
 refine VW.cond rfl (fun H => ?_) (fun H => ?_)
 rotate_left
 ·
  replace H : ¬ (¬ v9 = v11) := by simpa [ieq,ilt,ile] using H
  rw [if_neg H] at C
  refine VW.skip ?_
  refine hK7 _ ?_
  refine zr [(0,.val (i64 a0)),(1,.val (.ptr [dM a1_0])),(6,.val (i64 (a1_0.length : Int))),(7,.val (i64 (w64 (s2 + 1))))] ?_ ?_
  ·simp
  cases C
  exact ⟨_,rfl,Fits.of rfl⟩
 replace H : ¬ v9 = v11 := by simpa [ieq,ilt,ile] using H
 rw [if_pos H] at C
 refine zs [(3,.val (.bool true))] ?_ ?_
 ·simp
 cases C
 have hq := Am _ rfl
 subst hq
 dsimp only at h
 cases h
 refine VW.ret ?_
 simp [Post,PostM,PostC,PostC2,Nx,Bk]

theorem g_slices_IndexFunc_LI_I_of_i_LoopCentre_c1_ok {a0 : List Int} {a1_0_0 : List (List Int)} {r : Int} (h : g_slices_IndexFunc_LI_I_of_i_LoopCentre_c1 a0 a1_0_0 = some r) :
  VCall Try.prog 163 [dI a0,.fn 107 [.ptr [dM a1_0_0]]] [.sc (i64 r)] := by
 unfold g_slices_IndexFunc_LI_I_of_i_LoopCentre_c1 at h
 refine VCall.enter Try.call163 Try.func163 rfl 19 Try.ntmps163 (by simp) [.tmp 4] rfl ?_
 show VW _ _ _ (mk [(0,.val (dI a0)),(1,.val (.fn 107 [.ptr [dM a1_0_0]]))]) _
 refine zs [(0,.val (dI a0)),(1,.val (.fn 107 [.ptr [dM a1_0_0]]))] ?_ ?_
 ·simp
 refine VW.sqc fun K1 hK1 hCK1 => ?_
 refine zs [(0,.val (dI a0)),(1,.val (.fn 107 [.ptr [dM a1_0_0]])),(7,.val (i64 (a0.length : Int))),(8,.val (i64 0))] ?_ ?_
 ·simp
 obtain ⟨x2,B9,h⟩ := bind_some h
 refine VW.tlO (fun y4 => []) x2 (hCK1) ?_ ?_
 ·clear B9
  rintro y4 rfl
  dsimp only at h
  refine hK1 _ ?_
  refine zs [(4,.val (i64 (-1)))] ?_ ?_
  ·simp
  cases h
  refine VW.ret ?_
  simp [Post,PostM,PostC,PostC2,Nx,Bk]
 refine VW.block ?_
 refine VW.loopF (g_slices_IndexFunc_LI_I_of_i_LoopCentre_c1_L0 a0 a1_0_0) (fun s2 => [(0,.val (dI a0)),(1,.val (.fn 107 [.ptr [dM a1_0_0]])),(7,.val (i64 (a0.length : Int))),(8,.val (i64 s2))]) B9 (Fits.of rfl) ?_
 clear B9
 intro s2 ox2 C Am
 unfold g_slices_IndexFunc_LI_I_of_i_LoopCentre_c1_L0 at C
 refine zs [(0,.val (dI a0)),(1,.val (.fn 107 [.ptr [dM a1_0_0]])),(7,.val (i64 (a0.length : Int))),(8,.val (i64 s2)),(9,.val (.bool (ilt s2 (a0.length : Int))))] ?_ ?_
 ·simp
 refine VW.sqc fun K5 hK5 hCK5 => ?_
 refine VW.cond rfl (fun M => ?_) (fun M => ?_)
 rotate_left
 ·
  replace M : ¬ (s2 < (a0.length : Int)) := by simpa [ieq,ilt,ile] using M
  rw [if_neg M] at C
  refine VW.exit ?_
  cases C
  have hq := Am _ rfl
  subst hq
  exact ⟨_,rfl,Fits.of rfl⟩
 replace M : s2 < (a0.length : Int) := by simpa [ieq,ilt,ile] using M
 rw [if_pos M] at C
 refine VW.skip ?_
 refine hK5 _ ?_
 refine VW.sqc fun K7 hK7 hCK7 => ?_
 refine VW.block ?_
 refine zs [(0,.val (dI a0)),(1,.val (.fn 107 [.ptr [dM a1_0_0]])),(5,.val (i64 s2)),(7,.val (i64 (a0.length : Int))),(8,.val (i64 s2))] ?_ ?_
 ·simp
 obtain ⟨v8,Dv,C⟩ := bind_some C
 obtain ⟨Bf,Bg,Bh,Bi⟩ := idx_some Dv
 obtain ⟨v9,B3,C⟩ := bind_some C
 refine VW.ws tau_ok (Sound.none.add 16 (i_LoopCentre_c1_ok B3) rfl) _ [(0,.val (dI a0)),(1,.val (.fn 107 [.ptr [dM a1_0_0]])),(5,.val (i64 s2)),(7,.val (i64 (a0.length : Int))),(8,.val (i64 s2)),(16,.val (.bool v9))] rfl ?_ ?_
 ·simp [Bf,Bg,Bh,Bi]
 refine VW.cond rfl (fun I => ?_) (fun I => ?_)
 rotate_left
 ·
  replace I : ¬ (v9 = true) := by simpa [ieq,ilt,ile] using I
  rw [if_neg I] at C
  refine VW.skip ?_
  refine hK7 _ ?_
  refine zr [(0,.val (dI a0)),(1,.val (.fn 107 [.ptr [dM a1_0_0]])),(7,.val (i64 (a0.length : Int))),(8,.val (i64 (w64 (s2 + 1))))] ?_ ?_
  ·simp
  cases C
  exact ⟨_,rfl,Fits.of rfl⟩
 replace I : v9 = true := by simpa [ieq,ilt,ile] using I
 rw [if_pos I] at C
 refine zs [(4,.val (i64 s2))] ?_ ?_
 ·simp
 cases C
 have hq := Am _ rfl
 subst hq
 dsimp only at h
 cases h
 refine VW.ret ?_
 simp [Post,PostM,PostC,PostC2,Nx,Bk]

theorem g_slices_DeleteFunc_LI_I_of_i_LoopCentre_c1_ok {a0 : List Int} {a1_0_0 : List (List Int)} {r : List Int} (h : g_slices_DeleteFunc_LI_I_of_i_LoopCentre_c1 a0 a1_0_0 = some r) :
  VTake Try.prog 106 (dI a0) [.fn 107 [.ptr [dM a1_0_0]]] (dI r) := by
 unfold g_slices_DeleteFunc_LI_I_of_i_LoopCentre_c1 at h
 refine VTake.enter Try.call106 Try.func106 rfl 42 Try.ntmps106 (by simp) 4 rfl ?_
 show VW _ _ _ (mk [(0,.ref 0 [] true (dI a0)),(1,.val (.fn 107 [.ptr [dM a1_0_0]]))]) _
 refine zs [(0,.ref 0 [] true (dI a0)),(1,.val (.fn 107 [.ptr [dM a1_0_0]]))] ?_ ?_
 ·simp
 obtain ⟨v1,Be,h⟩ := bind_some h
 refine VW.ws tau_ok (Sound.none.add 10 (g_slices_IndexFunc_LI_I_of_i_LoopCentre_c1_ok Be) rfl) _ [(0,.ref 0 [] true (dI a0)),(1,.val (.fn 107 [.ptr [dM a1_0_0]])),(5,.val (i64 v1))] rfl ?_ ?_
 ·simp
 refine VW.sqc fun K2 hK2 hCK2 => ?_
 refine zs [(0,.ref 0 [] true (dI a0)),(1,.val (.fn 107 [.ptr [dM a1_0_0]])),(5,.val (i64 v1)),(12,.val (.bool (ieq v1 (-1))))] ?_ ?_
 ·simp
 refine VW.cond rfl (fun E => ?_) (fun E => ?_)
 ·
  replace E : v1 = (-1) := by simpa [ieq,ilt,ile] using E
  rw [if_pos E] at h
  refine zs [(4,.ref 4 [] true (dI a0))] ?_ ?_
  ·simp
  cases h
  refine VW.ret ?_
  simp [Post,PostM,PostC,PostC2,Nx,Bk]
 replace E : ¬ (v1 = (-1)) := by simpa [ieq,ilt,ile] using E
 rw [if_neg E] at h
 refine VW.skip ?_
 refine hK2 _ ?_
 refine VW.sqc fun K4 hK4 hCK4 => ?_
 refine zs [(0,.ref 0 [] true (dI a0)),(1,.val (.fn 107 [.ptr [dM a1_0_0]])),(5,.val (i64 v1)),(6,.val (i64 (w64 (v1 + 1))))] ?_ ?_
 ·simp
 obtain ⟨x5,Dd,h⟩ := bind_some h
 refine VW.tlE [(0,.ref 0 [] true (dI x5.1)),(5,.val (i64 x5.2))] (hCK4) ?_ ?_
 ·clear Dd
  refine hK4 _ ?_
  obtain ⟨If,h⟩ := chk_some h
  refine VW.clr tau_ok (T := 23) rfl ⟨_,rfl,rfl⟩ (t0 := 0) (ti := 5) rfl rfl (by simpa using If) rfl rfl rfl (by simp) rfl rfl rfl (by simp) rfl rfl rfl (by simp) rfl rfl rfl (by decide) ?_
  obtain ⟨C5,h⟩ := chk_some h
  have Bu := C5
  try simp at Bu
  refine zs [(4,.ref 4 [] true (dI (x5.1.take x5.2.toNat)))] ?_ ?_
  ·simp [C5,Bu]
  cases h
  refine VW.ret ?_
  simp [Post,PostM,PostC,PostC2,Nx,Bk]
 refine VW.block ?_
 refine VW.loopF (g_slices_DeleteFunc_LI_I_of_i_LoopCentre_c1_L0 a1_0_0) (fun s5 => [(0,.ref 0 [] true (dI s5.1)),(1,.val (.fn 107 [.ptr [dM a1_0_0]])),(5,.val (i64 s5.2.1)),(6,.val (i64 s5.2.2))]) Dd (Fits.of rfl) ?_
 clear Dd
 intro s5 ox5 L Cg
 unfold g_slices_DeleteFunc_LI_I_of_i_LoopCentre_c1_L0 at L
 refine VW.sqc fun K7 hK7 hCK7 => ?_
 refine zs [(0,.ref 0 [] true (dI s5.1)),(1,.val (.fn 107 [.ptr [dM a1_0_0]])),(5,.val (i64 s5.2.1)),(6,.val (i64 s5.2.2)),(19,.val (.bool (ilt s5.2.2 (s5.1.length : Int))))] ?_ ?_
 ·simp
 refine VW.cond rfl (fun At => ?_) (fun At => ?_)
 rotate_left
 ·
  replace At : ¬ (s5.2.2 < (s5.1.length : Int)) := by simpa [ieq,ilt,ile] using At
  rw [if_neg At] at L
  refine VW.exit ?_
  cases L
  have hq := Cg _ rfl
  subst hq
  exact Fits.of rfl
 replace At : s5.2.2 < (s5.1.length : Int) := by simpa [ieq,ilt,ile] using At
 rw [if_pos At] at L
 refine VW.skip ?_
 refine hK7 _ ?_
 obtain ⟨x9,B8,L⟩ := bind_some L
 refine VW.sqE [(0,.ref 0 [] true (dI x9.1)),(1,.val (.fn 107 [.ptr [dM a1_0_0]])),(5,.val (i64 x9.2)),(6,.val (i64 s5.2.2))] ?_ ?_
 ·clear B8
  refine zr [(0,.ref 0 [] true (dI x9.1)),(1,.val (.fn 107 [.ptr [dM a1_0_0]])),(5,.val (i64 x9.2)),(6,.val (i64 (w64 (s5.2.2 + 1))))] ?_ ?_
  ·simp
  cases L
  exact ⟨_,rfl,Fits.of rfl⟩
 refine VW.block ?_
 obtain ⟨v11,Af,B8⟩ := bind_some B8
 obtain ⟨W,X,Y,Z⟩ := idx_some Af
 refine zs [(0,.ref 0 [] true (dI s5.1)),(1,.val (.fn 107 [.ptr [dM a1_0_0]])),(5,.val (i64 s5.2.1)),(6,.val (i64 s5.2.2)),(7,.val (i64 v11))] ?_ ?_
 ·simp [W,X,Y,Z]
 obtain ⟨v12,Bn,B8⟩ := bind_some B8
 refine VW.ws tau_ok (Sound.none.add 28 (i_LoopCentre_c1_ok Bn) rfl) _ [(0,.ref 0 [] true (dI s5.1)),(1,.val (.fn 107 [.ptr [dM a1_0_0]])),(5,.val (i64 s5.2.1)),(6,.val (i64 s5.2.2)),(7,.val (i64 v11)),(29,.val (.bool (!v12)))] rfl ?_ ?_
 ·simp
 refine VW.cond rfl (fun P => ?_) (fun P => ?_)
 rotate_left
 ·
  replace P : ¬ (v12 = false) := by simpa [ieq,ilt,ile] using P
  rw [if_neg P] at B8
  refine VW.skip ?_
  cases B8
  exact Fits.of rfl
 replace P : v12 = false := by simpa [ieq,ilt,ile] using P
 rw [if_pos P] at B8
 obtain ⟨v14,C3,B8⟩ := bind_some B8
 obtain ⟨Bq,Br,Bs,Bt⟩ := idx_some C3
 refine zs [(0,.ref 0 [] true (dI (s5.1.set s5.2.1.toNat v11))),(1,.val (.fn 107 [.ptr [dM a1_0_0]])),(5,.val (i64 s5.2.1)),(6,.val (i64 s5.2.2))] ?_ ?_
 ·simp [Bq,Br,Bs,Bt]
 refine zr [(0,.ref 0 [] true (dI (s5.1.set s5.2.1.toNat v11))),(1,.val (.fn 107 [.ptr [dM a1_0_0]])),(5,.val (i64 (w64 (s5.2.1 + 1)))),(6,.val (i64 s5.2.2))] ?_ ?_
 ·simp
 cases B8
 exact Fits.of rfl

theorem i_LoopCentre_ok {a0 : List (List Int)} {r : (List Int) × Int} (h : i_LoopCentre a0 = some r) :
  VCall Try.prog 36 [dM a0] [.own true (dI r.1),.sc (i64 r.2)] := by
 unfold i_LoopCentre at h
 refine VCall.enter Try.call36 Try.func36 rfl 14 Try.ntmps36 (by simp) [.tmp 2,.tmp 3] rfl ?_
 show VW _ _ _ (mk [(0,.val (dM a0))]) _
 refine zs [(1,.val (.ptr [dM a0]))] ?_ ?_
 ·simp
 refine VW.sqc fun K1 hK1 hCK1 => ?_
 obtain ⟨v2,Ag,h⟩ := bind_some h
 refine VW.ws tau_ok (Sound.none.add 6 (i_checkLoop_ok Ag) rfl) _ [(1,.val (.ptr [dM a0])),(4,.val (i64 v2))] rfl ?_ ?_
 ·simp
 refine zs [(1,.val (.ptr [dM a0])),(4,.val (i64 v2)),(8,.val (.bool (!(ieq v2 0))))] ?_ ?_
 ·simp
 refine VW.cond rfl (fun E => ?_) (fun E => ?_)
 ·
  replace E : ¬ v2 = 0 := by simpa [ieq,ilt,ile] using E
  rw [if_pos E] at h
  refine zs [(2,.ref 2 [] true (.list [])),(3,.val (i64 v2))] ?_ ?_
  ·simp
  cases h
  refine VW.ret ?_
  simp [Post,PostM,PostC,PostC2,Nx,Bk]
 replace E : ¬ (¬ v2 = 0) := by simpa [ieq,ilt,ile] using E
 rw [if_neg E] at h
 refine VW.skip ?_
 refine hK1 _ ?_
 obtain ⟨v4,Cx,h⟩ := bind_some h
 obtain ⟨v5,Dx,h⟩ := bind_some h
 refine VW.mid tau_ok (Sound.none.add 11 (i_nucleus_ok Cx) rfl) _ 3 [(11,.ref 11 [] true (dI v4)),(12,.val (.fn 107 [.ptr [dM a0]]))] _ (fun _ => [(2,.ref 2 [] true (dI v5)),(3,.val (i64 0))]) (fun _ => True) _ rfl rfl rfl ?_ (step_take rfl rfl rfl (by simp) rfl rfl (g_slices_DeleteFunc_LI_I_of_i_LoopCentre_c1_ok Dx)) (fun _ _ => ?_) (fun _ _ => ?_)
 ·simp
 ·simp
 cases h
 refine VW.ret ?_
 simp [Post,PostM,PostC,PostC2,Nx,Bk]
end Go.Vam
