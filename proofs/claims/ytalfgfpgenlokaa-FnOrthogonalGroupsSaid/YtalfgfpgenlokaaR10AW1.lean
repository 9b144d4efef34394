import Derived.Test.YtalfgfpgenlokaaR10T
import Derived.Test.YtalfgfpgenlokaaFmG0
namespace Go.Vam
open Go Go.RowKit Go.Proofs
set_option maxRecDepth 100000
set_option linter.unusedSimpArgs false
set_option linter.unusedVariables false

theorem l_big_ok {a0 : List Int} {r : Bool} (h : l_big a0 = some r) :
  VCall Try.prog 4 [.list (a0.map (D.int .u8))] [.sc (.bool r)] := by
 unfold l_big at h
 refine VCall.enter Try.call4 Try.func4 rfl 6 Try.ntmps4 (by simp) [.tmp 2] rfl ?_
 show VW _ _ _ (mk [(0,.val (.list (a0.map (D.int .u8))))]) _
 refine zs [(0,.val (.list (a0.map (D.int .u8))))] ?_ ?_
 ·simp
 refine zs [(2,.val (.bool (ilt 4096 (a0.length : Int))))] ?_ ?_
 ·simp
 cases h
 refine VW.ret ?_
 simp [Post,PostM,PostC,PostC2,Nx,Bk]

theorem s_l01From_ok {a0 : List Int} {r : (List Int) × Int × Int} (h : s_l01From a0 = some r) :
  VCall Try.prog 15 [.list (a0.map (D.int .u8))] [.own false (.ptr [.list (r.1.map (D.int .u8)),i64 r.2.1,.int .u64 r.2.2])] := by
 unfold s_l01From at h
 refine VCall.enter Try.call15 Try.func15 rfl 38 Try.ntmps15 (by simp) [.tmp 2] rfl ?_
 show VW _ _ _ (mk [(0,.val (.list (a0.map (D.int .u8))))]) _
 refine zs [(0,.val (.list (a0.map (D.int .u8))))] ?_ ?_
 ·simp
 refine zs [(0,.val (.list (a0.map (D.int .u8)))),(3,.ref 3 [] false (.ptr [.list (a0.map (D.int .u8)),i64 0,.int .u64 (IntKind.u64.wrap (4409 + (IntKind.u64.wrap ((a0.length : Int)))))]))] ?_ ?_
 ·simp
 refine VW.sqc fun K1 hK1 hCK1 => ?_
 refine zs [(0,.val (.list (a0.map (D.int .u8)))),(3,.ref 3 [] false (.ptr [.list (a0.map (D.int .u8)),i64 0,.int .u64 (IntKind.u64.wrap (4409 + (IntKind.u64.wrap ((a0.length : Int)))))])),(4,.val (i64 0))] ?_ ?_
 ·simp
 obtain ⟨x2,F,h⟩ := bind_some h
 refine VW.tlE [(3,.ref 3 [] false (.ptr [.list (x2.1.map (D.int .u8)),i64 x2.2.1,.int .u64 x2.2.2]))] (hCK1) ?_ ?_
 ·clear F
  refine hK1 _ ?_
  refine zs [(2,.ref 2 [] false (.ptr [.list (x2.1.map (D.int .u8)),i64 x2.2.1,.int .u64 x2.2.2]))] ?_ ?_
  ·simp
  cases h
  refine VW.ret ?_
  simp [Post,PostM,PostC,PostC2,Nx,Bk]
 refine VW.block ?_
 refine VW.loopF (s_l01From_L0 a0) (fun s2 => [(0,.val (.list (a0.map (D.int .u8)))),(3,.ref 3 [] false (.ptr [.list (s2.1.map (D.int .u8)),i64 s2.2.1,.int .u64 s2.2.2.1])),(4,.val (i64 s2.2.2.2))]) F (Fits.of rfl) ?_
 clear F
 intro s2 ox2 A G
 unfold s_l01From_L0 at A
 refine VW.sqc fun K4 hK4 hCK4 => ?_
 obtain ⟨x6,Y,A⟩ := bind_some A
 refine VW.cut [(0,.val (.list (a0.map (D.int .u8)))),(3,.ref 3 [] false (.ptr [.list (s2.1.map (D.int .u8)),i64 s2.2.1,.int .u64 s2.2.2.1])),(4,.val (i64 s2.2.2.2)),(19,.val (.bool x6))] ?_ fun hy => ?_
 rotate_left
 ·clear A
  by_cases Bx : s2.2.2.2 < (a0.length : Int)
  ·rw [if_pos Bx] at Y
   have Aa : ilt s2.2.2.2 (a0.length : Int) = true := by simpa [ieq,ilt,ile] using Bx
   have Ab := Aa
   try simp at Ab
   cases Y
   refine VW.ws tau_ok Sound.none _ _ rfl ?_ hy
   simp [Aa,Ab]
  ·rw [if_neg Bx] at Y
   have Aa : ilt s2.2.2.2 (a0.length : Int) = false := by simpa [ieq,ilt,ile] using Bx
   have Ab := Aa
   try simp at Ab
   cases Y
   refine VW.ws tau_ok Sound.none _ _ rfl ?_ hy
   simp [Aa,Ab]
 refine VW.cond rfl (fun S => ?_) (fun S => ?_)
 rotate_left
 ·
  replace S : ¬ (x6 = true) := by simpa [ieq,ilt,ile] using S
  rw [if_neg S] at A
  refine VW.exit ?_
  cases A
  have hq := G _ rfl
  subst hq
  exact Fits.of rfl
 replace S : x6 = true := by simpa [ieq,ilt,ile] using S
 rw [if_pos S] at A
 refine VW.skip ?_
 refine hK4 _ ?_
 refine VW.sqc fun K8 hK8 hCK8 => ?_
 refine VW.block ?_
 obtain ⟨v9,Ap,A⟩ := bind_some A
 obtain ⟨B5,B6,B7,B8⟩ := idx_some Ap
 refine VW.wdr tau_ok Sound.none try_mixed _ [(0,.val (.list (a0.map (D.int .u8)))),(3,.ref 3 [] false (.ptr [.list (s2.1.map (D.int .u8)),i64 s2.2.1,.int .u64 (IntKind.u64.wrap ((IntKind.u64.wrap ((IntKind.u64.wrap (s2.2.2.1 * 1099511628211)) + (IntKind.u64.wrap (v9)))) + 11))])),(4,.val (i64 s2.2.2.2))] 15 rfl (by kernel_rfl) (by rfl) ?_ ?_
 ·simp [B5,B6,B7,B8]
 refine hK8 _ ?_
 refine zr [(0,.val (.list (a0.map (D.int .u8)))),(3,.ref 3 [] false (.ptr [.list (s2.1.map (D.int .u8)),i64 s2.2.1,.int .u64 (IntKind.u64.wrap ((IntKind.u64.wrap ((IntKind.u64.wrap (s2.2.2.1 * 1099511628211)) + (IntKind.u64.wrap (v9)))) + 11))])),(4,.val (i64 (w64 (s2.2.2.2 + 1))))] ?_ ?_
 ·simp
 cases A
 exact ⟨_,rfl,Fits.of rfl⟩

theorem s_l01Next_ok {a0_0 : List Int} {a0_1 : Int} {a0_2 : Int} {a1 : Int} {r : Int × ((List Int) × Int × Int)} (h : s_l01Next a0_0 a0_1 a0_2 a1 = some r) :
  VPtr Try.prog 17 [.list (a0_0.map (D.int .u8)),i64 a0_1,.int .u64 a0_2] [i64 a1] [.sc (i64 r.1)] [.list (r.2.1.map (D.int .u8)),i64 r.2.2.1,.int .u64 r.2.2.2] := by
 unfold s_l01Next at h
 refine VPtr.enter Try.call17 Try.func17 rfl 58 Try.ntmps17 (by simp) [.tmp 4] rfl ?_
 show VW _ _ _ (mk [(0,.ref 0 [] false (.ptr [.list (a0_0.map (D.int .u8)),i64 a0_1,.int .u64 a0_2])),(1,.val (i64 a1))]) _
 refine zs [(0,.ref 0 [] false (.ptr [.list (a0_0.map (D.int .u8)),i64 a0_1,.int .u64 a0_2])),(1,.val (i64 a1))] ?_ ?_
 ·simp
 refine VW.sqc fun K1 hK1 hCK1 => ?_
 refine zs [(0,.ref 0 [] false (.ptr [.list (a0_0.map (D.int .u8)),i64 a0_1,.int .u64 a0_2])),(1,.val (i64 a1)),(7,.val (.bool (ilt a1 1)))] ?_ ?_
 ·simp
 refine VW.cond rfl (fun B9 => ?_) (fun B9 => ?_)
 ·
  replace B9 : a1 < 1 := by simpa [ieq,ilt,ile] using B9
  rw [if_pos B9] at h
  refine zs [(0,.ref 0 [] false (.ptr [.list (a0_0.map (D.int .u8)),i64 a0_1,.int .u64 a0_2])),(4,.val (i64 0))] ?_ ?_
  ·simp
  cases h
  refine VW.ret ?_
  simp [PostW,resW,PostWC,resWC,Nx,Bk]
 replace B9 : ¬ (a1 < 1) := by simpa [ieq,ilt,ile] using B9
 rw [if_neg B9] at h
 refine VW.skip ?_
 refine hK1 _ ?_
 refine zs [(0,.ref 0 [] false (.ptr [.list (a0_0.map (D.int .u8)),i64 a0_1,.int .u64 (IntKind.u64.wrap ((IntKind.u64.wrap (a0_2 * 6364136223846793005)) + 1442695040888963407))])),(1,.val (i64 a1))] ?_ ?_
 ·simp
 refine zs [(0,.ref 0 [] false (.ptr [.list (a0_0.map (D.int .u8)),i64 a0_1,.int .u64 (IntKind.u64.wrap ((IntKind.u64.wrap (a0_2 * 6364136223846793005)) + 1442695040888963407))])),(1,.val (i64 a1)),(5,.val (i64 (w64 (band .u64 (shr .u64 (IntKind.u64.wrap ((IntKind.u64.wrap (a0_2 * 6364136223846793005)) + 1442695040888963407)) 33) 16777215))))] ?_ ?_
 ·simp
 refine VW.sqc fun K3 hK3 hCK3 => ?_
 refine VW.wds tau_ok Sound.none try_mixed _ [(0,.ref 0 [] false (.ptr [.list (a0_0.map (D.int .u8)),i64 a0_1,.int .u64 (IntKind.u64.wrap ((IntKind.u64.wrap (a0_2 * 6364136223846793005)) + 1442695040888963407))])),(1,.val (i64 a1)),(5,.val (i64 (w64 (band .u64 (shr .u64 (IntKind.u64.wrap ((IntKind.u64.wrap (a0_2 * 6364136223846793005)) + 1442695040888963407)) 33) 16777215)))),(33,.val (.bool (ilt a0_1 (a0_0.length : Int))))] 10 rfl (by kernel_rfl) (by rfl) ?_ ?_
 ·simp
 obtain ⟨x4,Bg,h⟩ := bind_some h
 refine VW.tlE [(0,.ref 0 [] false (.ptr [.list (x4.1.map (D.int .u8)),i64 x4.2.1,.int .u64 x4.2.2.1])),(1,.val (i64 a1)),(5,.val (i64 x4.2.2.2))] (hCK3) ?_ ?_
 ·clear Bg
  refine hK3 _ ?_
  obtain ⟨Ci,h⟩ := chk_some h
  have Bh := Ci
  try simp at Bh
  refine zs [(0,.ref 0 [] false (.ptr [.list (x4.1.map (D.int .u8)),i64 x4.2.1,.int .u64 x4.2.2.1])),(4,.val (i64 (x4.2.2.2.tmod a1)))] ?_ ?_
  ·simp [Ci,Bh]
  cases h
  refine VW.ret ?_
  simp [PostW,resW,PostWC,resWC,Nx,Bk]
 refine VW.cond rfl (fun B => ?_) (fun B => ?_)
 rotate_left
 ·
  replace B : ¬ (a0_1 < (a0_0.length : Int)) := by simpa [ieq,ilt,ile] using B
  rw [if_neg B] at Bg
  refine VW.skip ?_
  cases Bg
  exact Fits.of rfl
 replace B : a0_1 < (a0_0.length : Int) := by simpa [ieq,ilt,ile] using B
 rw [if_pos B] at Bg
 obtain ⟨v7,Ax,Bg⟩ := bind_some Bg
 obtain ⟨Ah,Ai,Aj,Ak⟩ := idx_some Ax
 refine VW.wds tau_ok Sound.none try_mixed _ [(0,.ref 0 [] false (.ptr [.list (a0_0.map (D.int .u8)),i64 a0_1,.int .u64 (IntKind.u64.wrap ((IntKind.u64.wrap (a0_2 * 6364136223846793005)) + 1442695040888963407))])),(1,.val (i64 a1)),(5,.val (i64 (w64 ((w64 (band .u64 (shr .u64 (IntKind.u64.wrap ((IntKind.u64.wrap (a0_2 * 6364136223846793005)) + 1442695040888963407)) 33) 16777215)) + (w64 (v7))))))] 14 rfl (by kernel_rfl) (by rfl) ?_ ?_
 ·simp [Ah,Ai,Aj,Ak]
 refine zr [(0,.ref 0 [] false (.ptr [.list (a0_0.map (D.int .u8)),i64 (w64 (a0_1 + 1)),.int .u64 (IntKind.u64.wrap ((IntKind.u64.wrap (a0_2 * 6364136223846793005)) + 1442695040888963407))])),(1,.val (i64 a1)),(5,.val (i64 (w64 ((w64 (band .u64 (shr .u64 (IntKind.u64.wrap ((IntKind.u64.wrap (a0_2 * 6364136223846793005)) + 1442695040888963407)) 33) 16777215)) + (w64 (v7))))))] ?_ ?_
 ·simp
 cases Bg
 exact Fits.of rfl

theorem s_l01Pick_ok {a0_0 : List Int} {a0_1 : Int} {a0_2 : Int} {a1 : List Int} {r : Int × ((List Int) × Int × Int)} (h : s_l01Pick a0_0 a0_1 a0_2 a1 = some r) :
  VPtr Try.prog 33 [.list (a0_0.map (D.int .u8)),i64 a0_1,.int .u64 a0_2] [dI a1] [.sc (i64 r.1)] [.list (r.2.1.map (D.int .u8)),i64 r.2.2.1,.int .u64 r.2.2.2] := by
 unfold s_l01Pick at h
 refine VPtr.enter Try.call33 Try.func33 rfl 12 Try.ntmps33 (by simp) [.tmp 4] rfl ?_
 show VW _ _ _ (mk [(0,.ref 0 [] false (.ptr [.list (a0_0.map (D.int .u8)),i64 a0_1,.int .u64 a0_2])),(1,.val (dI a1))]) _
 refine zs [(0,.ref 0 [] false (.ptr [.list (a0_0.map (D.int .u8)),i64 a0_1,.int .u64 a0_2])),(1,.val (dI a1))] ?_ ?_
 ·simp
 obtain ⟨v1,N,h⟩ := bind_some h
 obtain ⟨v2,Aw,h⟩ := bind_some h
 obtain ⟨Ca,Bi,Bj,Bl⟩ := idx_some Aw
 refine VW.ws tau_ok (Sound.none.ptrc 9 (s_l01Next_ok N)) _ [(0,.ref 0 [] false (.ptr [.list (v1.2.1.map (D.int .u8)),i64 v1.2.2.1,.int .u64 v1.2.2.2])),(4,.val (i64 v2))] rfl ?_ ?_
 ·simp [Ca,Bi,Bj,Bl]
 cases h
 refine VW.ret ?_
 simp [PostW,resW,PostWC,resWC,Nx,Bk]

theorem s_l01DrawPrime_ok {a0_0 : List Int} {a0_1 : Int} {a0_2 : Int} {r : Int × ((List Int) × Int × Int)} (h : s_l01DrawPrime a0_0 a0_1 a0_2 = some r) :
  VPtr Try.prog 32 [.list (a0_0.map (D.int .u8)),i64 a0_1,.int .u64 a0_2] [] [.sc (i64 r.1)] [.list (r.2.1.map (D.int .u8)),i64 r.2.2.1,.int .u64 r.2.2.2] := by
 unfold s_l01DrawPrime at h
 refine VPtr.enter Try.call32 Try.func32 rfl 6 Try.ntmps32 (by simp) [.tmp 2] rfl ?_
 show VW _ _ _ (mk [(0,.ref 0 [] false (.ptr [.list (a0_0.map (D.int .u8)),i64 a0_1,.int .u64 a0_2]))]) _
 refine zs [(0,.ref 0 [] false (.ptr [.list (a0_0.map (D.int .u8)),i64 a0_1,.int .u64 a0_2]))] ?_ ?_
 ·simp
 obtain ⟨v1,N,h⟩ := bind_some h
 refine VW.ws tau_ok (Sound.none.ptrc 5 (s_l01Pick_ok N)) _ [(0,.ref 0 [] false (.ptr [.list (v1.2.1.map (D.int .u8)),i64 v1.2.2.1,.int .u64 v1.2.2.2])),(2,.val (i64 v1.1))] rfl ?_ ?_
 ·simp
 cases h
 refine VW.ret ?_
 simp [PostW,resW,PostWC,resWC,Nx,Bk]

theorem s_l03Any_ok {a0_0 : List Int} {a0_1 : Int} {a0_2 : Int} {a1 : Int} {r : (Int × (List Int)) × ((List Int) × Int × Int)} (h : s_l03Any a0_0 a0_1 a0_2 a1 = some r) :
  VPtr Try.prog 16 [.list (a0_0.map (D.int .u8)),i64 a0_1,.int .u64 a0_2] [i64 a1] [.own true (.agg [i64 r.1.1,dI r.1.2])] [.list (r.2.1.map (D.int .u8)),i64 r.2.2.1,.int .u64 r.2.2.2] := by
 unfold s_l03Any at h
 refine VPtr.enterC Try.call16 Try.func16 rfl 41 Try.ntmps16 (by simp) (tau_ok 26) 4 rfl ?_
 show VW _ _ _ (mk [(0,.ref 0 [] false (.ptr [.list (a0_0.map (D.int .u8)),i64 a0_1,.int .u64 a0_2])),(1,.val (i64 a1))]) _
 refine zs [(0,.ref 0 [] false (.ptr [.list (a0_0.map (D.int .u8)),i64 a0_1,.int .u64 a0_2])),(1,.val (i64 a1)),(4,.ref 4 [] true (.ptr [i64 0,dI []]))] ?_ ?_
 ·simp
 obtain ⟨v1,N,h⟩ := bind_some h
 refine VW.ws tau_ok (Sound.none.ptrc 10 (s_l01DrawPrime_ok N)) _ [(0,.ref 0 [] false (.ptr [.list (v1.2.1.map (D.int .u8)),i64 v1.2.2.1,.int .u64 v1.2.2.2])),(1,.val (i64 a1)),(4,.ref 4 [] true (.ptr [i64 0,dI []])),(5,.val (i64 v1.1))] rfl ?_ ?_
 ·simp
 refine zs [(0,.ref 0 [] false (.ptr [.list (v1.2.1.map (D.int .u8)),i64 v1.2.2.1,.int .u64 v1.2.2.2])),(1,.val (i64 a1)),(4,.ref 4 [] true (.ptr [i64 0,dI []])),(5,.val (i64 v1.1)),(6,.ref 6 [] true (.ptr [i64 v1.1,dI []]))] ?_ ?_
 ·simp
 refine VW.sqc fun K2 hK2 hCK2 => ?_
 obtain ⟨v3,Bd,h⟩ := bind_some h
 refine VW.ws tau_ok (Sound.none.ptrc 15 (s_l01Next_ok Bd)) _ [(0,.ref 0 [] false (.ptr [.list (v3.2.1.map (D.int .u8)),i64 v3.2.2.1,.int .u64 v3.2.2.2])),(4,.ref 4 [] true (.ptr [i64 0,dI []])),(5,.val (i64 v1.1)),(6,.ref 6 [] true (.ptr [i64 v1.1,dI []])),(7,.val (i64 (w64 (1 + v3.1))))] rfl ?_ ?_
 ·simp
 obtain ⟨x4,Bg,h⟩ := bind_some h
 refine VW.tlE [(0,.ref 0 [] false (.ptr [.list (x4.1.map (D.int .u8)),i64 x4.2.1,.int .u64 x4.2.2.1])),(4,.ref 4 [] true (.ptr [i64 0,dI []])),(6,.ref 6 [] true (.ptr [i64 x4.2.2.2.1,dI x4.2.2.2.2]))] (hCK2) ?_ ?_
 ·clear Bg
  refine hK2 _ ?_
  refine zs [(0,.ref 0 [] false (.ptr [.list (x4.1.map (D.int .u8)),i64 x4.2.1,.int .u64 x4.2.2.1])),(4,.ref 4 [] true (.ptr [i64 x4.2.2.2.1,dI x4.2.2.2.2]))] ?_ ?_
  ·simp
  cases h
  refine VW.ret ?_
  simp [PostW,resW,PostWC,resWC,Nx,Bk]
 refine VW.block ?_
 refine VW.loopF (s_l03Any_L0 v1) (fun s4 => [(0,.ref 0 [] false (.ptr [.list (s4.1.map (D.int .u8)),i64 s4.2.1,.int .u64 s4.2.2.1])),(4,.ref 4 [] true (.ptr [i64 0,dI []])),(5,.val (i64 v1.1)),(6,.ref 6 [] true (.ptr [i64 s4.2.2.2.1,dI s4.2.2.2.2.1])),(7,.val (i64 s4.2.2.2.2.2))]) Bg (Fits.of rfl) ?_
 clear Bg
 intro s4 ox4 U Dc
 unfold s_l03Any_L0 at U
 refine VW.sqc fun K6 hK6 hCK6 => ?_
 refine zs [(0,.ref 0 [] false (.ptr [.list (s4.1.map (D.int .u8)),i64 s4.2.1,.int .u64 s4.2.2.1])),(4,.ref 4 [] true (.ptr [i64 0,dI []])),(5,.val (i64 v1.1)),(6,.ref 6 [] true (.ptr [i64 s4.2.2.2.1,dI s4.2.2.2.2.1])),(7,.val (i64 s4.2.2.2.2.2)),(18,.val (.bool (ilt 0 s4.2.2.2.2.2)))] ?_ ?_
 ·simp
 refine VW.cond rfl (fun S => ?_) (fun S => ?_)
 rotate_left
 ·
  replace S : ¬ (0 < s4.2.2.2.2.2) := by simpa [ieq,ilt,ile] using S
  rw [if_neg S] at U
  refine VW.exit ?_
  cases U
  have hq := Dc _ rfl
  subst hq
  exact Fits.of rfl
 replace S : 0 < s4.2.2.2.2.2 := by simpa [ieq,ilt,ile] using S
 rw [if_pos S] at U
 refine VW.skip ?_
 refine hK6 _ ?_
 refine VW.sqc fun K8 hK8 hCK8 => ?_
 refine VW.block ?_
 obtain ⟨v9,Ap,U⟩ := bind_some U
 obtain ⟨v10,Bm,U⟩ := bind_some U
 refine VW.ws tau_ok ((Sound.none.ptrc 27 (s_l01Next_ok Ap)).ptrc 30 (s_l01Pick_ok Bm)) _ [(0,.ref 0 [] false (.ptr [.list (v10.2.1.map (D.int .u8)),i64 v10.2.2.1,.int .u64 v10.2.2.2])),(4,.ref 4 [] true (.ptr [i64 0,dI []])),(5,.val (i64 v1.1)),(6,.ref 6 [] true (.ptr [i64 s4.2.2.2.1,dI s4.2.2.2.2.1])),(7,.val (i64 s4.2.2.2.2.2)),(8,.val (i64 v10.1))] rfl ?_ ?_
 ·simp
 refine VW.sqc fun K11 hK11 hCK11 => ?_
 obtain ⟨v12,Bn,U⟩ := bind_some U
 refine VW.ws tau_ok (Sound.none.ptrc 32 (s_l01Next_ok Bn)) _ [(0,.ref 0 [] false (.ptr [.list (v12.2.1.map (D.int .u8)),i64 v12.2.2.1,.int .u64 v12.2.2.2])),(4,.ref 4 [] true (.ptr [i64 0,dI []])),(5,.val (i64 v1.1)),(6,.ref 6 [] true (.ptr [i64 s4.2.2.2.1,dI s4.2.2.2.2.1])),(7,.val (i64 s4.2.2.2.2.2)),(8,.val (i64 v10.1)),(33,.val (.bool (ieq v12.1 0)))] rfl ?_ ?_
 ·simp
 obtain ⟨x13,Bo,U⟩ := bind_some U
 refine VW.tlE [(0,.ref 0 [] false (.ptr [.list (v12.2.1.map (D.int .u8)),i64 v12.2.2.1,.int .u64 v12.2.2.2])),(4,.ref 4 [] true (.ptr [i64 0,dI []])),(5,.val (i64 v1.1)),(6,.ref 6 [] true (.ptr [i64 s4.2.2.2.1,dI s4.2.2.2.2.1])),(7,.val (i64 s4.2.2.2.2.2)),(8,.val (i64 x13))] (hCK11) ?_ ?_
 ·clear Bo
  refine hK11 _ ?_
  obtain ⟨Bp,U⟩ := chk_some U
  have Aq := Bp
  try simp at Aq
  refine zr [(0,.ref 0 [] false (.ptr [.list (v12.2.1.map (D.int .u8)),i64 v12.2.2.1,.int .u64 v12.2.2.2])),(4,.ref 4 [] true (.ptr [i64 0,dI []])),(5,.val (i64 v1.1)),(6,.ref 6 [] true (.ptr [i64 s4.2.2.2.1,dI (s4.2.2.2.2.1 ++ [x13])])),(7,.val (i64 s4.2.2.2.2.2))] ?_ ?_
  ·simp [Bp,Aq]
  refine hK8 _ ?_
  refine zr [(0,.ref 0 [] false (.ptr [.list (v12.2.1.map (D.int .u8)),i64 v12.2.2.1,.int .u64 v12.2.2.2])),(4,.ref 4 [] true (.ptr [i64 0,dI []])),(5,.val (i64 v1.1)),(6,.ref 6 [] true (.ptr [i64 s4.2.2.2.1,dI (s4.2.2.2.2.1 ++ [x13])])),(7,.val (i64 (w64 (s4.2.2.2.2.2 - 1))))] ?_ ?_
  ·simp
  cases U
  exact ⟨_,rfl,Fits.of rfl⟩
 refine VW.cond rfl (fun Ay => ?_) (fun Ay => ?_)
 rotate_left
 ·
  replace Ay : ¬ (v12.1 = 0) := by simpa [ieq,ilt,ile] using Ay
  rw [if_neg Ay] at Bo
  refine VW.skip ?_
  cases Bo
  exact Fits.of rfl
 replace Ay : v12.1 = 0 := by simpa [ieq,ilt,ile] using Ay
 rw [if_pos Ay] at Bo
 refine zr [(0,.ref 0 [] false (.ptr [.list (v12.2.1.map (D.int .u8)),i64 v12.2.2.1,.int .u64 v12.2.2.2])),(4,.ref 4 [] true (.ptr [i64 0,dI []])),(5,.val (i64 v1.1)),(6,.ref 6 [] true (.ptr [i64 s4.2.2.2.1,dI s4.2.2.2.2.1])),(7,.val (i64 s4.2.2.2.2.2)),(8,.val (i64 0))] ?_ ?_
 ·simp
 cases Bo
 exact Fits.of rfl

theorem s_DrawAllOrthogonal_ok {a0 : List Int} {r : Int × (List Int)} (h : s_DrawAllOrthogonal a0 = some r) :
  VCall Try.prog 5 [.list (a0.map (D.int .u8))] [.own true (.agg [i64 r.1,dI r.2])] := by
 unfold s_DrawAllOrthogonal at h
 refine VCall.enterC Try.call5 Try.func5 rfl 33 Try.ntmps5 (by simp) (tau_ok 26) 2 rfl ?_
 show VW _ _ _ (mk [(0,.val (.list (a0.map (D.int .u8))))]) _
 refine zs [(0,.val (.list (a0.map (D.int .u8)))),(2,.ref 2 [] true (.ptr [i64 0,dI []]))] ?_ ?_
 ·simp
 obtain ⟨v1,N,h⟩ := bind_some h
 refine VW.ws tau_ok (Sound.none.add 7 (s_l01From_ok N) rfl) _ [(2,.ref 2 [] true (.ptr [i64 0,dI []])),(3,.ref 3 [] false (.ptr [.list (v1.1.map (D.int .u8)),i64 v1.2.1,.int .u64 v1.2.2]))] rfl ?_ ?_
 ·simp
 obtain ⟨v2,Aw,h⟩ := bind_some h
 refine VW.ws tau_ok (Sound.none.ptrc 9 (s_l03Any_ok Aw)) _ [(2,.ref 2 [] true (.ptr [i64 0,dI []])),(3,.ref 3 [] false (.ptr [.list (v2.2.1.map (D.int .u8)),i64 v2.2.2.1,.int .u64 v2.2.2.2])),(4,.ref 4 [] true (.ptr [i64 v2.1.1,dI v2.1.2]))] rfl ?_ ?_
 ·simp
 refine VW.sqc fun K3 hK3 hCK3 => ?_
 obtain ⟨v4,B2,h⟩ := bind_some h
 refine VW.ws tau_ok (Sound.none.ptrc 11 (s_l01Next_ok B2)) _ [(2,.ref 2 [] true (.ptr [i64 0,dI []])),(4,.ref 4 [] true (.ptr [i64 v2.1.1,dI v2.1.2])),(12,.val (.bool (ilt 0 v4.1)))] rfl ?_ ?_
 ·simp
 obtain ⟨x5,Af,h⟩ := bind_some h
 refine VW.tlE [(2,.ref 2 [] true (.ptr [i64 0,dI []])),(4,.ref 4 [] true (.ptr [i64 x5.1,dI x5.2]))] (hCK3) ?_ ?_
 ·clear Af
  refine hK3 _ ?_
  refine zs [(2,.ref 2 [] true (.ptr [i64 x5.1,dI x5.2]))] ?_ ?_
  ·simp
  cases h
  refine VW.ret ?_
  simp [Post,PostM,PostC,PostC2,Nx,Bk]
 refine VW.cond rfl (fun S => ?_) (fun S => ?_)
 rotate_left
 ·
  replace S : ¬ (0 < v4.1) := by simpa [ieq,ilt,ile] using S
  rw [if_neg S] at Af
  refine VW.skip ?_
  cases Af
  exact Fits.of rfl
 replace S : 0 < v4.1 := by simpa [ieq,ilt,ile] using S
 rw [if_pos S] at Af
 refine zs [(2,.ref 2 [] true (.ptr [i64 0,dI []])),(4,.ref 4 [] true (.ptr [i64 3,dI v2.1.2]))] ?_ ?_
 ·simp
 refine zs [(2,.ref 2 [] true (.ptr [i64 0,dI []])),(4,.ref 4 [] true (.ptr [i64 3,dI v2.1.2])),(5,.val (i64 0))] ?_ ?_
 ·simp
 obtain ⟨x8,Ag,Af⟩ := bind_some Af
 refine VW.tlE [(2,.ref 2 [] true (.ptr [i64 0,dI []])),(4,.ref 4 [] true (.ptr [i64 x8.1,dI x8.2]))] (Cl.fits _) ?_ ?_
 ·clear Ag
  cases Af
  exact Fits.of rfl
 refine VW.block ?_
 refine VW.loopF s_DrawAllOrthogonal_L0 (fun s8 => [(2,.ref 2 [] true (.ptr [i64 0,dI []])),(4,.ref 4 [] true (.ptr [i64 s8.1,dI s8.2.1])),(5,.val (i64 s8.2.2))]) Ag (Fits.of rfl) ?_
 clear Ag
 intro s8 ox8 Az Dd
 unfold s_DrawAllOrthogonal_L0 at Az
 refine VW.sqc fun K10 hK10 hCK10 => ?_
 refine zs [(2,.ref 2 [] true (.ptr [i64 0,dI []])),(4,.ref 4 [] true (.ptr [i64 s8.1,dI s8.2.1])),(5,.val (i64 s8.2.2)),(18,.val (.bool (ilt s8.2.2 (s8.2.1.length : Int))))] ?_ ?_
 ·simp
 refine VW.cond rfl (fun A0 => ?_) (fun A0 => ?_)
 rotate_left
 ·
  replace A0 : ¬ (s8.2.2 < (s8.2.1.length : Int)) := by simpa [ieq,ilt,ile] using A0
  rw [if_neg A0] at Az
  refine VW.exit ?_
  cases Az
  have hq := Dd _ rfl
  subst hq
  exact Fits.of rfl
 replace A0 : s8.2.2 < (s8.2.1.length : Int) := by simpa [ieq,ilt,ile] using A0
 rw [if_pos A0] at Az
 refine VW.skip ?_
 refine hK10 _ ?_
 refine VW.sqc fun K12 hK12 hCK12 => ?_
 refine VW.block ?_
 obtain ⟨v13,A1,Az⟩ := bind_some Az
 obtain ⟨Cj,Ck,Cm,Cn⟩ := idx_some A1
 refine VW.wdr tau_ok Sound.none try_mixed _ [(2,.ref 2 [] true (.ptr [i64 0,dI []])),(4,.ref 4 [] true (.ptr [i64 s8.1,dI (s8.2.1.set s8.2.2.toNat (w64 (1 + (v13.tmod 2))))])),(5,.val (i64 s8.2.2))] 11 rfl (by kernel_rfl) (by rfl) ?_ ?_
 ·simp [Cj,Ck,Cm,Cn]
 refine hK12 _ ?_
 refine zr [(2,.ref 2 [] true (.ptr [i64 0,dI []])),(4,.ref 4 [] true (.ptr [i64 s8.1,dI (s8.2.1.set s8.2.2.toNat (w64 (1 + (v13.tmod 2))))])),(5,.val (i64 (w64 (s8.2.2 + 1))))] ?_ ?_
 ·simp
 cases Az
 exact ⟨_,rfl,Fits.of rfl⟩

theorem i_IsPrime_ok {a0 : Int} {r : Bool} (h : i_IsPrime a0 = some r) :
  VCall Try.prog 54 [i64 a0] [.sc (.bool r)] := by
 unfold i_IsPrime at h
 refine VCall.enter Try.call54 Try.func54 rfl 10 Try.ntmps54 (by simp) [.tmp 2] rfl ?_
 show VW _ _ _ (mk [(0,.val (i64 a0))]) _
 refine zs [(0,.val (i64 a0))] ?_ ?_
 ·simp
 refine VW.sqc fun K1 hK1 hCK1 => ?_
 refine zs [(3,.val (i64 a0))] ?_ ?_
 ·simp
 refine VW.block ?_
 refine VW.sqc fun K2 hK2 hCK2 => ?_
 refine zs [(3,.val (i64 a0)),(4,.val (.bool (ieq a0 3)))] ?_ ?_
 ·simp
 obtain ⟨x3,Ae,h⟩ := bind_some h
 refine VW.tlE [(4,.val (.bool x3))] (hCK2) ?_ ?_
 ·clear Ae
  refine hK2 _ ?_
  refine VW.cond rfl (fun V => ?_) (fun V => ?_)
  ·
   replace V : x3 = true := by simpa [ieq,ilt,ile] using V
   rw [if_pos V] at h
   refine zs [(2,.val (.bool true))] ?_ ?_
   ·simp
   cases h
   refine VW.ret ?_
   simp [Post,PostM,PostC,PostC2,Nx,Bk]
  replace V : ¬ (x3 = true) := by simpa [ieq,ilt,ile] using V
  rw [if_neg V] at h
  refine VW.skip ?_
  refine hK1 _ ?_
  refine zs [(2,.val (.bool false))] ?_ ?_
  ·simp
  cases h
  refine VW.ret ?_
  simp [Post,PostM,PostC,PostC2,Nx,Bk]
 refine VW.cond rfl (fun C => ?_) (fun C => ?_)
 ·
  replace C : a0 = 3 := by simpa [ieq,ilt,ile] using C
  rw [if_pos C] at Ae
  refine VW.skip ?_
  cases Ae
  exact Fits.of rfl
 replace C : ¬ (a0 = 3) := by simpa [ieq,ilt,ile] using C
 rw [if_neg C] at Ae
 refine zs [(3,.val (i64 a0)),(4,.val (.bool (ieq a0 5)))] ?_ ?_
 ·simp
 refine VW.cond rfl (fun B => ?_) (fun B => ?_)
 ·
  replace B : a0 = 5 := by simpa [ieq,ilt,ile] using B
  rw [if_pos B] at Ae
  refine VW.skip ?_
  cases Ae
  exact Fits.of rfl
 replace B : ¬ (a0 = 5) := by simpa [ieq,ilt,ile] using B
 rw [if_neg B] at Ae
 refine zs [(3,.val (i64 a0)),(4,.val (.bool (ieq a0 7)))] ?_ ?_
 ·simp
 refine VW.cond rfl (fun S => ?_) (fun S => ?_)
 ·
  replace S : a0 = 7 := by simpa [ieq,ilt,ile] using S
  rw [if_pos S] at Ae
  refine VW.skip ?_
  cases Ae
  exact Fits.of rfl
 replace S : ¬ (a0 = 7) := by simpa [ieq,ilt,ile] using S
 rw [if_neg S] at Ae
 refine zs [(3,.val (i64 a0)),(4,.val (.bool (ieq a0 11)))] ?_ ?_
 ·simp
 refine VW.cond rfl (fun A2 => ?_) (fun A2 => ?_)
 ·
  replace A2 : a0 = 11 := by simpa [ieq,ilt,ile] using A2
  rw [if_pos A2] at Ae
  refine VW.skip ?_
  cases Ae
  exact Fits.of rfl
 replace A2 : ¬ (a0 = 11) := by simpa [ieq,ilt,ile] using A2
 rw [if_neg A2] at Ae
 refine zr [(4,.val (.bool (ieq a0 13)))] ?_ ?_
 ·simp
 cases Ae
 exact Fits.of rfl

theorem i_length_I_ok {a0 : List Int} {r : Int} (h : i_length_I a0 = some r) :
  VCall Try.prog 56 [dI a0] [.sc (i64 r)] := by
 unfold i_length_I at h
 refine VCall.enter Try.call56 Try.func56 rfl 5 Try.ntmps56 (by simp) [.tmp 2] rfl ?_
 show VW _ _ _ (mk [(0,.val (dI a0))]) _
 refine zs [(0,.val (dI a0))] ?_ ?_
 ·simp
 refine zs [(2,.val (i64 (a0.length : Int)))] ?_ ?_
 ·simp
 cases h
 refine VW.ret ?_
 simp [Post,PostM,PostC,PostC2,Nx,Bk]

theorem i_inRange_ok {a0 : Int} {a1 : Int} {a2 : Int} {r : Bool} (h : i_inRange a0 a1 a2 = some r) :
  VCall Try.prog 55 [i64 a0,i64 a1,i64 a2] [.sc (.bool r)] := by
 unfold i_inRange at h
 refine VCall.enter Try.call55 Try.func55 rfl 15 Try.ntmps55 (by simp) [.tmp 6] rfl ?_
 show VW _ _ _ (mk [(0,.val (i64 a0)),(1,.val (i64 a1)),(2,.val (i64 a2))]) _
 refine zs [(0,.val (i64 a0)),(1,.val (i64 a1)),(2,.val (i64 a2))] ?_ ?_
 ·simp
 obtain ⟨x2,F,h⟩ := bind_some h
 refine VW.cut [(6,.val (.bool x2))] ?_ fun hy => ?_
 rotate_left
 ·clear h
  by_cases A9 : a1 ≤ a0
  ·rw [if_pos A9] at F
   have L : ile a1 a0 = true := by simpa [ieq,ilt,ile] using A9
   have M := L
   try simp at M
   cases F
   refine VW.ws tau_ok Sound.none _ _ rfl ?_ hy
   simp [L,M]
  ·rw [if_neg A9] at F
   have L : ile a1 a0 = false := by simpa [ieq,ilt,ile] using A9
   have M := L
   try simp at M
   cases F
   refine VW.ws tau_ok Sound.none _ _ rfl ?_ hy
   simp [L,M]
 cases h
 refine VW.ret ?_
 simp [Post,PostM,PostC,PostC2,Nx,Bk]

theorem i_Space_field_ok {a0_0 : Int} {a0_1 : List Int} {r : Int} (h : i_Space_field a0_0 a0_1 = some r) :
  VCall Try.prog 28 [.agg [i64 a0_0,dI a0_1]] [.sc (i64 r)] := by
 unfold i_Space_field at h
 refine VCall.enter Try.call28 Try.func28 rfl 5 Try.ntmps28 (by simp) [.tmp 2] rfl ?_
 show VW _ _ _ (mk [(0,.val (.agg [i64 a0_0,dI a0_1]))]) _
 refine zs [(1,.val (.ptr [i64 a0_0,dI a0_1]))] ?_ ?_
 ·simp
 refine zs [(2,.val (i64 a0_0))] ?_ ?_
 ·simp
 cases h
 refine VW.ret ?_
 simp [Post,PostM,PostC,PostC2,Nx,Bk]

theorem i_field_is_ok {a0 : Int} {a1 : List Int} {r : Bool} (h : i_field_is a0 a1 = some r) :
  VCall Try.prog 57 [i64 a0,dI a1] [.sc (.bool r)] := by
 unfold i_field_is at h
 refine VCall.enter Try.call57 Try.func57 rfl 19 Try.ntmps57 (by simp) [.tmp 4] rfl ?_
 show VW _ _ _ (mk [(0,.val (i64 a0)),(1,.val (dI a1))]) _
 refine zs [(0,.val (i64 a0)),(1,.val (dI a1))] ?_ ?_
 ·simp
 refine VW.sqc fun K1 hK1 hCK1 => ?_
 refine zs [(0,.val (i64 a0)),(7,.val (dI a1)),(8,.val (i64 (a1.length : Int))),(9,.val (i64 0))] ?_ ?_
 ·simp
 obtain ⟨x2,F,h⟩ := bind_some h
 refine VW.tlO (fun y4 => []) x2 (hCK1) ?_ ?_
 ·clear F
  rintro y4 rfl
  dsimp only at h
  refine hK1 _ ?_
  refine zs [(4,.val (.bool true))] ?_ ?_
  ·simp
  cases h
  refine VW.ret ?_
  simp [Post,PostM,PostC,PostC2,Nx,Bk]
 refine VW.block ?_
 refine VW.loopF (i_field_is_L0 a0 a1) (fun s2 => [(0,.val (i64 a0)),(7,.val (dI a1)),(8,.val (i64 (a1.length : Int))),(9,.val (i64 s2))]) F (Fits.of rfl) ?_
 clear F
 intro s2 ox2 A G
 unfold i_field_is_L0 at A
 refine zs [(0,.val (i64 a0)),(7,.val (dI a1)),(8,.val (i64 (a1.length : Int))),(9,.val (i64 s2)),(10,.val (.bool (ilt s2 (a1.length : Int))))] ?_ ?_
 ·simp
 refine VW.sqc fun K5 hK5 hCK5 => ?_
 refine VW.cond rfl (fun B => ?_) (fun B => ?_)
 rotate_left
 ·
  replace B : ¬ (s2 < (a1.length : Int)) := by simpa [ieq,ilt,ile] using B
  rw [if_neg B] at A
  refine VW.exit ?_
  cases A
  have hq := G _ rfl
  subst hq
  exact ⟨_,rfl,Fits.of rfl⟩
 replace B : s2 < (a1.length : Int) := by simpa [ieq,ilt,ile] using B
 rw [if_pos B] at A
 refine VW.skip ?_
 refine hK5 _ ?_
 refine VW.sqc fun K7 hK7 hCK7 => ?_
 refine VW.block ?_
 obtain ⟨v8,A3,A⟩ := bind_some A
 obtain ⟨Al,Am,An,Ao⟩ := idx_some A3
 refine zs [(0,.val (i64 a0)),(6,.val (i64 v8)),(7,.val (dI a1)),(8,.val (i64 (a1.length : Int))),(9,.val (i64 s2))] ?_ ?_
 ·simp [Al,Am,An,Ao]
 obtain ⟨v9,Ap,A⟩ := bind_some A
 refine VW.ws tau_ok (Sound.none.add 16 (i_inRange_ok Ap) rfl) _ [(0,.val (i64 a0)),(7,.val (dI a1)),(8,.val (i64 (a1.length : Int))),(9,.val (i64 s2)),(17,.val (.bool (!v9)))] rfl ?_ ?_
 ·simp
 refine VW.cond rfl (fun E => ?_) (fun E => ?_)
 rotate_left
 ·
  replace E : ¬ (v9 = false) := by simpa [ieq,ilt,ile] using E
  rw [if_neg E] at A
  refine VW.skip ?_
  refine hK7 _ ?_
  refine zr [(0,.val (i64 a0)),(7,.val (dI a1)),(8,.val (i64 (a1.length : Int))),(9,.val (i64 (w64 (s2 + 1))))] ?_ ?_
  ·simp
  cases A
  exact ⟨_,rfl,Fits.of rfl⟩
 replace E : v9 = false := by simpa [ieq,ilt,ile] using E
 rw [if_pos E] at A
 refine zs [(4,.val (.bool false))] ?_ ?_
 ·simp
 cases A
 have hq := G _ rfl
 subst hq
 dsimp only at h
 cases h
 refine VW.ret ?_
 simp [Post,PostM,PostC,PostC2,Nx,Bk]

theorem i_IsSpace_ok {a0_0 : Int} {a0_1 : List Int} {r : Bool} (h : i_IsSpace a0_0 a0_1 = some r) :
  VCall Try.prog 23 [.agg [i64 a0_0,dI a0_1]] [.sc (.bool r)] := by
 unfold i_IsSpace at h
 refine VCall.enter Try.call23 Try.func23 rfl 19 Try.ntmps23 (by simp) [.tmp 2] rfl ?_
 show VW _ _ _ (mk [(0,.val (.agg [i64 a0_0,dI a0_1]))]) _
 refine zs [(1,.val (.ptr [i64 a0_0,dI a0_1]))] ?_ ?_
 ·simp
 obtain ⟨x8,Ag,h⟩ := bind_some h
 refine VW.cut [(2,.val (.bool x8))] ?_ fun hy => ?_
 rotate_left
 ·clear h
  obtain ⟨v1,N,Ag⟩ := bind_some Ag
  by_cases Ba : v1 = true
  ·rw [if_pos Ba] at Ag
   have I : v1 = true := by simpa [ieq,ilt,ile] using Ba
   have J := I
   try simp at J
   obtain ⟨v3,Bd,Ag⟩ := bind_some Ag
   obtain ⟨v4,B2,Ag⟩ := bind_some Ag
   by_cases Bx : v4 = true
   ·rw [if_pos Bx] at Ag
    have Aa : v4 = true := by simpa [ieq,ilt,ile] using Bx
    have Ab := Aa
    try simp at Ab
    obtain ⟨v6,Cb,Ag⟩ := bind_some Ag
    obtain ⟨v7,Ax,Ag⟩ := bind_some Ag
    cases Ag
    refine VW.wds tau_ok (((((Sound.none.add 5 (i_IsPrime_ok N) rfl).add 9 (i_length_I_ok Bd) rfl).add 10 (i_inRange_ok B2) rfl).add 14 (i_Space_field_ok Cb) rfl).add 17 (i_field_is_ok Ax) rfl) try_mixed _ _ 17 rfl (by kernel_rfl) (by rfl) ?_ hy
    simp [I,J,Aa,Ab]
   ·rw [if_neg Bx] at Ag
    have Aa : v4 = false := by simpa [ieq,ilt,ile] using Bx
    have Ab := Aa
    try simp at Ab
    cases Ag
    refine VW.wds tau_ok (((Sound.none.add 5 (i_IsPrime_ok N) rfl).add 9 (i_length_I_ok Bd) rfl).add 10 (i_inRange_ok B2) rfl) try_mixed _ _ 17 rfl (by kernel_rfl) (by rfl) ?_ hy
    simp [I,J,Aa,Ab]
  ·rw [if_neg Ba] at Ag
   have I : v1 = false := by simpa [ieq,ilt,ile] using Ba
   have J := I
   try simp at J
   cases Ag
   refine VW.wds tau_ok (Sound.none.add 5 (i_IsPrime_ok N) rfl) try_mixed _ _ 17 rfl (by kernel_rfl) (by rfl) ?_ hy
   simp [I,J]
 cases h
 refine VW.ret ?_
 simp [Post,PostM,PostC,PostC2,Nx,Bk]

theorem g_slices_Index_LI_I_ok {a0 : List Int} {a1 : Int} {r : Int} (h : g_slices_Index_LI_I a0 a1 = some r) :
  VCall Try.prog 74 [dI a0,i64 a1] [.sc (i64 r)] := by
 unfold g_slices_Index_LI_I at h
 refine VCall.enter Try.call74 Try.func74 rfl 19 Try.ntmps74 (by simp) [.tmp 4] rfl ?_
 show VW _ _ _ (mk [(0,.val (dI a0)),(1,.val (i64 a1))]) _
 refine zs [(0,.val (dI a0)),(1,.val (i64 a1))] ?_ ?_
 ·simp
 refine VW.sqc fun K1 hK1 hCK1 => ?_
 refine zs [(0,.val (dI a0)),(1,.val (i64 a1)),(7,.val (i64 (a0.length : Int))),(8,.val (i64 0))] ?_ ?_
 ·simp
 obtain ⟨x2,F,h⟩ := bind_some h
 refine VW.tlO (fun y4 => []) x2 (hCK1) ?_ ?_
 ·clear F
  rintro y4 rfl
  dsimp only at h
  refine hK1 _ ?_
  refine zs [(4,.val (i64 (-1)))] ?_ ?_
  ·simp
  cases h
  refine VW.ret ?_
  simp [Post,PostM,PostC,PostC2,Nx,Bk]
 refine VW.block ?_
 refine VW.loopF (g_slices_Index_LI_I_L0 a0 a1) (fun s2 => [(0,.val (dI a0)),(1,.val (i64 a1)),(7,.val (i64 (a0.length : Int))),(8,.val (i64 s2))]) F (Fits.of rfl) ?_
 clear F
 intro s2 ox2 A G
 unfold g_slices_Index_LI_I_L0 at A
 refine zs [(0,.val (dI a0)),(1,.val (i64 a1)),(7,.val (i64 (a0.length : Int))),(8,.val (i64 s2)),(9,.val (.bool (ilt s2 (a0.length : Int))))] ?_ ?_
 ·simp
 refine VW.sqc fun K5 hK5 hCK5 => ?_
 refine VW.cond rfl (fun B => ?_) (fun B => ?_)
 rotate_left
 ·
  replace B : ¬ (s2 < (a0.length : Int)) := by simpa [ieq,ilt,ile] using B
  rw [if_neg B] at A
  refine VW.exit ?_
  cases A
  have hq := G _ rfl
  subst hq
  exact ⟨_,rfl,Fits.of rfl⟩
 replace B : s2 < (a0.length : Int) := by simpa [ieq,ilt,ile] using B
 rw [if_pos B] at A
 refine VW.skip ?_
 refine hK5 _ ?_
 refine VW.sqc fun K7 hK7 hCK7 => ?_
 refine VW.block ?_
 refine zs [(0,.val (dI a0)),(1,.val (i64 a1)),(5,.val (i64 s2)),(7,.val (i64 (a0.length : Int))),(8,.val (i64 s2))] ?_ ?_
 ·simp
 obtain ⟨v8,A3,A⟩ := bind_some A
 obtain ⟨Al,Am,An,Ao⟩ := idx_some A3
 refine zs [(0,.val (dI a0)),(1,.val (i64 a1)),(5,.val (i64 s2)),(7,.val (i64 (a0.length : Int))),(8,.val (i64 s2)),(16,.val (.bool (ieq a1 v8)))] ?_ ?_
 ·simp [Al,Am,An,Ao]
 refine VW.cond rfl (fun V => ?_) (fun V => ?_)
 rotate_left
 ·
  replace V : ¬ (a1 = v8) := by simpa [ieq,ilt,ile] using V
  rw [if_neg V] at A
  refine VW.skip ?_
  refine hK7 _ ?_
  refine zr [(0,.val (dI a0)),(1,.val (i64 a1)),(7,.val (i64 (a0.length : Int))),(8,.val (i64 (w64 (s2 + 1))))] ?_ ?_
  ·simp
  cases A
  exact ⟨_,rfl,Fits.of rfl⟩
 replace V : a1 = v8 := by simpa [ieq,ilt,ile] using V
 rw [if_pos V] at A
 refine zs [(4,.val (i64 s2))] ?_ ?_
 ·simp
 cases A
 have hq := G _ rfl
 subst hq
 dsimp only at h
 cases h
 refine VW.ret ?_
 simp [Post,PostM,PostC,PostC2,Nx,Bk]

theorem g_slices_Contains_LI_I_ok {a0 : List Int} {a1 : Int} {r : Bool} (h : g_slices_Contains_LI_I a0 a1 = some r) :
  VCall Try.prog 58 [dI a0,i64 a1] [.sc (.bool r)] := by
 unfold g_slices_Contains_LI_I at h
 refine VCall.enter Try.call58 Try.func58 rfl 9 Try.ntmps58 (by simp) [.tmp 4] rfl ?_
 show VW _ _ _ (mk [(0,.val (dI a0)),(1,.val (i64 a1))]) _
 refine zs [(0,.val (dI a0)),(1,.val (i64 a1))] ?_ ?_
 ·simp
 obtain ⟨v1,N,h⟩ := bind_some h
 refine VW.ws tau_ok (Sound.none.add 7 (g_slices_Index_LI_I_ok N) rfl) _ [(4,.val (.bool (ile 0 v1)))] rfl ?_ ?_
 ·simp
 cases h
 refine VW.ret ?_
 simp [Post,PostM,PostC,PostC2,Nx,Bk]

theorem i_Space_regular_ok {a0_0 : Int} {a0_1 : List Int} {r : Bool} (h : i_Space_regular a0_0 a0_1 = some r) :
  VCall Try.prog 24 [.agg [i64 a0_0,dI a0_1]] [.sc (.bool r)] := by
 unfold i_Space_regular at h
 refine VCall.enter Try.call24 Try.func24 rfl 7 Try.ntmps24 (by simp) [.tmp 2] rfl ?_
 show VW _ _ _ (mk [(0,.val (.agg [i64 a0_0,dI a0_1]))]) _
 refine zs [(1,.val (.ptr [i64 a0_0,dI a0_1]))] ?_ ?_
 ·simp
 obtain ⟨v1,N,h⟩ := bind_some h
 refine VW.ws tau_ok (Sound.none.add 5 (g_slices_Contains_LI_I_ok N) rfl) _ [(2,.val (.bool (!v1)))] rfl ?_ ?_
 ·simp
 cases h
 refine VW.ret ?_
 simp [Post,PostM,PostC,PostC2,Nx,Bk]

theorem i_Space_dim_ok {a0_0 : Int} {a0_1 : List Int} {r : Int} (h : i_Space_dim a0_0 a0_1 = some r) :
  VCall Try.prog 34 [.agg [i64 a0_0,dI a0_1]] [.sc (i64 r)] := by
 unfold i_Space_dim at h
 refine VCall.enter Try.call34 Try.func34 rfl 6 Try.ntmps34 (by simp) [.tmp 2] rfl ?_
 show VW _ _ _ (mk [(0,.val (.agg [i64 a0_0,dI a0_1]))]) _
 refine zs [(1,.val (.ptr [i64 a0_0,dI a0_1]))] ?_ ?_
 ·simp
 refine zs [(2,.val (i64 (a0_1.length : Int)))] ?_ ?_
 ·simp
 cases h
 refine VW.ret ?_
 simp [Post,PostM,PostC,PostC2,Nx,Bk]

theorem i_whole_ok {a0 : Int} {a1 : Int} {r : Int} (h : i_whole a0 a1 = some r) :
  VCall Try.prog 59 [i64 a0,i64 a1] [.sc (i64 r)] := by
 unfold i_whole at h
 refine VCall.enter Try.call59 Try.func59 rfl 14 Try.ntmps59 (by simp) [.tmp 4] rfl ?_
 show VW _ _ _ (mk [(0,.val (i64 a0)),(1,.val (i64 a1))]) _
 refine zs [(0,.val (i64 a0)),(1,.val (i64 a1))] ?_ ?_
 ·simp
 refine zs [(0,.val (i64 a0)),(1,.val (i64 a1)),(5,.val (i64 1))] ?_ ?_
 ·simp
 refine VW.sqc fun K1 hK1 hCK1 => ?_
 refine zs [(0,.val (i64 a0)),(5,.val (i64 1)),(6,.val (i64 a1)),(7,.val (i64 0))] ?_ ?_
 ·simp
 obtain ⟨x2,F,h⟩ := bind_some h
 refine VW.tlE [(5,.val (i64 x2))] (hCK1) ?_ ?_
 ·clear F
  refine hK1 _ ?_
  refine zs [(4,.val (i64 x2))] ?_ ?_
  ·simp
  cases h
  refine VW.ret ?_
  simp [Post,PostM,PostC,PostC2,Nx,Bk]
 refine VW.block ?_
 refine VW.loopF (i_whole_L0 a0 a1) (fun s2 => [(0,.val (i64 a0)),(5,.val (i64 s2.1)),(6,.val (i64 a1)),(7,.val (i64 s2.2))]) F (Fits.of rfl) ?_
 clear F
 intro s2 ox2 A G
 unfold i_whole_L0 at A
 refine zs [(0,.val (i64 a0)),(5,.val (i64 s2.1)),(6,.val (i64 a1)),(7,.val (i64 s2.2)),(8,.val (.bool (ilt s2.2 a1)))] ?_ ?_
 ·simp
 refine VW.sqc fun K4 hK4 hCK4 => ?_
 refine VW.cond rfl (fun C => ?_) (fun C => ?_)
 rotate_left
 ·
  replace C : ¬ (s2.2 < a1) := by simpa [ieq,ilt,ile] using C
  rw [if_neg C] at A
  refine VW.exit ?_
  cases A
  have hq := G _ rfl
  subst hq
  exact Fits.of rfl
 replace C : s2.2 < a1 := by simpa [ieq,ilt,ile] using C
 rw [if_pos C] at A
 refine VW.skip ?_
 refine hK4 _ ?_
 refine VW.sqc fun K6 hK6 hCK6 => ?_
 refine VW.block ?_
 refine zr [(0,.val (i64 a0)),(5,.val (i64 (w64 (s2.1 * a0)))),(6,.val (i64 a1)),(7,.val (i64 s2.2))] ?_ ?_
 ·simp
 refine hK6 _ ?_
 refine zr [(0,.val (i64 a0)),(5,.val (i64 (w64 (s2.1 * a0)))),(6,.val (i64 a1)),(7,.val (i64 (w64 (s2.2 + 1))))] ?_ ?_
 ·simp
 cases A
 exact ⟨_,rfl,Fits.of rfl⟩

theorem i_field_num_ok {a0 : Int} {a1 : Int} {r : Int} (h : i_field_num a0 a1 = some r) :
  VCall Try.prog 63 [i64 a0,i64 a1] [.sc (i64 r)] := by
 unfold i_field_num at h
 refine VCall.enter Try.call63 Try.func63 rfl 14 Try.ntmps63 (by simp) [.tmp 4] rfl ?_
 show VW _ _ _ (mk [(0,.val (i64 a0)),(1,.val (i64 a1))]) _
 refine zs [(0,.val (i64 a0)),(1,.val (i64 a1))] ?_ ?_
 ·simp
 refine zs [(1,.val (i64 a1)),(5,.val (i64 a0))] ?_ ?_
 ·simp
 obtain ⟨Dm,h⟩ := chk_some h
 have Co := Dm
 try simp at Co
 obtain ⟨Cp,h⟩ := chk_some h
 have Bq := Cp
 try simp at Bq
 refine zs [(4,.val (i64 ((w64 ((a1.tmod a0) + a0)).tmod a0)))] ?_ ?_
 ·simp [Dm,Co,Cp,Bq]
 cases h
 refine VW.ret ?_
 simp [Post,PostM,PostC,PostC2,Nx,Bk]

theorem i_Space_discriminant_ok {a0_0 : Int} {a0_1 : List Int} {r : Int} (h : i_Space_discriminant a0_0 a0_1 = some r) :
  VCall Try.prog 76 [.agg [i64 a0_0,dI a0_1]] [.sc (i64 r)] := by
 unfold i_Space_discriminant at h
 refine VCall.enter Try.call76 Try.func76 rfl 21 Try.ntmps76 (by simp) [.tmp 2] rfl ?_
 show VW _ _ _ (mk [(0,.val (.agg [i64 a0_0,dI a0_1]))]) _
 refine zs [(1,.val (.ptr [i64 a0_0,dI a0_1]))] ?_ ?_
 ·simp
 refine zs [(1,.val (.ptr [i64 a0_0,dI a0_1])),(3,.val (i64 1))] ?_ ?_
 ·simp
 refine VW.sqc fun K1 hK1 hCK1 => ?_
 refine zs [(1,.val (.ptr [i64 a0_0,dI a0_1])),(3,.val (i64 1)),(7,.val (dI a0_1)),(8,.val (i64 (a0_1.length : Int))),(9,.val (i64 0))] ?_ ?_
 ·simp
 obtain ⟨x2,F,h⟩ := bind_some h
 refine VW.tlE [(3,.val (i64 x2))] (hCK1) ?_ ?_
 ·clear F
  refine hK1 _ ?_
  refine zs [(2,.val (i64 x2))] ?_ ?_
  ·simp
  cases h
  refine VW.ret ?_
  simp [Post,PostM,PostC,PostC2,Nx,Bk]
 refine VW.block ?_
 refine VW.loopF (i_Space_discriminant_L0 a0_0 a0_1) (fun s2 => [(1,.val (.ptr [i64 a0_0,dI a0_1])),(3,.val (i64 s2.1)),(7,.val (dI a0_1)),(8,.val (i64 (a0_1.length : Int))),(9,.val (i64 s2.2))]) F (Fits.of rfl) ?_
 clear F
 intro s2 ox2 A G
 unfold i_Space_discriminant_L0 at A
 refine zs [(1,.val (.ptr [i64 a0_0,dI a0_1])),(3,.val (i64 s2.1)),(7,.val (dI a0_1)),(8,.val (i64 (a0_1.length : Int))),(9,.val (i64 s2.2)),(10,.val (.bool (ilt s2.2 (a0_1.length : Int))))] ?_ ?_
 ·simp
 refine VW.sqc fun K4 hK4 hCK4 => ?_
 refine VW.cond rfl (fun C => ?_) (fun C => ?_)
 rotate_left
 ·
  replace C : ¬ (s2.2 < (a0_1.length : Int)) := by simpa [ieq,ilt,ile] using C
  rw [if_neg C] at A
  refine VW.exit ?_
  cases A
  have hq := G _ rfl
  subst hq
  exact Fits.of rfl
 replace C : s2.2 < (a0_1.length : Int) := by simpa [ieq,ilt,ile] using C
 rw [if_pos C] at A
 refine VW.skip ?_
 refine hK4 _ ?_
 refine VW.sqc fun K6 hK6 hCK6 => ?_
 refine VW.block ?_
 obtain ⟨v7,Ax,A⟩ := bind_some A
 obtain ⟨Ah,Ai,Aj,Ak⟩ := idx_some Ax
 refine zs [(1,.val (.ptr [i64 a0_0,dI a0_1])),(3,.val (i64 s2.1)),(5,.val (i64 v7)),(7,.val (dI a0_1)),(8,.val (i64 (a0_1.length : Int))),(9,.val (i64 s2.2))] ?_ ?_
 ·simp [Ah,Ai,Aj,Ak]
 obtain ⟨v8,A3,A⟩ := bind_some A
 obtain ⟨v9,Ap,A⟩ := bind_some A
 refine VW.wr tau_ok ((Sound.none.add 14 (i_Space_field_ok A3) rfl).add 18 (i_field_num_ok Ap) rfl) _ [(1,.val (.ptr [i64 a0_0,dI a0_1])),(3,.val (i64 v9)),(7,.val (dI a0_1)),(8,.val (i64 (a0_1.length : Int))),(9,.val (i64 s2.2))] rfl ?_ ?_
 ·simp
 refine hK6 _ ?_
 refine zr [(1,.val (.ptr [i64 a0_0,dI a0_1])),(3,.val (i64 v9)),(7,.val (dI a0_1)),(8,.val (i64 (a0_1.length : Int))),(9,.val (i64 (w64 (s2.2 + 1))))] ?_ ?_
 ·simp
 cases A
 exact ⟨_,rfl,Fits.of rfl⟩

theorem i_field_root_ok {a0 : Int} {a1 : Int} {r : Int × Bool} (h : i_field_root a0 a1 = some r) :
  VCall Try.prog 80 [i64 a0,i64 a1] [.sc (i64 r.1),.sc (.bool r.2)] := by
 unfold i_field_root at h
 refine VCall.enter Try.call80 Try.func80 rfl 20 Try.ntmps80 (by simp) [.tmp 4,.tmp 5] rfl ?_
 show VW _ _ _ (mk [(0,.val (i64 a0)),(1,.val (i64 a1))]) _
 refine zs [(0,.val (i64 a0)),(1,.val (i64 a1))] ?_ ?_
 ·simp
 refine VW.sqc fun K1 hK1 hCK1 => ?_
 refine zs [(0,.val (i64 a0)),(1,.val (i64 a1)),(7,.val (i64 a0)),(8,.val (i64 0))] ?_ ?_
 ·simp
 obtain ⟨x2,F,h⟩ := bind_some h
 refine VW.tlO (fun y4 => []) x2 (hCK1) ?_ ?_
 ·clear F
  rintro y4 rfl
  dsimp only at h
  refine hK1 _ ?_
  refine zs [(4,.val (i64 0)),(5,.val (.bool false))] ?_ ?_
  ·simp
  cases h
  refine VW.ret ?_
  simp [Post,PostM,PostC,PostC2,Nx,Bk]
 refine VW.block ?_
 refine VW.loopF (i_field_root_L0 a0 a1) (fun s2 => [(0,.val (i64 a0)),(1,.val (i64 a1)),(7,.val (i64 a0)),(8,.val (i64 s2))]) F (Fits.of rfl) ?_
 clear F
 intro s2 ox2 A G
 unfold i_field_root_L0 at A
 refine zs [(0,.val (i64 a0)),(1,.val (i64 a1)),(7,.val (i64 a0)),(8,.val (i64 s2)),(9,.val (.bool (ilt s2 a0)))] ?_ ?_
 ·simp
 refine VW.sqc fun K5 hK5 hCK5 => ?_
 refine VW.cond rfl (fun B => ?_) (fun B => ?_)
 rotate_left
 ·
  replace B : ¬ (s2 < a0) := by simpa [ieq,ilt,ile] using B
  rw [if_neg B] at A
  refine VW.exit ?_
  cases A
  have hq := G _ rfl
  subst hq
  exact ⟨_,rfl,Fits.of rfl⟩
 replace B : s2 < a0 := by simpa [ieq,ilt,ile] using B
 rw [if_pos B] at A
 refine VW.skip ?_
 refine hK5 _ ?_
 refine VW.sqc fun K7 hK7 hCK7 => ?_
 refine VW.block ?_
 refine zs [(0,.val (i64 a0)),(1,.val (i64 a1)),(6,.val (i64 s2)),(7,.val (i64 a0)),(8,.val (i64 s2))] ?_ ?_
 ·simp
 obtain ⟨v8,A3,A⟩ := bind_some A
 refine VW.ws tau_ok (Sound.none.add 15 (i_field_num_ok A3) rfl) _ [(0,.val (i64 a0)),(1,.val (i64 a1)),(6,.val (i64 s2)),(7,.val (i64 a0)),(8,.val (i64 s2)),(17,.val (.bool (ieq v8 a1)))] rfl ?_ ?_
 ·simp
 refine VW.cond rfl (fun V => ?_) (fun V => ?_)
 rotate_left
 ·
  replace V : ¬ (v8 = a1) := by simpa [ieq,ilt,ile] using V
  rw [if_neg V] at A
  refine VW.skip ?_
  refine hK7 _ ?_
  refine zr [(0,.val (i64 a0)),(1,.val (i64 a1)),(7,.val (i64 a0)),(8,.val (i64 (w64 (s2 + 1))))] ?_ ?_
  ·simp
  cases A
  exact ⟨_,rfl,Fits.of rfl⟩
 replace V : v8 = a1 := by simpa [ieq,ilt,ile] using V
 rw [if_pos V] at A
 refine zs [(4,.val (i64 s2)),(5,.val (.bool true))] ?_ ?_
 ·simp
 cases A
 have hq := G _ rfl
 subst hq
 dsimp only at h
 cases h
 refine VW.ret ?_
 simp [Post,PostM,PostC,PostC2,Nx,Bk]

theorem i_field_isSquare_ok {a0 : Int} {a1 : Int} {r : Bool} (h : i_field_isSquare a0 a1 = some r) :
  VCall Try.prog 75 [i64 a0,i64 a1] [.sc (.bool r)] := by
 unfold i_field_isSquare at h
 refine VCall.enter Try.call75 Try.func75 rfl 14 Try.ntmps75 (by simp) [.tmp 4] rfl ?_
 show VW _ _ _ (mk [(0,.val (i64 a0)),(1,.val (i64 a1))]) _
 refine zs [(0,.val (i64 a0)),(1,.val (i64 a1))] ?_ ?_
 ·simp
 obtain ⟨v1,N,h⟩ := bind_some h
 refine VW.ws tau_ok (Sound.none.add 10 (i_field_root_ok N) rfl) _ [(6,.val (.bool v1.2))] rfl ?_ ?_
 ·simp
 refine zs [(4,.val (.bool v1.2))] ?_ ?_
 ·simp
 cases h
 refine VW.ret ?_
 simp [Post,PostM,PostC,PostC2,Nx,Bk]

theorem i_WittIndex_ok {a0_0 : Int} {a0_1 : List Int} {r : Int × Int} (h : i_WittIndex a0_0 a0_1 = some r) :
  VCall Try.prog 60 [.agg [i64 a0_0,dI a0_1]] [.sc (i64 r.1),.sc (i64 r.2)] := by
 unfold i_WittIndex at h
 refine VCall.enter Try.call60 Try.func60 rfl 37 Try.ntmps60 (by simp) [.tmp 2,.tmp 3] rfl ?_
 show VW _ _ _ (mk [(0,.val (.agg [i64 a0_0,dI a0_1]))]) _
 refine zs [(1,.val (.ptr [i64 a0_0,dI a0_1]))] ?_ ?_
 ·simp
 refine VW.sqc fun K1 hK1 hCK1 => ?_
 obtain ⟨v2,Aw,h⟩ := bind_some h
 refine VW.ws tau_ok (Sound.none.add 6 (i_IsSpace_ok Aw) rfl) _ [(1,.val (.ptr [i64 a0_0,dI a0_1])),(7,.val (.bool (!v2)))] rfl ?_ ?_
 ·simp
 refine VW.cond rfl (fun W => ?_) (fun W => ?_)
 ·
  replace W : v2 = false := by simpa [ieq,ilt,ile] using W
  rw [if_pos W] at h
  refine zs [(2,.val (i64 0)),(3,.val (i64 1))] ?_ ?_
  ·simp
  cases h
  refine VW.ret ?_
  simp [Post,PostM,PostC,PostC2,Nx,Bk]
 replace W : ¬ (v2 = false) := by simpa [ieq,ilt,ile] using W
 rw [if_neg W] at h
 refine VW.skip ?_
 refine hK1 _ ?_
 refine VW.sqc fun K4 hK4 hCK4 => ?_
 obtain ⟨v5,Cc,h⟩ := bind_some h
 refine VW.ws tau_ok (Sound.none.add 9 (i_Space_regular_ok Cc) rfl) _ [(1,.val (.ptr [i64 a0_0,dI a0_1])),(10,.val (.bool (!v5)))] rfl ?_ ?_
 ·simp
 refine VW.cond rfl (fun B => ?_) (fun B => ?_)
 ·
  replace B : v5 = false := by simpa [ieq,ilt,ile] using B
  rw [if_pos B] at h
  refine zs [(2,.val (i64 0)),(3,.val (i64 5))] ?_ ?_
  ·simp
  cases h
  refine VW.ret ?_
  simp [Post,PostM,PostC,PostC2,Nx,Bk]
 replace B : ¬ (v5 = false) := by simpa [ieq,ilt,ile] using B
 rw [if_neg B] at h
 refine VW.skip ?_
 refine hK4 _ ?_
 obtain ⟨v7,Ax,h⟩ := bind_some h
 refine VW.ws tau_ok (Sound.none.add 12 (i_Space_dim_ok Ax) rfl) _ [(1,.val (.ptr [i64 a0_0,dI a0_1])),(4,.val (i64 (w64 (v7.tdiv 2))))] rfl ?_ ?_
 ·simp
 refine VW.sqc fun K8 hK8 hCK8 => ?_
 obtain ⟨x16,Q,h⟩ := bind_some h
 refine VW.cut [(4,.val (i64 (w64 (v7.tdiv 2)))),(33,.val (.bool x16))] ?_ fun hy => ?_
 rotate_left
 ·clear h
  obtain ⟨v9,Ap,Q⟩ := bind_some Q
  by_cases By : (v9.tmod 2) = 0
  ·rw [if_pos By] at Q
   have Ar : ieq (v9.tmod 2) 0 = true := by simpa [ieq,ilt,ile] using By
   have As := Ar
   try simp at As
   obtain ⟨v11,Cd,Q⟩ := bind_some Q
   obtain ⟨v12,Bn,Q⟩ := bind_some Q
   obtain ⟨v13,A1,Q⟩ := bind_some Q
   obtain ⟨v14,Br,Q⟩ := bind_some Q
   obtain ⟨v15,Ce,Q⟩ := bind_some Q
   cases Q
   refine VW.wds tau_ok ((((((Sound.none.add 15 (i_Space_dim_ok Ap) rfl).add 20 (i_Space_field_ok Cd) rfl).add 22 (i_Space_field_ok Bn) rfl).add 24 (i_Space_discriminant_ok A1) rfl).add 30 (i_field_num_ok Br) rfl).add 31 (i_field_isSquare_ok Ce) rfl) try_mixed _ _ 20 rfl (by kernel_rfl) (by rfl) ?_ hy
   simp [Ar,As]
  ·rw [if_neg By] at Q
   have Ar : ieq (v9.tmod 2) 0 = false := by simpa [ieq,ilt,ile] using By
   have As := Ar
   try simp at As
   cases Q
   refine VW.wds tau_ok (Sound.none.add 15 (i_Space_dim_ok Ap) rfl) try_mixed _ _ 20 rfl (by kernel_rfl) (by rfl) ?_ hy
   simp [Ar,As]
 obtain ⟨x17,Bs,h⟩ := bind_some h
 refine VW.tlE [(4,.val (i64 x17))] (hCK8) ?_ ?_
 ·clear Bs
  refine hK8 _ ?_
  refine zs [(2,.val (i64 x17)),(3,.val (i64 0))] ?_ ?_
  ·simp
  cases h
  refine VW.ret ?_
  simp [Post,PostM,PostC,PostC2,Nx,Bk]
 refine VW.cond rfl (fun X => ?_) (fun X => ?_)
 rotate_left
 ·
  replace X : ¬ (x16 = true) := by simpa [ieq,ilt,ile] using X
  rw [if_neg X] at Bs
  refine VW.skip ?_
  cases Bs
  exact Fits.of rfl
 replace X : x16 = true := by simpa [ieq,ilt,ile] using X
 rw [if_pos X] at Bs
 refine zr [(4,.val (i64 (w64 ((w64 (v7.tdiv 2)) - 1))))] ?_ ?_
 ·simp
 cases Bs
 exact Fits.of rfl

theorem i_Space_countOrthogonal_ok {a0_0 : Int} {a0_1 : List Int} {r : Int} (h : i_Space_countOrthogonal a0_0 a0_1 = some r) :
  VCall Try.prog 25 [.agg [i64 a0_0,dI a0_1]] [.sc (i64 r)] := by
 unfold i_Space_countOrthogonal at h
 refine VCall.enter Try.call25 Try.func25 rfl 77 Try.ntmps25 (by simp) [.tmp 2] rfl ?_
 show VW _ _ _ (mk [(0,.val (.agg [i64 a0_0,dI a0_1]))]) _
 refine zs [(1,.val (.ptr [i64 a0_0,dI a0_1]))] ?_ ?_
 ·simp
 obtain ⟨v1,N,h⟩ := bind_some h
 refine VW.ws tau_ok (Sound.none.add 11 (i_Space_dim_ok N) rfl) _ [(1,.val (.ptr [i64 a0_0,dI a0_1])),(3,.val (i64 (w64 (v1.tdiv 2)))),(4,.val (i64 2))] rfl ?_ ?_
 ·simp
 refine VW.sqc fun K2 hK2 hCK2 => ?_
 obtain ⟨v3,Bd,h⟩ := bind_some h
 refine VW.ws tau_ok (Sound.none.add 14 (i_Space_dim_ok Bd) rfl) _ [(1,.val (.ptr [i64 a0_0,dI a0_1])),(3,.val (i64 (w64 (v1.tdiv 2)))),(4,.val (i64 2)),(16,.val (.bool (ieq (v3.tmod 2) 1)))] rfl ?_ ?_
 ·simp
 refine VW.cond rfl (fun Cf => ?_) (fun Cf => ?_)
 ·
  replace Cf : (v3.tmod 2) = 1 := by simpa [ieq,ilt,ile] using Cf
  rw [if_pos Cf] at h
  obtain ⟨v5,Cc,h⟩ := bind_some h
  refine VW.ws tau_ok (Sound.none.add 23 (i_whole_ok Cc) rfl) _ [(1,.val (.ptr [i64 a0_0,dI a0_1])),(3,.val (i64 (w64 (v1.tdiv 2)))),(4,.val (i64 (w64 (2 * v5))))] rfl ?_ ?_
  ·simp
  refine VW.sqc fun K6 hK6 hCK6 => ?_
  refine zs [(1,.val (.ptr [i64 a0_0,dI a0_1])),(3,.val (i64 (w64 (v1.tdiv 2)))),(4,.val (i64 (w64 (2 * v5)))),(5,.val (i64 1))] ?_ ?_
  ·simp
  obtain ⟨x7,At,h⟩ := bind_some h
  refine VW.tlE [(4,.val (i64 x7))] (hCK6) ?_ ?_
  ·clear At
   refine hK6 _ ?_
   refine zs [(2,.val (i64 x7))] ?_ ?_
   ·simp
   cases h
   refine VW.ret ?_
   simp [Post,PostM,PostC,PostC2,Nx,Bk]
  refine VW.block ?_
  refine VW.loopF (i_Space_countOrthogonal_L0 a0_0 v1) (fun s7 => [(1,.val (.ptr [i64 a0_0,dI a0_1])),(3,.val (i64 (w64 (v1.tdiv 2)))),(4,.val (i64 s7.1)),(5,.val (i64 s7.2))]) At (Fits.of rfl) ?_
  clear At
  intro s7 ox7 A4 De
  unfold i_Space_countOrthogonal_L0 at A4
  refine VW.sqc fun K9 hK9 hCK9 => ?_
  refine zs [(1,.val (.ptr [i64 a0_0,dI a0_1])),(3,.val (i64 (w64 (v1.tdiv 2)))),(4,.val (i64 s7.1)),(5,.val (i64 s7.2)),(27,.val (.bool (ile s7.2 (w64 (v1.tdiv 2)))))] ?_ ?_
  ·simp
  refine VW.cond rfl (fun E => ?_) (fun E => ?_)
  rotate_left
  ·
   replace E : ¬ (s7.2 ≤ (w64 (v1.tdiv 2))) := by simpa [ieq,ilt,ile] using E
   rw [if_neg E] at A4
   refine VW.exit ?_
   cases A4
   have hq := De _ rfl
   subst hq
   exact Fits.of rfl
  replace E : s7.2 ≤ (w64 (v1.tdiv 2)) := by simpa [ieq,ilt,ile] using E
  rw [if_pos E] at A4
  refine VW.skip ?_
  refine hK9 _ ?_
  refine VW.sqc fun K11 hK11 hCK11 => ?_
  refine VW.block ?_
  obtain ⟨v12,Bn,A4⟩ := bind_some A4
  refine VW.wr tau_ok (Sound.none.add 35 (i_whole_ok Bn) rfl) _ [(1,.val (.ptr [i64 a0_0,dI a0_1])),(3,.val (i64 (w64 (v1.tdiv 2)))),(4,.val (i64 (w64 (s7.1 * (w64 (v12 - 1)))))),(5,.val (i64 s7.2))] rfl ?_ ?_
  ·simp
  refine hK11 _ ?_
  refine zr [(1,.val (.ptr [i64 a0_0,dI a0_1])),(3,.val (i64 (w64 (v1.tdiv 2)))),(4,.val (i64 (w64 (s7.1 * (w64 (v12 - 1)))))),(5,.val (i64 (w64 (s7.2 + 1))))] ?_ ?_
  ·simp
  cases A4
  exact ⟨_,rfl,Fits.of rfl⟩
 replace Cf : ¬ ((v3.tmod 2) = 1) := by simpa [ieq,ilt,ile] using Cf
 rw [if_neg Cf] at h
 refine VW.skip ?_
 refine hK2 _ ?_
 obtain ⟨v13,A1,h⟩ := bind_some h
 refine VW.ws tau_ok (Sound.none.add 41 (i_WittIndex_ok A1) rfl) _ [(1,.val (.ptr [i64 a0_0,dI a0_1])),(3,.val (i64 (w64 (v1.tdiv 2)))),(4,.val (i64 2)),(6,.val (i64 v13.1))] rfl ?_ ?_
 ·simp
 refine zs [(1,.val (.ptr [i64 a0_0,dI a0_1])),(3,.val (i64 (w64 (v1.tdiv 2)))),(4,.val (i64 2)),(6,.val (i64 v13.1)),(8,.val (i64 (-1)))] ?_ ?_
 ·simp
 refine VW.sqc fun K14 hK14 hCK14 => ?_
 refine zs [(1,.val (.ptr [i64 a0_0,dI a0_1])),(3,.val (i64 (w64 (v1.tdiv 2)))),(4,.val (i64 2)),(8,.val (i64 (-1))),(46,.val (.bool (ieq v13.1 (w64 (v1.tdiv 2)))))] ?_ ?_
 ·simp
 obtain ⟨x15,Z,h⟩ := bind_some h
 refine VW.tlE [(1,.val (.ptr [i64 a0_0,dI a0_1])),(3,.val (i64 (w64 (v1.tdiv 2)))),(4,.val (i64 2)),(8,.val (i64 x15))] (hCK14) ?_ ?_
 ·clear Z
  refine hK14 _ ?_
  obtain ⟨v18,Df,h⟩ := bind_some h
  obtain ⟨v19,Dg,h⟩ := bind_some h
  refine VW.wds tau_ok ((Sound.none.add 54 (i_whole_ok Df) rfl).add 58 (i_whole_ok Dg) rfl) try_mixed _ [(1,.val (.ptr [i64 a0_0,dI a0_1])),(3,.val (i64 (w64 (v1.tdiv 2)))),(4,.val (i64 (w64 (2 * (w64 (v18 * (w64 (v19 - x15))))))))] 17 rfl (by kernel_rfl) (by rfl) ?_ ?_
  ·simp
  refine VW.sqc fun K20 hK20 hCK20 => ?_
  refine zs [(1,.val (.ptr [i64 a0_0,dI a0_1])),(3,.val (i64 (w64 (v1.tdiv 2)))),(4,.val (i64 (w64 (2 * (w64 (v18 * (w64 (v19 - x15)))))))),(9,.val (i64 1))] ?_ ?_
  ·simp
  obtain ⟨x21,Cg,h⟩ := bind_some h
  refine VW.tlE [(4,.val (i64 x21))] (hCK20) ?_ ?_
  ·clear Cg
   refine hK20 _ ?_
   refine zs [(2,.val (i64 x21))] ?_ ?_
   ·simp
   cases h
   refine VW.ret ?_
   simp [Post,PostM,PostC,PostC2,Nx,Bk]
  refine VW.block ?_
  refine VW.loopF (i_Space_countOrthogonal_L1 a0_0 v1) (fun s21 => [(1,.val (.ptr [i64 a0_0,dI a0_1])),(3,.val (i64 (w64 (v1.tdiv 2)))),(4,.val (i64 s21.1)),(9,.val (i64 s21.2))]) Cg (Fits.of rfl) ?_
  clear Cg
  intro s21 ox21 Ac Cq
  unfold i_Space_countOrthogonal_L1 at Ac
  refine VW.sqc fun K23 hK23 hCK23 => ?_
  refine zs [(1,.val (.ptr [i64 a0_0,dI a0_1])),(3,.val (i64 (w64 (v1.tdiv 2)))),(4,.val (i64 s21.1)),(9,.val (i64 s21.2)),(65,.val (.bool (ilt s21.2 (w64 (v1.tdiv 2)))))] ?_ ?_
  ·simp
  refine VW.cond rfl (fun A5 => ?_) (fun A5 => ?_)
  rotate_left
  ·
   replace A5 : ¬ (s21.2 < (w64 (v1.tdiv 2))) := by simpa [ieq,ilt,ile] using A5
   rw [if_neg A5] at Ac
   refine VW.exit ?_
   cases Ac
   have hq := Cq _ rfl
   subst hq
   exact Fits.of rfl
  replace A5 : s21.2 < (w64 (v1.tdiv 2)) := by simpa [ieq,ilt,ile] using A5
  rw [if_pos A5] at Ac
  refine VW.skip ?_
  refine hK23 _ ?_
  refine VW.sqc fun K25 hK25 hCK25 => ?_
  refine VW.block ?_
  obtain ⟨v26,Dh,Ac⟩ := bind_some Ac
  refine VW.wr tau_ok (Sound.none.add 73 (i_whole_ok Dh) rfl) _ [(1,.val (.ptr [i64 a0_0,dI a0_1])),(3,.val (i64 (w64 (v1.tdiv 2)))),(4,.val (i64 (w64 (s21.1 * (w64 (v26 - 1)))))),(9,.val (i64 s21.2))] rfl ?_ ?_
  ·simp
  refine hK25 _ ?_
  refine zr [(1,.val (.ptr [i64 a0_0,dI a0_1])),(3,.val (i64 (w64 (v1.tdiv 2)))),(4,.val (i64 (w64 (s21.1 * (w64 (v26 - 1)))))),(9,.val (i64 (w64 (s21.2 + 1))))] ?_ ?_
  ·simp
  cases Ac
  exact ⟨_,rfl,Fits.of rfl⟩
 refine VW.cond rfl (fun A6 => ?_) (fun A6 => ?_)
 rotate_left
 ·
  replace A6 : ¬ (v13.1 = (w64 (v1.tdiv 2))) := by simpa [ieq,ilt,ile] using A6
  rw [if_neg A6] at Z
  refine VW.skip ?_
  cases Z
  exact Fits.of rfl
 replace A6 : v13.1 = (w64 (v1.tdiv 2)) := by simpa [ieq,ilt,ile] using A6
 rw [if_pos A6] at Z
 refine zr [(1,.val (.ptr [i64 a0_0,dI a0_1])),(3,.val (i64 (w64 (v1.tdiv 2)))),(4,.val (i64 2)),(8,.val (i64 1))] ?_ ?_
 ·simp
 cases Z
 exact Fits.of rfl

theorem i_CountOrthogonal_ok {a0_0 : Int} {a0_1 : List Int} {r : Int × Int} (h : i_CountOrthogonal a0_0 a0_1 = some r) :
  VCall Try.prog 8 [.agg [i64 a0_0,dI a0_1]] [.sc (i64 r.1),.sc (i64 r.2)] := by
 unfold i_CountOrthogonal at h
 refine VCall.enter Try.call8 Try.func8 rfl 14 Try.ntmps8 (by simp) [.tmp 2,.tmp 3] rfl ?_
 show VW _ _ _ (mk [(0,.val (.agg [i64 a0_0,dI a0_1]))]) _
 refine zs [(1,.val (.ptr [i64 a0_0,dI a0_1]))] ?_ ?_
 ·simp
 refine VW.sqc fun K1 hK1 hCK1 => ?_
 refine VW.block ?_
 obtain ⟨v2,Aw,h⟩ := bind_some h
 refine VW.ws tau_ok (Sound.none.add 6 (i_IsSpace_ok Aw) rfl) _ [(1,.val (.ptr [i64 a0_0,dI a0_1])),(4,.val (.bool (!v2)))] rfl ?_ ?_
 ·simp
 refine VW.cond rfl (fun W => ?_) (fun W => ?_)
 ·
  replace W : v2 = false := by simpa [ieq,ilt,ile] using W
  rw [if_pos W] at h
  refine zs [(2,.val (i64 0)),(3,.val (i64 1))] ?_ ?_
  ·simp
  cases h
  refine VW.ret ?_
  simp [Post,PostM,PostC,PostC2,Nx,Bk]
 replace W : ¬ (v2 = false) := by simpa [ieq,ilt,ile] using W
 rw [if_neg W] at h
 obtain ⟨v4,B2,h⟩ := bind_some h
 refine VW.ws tau_ok (Sound.none.add 10 (i_Space_regular_ok B2) rfl) _ [(1,.val (.ptr [i64 a0_0,dI a0_1])),(8,.val (.bool (!v4)))] rfl ?_ ?_
 ·simp
 refine VW.cond rfl (fun C => ?_) (fun C => ?_)
 ·
  replace C : v4 = false := by simpa [ieq,ilt,ile] using C
  rw [if_pos C] at h
  refine zs [(2,.val (i64 0)),(3,.val (i64 5))] ?_ ?_
  ·simp
  cases h
  refine VW.ret ?_
  simp [Post,PostM,PostC,PostC2,Nx,Bk]
 replace C : ¬ (v4 = false) := by simpa [ieq,ilt,ile] using C
 rw [if_neg C] at h
 refine VW.skip ?_
 refine hK1 _ ?_
 obtain ⟨v6,Cb,h⟩ := bind_some h
 refine VW.ws tau_ok (Sound.none.add 13 (i_Space_countOrthogonal_ok Cb) rfl) _ [(2,.val (i64 v6)),(3,.val (i64 0))] rfl ?_ ?_
 ·simp
 cases h
 refine VW.ret ?_
 simp [Post,PostM,PostC,PostC2,Nx,Bk]

theorem i_transpose_ok {a0 : List (List Int)} {r : List (List Int)} (h : i_transpose a0 = some r) :
  VCall Try.prog 35 [dM a0] [.own true (dM r)] := by
 unfold i_transpose at h
 refine VCall.enter Try.call35 Try.func35 rfl 38 Try.ntmps35 (by simp) [.tmp 2] rfl ?_
 show VW _ _ _ (mk [(0,.val (dM a0))]) _
 refine zs [(0,.val (dM a0))] ?_ ?_
 ·simp
 refine zs [(0,.val (dM a0)),(3,.ref 3 [] true (dM []))] ?_ ?_
 ·simp
 refine VW.sqc fun K1 hK1 hCK1 => ?_
 obtain ⟨v2,Aw,h⟩ := bind_some h
 obtain ⟨Ca,Bi,Bj,Bl⟩ := idx_some Aw
 replace Bi : 0 < a0.length := Bi
 replace Bj : a0[0]? = some v2 := Bj
 replace Bl : ∀ h,a0[0]'h = v2 := Bl
 refine zs [(0,.val (dM a0)),(3,.ref 3 [] true (dM [])),(11,.val (i64 (v2.length : Int))),(12,.val (i64 0))] ?_ ?_
 ·simp [Ca,Bi,Bj,Bl]
 obtain ⟨x3,Ae,h⟩ := bind_some h
 refine VW.tlE [(3,.ref 3 [] true (dM x3))] (hCK1) ?_ ?_
 ·clear Ae
  refine hK1 _ ?_
  refine zs [(2,.ref 2 [] true (dM x3))] ?_ ?_
  ·simp
  cases h
  refine VW.ret ?_
  simp [Post,PostM,PostC,PostC2,Nx,Bk]
 refine VW.block ?_
 refine VW.loopF (i_transpose_L0 a0 v2) (fun s3 => [(0,.val (dM a0)),(3,.ref 3 [] true (dM s3.1)),(11,.val (i64 (v2.length : Int))),(12,.val (i64 s3.2))]) Ae (Fits.of rfl) ?_
 clear Ae
 intro s3 ox3 H Bz
 unfold i_transpose_L0 at H
 refine zs [(0,.val (dM a0)),(3,.ref 3 [] true (dM s3.1)),(11,.val (i64 (v2.length : Int))),(12,.val (i64 s3.2)),(13,.val (.bool (ilt s3.2 (v2.length : Int))))] ?_ ?_
 ·simp
 refine VW.sqc fun K5 hK5 hCK5 => ?_
 refine VW.cond rfl (fun B => ?_) (fun B => ?_)
 rotate_left
 ·
  replace B : ¬ (s3.2 < (v2.length : Int)) := by simpa [ieq,ilt,ile] using B
  rw [if_neg B] at H
  refine VW.exit ?_
  cases H
  have hq := Bz _ rfl
  subst hq
  exact Fits.of rfl
 replace B : s3.2 < (v2.length : Int) := by simpa [ieq,ilt,ile] using B
 rw [if_pos B] at H
 refine VW.skip ?_
 refine hK5 _ ?_
 refine VW.sqc fun K7 hK7 hCK7 => ?_
 refine VW.block ?_
 refine zs [(0,.val (dM a0)),(3,.ref 3 [] true (dM s3.1)),(4,.val (i64 s3.2)),(11,.val (i64 (v2.length : Int))),(12,.val (i64 s3.2))] ?_ ?_
 ·simp
 refine zs [(0,.val (dM a0)),(3,.ref 3 [] true (dM s3.1)),(4,.val (i64 s3.2)),(5,.ref 5 [] true (dI [])),(11,.val (i64 (v2.length : Int))),(12,.val (i64 s3.2))] ?_ ?_
 ·simp
 refine VW.sqc fun K8 hK8 hCK8 => ?_
 refine zs [(0,.val (dM a0)),(3,.ref 3 [] true (dM s3.1)),(4,.val (i64 s3.2)),(5,.ref 5 [] true (dI [])),(11,.val (i64 (v2.length : Int))),(12,.val (i64 s3.2)),(17,.val (i64 (a0.length : Int))),(18,.val (i64 0))] ?_ ?_
 ·simp
 obtain ⟨x9,Di,H⟩ := bind_some H
 refine VW.tlE [(0,.val (dM a0)),(3,.ref 3 [] true (dM s3.1)),(5,.ref 5 [] true (dI x9)),(11,.val (i64 (v2.length : Int))),(12,.val (i64 s3.2))] (hCK8) ?_ ?_
 ·clear Di
  refine hK8 _ ?_
  obtain ⟨Cr,H⟩ := chk_some H
  have B3 := Cr
  try simp at B3
  refine zr [(0,.val (dM a0)),(3,.ref 3 [] true (dM (s3.1 ++ [x9]))),(11,.val (i64 (v2.length : Int))),(12,.val (i64 s3.2))] ?_ ?_
  ·simp [Cr,B3]
  refine hK7 _ ?_
  refine zr [(0,.val (dM a0)),(3,.ref 3 [] true (dM (s3.1 ++ [x9]))),(11,.val (i64 (v2.length : Int))),(12,.val (i64 (w64 (s3.2 + 1))))] ?_ ?_
  ·simp
  cases H
  exact ⟨_,rfl,Fits.of rfl⟩
 refine VW.block ?_
 refine VW.loopF (i_transpose_L1 a0 s3) (fun s9 => [(0,.val (dM a0)),(3,.ref 3 [] true (dM s3.1)),(4,.val (i64 s3.2)),(5,.ref 5 [] true (dI s9.1)),(11,.val (i64 (v2.length : Int))),(12,.val (i64 s3.2)),(17,.val (i64 (a0.length : Int))),(18,.val (i64 s9.2))]) Di (Fits.of rfl) ?_
 clear Di
 intro s9 ox9 Ad Dj
 unfold i_transpose_L1 at Ad
 refine zs [(0,.val (dM a0)),(3,.ref 3 [] true (dM s3.1)),(4,.val (i64 s3.2)),(5,.ref 5 [] true (dI s9.1)),(11,.val (i64 (v2.length : Int))),(12,.val (i64 s3.2)),(17,.val (i64 (a0.length : Int))),(18,.val (i64 s9.2)),(19,.val (.bool (ilt s9.2 (a0.length : Int))))] ?_ ?_
 ·simp
 refine VW.sqc fun K11 hK11 hCK11 => ?_
 refine VW.cond rfl (fun A7 => ?_) (fun A7 => ?_)
 rotate_left
 ·
  replace A7 : ¬ (s9.2 < (a0.length : Int)) := by simpa [ieq,ilt,ile] using A7
  rw [if_neg A7] at Ad
  refine VW.exit ?_
  cases Ad
  have hq := Dj _ rfl
  subst hq
  exact Fits.of rfl
 replace A7 : s9.2 < (a0.length : Int) := by simpa [ieq,ilt,ile] using A7
 rw [if_pos A7] at Ad
 refine VW.skip ?_
 refine hK11 _ ?_
 refine VW.sqc fun K13 hK13 hCK13 => ?_
 refine VW.block ?_
 refine zs [(0,.val (dM a0)),(3,.ref 3 [] true (dM s3.1)),(4,.val (i64 s3.2)),(5,.ref 5 [] true (dI s9.1)),(6,.val (i64 s9.2)),(11,.val (i64 (v2.length : Int))),(12,.val (i64 s3.2)),(17,.val (i64 (a0.length : Int))),(18,.val (i64 s9.2))] ?_ ?_
 ·simp
 obtain ⟨v14,Br,Ad⟩ := bind_some Ad
 obtain ⟨Bt,Bu,Bv,Bw⟩ := idx_some Br
 obtain ⟨v15,Ce,Ad⟩ := bind_some Ad
 obtain ⟨Cs,Ct,Cu,Cv⟩ := idx_some Ce
 obtain ⟨Bp,Ad⟩ := chk_some Ad
 have Aq := Bp
 try simp at Aq
 refine zr [(0,.val (dM a0)),(3,.ref 3 [] true (dM s3.1)),(4,.val (i64 s3.2)),(5,.ref 5 [] true (dI (s9.1 ++ [v15]))),(11,.val (i64 (v2.length : Int))),(12,.val (i64 s3.2)),(17,.val (i64 (a0.length : Int))),(18,.val (i64 s9.2))] ?_ ?_
 ·simp [Bt,Bu,Bv,Bw,Cs,Ct,Cu,Cv,Bp,Aq]
 refine hK13 _ ?_
 refine zr [(0,.val (dM a0)),(3,.ref 3 [] true (dM s3.1)),(4,.val (i64 s3.2)),(5,.ref 5 [] true (dI (s9.1 ++ [v15]))),(11,.val (i64 (v2.length : Int))),(12,.val (i64 s3.2)),(17,.val (i64 (a0.length : Int))),(18,.val (i64 (w64 (s9.2 + 1))))] ?_ ?_
 ·simp
 cases Ad
 exact ⟨_,rfl,Fits.of rfl⟩

theorem i_Space_weighted_ok {a0_0 : Int} {a0_1 : List Int} {a1 : List Int} {r : List Int} (h : i_Space_weighted a0_0 a0_1 a1 = some r) :
  VCall Try.prog 72 [.agg [i64 a0_0,dI a0_1],dI a1] [.own true (dI r)] := by
 unfold i_Space_weighted at h
 refine VCall.enter Try.call72 Try.func72 rfl 31 Try.ntmps72 (by simp) [.tmp 4] rfl ?_
 show VW _ _ _ (mk [(0,.val (.agg [i64 a0_0,dI a0_1])),(1,.val (dI a1))]) _
 refine zs [(1,.val (dI a1)),(2,.val (.ptr [i64 a0_0,dI a0_1]))] ?_ ?_
 ·simp
 refine zs [(1,.val (dI a1)),(2,.val (.ptr [i64 a0_0,dI a0_1])),(5,.ref 5 [] true (dI []))] ?_ ?_
 ·simp
 refine VW.sqc fun K1 hK1 hCK1 => ?_
 refine zs [(2,.val (.ptr [i64 a0_0,dI a0_1])),(5,.ref 5 [] true (dI [])),(9,.val (dI a1)),(10,.val (i64 (a1.length : Int))),(11,.val (i64 0))] ?_ ?_
 ·simp
 obtain ⟨x2,F,h⟩ := bind_some h
 refine VW.tlE [(5,.ref 5 [] true (dI x2))] (hCK1) ?_ ?_
 ·clear F
  refine hK1 _ ?_
  refine zs [(4,.ref 4 [] true (dI x2))] ?_ ?_
  ·simp
  cases h
  refine VW.ret ?_
  simp [Post,PostM,PostC,PostC2,Nx,Bk]
 refine VW.block ?_
 refine VW.loopF (i_Space_weighted_L0 a0_0 a0_1 a1) (fun s2 => [(2,.val (.ptr [i64 a0_0,dI a0_1])),(5,.ref 5 [] true (dI s2.1)),(9,.val (dI a1)),(10,.val (i64 (a1.length : Int))),(11,.val (i64 s2.2))]) F (Fits.of rfl) ?_
 clear F
 intro s2 ox2 A G
 unfold i_Space_weighted_L0 at A
 refine zs [(2,.val (.ptr [i64 a0_0,dI a0_1])),(5,.ref 5 [] true (dI s2.1)),(9,.val (dI a1)),(10,.val (i64 (a1.length : Int))),(11,.val (i64 s2.2)),(12,.val (.bool (ilt s2.2 (a1.length : Int))))] ?_ ?_
 ·simp
 refine VW.sqc fun K4 hK4 hCK4 => ?_
 refine VW.cond rfl (fun C => ?_) (fun C => ?_)
 rotate_left
 ·
  replace C : ¬ (s2.2 < (a1.length : Int)) := by simpa [ieq,ilt,ile] using C
  rw [if_neg C] at A
  refine VW.exit ?_
  cases A
  have hq := G _ rfl
  subst hq
  exact Fits.of rfl
 replace C : s2.2 < (a1.length : Int) := by simpa [ieq,ilt,ile] using C
 rw [if_pos C] at A
 refine VW.skip ?_
 refine hK4 _ ?_
 refine VW.sqc fun K6 hK6 hCK6 => ?_
 refine VW.block ?_
 obtain ⟨v7,Ax,A⟩ := bind_some A
 obtain ⟨Ah,Ai,Aj,Ak⟩ := idx_some Ax
 refine zs [(2,.val (.ptr [i64 a0_0,dI a0_1])),(5,.ref 5 [] true (dI s2.1)),(6,.val (i64 s2.2)),(7,.val (i64 v7)),(9,.val (dI a1)),(10,.val (i64 (a1.length : Int))),(11,.val (i64 s2.2))] ?_ ?_
 ·simp [Ah,Ai,Aj,Ak]
 obtain ⟨v8,A3,A⟩ := bind_some A
 obtain ⟨v9,Ap,A⟩ := bind_some A
 obtain ⟨B5,B6,B7,B8⟩ := idx_some Ap
 obtain ⟨v10,Bm,A⟩ := bind_some A
 obtain ⟨Cw,A⟩ := chk_some A
 have B4 := Cw
 try simp at B4
 refine VW.wdr tau_ok ((Sound.none.add 18 (i_Space_field_ok A3) rfl).add 26 (i_field_num_ok Bm) rfl) try_mixed _ [(2,.val (.ptr [i64 a0_0,dI a0_1])),(5,.ref 5 [] true (dI (s2.1 ++ [v10]))),(9,.val (dI a1)),(10,.val (i64 (a1.length : Int))),(11,.val (i64 s2.2))] 12 rfl (by kernel_rfl) (by rfl) ?_ ?_
 ·simp [B5,B6,B7,B8,Cw,B4]
 refine hK6 _ ?_
 refine zr [(2,.val (.ptr [i64 a0_0,dI a0_1])),(5,.ref 5 [] true (dI (s2.1 ++ [v10]))),(9,.val (dI a1)),(10,.val (i64 (a1.length : Int))),(11,.val (i64 (w64 (s2.2 + 1))))] ?_ ?_
 ·simp
 cases A
 exact ⟨_,rfl,Fits.of rfl⟩

theorem i_field_dot_ok {a0 : Int} {a1 : List Int} {a2 : List Int} {r : Int} (h : i_field_dot a0 a1 a2 = some r) :
  VCall Try.prog 71 [i64 a0,dI a1,dI a2] [.sc (i64 r)] := by
 unfold i_field_dot at h
 refine VCall.enter Try.call71 Try.func71 rfl 29 Try.ntmps71 (by simp) [.tmp 6] rfl ?_
 show VW _ _ _ (mk [(0,.val (i64 a0)),(1,.val (dI a1)),(2,.val (dI a2))]) _
 refine zs [(0,.val (i64 a0)),(1,.val (dI a1)),(2,.val (dI a2))] ?_ ?_
 ·simp
 refine zs [(0,.val (i64 a0)),(1,.val (dI a1)),(2,.val (dI a2)),(7,.val (i64 0))] ?_ ?_
 ·simp
 refine VW.sqc fun K1 hK1 hCK1 => ?_
 refine zs [(0,.val (i64 a0)),(2,.val (dI a2)),(7,.val (i64 0)),(10,.val (dI a1)),(11,.val (i64 (a1.length : Int))),(12,.val (i64 0))] ?_ ?_
 ·simp
 obtain ⟨x2,F,h⟩ := bind_some h
 refine VW.tlE [(0,.val (i64 a0)),(7,.val (i64 x2))] (hCK1) ?_ ?_
 ·clear F
  refine hK1 _ ?_
  obtain ⟨v9,Ap,h⟩ := bind_some h
  refine VW.ws tau_ok (Sound.none.add 28 (i_field_num_ok Ap) rfl) _ [(6,.val (i64 v9))] rfl ?_ ?_
  ·simp
  cases h
  refine VW.ret ?_
  simp [Post,PostM,PostC,PostC2,Nx,Bk]
 refine VW.block ?_
 refine VW.loopF (i_field_dot_L0 a1 a2) (fun s2 => [(0,.val (i64 a0)),(2,.val (dI a2)),(7,.val (i64 s2.1)),(10,.val (dI a1)),(11,.val (i64 (a1.length : Int))),(12,.val (i64 s2.2))]) F (Fits.of rfl) ?_
 clear F
 intro s2 ox2 A G
 unfold i_field_dot_L0 at A
 refine zs [(0,.val (i64 a0)),(2,.val (dI a2)),(7,.val (i64 s2.1)),(10,.val (dI a1)),(11,.val (i64 (a1.length : Int))),(12,.val (i64 s2.2)),(13,.val (.bool (ilt s2.2 (a1.length : Int))))] ?_ ?_
 ·simp
 refine VW.sqc fun K4 hK4 hCK4 => ?_
 refine VW.cond rfl (fun C => ?_) (fun C => ?_)
 rotate_left
 ·
  replace C : ¬ (s2.2 < (a1.length : Int)) := by simpa [ieq,ilt,ile] using C
  rw [if_neg C] at A
  refine VW.exit ?_
  cases A
  have hq := G _ rfl
  subst hq
  exact Fits.of rfl
 replace C : s2.2 < (a1.length : Int) := by simpa [ieq,ilt,ile] using C
 rw [if_pos C] at A
 refine VW.skip ?_
 refine hK4 _ ?_
 refine VW.sqc fun K6 hK6 hCK6 => ?_
 refine VW.block ?_
 obtain ⟨v7,Ax,A⟩ := bind_some A
 obtain ⟨Ah,Ai,Aj,Ak⟩ := idx_some Ax
 refine zs [(0,.val (i64 a0)),(2,.val (dI a2)),(7,.val (i64 s2.1)),(8,.val (i64 s2.2)),(9,.val (i64 v7)),(10,.val (dI a1)),(11,.val (i64 (a1.length : Int))),(12,.val (i64 s2.2))] ?_ ?_
 ·simp [Ah,Ai,Aj,Ak]
 obtain ⟨v8,A3,A⟩ := bind_some A
 obtain ⟨Al,Am,An,Ao⟩ := idx_some A3
 refine zr [(0,.val (i64 a0)),(2,.val (dI a2)),(7,.val (i64 (w64 (s2.1 + (w64 (v7 * v8)))))),(10,.val (dI a1)),(11,.val (i64 (a1.length : Int))),(12,.val (i64 s2.2))] ?_ ?_
 ·simp [Al,Am,An,Ao]
 refine hK6 _ ?_
 refine zr [(0,.val (i64 a0)),(2,.val (dI a2)),(7,.val (i64 (w64 (s2.1 + (w64 (v7 * v8)))))),(10,.val (dI a1)),(11,.val (i64 (a1.length : Int))),(12,.val (i64 (w64 (s2.2 + 1))))] ?_ ?_
 ·simp
 cases A
 exact ⟨_,rfl,Fits.of rfl⟩

theorem i_Space_pair_ok {a0_0 : Int} {a0_1 : List Int} {a1 : List Int} {a2 : List Int} {r : Int} (h : i_Space_pair a0_0 a0_1 a1 a2 = some r) :
  VCall Try.prog 41 [.agg [i64 a0_0,dI a0_1],dI a1,dI a2] [.sc (i64 r)] := by
 unfold i_Space_pair at h
 refine VCall.enter Try.call41 Try.func41 rfl 14 Try.ntmps41 (by simp) [.tmp 6] rfl ?_
 show VW _ _ _ (mk [(0,.val (.agg [i64 a0_0,dI a0_1])),(1,.val (dI a1)),(2,.val (dI a2))]) _
 refine zs [(1,.val (dI a1)),(2,.val (dI a2)),(3,.val (.ptr [i64 a0_0,dI a0_1]))] ?_ ?_
 ·simp
 obtain ⟨v1,N,h⟩ := bind_some h
 obtain ⟨v2,Aw,h⟩ := bind_some h
 obtain ⟨v3,Bd,h⟩ := bind_some h
 refine VW.wds tau_ok (((Sound.none.add 8 (i_Space_field_ok N) rfl).add 11 (i_Space_weighted_ok Aw) rfl).add 13 (i_field_dot_ok Bd) rfl) try_mixed _ [(6,.val (i64 v3))] 8 rfl (by kernel_rfl) (by rfl) ?_ ?_
 ·simp
 cases h
 refine VW.ret ?_
 simp [Post,PostM,PostC,PostC2,Nx,Bk]

theorem i_Space_norm_ok {a0_0 : Int} {a0_1 : List Int} {a1 : List Int} {r : Int} (h : i_Space_norm a0_0 a0_1 a1 = some r) :
  VCall Try.prog 38 [.agg [i64 a0_0,dI a0_1],dI a1] [.sc (i64 r)] := by
 unfold i_Space_norm at h
 refine VCall.enter Try.call38 Try.func38 rfl 9 Try.ntmps38 (by simp) [.tmp 4] rfl ?_
 show VW _ _ _ (mk [(0,.val (.agg [i64 a0_0,dI a0_1])),(1,.val (dI a1))]) _
 refine zs [(1,.val (dI a1)),(2,.val (.ptr [i64 a0_0,dI a0_1]))] ?_ ?_
 ·simp
 obtain ⟨v1,N,h⟩ := bind_some h
 refine VW.ws tau_ok (Sound.none.add 8 (i_Space_pair_ok N) rfl) _ [(4,.val (i64 v1))] rfl ?_ ?_
 ·simp
 cases h
 refine VW.ret ?_
 simp [Post,PostM,PostC,PostC2,Nx,Bk]

theorem i_Space_growOrthogonal_c1_c1_ok {a0 : List Int} {a1_0 : Int} {a1_1 : List Int} {a2_0 : List Int} {r : Bool} (h : i_Space_growOrthogonal_c1_c1 a0 a1_0 a1_1 a2_0 = some r) :
  VCall Try.prog 40 [dI a0,.ptr [i64 a1_0,dI a1_1],.ptr [dI a2_0]] [.sc (.bool r)] := by
 unfold i_Space_growOrthogonal_c1_c1 at h
 refine VCall.enter Try.call40 Try.func40 rfl 10 Try.ntmps40 (by simp) [.tmp 4] rfl ?_
 show VW _ _ _ (mk [(0,.val (dI a0)),(1,.val (.ptr [i64 a1_0,dI a1_1])),(2,.val (.ptr [dI a2_0]))]) _
 refine zs [(0,.val (dI a0)),(1,.val (.ptr [i64 a1_0,dI a1_1])),(2,.val (.ptr [dI a2_0]))] ?_ ?_
 ·simp
 obtain ⟨v1,N,h⟩ := bind_some h
 refine VW.ws tau_ok (Sound.none.add 8 (i_Space_pair_ok N) rfl) _ [(4,.val (.bool (!(ieq v1 0))))] rfl ?_ ?_
 ·simp
 cases h
 refine VW.ret ?_
 simp [Post,PostM,PostC,PostC2,Nx,Bk]

theorem g_slices_IndexFunc_LLI_LI_of_i_Space_growOrthogonal_c1_c1_ok {a0 : List (List Int)} {a1_0_0 : Int} {a1_0_1 : List Int} {a1_1_0 : List Int} {r : Int} (h : g_slices_IndexFunc_LLI_LI_of_i_Space_growOrthogonal_c1_c1 a0 a1_0_0 a1_0_1 a1_1_0 = some r) :
  VCall Try.prog 70 [dM a0,.fn 40 [.ptr [i64 a1_0_0,dI a1_0_1],.ptr [dI a1_1_0]]] [.sc (i64 r)] := by
 unfold g_slices_IndexFunc_LLI_LI_of_i_Space_growOrthogonal_c1_c1 at h
 refine VCall.enter Try.call70 Try.func70 rfl 19 Try.ntmps70 (by simp) [.tmp 4] rfl ?_
 show VW _ _ _ (mk [(0,.val (dM a0)),(1,.val (.fn 40 [.ptr [i64 a1_0_0,dI a1_0_1],.ptr [dI a1_1_0]]))]) _
 refine zs [(0,.val (dM a0)),(1,.val (.fn 40 [.ptr [i64 a1_0_0,dI a1_0_1],.ptr [dI a1_1_0]]))] ?_ ?_
 ·simp
 refine VW.sqc fun K1 hK1 hCK1 => ?_
 refine zs [(0,.val (dM a0)),(1,.val (.fn 40 [.ptr [i64 a1_0_0,dI a1_0_1],.ptr [dI a1_1_0]])),(7,.val (i64 (a0.length : Int))),(8,.val (i64 0))] ?_ ?_
 ·simp
 obtain ⟨x2,F,h⟩ := bind_some h
 refine VW.tlO (fun y4 => []) x2 (hCK1) ?_ ?_
 ·clear F
  rintro y4 rfl
  dsimp only at h
  refine hK1 _ ?_
  refine zs [(4,.val (i64 (-1)))] ?_ ?_
  ·simp
  cases h
  refine VW.ret ?_
  simp [Post,PostM,PostC,PostC2,Nx,Bk]
 refine VW.block ?_
 refine VW.loopF (g_slices_IndexFunc_LLI_LI_of_i_Space_growOrthogonal_c1_c1_L0 a0 a1_0_0 a1_0_1 a1_1_0) (fun s2 => [(0,.val (dM a0)),(1,.val (.fn 40 [.ptr [i64 a1_0_0,dI a1_0_1],.ptr [dI a1_1_0]])),(7,.val (i64 (a0.length : Int))),(8,.val (i64 s2))]) F (Fits.of rfl) ?_
 clear F
 intro s2 ox2 A G
 unfold g_slices_IndexFunc_LLI_LI_of_i_Space_growOrthogonal_c1_c1_L0 at A
 refine zs [(0,.val (dM a0)),(1,.val (.fn 40 [.ptr [i64 a1_0_0,dI a1_0_1],.ptr [dI a1_1_0]])),(7,.val (i64 (a0.length : Int))),(8,.val (i64 s2)),(9,.val (.bool (ilt s2 (a0.length : Int))))] ?_ ?_
 ·simp
 refine VW.sqc fun K5 hK5 hCK5 => ?_
 refine VW.cond rfl (fun B => ?_) (fun B => ?_)
 rotate_left
 ·
  replace B : ¬ (s2 < (a0.length : Int)) := by simpa [ieq,ilt,ile] using B
  rw [if_neg B] at A
  refine VW.exit ?_
  cases A
  have hq := G _ rfl
  subst hq
  exact ⟨_,rfl,Fits.of rfl⟩
 replace B : s2 < (a0.length : Int) := by simpa [ieq,ilt,ile] using B
 rw [if_pos B] at A
 refine VW.skip ?_
 refine hK5 _ ?_
 refine VW.sqc fun K7 hK7 hCK7 => ?_
 refine VW.block ?_
 refine zs [(0,.val (dM a0)),(1,.val (.fn 40 [.ptr [i64 a1_0_0,dI a1_0_1],.ptr [dI a1_1_0]])),(5,.val (i64 s2)),(7,.val (i64 (a0.length : Int))),(8,.val (i64 s2))] ?_ ?_
 ·simp
 obtain ⟨v8,A3,A⟩ := bind_some A
 obtain ⟨Al,Am,An,Ao⟩ := idx_some A3
 obtain ⟨v9,Ap,A⟩ := bind_some A
 refine VW.ws tau_ok (Sound.none.add 16 (i_Space_growOrthogonal_c1_c1_ok Ap) rfl) _ [(0,.val (dM a0)),(1,.val (.fn 40 [.ptr [i64 a1_0_0,dI a1_0_1],.ptr [dI a1_1_0]])),(5,.val (i64 s2)),(7,.val (i64 (a0.length : Int))),(8,.val (i64 s2)),(16,.val (.bool v9))] rfl ?_ ?_
 ·simp [Al,Am,An,Ao]
 refine VW.cond rfl (fun E => ?_) (fun E => ?_)
 rotate_left
 ·
  replace E : ¬ (v9 = true) := by simpa [ieq,ilt,ile] using E
  rw [if_neg E] at A
  refine VW.skip ?_
  refine hK7 _ ?_
  refine zr [(0,.val (dM a0)),(1,.val (.fn 40 [.ptr [i64 a1_0_0,dI a1_0_1],.ptr [dI a1_1_0]])),(7,.val (i64 (a0.length : Int))),(8,.val (i64 (w64 (s2 + 1))))] ?_ ?_
  ·simp
  cases A
  exact ⟨_,rfl,Fits.of rfl⟩
 replace E : v9 = true := by simpa [ieq,ilt,ile] using E
 rw [if_pos E] at A
 refine zs [(4,.val (i64 s2))] ?_ ?_
 ·simp
 cases A
 have hq := G _ rfl
 subst hq
 dsimp only at h
 cases h
 refine VW.ret ?_
 simp [Post,PostM,PostC,PostC2,Nx,Bk]

theorem g_slices_ContainsFunc_LLI_LI_of_i_Space_growOrthogonal_c1_c1_ok {a0 : List (List Int)} {a1_0_0 : Int} {a1_0_1 : List Int} {a1_1_0 : List Int} {r : Bool} (h : g_slices_ContainsFunc_LLI_LI_of_i_Space_growOrthogonal_c1_c1 a0 a1_0_0 a1_0_1 a1_1_0 = some r) :
  VCall Try.prog 39 [dM a0,.fn 40 [.ptr [i64 a1_0_0,dI a1_0_1],.ptr [dI a1_1_0]]] [.sc (.bool r)] := by
 unfold g_slices_ContainsFunc_LLI_LI_of_i_Space_growOrthogonal_c1_c1 at h
 refine VCall.enter Try.call39 Try.func39 rfl 9 Try.ntmps39 (by simp) [.tmp 4] rfl ?_
 show VW _ _ _ (mk [(0,.val (dM a0)),(1,.val (.fn 40 [.ptr [i64 a1_0_0,dI a1_0_1],.ptr [dI a1_1_0]]))]) _
 refine zs [(0,.val (dM a0)),(1,.val (.fn 40 [.ptr [i64 a1_0_0,dI a1_0_1],.ptr [dI a1_1_0]]))] ?_ ?_
 ·simp
 obtain ⟨v1,N,h⟩ := bind_some h
 refine VW.ws tau_ok (Sound.none.add 7 (g_slices_IndexFunc_LLI_LI_of_i_Space_growOrthogonal_c1_c1_ok N) rfl) _ [(4,.val (.bool (ile 0 v1)))] rfl ?_ ?_
 ·simp
 cases h
 refine VW.ret ?_
 simp [Post,PostM,PostC,PostC2,Nx,Bk]

theorem g_slices_Clone_LLI_LI_ok {a0 r : List (List Int)} (h : g_slices_Clone_LLI_LI a0 = some r) :
  VCall Try.prog 42 [dM a0] [.own false (dM r)] := by
 unfold g_slices_Clone_LLI_LI at h
 obtain ⟨hc,h⟩ := chk_some h
 cases h
 refine VCall.enter Try.call42 Try.func42 rfl 8 Try.ntmps42 (by simp) [.tmp 2] rfl ?_
 show VW _ _ _ (mk [(0,.val (dM a0))]) _
 refine zs [(0,.val (dM a0))] ?_ ?_
 ·simp
 refine VW.sqc fun K hK hCK => ?_
 refine VW.nilcmp tau_ok (T := 34) (e := 24) rfl rfl rfl rfl rfl (by simp) rfl rfl rfl (by simp) fun b hb => ?_
 refine VW.cond rfl (fun h1 => ?_) (fun h1 => ?_)
 ·have e := hb h1
  simp at e
  subst e
  refine zs [(2,.ref 2 [] true (.list []))] ?_ ?_
  ·simp
  refine VW.fits (fl' := [(2,.ref 2 [] false (.list []))]) (Fits.weak (s := 2) rfl (by simp) (Fits.of rfl)) ?_
  refine VW.ret ?_
  simp [Post,Nx]
 ·refine VW.skip ?_
  refine hK _ ?_
  by_cases he : ∀ x : List Int,¬ x ∈ a0
  ·refine zs [(2,.ref 2 [] true (dM a0))] ?_ ?_
   ·simp [hc,he]
   refine VW.fits (fl' := [(2,.ref 2 [] false (dM a0))]) (Fits.weak (s := 2) rfl (by simp) (Fits.of rfl)) ?_
   refine VW.ret ?_
   simp [Post,Nx]
  refine zs [(2,.ref 2 [] false (dM a0))] ?_ ?_
  ·simp [hc,he]
  refine VW.ret ?_
  simp [Post,Nx]

theorem g_slices_Clone_LI_I_ok {a0 r : List Int} (h : g_slices_Clone_LI_I a0 = some r) :
  VCall Try.prog 43 [dI a0] [.own true (dI r)] := by
 unfold g_slices_Clone_LI_I at h
 obtain ⟨hc,h⟩ := chk_some h
 cases h
 refine VCall.enter Try.call43 Try.func43 rfl 8 Try.ntmps43 (by simp) [.tmp 2] rfl ?_
 show VW _ _ _ (mk [(0,.val (dI a0))]) _
 refine zs [(0,.val (dI a0))] ?_ ?_
 ·simp
 refine VW.sqc fun K hK hCK => ?_
 refine VW.nilcmp tau_ok (T := 24) (e := 2) rfl rfl rfl rfl rfl (by simp) rfl rfl rfl (by simp) fun b hb => ?_
 refine VW.cond rfl (fun h1 => ?_) (fun h1 => ?_)
 ·have e := hb h1
  simp at e
  subst e
  refine zs [(2,.ref 2 [] true (.list []))] ?_ ?_
  ·simp
  refine VW.ret ?_
  simp [Post,Nx]
 ·refine VW.skip ?_
  refine hK _ ?_
  refine zs [(2,.ref 2 [] true (dI a0))] ?_ ?_
  ·simp [hc]
  refine VW.ret ?_
  simp [Post,Nx]

theorem i_Space_growOrthogonal_c1_ok {self : Int → (List Int) → (List (List Int)) → (List (List (List Int))) → Option (List (List (List Int)))} (hself : ∀ {a0_0 a0_1 a1 a2} {r : List (List (List Int))},self a0_0 a0_1 a1 a2 = some r → VTkU Try.prog 18 [.agg [i64 a0_0,dI a0_1],dM a1] (dC a2) (dC r)) {a0 : List Int} {a1_0 : Int} {a1_1 : List Int} {a2_0 : Int} {a3_0 : List (List Int)} {a4_0 : List (List (List Int))} {r : Bool × Int × (List (List (List Int)))} (h : i_Space_growOrthogonal_c1 self a0 a1_0 a1_1 a2_0 a3_0 a4_0 = some r) :
  VCloR Try.prog 37 [dI a0] [.fro (.ptr [i64 a1_0,dI a1_1]),.own [i64 a2_0],.fro (.ptr [dM a3_0]),.own [dC a4_0]] [.fro (.ptr [i64 a1_0,dI a1_1]),.own [i64 r.2.1],.fro (.ptr [dM a3_0]),.own [dC r.2.2]] [.bool r.1] := by
 unfold i_Space_growOrthogonal_c1 at h
 refine VCloR.enter Try.call37 Try.func37 rfl 31 5 Try.ntmps37 rfl (by decide) [.tmp 6] rfl ?_
 show VW _ _ _ (mk [(0,.val (dI a0)),(1,.val (.ptr [i64 a1_0,dI a1_1])),(2,.ref 2 [] true (.ptr [i64 a2_0])),(3,.val (.ptr [dM a3_0])),(4,.ref 4 [] true (.ptr [dC a4_0]))]) _
 refine zs [(1,.val (.ptr [i64 a1_0,dI a1_1])),(2,.ref 2 [] true (.ptr [i64 a2_0])),(3,.val (.ptr [dM a3_0])),(4,.ref 4 [] true (.ptr [dC a4_0])),(5,.val (.ptr [dI a0]))] ?_ ?_
 ·simp
 refine VW.sqc fun K1 hK1 hCK1 => ?_
 obtain ⟨x6,Y,h⟩ := bind_some h
 refine VW.cut [(1,.val (.ptr [i64 a1_0,dI a1_1])),(2,.ref 2 [] true (.ptr [i64 a2_0])),(3,.val (.ptr [dM a3_0])),(4,.ref 4 [] true (.ptr [dC a4_0])),(5,.val (.ptr [dI a0])),(21,.val (.bool x6))] ?_ fun hy => ?_
 rotate_left
 ·clear h
  obtain ⟨v2,Aw,Y⟩ := bind_some Y
  obtain ⟨v3,Bd,Y⟩ := bind_some Y
  obtain ⟨Cx,Cy,Cz,C0⟩ := idx_some Bd
  by_cases Bb : v2 = v3
  ·rw [if_pos Bb] at Y
   have O : ieq v2 v3 = true := by simpa [ieq,ilt,ile] using Bb
   have P := O
   try simp at P
   obtain ⟨v5,Cc,Y⟩ := bind_some Y
   cases Y
   refine VW.wds tau_ok ((Sound.none.add 9 (i_Space_norm_ok Aw) rfl).add 19 (g_slices_ContainsFunc_LLI_LI_of_i_Space_growOrthogonal_c1_c1_ok Cc) rfl) try_mixed _ _ 15 rfl (by kernel_rfl) (by rfl) ?_ hy
   simp [Cx,Cy,Cz,C0,O,P]
  ·rw [if_neg Bb] at Y
   have O : ieq v2 v3 = false := by simpa [ieq,ilt,ile] using Bb
   have P := O
   try simp at P
   cases Y
   refine VW.wds tau_ok (Sound.none.add 9 (i_Space_norm_ok Aw) rfl) try_mixed _ _ 15 rfl (by kernel_rfl) (by rfl) ?_ hy
   simp [Cx,Cy,Cz,C0,O,P]
 obtain ⟨x7,At,h⟩ := bind_some h
 refine VW.tlE [(2,.ref 2 [] true (.ptr [i64 a2_0])),(4,.ref 4 [] true (.ptr [dC x7]))] (hCK1) ?_ ?_
 ·clear At
  refine hK1 _ ?_
  refine zs [(2,.ref 2 [] true (.ptr [i64 a2_0])),(4,.ref 4 [] true (.ptr [dC x7])),(6,.val (.bool false))] ?_ ?_
  ·simp
  cases h
  refine VW.ret ?_
  exact PostRx.r ⟨⟨_,rfl,rfl,rfl⟩,(by intro q hq; simp only [ownsOf,List.mem_cons,List.not_mem_nil,or_false] at hq; rcases hq with rfl | rfl <;> rfl)⟩
 refine VW.cond rfl (fun V => ?_) (fun V => ?_)
 rotate_left
 ·
  replace V : ¬ (x6 = true) := by simpa [ieq,ilt,ile] using V
  rw [if_neg V] at At
  refine VW.skip ?_
  cases At
  exact Fits.of rfl
 replace V : x6 = true := by simpa [ieq,ilt,ile] using V
 rw [if_pos V] at At
 obtain ⟨v10,Bm,At⟩ := bind_some At
 obtain ⟨v11,Cd,At⟩ := bind_some At
 obtain ⟨B0,At⟩ := chk_some At
 have Bc := B0
 try simp at Bc
 obtain ⟨v13,A1,At⟩ := bind_some At
 refine VW.dxr2 tau_ok ((Sound.none.add 24 (g_slices_Clone_LLI_LI_ok Bm) rfl).add 26 (g_slices_Clone_LI_I_ok Cd) rfl) try_mixed [some 22,some 23,some 24,some 25,some 26,some 27,some 28,some 29,some 30,none] 8 [(2,.ref 2 [] true (.ptr [i64 a2_0])),(4,.ref 4 [] true (.ptr [dC a4_0])),(22,.val (.agg [i64 a1_0,dI a1_1])),(28,.ref 28 [] false (dM (v10 ++ [v11]))),(29,.ref 4 [0] true (dC a4_0))] _ [(2,.ref 2 [] true (.ptr [i64 a2_0])),(4,.ref 4 [] true (.ptr [.gone])),(30,.ref 30 [] true (dC v13))] [(2,.ref 2 [] true (.ptr [i64 a2_0])),(4,.ref 4 [] true (.ptr [dC v13]))] [1,0,0,0,0,2,2,1,3,3] [[1],[3],[23],[5],[25],[26],[24,27],[4],[22,28,29],[4,30]] [24,26,27,28] _ _ rfl rfl rfl rfl rfl rfl (by kernel_rfl) (by kernel_rfl) (by rfl) ?_ (OStep.fits (f1 := [(2,.ref 2 [] true (.ptr [i64 a2_0])),(4,.ref 4 [] true (.ptr [.gone])),(22,.val (.agg [i64 a1_0,dI a1_1])),(28,.val (dM (v10 ++ [v11]))),(29,.ref 29 [] true (dC a4_0))]) (Fits.part (s := 29) (d := 29) rfl (by decide) (Fits.freeze (s := 28) rfl (by simp) (Fits.of rfl))) (step_tku' rfl rfl rfl (by simp) rfl (by first | rfl | simp) (hself A1))) ?_ ?_ ?_
 ·simp [B0,Bc]
 ·simp [B0,Bc]
 ·simp [B0,Bc]
 cases At
 exact Fits.of rfl

theorem i_Space_vectors_of_i_Space_growOrthogonal_c1_ok {self : Int → (List Int) → (List (List Int)) → (List (List (List Int))) → Option (List (List (List Int)))} (hself : ∀ {a0_0 a0_1 a1 a2} {r : List (List (List Int))},self a0_0 a0_1 a1 a2 = some r → VTkU Try.prog 18 [.agg [i64 a0_0,dI a0_1],dM a1] (dC a2) (dC r)) {a0_0 : Int} {a0_1 : List Int} {a1_0 : Int} {a1_1 : List Int} {a2_0 : Int} {a3_0 : List (List Int)} {a4_0 : List (List (List Int))} {r : Bool × Int × (List (List (List Int)))} (h : i_Space_vectors_of_i_Space_growOrthogonal_c1 self a0_0 a0_1 a1_0 a1_1 a2_0 a3_0 a4_0 = some r) :
  VHof Try.prog 36 37 41 [.agg [i64 a0_0,dI a0_1]] [.fro (.ptr [i64 a1_0,dI a1_1]),.own [i64 a2_0],.fro (.ptr [dM a3_0]),.own [dC a4_0]] [.fro (.ptr [i64 a1_0,dI a1_1]),.own [i64 r.2.1],.fro (.ptr [dM a3_0]),.own [dC r.2.2]] [.bool r.1] := by
 unfold i_Space_vectors_of_i_Space_growOrthogonal_c1 at h
 refine VHof.enter Try.call36 Try.func36 rfl 41 2 Try.ntmps36 rfl (by decide) [.tmp 4] rfl rfl ?_
 show VW _ _ _ (mk [(0,.val (.agg [i64 a0_0,dI a0_1])),(1,.clo 37 [.dat (.ptr [i64 a1_0,dI a1_1]),.tok 42,.dat (.ptr [dM a3_0]),.tok 44]),(42,.gst 42 [i64 a2_0]),(44,.gst 44 [dC a4_0])]) _
 refine zs [(1,.clo 37 [.dat (.ptr [i64 a1_0,dI a1_1]),.tok 42,.dat (.ptr [dM a3_0]),.tok 44]),(2,.val (.ptr [i64 a0_0,dI a0_1])),(42,.gst 42 [i64 a2_0]),(44,.gst 44 [dC a4_0])] ?_ ?_
 ·simp
 obtain ⟨v1,N,h⟩ := bind_some h
 obtain ⟨Cp,h⟩ := chk_some h
 have Bq := Cp
 try simp at Bq
 refine VW.ws tau_ok (Sound.none.add 8 (i_Space_dim_ok N) rfl) _ [(1,.clo 37 [.dat (.ptr [i64 a1_0,dI a1_1]),.tok 42,.dat (.ptr [dM a3_0]),.tok 44]),(2,.val (.ptr [i64 a0_0,dI a0_1])),(5,.ref 5 [] true (dI (List.replicate v1.toNat 0))),(42,.gst 42 [i64 a2_0]),(44,.gst 44 [dC a4_0])] rfl ?_ ?_
 ·simp [Cp,Bq]
 obtain ⟨x3,Ae,h⟩ := bind_some h
 refine VW.tlO (fun y5 => []) x3 (Cl.postH _) ?_ ?_
 ·clear Ae
  rintro y5 rfl
  dsimp only at h
  cases h
 refine VW.block ?_
 refine VW.loopF (i_Space_vectors_of_i_Space_growOrthogonal_c1_L0 a0_0 a1_0 a1_1 a3_0 self) (fun s3 => [(1,.clo 37 [.dat (.ptr [i64 a1_0,dI a1_1]),.tok 42,.dat (.ptr [dM a3_0]),.tok 44]),(2,.val (.ptr [i64 a0_0,dI a0_1])),(5,.ref 5 [] true (dI s3.1)),(42,.gst 42 [i64 s3.2.1]),(44,.gst 44 [dC s3.2.2])]) Ae (Fits.of rfl) ?_
 clear Ae
 intro s3 ox3 H Bz
 unfold i_Space_vectors_of_i_Space_growOrthogonal_c1_L0 at H
 refine VW.block ?_
 refine VW.sqc fun K6 hK6 hCK6 => ?_
 obtain ⟨v7,Ax,H⟩ := bind_some H
 refine VW.mid tau_ok Sound.none _ 2 [(1,.clo 37 [.dat (.ptr [i64 a1_0,dI a1_1]),.tok 42,.dat (.ptr [dM a3_0]),.tok 44]),(2,.val (.ptr [i64 a0_0,dI a0_1])),(5,.ref 5 [] true (dI s3.1)),(10,.clo 37 [.dat (.ptr [i64 a1_0,dI a1_1]),.tok 42,.dat (.ptr [dM a3_0]),.tok 44]),(11,.ref 5 [] true (dI s3.1)),(42,.gst 42 [i64 s3.2.1]),(44,.gst 44 [dC s3.2.2])] _ (fun _ => [(1,.clo 37 [.dat (.ptr [i64 a1_0,dI a1_1]),.tok 42,.dat (.ptr [dM a3_0]),.tok 44]),(2,.val (.ptr [i64 a0_0,dI a0_1])),(5,.ref 5 [] true (dI s3.1)),(12,.val (.bool v7.1)),(42,.gst 42 [i64 v7.2.1]),(44,.gst 44 [dC v7.2.2])]) (fun _ => True) _ rfl rfl rfl ?_ (step_cloR [(42,42,1,true,[i64 v7.2.1]),(44,44,3,true,[dC v7.2.2])] [1,10] rfl  rfl (by simp) rfl rfl (i_Space_growOrthogonal_c1_ok hself Ax) (.cons (CapOkS.dat') (.cons (CapOkS.tok' 42 true rfl) (.cons (CapOkS.dat') (.cons (CapOkS.tok' 44 true rfl) (.nil))))) rfl (show List.Nodup ([42,44] : List Nat) by decide) (show ∀ t ∈ ([5] : List Nat),t ∉ ([42,44] : List Nat) by decide) (by intro q hq; simp only [List.mem_cons,List.not_mem_nil,or_false] at hq; rcases hq with rfl | rfl <;> exact ⟨rfl,rfl,_,rfl⟩) (by intro s hs; simp only [List.mem_cons,List.not_mem_nil,or_false] at hs; rcases hs with rfl | rfl <;> rfl)) (fun _ _ => ?_) (fun _ _ => ?_)
 ·simp
 ·simp
 refine VW.cond rfl (fun A2 => ?_) (fun A2 => ?_)
 ·
  replace A2 : v7.1 = true := by simpa [ieq,ilt,ile] using A2
  rw [if_pos A2] at H
  refine zs [(1,.clo 37 [.dat (.ptr [i64 a1_0,dI a1_1]),.tok 42,.dat (.ptr [dM a3_0]),.tok 44]),(4,.val (.bool true)),(42,.gst 42 [i64 v7.2.1]),(44,.gst 44 [dC v7.2.2])] ?_ ?_
  ·simp
  cases H
  have hq := Bz _ rfl
  subst hq
  dsimp only at h
  cases h
  refine VW.ret ?_
  exact PostHx.r ⟨⟨_,rfl,rfl,rfl⟩,rfl,(by intro q hq; simp only [ownsOf,List.mem_cons,List.not_mem_nil,or_false] at hq; rcases hq with rfl | rfl <;> rfl)⟩
 replace A2 : ¬ (v7.1 = true) := by simpa [ieq,ilt,ile] using A2
 rw [if_neg A2] at H
 refine VW.skip ?_
 refine hK6 _ ?_
 refine zs [(1,.clo 37 [.dat (.ptr [i64 a1_0,dI a1_1]),.tok 42,.dat (.ptr [dM a3_0]),.tok 44]),(2,.val (.ptr [i64 a0_0,dI a0_1])),(5,.ref 5 [] true (dI s3.1)),(6,.val (i64 (w64 ((s3.1.length : Int) - 1)))),(42,.gst 42 [i64 v7.2.1]),(44,.gst 44 [dC v7.2.2])] ?_ ?_
 ·simp
 refine VW.sqc fun K9 hK9 hCK9 => ?_
 obtain ⟨x10,Ch,H⟩ := bind_some H
 refine VW.tlE [(1,.clo 37 [.dat (.ptr [i64 a1_0,dI a1_1]),.tok 42,.dat (.ptr [dM a3_0]),.tok 44]),(2,.val (.ptr [i64 a0_0,dI a0_1])),(5,.ref 5 [] true (dI x10.1)),(6,.val (i64 x10.2)),(42,.gst 42 [i64 v7.2.1]),(44,.gst 44 [dC v7.2.2])] (hCK9) ?_ ?_
 ·clear Ch
  refine hK9 _ ?_
  refine VW.sqc fun K18 hK18 hCK18 => ?_
  refine zs [(1,.clo 37 [.dat (.ptr [i64 a1_0,dI a1_1]),.tok 42,.dat (.ptr [dM a3_0]),.tok 44]),(2,.val (.ptr [i64 a0_0,dI a0_1])),(5,.ref 5 [] true (dI x10.1)),(6,.val (i64 x10.2)),(34,.val (.bool (ilt x10.2 0))),(42,.gst 42 [i64 v7.2.1]),(44,.gst 44 [dC v7.2.2])] ?_ ?_
  ·simp
  refine VW.cond rfl (fun X => ?_) (fun X => ?_)
  rotate_left
  ·
   replace X : ¬ (x10.2 < 0) := by simpa [ieq,ilt,ile] using X
   rw [if_neg X] at H
   refine VW.skip ?_
   refine hK18 _ ?_
   obtain ⟨v20,Dk,H⟩ := bind_some H
   obtain ⟨C1,C2,C3,C4⟩ := idx_some Dk
   refine zr [(1,.clo 37 [.dat (.ptr [i64 a1_0,dI a1_1]),.tok 42,.dat (.ptr [dM a3_0]),.tok 44]),(2,.val (.ptr [i64 a0_0,dI a0_1])),(5,.ref 5 [] true (dI (x10.1.set x10.2.toNat (w64 (v20 + 1))))),(42,.gst 42 [i64 v7.2.1]),(44,.gst 44 [dC v7.2.2])] ?_ ?_
   ·simp [C1,C2,C3,C4]
   cases H
   exact ⟨_,rfl,Fits.of rfl⟩
  replace X : x10.2 < 0 := by simpa [ieq,ilt,ile] using X
  rw [if_pos X] at H
  refine zs [(1,.clo 37 [.dat (.ptr [i64 a1_0,dI a1_1]),.tok 42,.dat (.ptr [dM a3_0]),.tok 44]),(4,.val (.bool false)),(42,.gst 42 [i64 v7.2.1]),(44,.gst 44 [dC v7.2.2])] ?_ ?_
  ·simp
  cases H
  have hq := Bz _ rfl
  subst hq
  dsimp only at h
  cases h
  refine VW.ret ?_
  exact PostHx.r ⟨⟨_,rfl,rfl,rfl⟩,rfl,(by intro q hq; simp only [ownsOf,List.mem_cons,List.not_mem_nil,or_false] at hq; rcases hq with rfl | rfl <;> rfl)⟩
 refine VW.block ?_
 refine VW.loopF (i_Space_vectors_of_i_Space_growOrthogonal_c1_L1 a0_0) (fun s10 => [(1,.clo 37 [.dat (.ptr [i64 a1_0,dI a1_1]),.tok 42,.dat (.ptr [dM a3_0]),.tok 44]),(2,.val (.ptr [i64 a0_0,dI a0_1])),(5,.ref 5 [] true (dI s10.1)),(6,.val (i64 s10.2)),(42,.gst 42 [i64 v7.2.1]),(44,.gst 44 [dC v7.2.2])]) Ch (Fits.of rfl) ?_
 clear Ch
 intro s10 ox10 R C5
 unfold i_Space_vectors_of_i_Space_growOrthogonal_c1_L1 at R
 refine VW.sqc fun K12 hK12 hCK12 => ?_
 obtain ⟨x15,Z,R⟩ := bind_some R
 refine VW.cut [(1,.clo 37 [.dat (.ptr [i64 a1_0,dI a1_1]),.tok 42,.dat (.ptr [dM a3_0]),.tok 44]),(2,.val (.ptr [i64 a0_0,dI a0_1])),(5,.ref 5 [] true (dI s10.1)),(6,.val (i64 s10.2)),(27,.val (.bool x15)),(42,.gst 42 [i64 v7.2.1]),(44,.gst 44 [dC v7.2.2])] ?_ fun hy => ?_
 rotate_left
 ·clear R
  by_cases B1 : 0 ≤ s10.2
  ·rw [if_pos B1] at Z
   have Au : ile 0 s10.2 = true := by simpa [ieq,ilt,ile] using B1
   have Av := Au
   try simp at Av
   obtain ⟨v14,Br,Z⟩ := bind_some Z
   obtain ⟨Bt,Bu,Bv,Bw⟩ := idx_some Br
   cases Z
   refine VW.wds tau_ok Sound.none try_mixed _ _ 12 rfl (by kernel_rfl) (by rfl) ?_ hy
   simp [Au,Av,Bt,Bu,Bv,Bw]
  ·rw [if_neg B1] at Z
   have Au : ile 0 s10.2 = false := by simpa [ieq,ilt,ile] using B1
   have Av := Au
   try simp at Av
   cases Z
   refine VW.wds tau_ok Sound.none try_mixed _ _ 12 rfl (by kernel_rfl) (by rfl) ?_ hy
   simp [Au,Av]
 refine VW.cond rfl (fun A8 => ?_) (fun A8 => ?_)
 rotate_left
 ·
  replace A8 : ¬ (x15 = true) := by simpa [ieq,ilt,ile] using A8
  rw [if_neg A8] at R
  refine VW.exit ?_
  cases R
  have hq := C5 _ rfl
  subst hq
  exact Fits.of rfl
 replace A8 : x15 = true := by simpa [ieq,ilt,ile] using A8
 rw [if_pos A8] at R
 refine VW.skip ?_
 refine hK12 _ ?_
 refine VW.block ?_
 obtain ⟨v17,Dl,R⟩ := bind_some R
 obtain ⟨C6,C7,C8,C9⟩ := idx_some Dl
 refine zs [(1,.clo 37 [.dat (.ptr [i64 a1_0,dI a1_1]),.tok 42,.dat (.ptr [dM a3_0]),.tok 44]),(2,.val (.ptr [i64 a0_0,dI a0_1])),(5,.ref 5 [] true (dI (s10.1.set s10.2.toNat 0))),(6,.val (i64 s10.2)),(42,.gst 42 [i64 v7.2.1]),(44,.gst 44 [dC v7.2.2])] ?_ ?_
 ·simp [C6,C7,C8,C9]
 refine zr [(1,.clo 37 [.dat (.ptr [i64 a1_0,dI a1_1]),.tok 42,.dat (.ptr [dM a3_0]),.tok 44]),(2,.val (.ptr [i64 a0_0,dI a0_1])),(5,.ref 5 [] true (dI (s10.1.set s10.2.toNat 0))),(6,.val (i64 (w64 (s10.2 - 1)))),(42,.gst 42 [i64 v7.2.1]),(44,.gst 44 [dC v7.2.2])] ?_ ?_
 ·simp
 cases R
 exact ⟨_,rfl,Fits.of rfl⟩

theorem i_Space_growOrthogonal_b_ok {self : Int → (List Int) → (List (List Int)) → (List (List (List Int))) → Option (List (List (List Int)))} (hself : ∀ {a0_0 a0_1 a1 a2} {r : List (List (List Int))},self a0_0 a0_1 a1 a2 = some r → VTkU Try.prog 18 [.agg [i64 a0_0,dI a0_1],dM a1] (dC a2) (dC r)) {a0_0 : Int} {a0_1 : List Int} {a1 : List (List Int)} {a2 : List (List (List Int))} {r : List (List (List Int))} (h : i_Space_growOrthogonal_b self a0_0 a0_1 a1 a2 = some r) :
  VTkU Try.prog 18 [.agg [i64 a0_0,dI a0_1],dM a1] (dC a2) (dC r) := by
 unfold i_Space_growOrthogonal_b at h
 refine VTkU.enter Try.call18 Try.func18 rfl 23 Try.ntmps18 (by simp) 6 rfl ?_
 show VW _ _ _ (mk [(0,.val (.agg [i64 a0_0,dI a0_1])),(1,.val (dM a1)),(2,.ref 2 [] true (dC a2))]) _
 refine zs [(3,.val (.ptr [i64 a0_0,dI a0_1])),(4,.val (.ptr [dM a1])),(5,.ref 5 [] true (.ptr [dC a2]))] ?_ ?_
 ·simp
 refine zs [(3,.val (.ptr [i64 a0_0,dI a0_1])),(4,.val (.ptr [dM a1])),(5,.ref 5 [] true (.ptr [dC a2])),(7,.ref 7 [] true (.ptr [i64 (a1.length : Int)]))] ?_ ?_
 ·simp
 refine VW.sqc fun K1 hK1 hCK1 => ?_
 obtain ⟨v2,Aw,h⟩ := bind_some h
 refine VW.wds tau_ok (Sound.none.add 12 (i_Space_dim_ok Aw) rfl) try_mixed _ [(3,.val (.ptr [i64 a0_0,dI a0_1])),(4,.val (.ptr [dM a1])),(5,.ref 5 [] true (.ptr [dC a2])),(7,.ref 7 [] true (.ptr [i64 (a1.length : Int)])),(13,.val (.bool (ieq (a1.length : Int) v2)))] 4 rfl (by kernel_rfl) (by rfl) ?_ ?_
 ·simp
 refine VW.cond rfl (fun W => ?_) (fun W => ?_)
 ·
  replace W : (a1.length : Int) = v2 := by simpa [ieq,ilt,ile] using W
  rw [if_pos W] at h
  obtain ⟨v4,B2,h⟩ := bind_some h
  obtain ⟨Dn,h⟩ := chk_some h
  have Da := Dn
  try simp at Da
  refine VW.wxs tau_ok (Sound.none.add 16 (i_transpose_ok B2) rfl) try_mixed [some 14,some 15,some 16,some 17,some 18,some 6] [(6,.ref 6 [] true (dC (a2 ++ [v4])))] [1,0,0,2,3,3] [[5],[4],[15],[16],[14,17],[18]] [16,17] rfl rfl (by kernel_rfl) (by rfl) ?_ ?_
  ·simp [Dn,Da]
  cases h
  refine VW.ret ?_
  simp [Post,PostM,PostC,PostC2,Nx,Bk]
 replace W : ¬ ((a1.length : Int) = v2) := by simpa [ieq,ilt,ile] using W
 rw [if_neg W] at h
 refine VW.skip ?_
 refine hK1 _ ?_
 obtain ⟨v6,Cb,h⟩ := bind_some h
 refine VW.mid2 tau_ok Sound.none [some 19,some 20,some 21] 1 0 [(3,.val (.ptr [i64 a0_0,dI a0_1])),(4,.val (.ptr [dM a1])),(5,.ref 5 [] true (.ptr [dC a2])),(7,.ref 7 [] true (.ptr [i64 (a1.length : Int)])),(19,.val (.agg [i64 a0_0,dI a0_1]))] _ [(3,.val (.ptr [i64 a0_0,dI a0_1])),(4,.val (.ptr [dM a1])),(5,.ref 5 [] true (.ptr [dC a2])),(7,.ref 7 [] true (.ptr [i64 (a1.length : Int)])),(19,.val (.agg [i64 a0_0,dI a0_1])),(20,.clo 37 [.dat (.ptr [i64 a0_0,dI a0_1]),.tok 7,.dat (.ptr [dM a1]),.tok 5])] _ [(5,.ref 5 [] true (.ptr [dC v6.2.2]))] _ _ rfl rfl rfl rfl rfl ?_ (step_mkf rfl rfl (by simp) rfl) ?_ (step_hof [(7,7,1,false,[i64 v6.2.1]),(5,5,3,false,[dC v6.2.2])] [20] rfl rfl rfl (by simp) rfl rfl (i_Space_vectors_of_i_Space_growOrthogonal_c1_ok hself Cb) (.cons (CapOkS.dat') (.cons (CapOkS.tok' 7 false rfl) (.cons (CapOkS.dat') (.cons (CapOkS.tok' 5 false rfl) (.nil))))) rfl (show List.Nodup ([7,5] : List Nat) by decide) (show ∀ t ∈ ([] : List Nat),t ∉ ([7,5] : List Nat) by decide) (by intro q hq; simp only [List.mem_cons,List.not_mem_nil,or_false] at hq; rcases hq with rfl | rfl <;> exact ⟨rfl,rfl,_,rfl⟩) (by intro s hs; simp only [List.mem_cons,List.not_mem_nil,or_false] at hs; rcases hs with rfl <;> rfl)) ?_ ?_
 ·simp
 ·simp
 ·simp
 refine zs [(6,.ref 5 [0] true (dC v6.2.2))] ?_ ?_
 ·simp
 have Do := Option.some.inj h
 subst Do
 refine VW.fits (fl' := [(6,.ref 6 [] true (dC v6.2.2))]) (Fits.part (s := 6) rfl (by decide) (Fits.of rfl)) ?_
 refine VW.ret ?_
 simp [Post,PostM,PostC,PostC2,Nx,Bk]
theorem i_Space_growOrthogonal_ok : ∀ {n : Nat} {a0_0 : Int} {a0_1 : List Int} {a1 : List (List Int)} {a2 : List (List (List Int))} {r : List (List (List Int))} (_ : i_Space_growOrthogonal n a0_0 a0_1 a1 a2 = some r),
  VTkU Try.prog 18 [.agg [i64 a0_0,dI a0_1],dM a1] (dC a2) (dC r)
 | 0,_,_,_,_,_,h => by cases h
 | n + 1,_,_,_,_,_,h => i_Space_growOrthogonal_b_ok (fun h => i_Space_growOrthogonal_ok (n := n) h) h

theorem i_AllOrthogonal_ok {a0_0 : Int} {a0_1 : List Int} {r : (List (List (List Int))) × Int} (h : i_AllOrthogonal a0_0 a0_1 = some r) :
  VCall Try.prog 6 [.agg [i64 a0_0,dI a0_1]] [.own true (dC r.1),.sc (i64 r.2)] := by
 unfold i_AllOrthogonal at h
 refine VCall.enter Try.call6 Try.func6 rfl 18 Try.ntmps6 (by simp) [.tmp 2,.tmp 3] rfl ?_
 show VW _ _ _ (mk [(0,.val (.agg [i64 a0_0,dI a0_1]))]) _
 refine zs [(1,.val (.ptr [i64 a0_0,dI a0_1]))] ?_ ?_
 ·simp
 obtain ⟨v1,N,h⟩ := bind_some h
 refine VW.ws tau_ok (Sound.none.add 8 (i_CountOrthogonal_ok N) rfl) _ [(1,.val (.ptr [i64 a0_0,dI a0_1])),(4,.val (i64 v1.1)),(5,.val (i64 v1.2))] rfl ?_ ?_
 ·simp
 refine VW.sqc fun K2 hK2 hCK2 => ?_
 refine zs [(1,.val (.ptr [i64 a0_0,dI a0_1])),(4,.val (i64 v1.1)),(5,.val (i64 v1.2)),(12,.val (.bool (!(ieq v1.2 0))))] ?_ ?_
 ·simp
 refine VW.cond rfl (fun W => ?_) (fun W => ?_)
 ·
  replace W : ¬ v1.2 = 0 := by simpa [ieq,ilt,ile] using W
  rw [if_pos W] at h
  refine zs [(2,.ref 2 [] true (.list [])),(3,.val (i64 v1.2))] ?_ ?_
  ·simp
  cases h
  refine VW.ret ?_
  simp [Post,PostM,PostC,PostC2,Nx,Bk]
 replace W : ¬ (¬ v1.2 = 0) := by simpa [ieq,ilt,ile] using W
 rw [if_neg W] at h
 refine VW.skip ?_
 refine hK2 _ ?_
 refine VW.sqc fun K4 hK4 hCK4 => ?_
 refine zs [(1,.val (.ptr [i64 a0_0,dI a0_1])),(15,.val (.bool (ilt 500 v1.1)))] ?_ ?_
 ·simp
 refine VW.cond rfl (fun C => ?_) (fun C => ?_)
 ·
  replace C : 500 < v1.1 := by simpa [ieq,ilt,ile] using C
  rw [if_pos C] at h
  refine zs [(2,.ref 2 [] true (.list [])),(3,.val (i64 3))] ?_ ?_
  ·simp
  cases h
  refine VW.ret ?_
  simp [Post,PostM,PostC,PostC2,Nx,Bk]
 replace C : ¬ (500 < v1.1) := by simpa [ieq,ilt,ile] using C
 rw [if_neg C] at h
 refine VW.skip ?_
 refine hK4 _ ?_
 obtain ⟨v6,Cb,h⟩ := bind_some h
 refine VW.mid tau_ok Sound.none _ 1 [(16,.val (.agg [i64 a0_0,dI a0_1]))] _ (fun _ => [(2,.ref 2 [] true (dC v6)),(3,.val (i64 0))]) (fun _ => True) _ rfl rfl rfl ?_ (step_tku' rfl rfl rfl (by simp) rfl (by first | rfl | simp) (i_Space_growOrthogonal_ok (n := BIG) Cb)) (fun _ _ => ?_) (fun _ _ => ?_)
 ·simp
 ·simp
 cases h
 refine VW.ret ?_
 simp [Post,PostM,PostC,PostC2,Nx,Bk]

theorem s_l01Prime_ok {a0 : Int} {r : Bool} (h : s_l01Prime a0 = some r) :
  VCall Try.prog 44 [i64 a0] [.sc (.bool r)] := by
 unfold s_l01Prime at h
 refine VCall.enter Try.call44 Try.func44 rfl 21 Try.ntmps44 (by simp) [.tmp 2] rfl ?_
 show VW _ _ _ (mk [(0,.val (i64 a0))]) _
 refine zs [(0,.val (i64 a0))] ?_ ?_
 ·simp
 obtain ⟨x5,Af,h⟩ := bind_some h
 refine VW.cut [(2,.val (.bool x5))] ?_ fun hy => ?_
 rotate_left
 ·clear h
  by_cases A9 : a0 = 3
  ·rw [if_pos A9] at Af
   have L : ieq a0 3 = true := by simpa [ieq,ilt,ile] using A9
   have M := L
   try simp at M
   cases Af
   refine VW.ws tau_ok Sound.none _ _ rfl ?_ hy
   simp [L,M]
  ·rw [if_neg A9] at Af
   have L : ieq a0 3 = false := by simpa [ieq,ilt,ile] using A9
   have M := L
   try simp at M
   by_cases Ba : a0 = 5
   ·rw [if_pos Ba] at Af
    have I : ieq a0 5 = true := by simpa [ieq,ilt,ile] using Ba
    have J := I
    try simp at J
    cases Af
    refine VW.ws tau_ok Sound.none _ _ rfl ?_ hy
    simp [L,M,I,J]
   ·rw [if_neg Ba] at Af
    have I : ieq a0 5 = false := by simpa [ieq,ilt,ile] using Ba
    have J := I
    try simp at J
    by_cases Db : a0 = 7
    ·rw [if_pos Db] at Af
     have Be : ieq a0 7 = true := by simpa [ieq,ilt,ile] using Db
     have Bf := Be
     try simp at Bf
     cases Af
     refine VW.ws tau_ok Sound.none _ _ rfl ?_ hy
     simp [L,M,I,J,Be,Bf]
    ·rw [if_neg Db] at Af
     have Be : ieq a0 7 = false := by simpa [ieq,ilt,ile] using Db
     have Bf := Be
     try simp at Bf
     by_cases Bb : a0 = 11
     ·rw [if_pos Bb] at Af
      have O : ieq a0 11 = true := by simpa [ieq,ilt,ile] using Bb
      have P := O
      try simp at P
      cases Af
      refine VW.ws tau_ok Sound.none _ _ rfl ?_ hy
      simp [L,M,I,J,Be,Bf,O,P]
     ·rw [if_neg Bb] at Af
      have O : ieq a0 11 = false := by simpa [ieq,ilt,ile] using Bb
      have P := O
      try simp at P
      cases Af
      refine VW.ws tau_ok Sound.none _ _ rfl ?_ hy
      simp [L,M,I,J,Be,Bf,O,P]
 cases h
 refine VW.ret ?_
 simp [Post,PostM,PostC,PostC2,Nx,Bk]

theorem s_l01In_ok {a0 : Int} {a1 : Int} {a2 : Int} {r : Bool} (h : s_l01In a0 a1 a2 = some r) :
  VCall Try.prog 45 [i64 a0,i64 a1,i64 a2] [.sc (.bool r)] := by
 unfold s_l01In at h
 refine VCall.enter Try.call45 Try.func45 rfl 15 Try.ntmps45 (by simp) [.tmp 6] rfl ?_
 show VW _ _ _ (mk [(0,.val (i64 a0)),(1,.val (i64 a1)),(2,.val (i64 a2))]) _
 refine zs [(0,.val (i64 a0)),(1,.val (i64 a1)),(2,.val (i64 a2))] ?_ ?_
 ·simp
 obtain ⟨x2,F,h⟩ := bind_some h
 refine VW.cut [(6,.val (.bool x2))] ?_ fun hy => ?_
 rotate_left
 ·clear h
  by_cases A9 : a1 ≤ a0
  ·rw [if_pos A9] at F
   have L : ile a1 a0 = true := by simpa [ieq,ilt,ile] using A9
   have M := L
   try simp at M
   cases F
   refine VW.ws tau_ok Sound.none _ _ rfl ?_ hy
   simp [L,M]
  ·rw [if_neg A9] at F
   have L : ile a1 a0 = false := by simpa [ieq,ilt,ile] using A9
   have M := L
   try simp at M
   cases F
   refine VW.ws tau_ok Sound.none _ _ rfl ?_ hy
   simp [L,M]
 cases h
 refine VW.ret ?_
 simp [Post,PostM,PostC,PostC2,Nx,Bk]

theorem s_l01Numbers_ok {a0 : Int} {a1 : List Int} {r : Bool} (h : s_l01Numbers a0 a1 = some r) :
  VCall Try.prog 46 [i64 a0,dI a1] [.sc (.bool r)] := by
 unfold s_l01Numbers at h
 refine VCall.enter Try.call46 Try.func46 rfl 20 Try.ntmps46 (by simp) [.tmp 4] rfl ?_
 show VW _ _ _ (mk [(0,.val (i64 a0)),(1,.val (dI a1))]) _
 refine zs [(0,.val (i64 a0)),(1,.val (dI a1))] ?_ ?_
 ·simp
 refine VW.sqc fun K1 hK1 hCK1 => ?_
 refine zs [(0,.val (i64 a0)),(1,.val (dI a1)),(5,.val (i64 0))] ?_ ?_
 ·simp
 obtain ⟨x2,F,h⟩ := bind_some h
 refine VW.tlO (fun y4 => []) x2 (hCK1) ?_ ?_
 ·clear F
  rintro y4 rfl
  dsimp only at h
  refine hK1 _ ?_
  refine zs [(4,.val (.bool true))] ?_ ?_
  ·simp
  cases h
  refine VW.ret ?_
  simp [Post,PostM,PostC,PostC2,Nx,Bk]
 refine VW.block ?_
 refine VW.loopF (s_l01Numbers_L0 a0 a1) (fun s2 => [(0,.val (i64 a0)),(1,.val (dI a1)),(5,.val (i64 s2))]) F (Fits.of rfl) ?_
 clear F
 intro s2 ox2 A G
 unfold s_l01Numbers_L0 at A
 refine VW.sqc fun K5 hK5 hCK5 => ?_
 refine zs [(0,.val (i64 a0)),(1,.val (dI a1)),(5,.val (i64 s2)),(9,.val (.bool (ilt s2 (a1.length : Int))))] ?_ ?_
 ·simp
 refine VW.cond rfl (fun B => ?_) (fun B => ?_)
 rotate_left
 ·
  replace B : ¬ (s2 < (a1.length : Int)) := by simpa [ieq,ilt,ile] using B
  rw [if_neg B] at A
  refine VW.exit ?_
  cases A
  have hq := G _ rfl
  subst hq
  exact ⟨_,rfl,Fits.of rfl⟩
 replace B : s2 < (a1.length : Int) := by simpa [ieq,ilt,ile] using B
 rw [if_pos B] at A
 refine VW.skip ?_
 refine hK5 _ ?_
 refine VW.sqc fun K7 hK7 hCK7 => ?_
 refine VW.block ?_
 obtain ⟨v8,A3,A⟩ := bind_some A
 obtain ⟨Al,Am,An,Ao⟩ := idx_some A3
 obtain ⟨v9,Ap,A⟩ := bind_some A
 refine VW.ws tau_ok (Sound.none.add 18 (s_l01In_ok Ap) rfl) _ [(0,.val (i64 a0)),(1,.val (dI a1)),(5,.val (i64 s2)),(19,.val (.bool (!v9)))] rfl ?_ ?_
 ·simp [Al,Am,An,Ao]
 refine VW.cond rfl (fun E => ?_) (fun E => ?_)
 rotate_left
 ·
  replace E : ¬ (v9 = false) := by simpa [ieq,ilt,ile] using E
  rw [if_neg E] at A
  refine VW.skip ?_
  refine hK7 _ ?_
  refine zr [(0,.val (i64 a0)),(1,.val (dI a1)),(5,.val (i64 (w64 (s2 + 1))))] ?_ ?_
  ·simp
  cases A
  exact ⟨_,rfl,Fits.of rfl⟩
 replace E : v9 = false := by simpa [ieq,ilt,ile] using E
 rw [if_pos E] at A
 refine zs [(4,.val (.bool false))] ?_ ?_
 ·simp
 cases A
 have hq := G _ rfl
 subst hq
 dsimp only at h
 cases h
 refine VW.ret ?_
 simp [Post,PostM,PostC,PostC2,Nx,Bk]

theorem s_l03Is_ok {a0_0 : Int} {a0_1 : List Int} {r : Bool} (h : s_l03Is a0_0 a0_1 = some r) :
  VCall Try.prog 19 [.agg [i64 a0_0,dI a0_1]] [.sc (.bool r)] := by
 unfold s_l03Is at h
 refine VCall.enter Try.call19 Try.func19 rfl 19 Try.ntmps19 (by simp) [.tmp 2] rfl ?_
 show VW _ _ _ (mk [(0,.val (.agg [i64 a0_0,dI a0_1]))]) _
 refine zs [(1,.val (.ptr [i64 a0_0,dI a0_1]))] ?_ ?_
 ·simp
 obtain ⟨x6,Y,h⟩ := bind_some h
 refine VW.cut [(2,.val (.bool x6))] ?_ fun hy => ?_
 rotate_left
 ·clear h
  obtain ⟨v1,N,Y⟩ := bind_some Y
  by_cases Ba : v1 = true
  ·rw [if_pos Ba] at Y
   have I : v1 = true := by simpa [ieq,ilt,ile] using Ba
   have J := I
   try simp at J
   obtain ⟨v3,Bd,Y⟩ := bind_some Y
   by_cases Bb : v3 = true
   ·rw [if_pos Bb] at Y
    have O : v3 = true := by simpa [ieq,ilt,ile] using Bb
    have P := O
    try simp at P
    obtain ⟨v5,Cc,Y⟩ := bind_some Y
    cases Y
    refine VW.ws tau_ok (((Sound.none.add 5 (s_l01Prime_ok N) rfl).add 10 (s_l01In_ok Bd) rfl).add 17 (s_l01Numbers_ok Cc) rfl) _ _ rfl ?_ hy
    simp [I,J,O,P]
   ·rw [if_neg Bb] at Y
    have O : v3 = false := by simpa [ieq,ilt,ile] using Bb
    have P := O
    try simp at P
    cases Y
    refine VW.ws tau_ok ((Sound.none.add 5 (s_l01Prime_ok N) rfl).add 10 (s_l01In_ok Bd) rfl) _ _ rfl ?_ hy
    simp [I,J,O,P]
  ·rw [if_neg Ba] at Y
   have I : v1 = false := by simpa [ieq,ilt,ile] using Ba
   have J := I
   try simp at J
   cases Y
   refine VW.ws tau_ok (Sound.none.add 5 (s_l01Prime_ok N) rfl) _ _ rfl ?_ hy
   simp [I,J]
 cases h
 refine VW.ret ?_
 simp [Post,PostM,PostC,PostC2,Nx,Bk]

theorem s_l03Disc_ok {a0_0 : Int} {a0_1 : List Int} {r : Int} (h : s_l03Disc a0_0 a0_1 = some r) :
  VCall Try.prog 20 [.agg [i64 a0_0,dI a0_1]] [.sc (i64 r)] := by
 unfold s_l03Disc at h
 refine VCall.enter Try.call20 Try.func20 rfl 23 Try.ntmps20 (by simp) [.tmp 2] rfl ?_
 show VW _ _ _ (mk [(0,.val (.agg [i64 a0_0,dI a0_1]))]) _
 refine zs [(1,.val (.ptr [i64 a0_0,dI a0_1]))] ?_ ?_
 ·simp
 refine zs [(1,.val (.ptr [i64 a0_0,dI a0_1])),(3,.val (i64 1))] ?_ ?_
 ·simp
 refine VW.sqc fun K1 hK1 hCK1 => ?_
 refine zs [(1,.val (.ptr [i64 a0_0,dI a0_1])),(3,.val (i64 1)),(4,.val (i64 0))] ?_ ?_
 ·simp
 obtain ⟨x2,F,h⟩ := bind_some h
 refine VW.tlE [(3,.val (i64 x2))] (hCK1) ?_ ?_
 ·clear F
  refine hK1 _ ?_
  refine zs [(2,.val (i64 x2))] ?_ ?_
  ·simp
  cases h
  refine VW.ret ?_
  simp [Post,PostM,PostC,PostC2,Nx,Bk]
 refine VW.block ?_
 refine VW.loopF (s_l03Disc_L0 a0_0 a0_1) (fun s2 => [(1,.val (.ptr [i64 a0_0,dI a0_1])),(3,.val (i64 s2.1)),(4,.val (i64 s2.2))]) F (Fits.of rfl) ?_
 clear F
 intro s2 ox2 A G
 unfold s_l03Disc_L0 at A
 refine VW.sqc fun K4 hK4 hCK4 => ?_
 refine zs [(1,.val (.ptr [i64 a0_0,dI a0_1])),(3,.val (i64 s2.1)),(4,.val (i64 s2.2)),(9,.val (.bool (ilt s2.2 (a0_1.length : Int))))] ?_ ?_
 ·simp
 refine VW.cond rfl (fun C => ?_) (fun C => ?_)
 rotate_left
 ·
  replace C : ¬ (s2.2 < (a0_1.length : Int)) := by simpa [ieq,ilt,ile] using C
  rw [if_neg C] at A
  refine VW.exit ?_
  cases A
  have hq := G _ rfl
  subst hq
  exact Fits.of rfl
 replace C : s2.2 < (a0_1.length : Int) := by simpa [ieq,ilt,ile] using C
 rw [if_pos C] at A
 refine VW.skip ?_
 refine hK4 _ ?_
 refine VW.sqc fun K6 hK6 hCK6 => ?_
 refine VW.block ?_
 obtain ⟨v7,Ax,A⟩ := bind_some A
 obtain ⟨Ah,Ai,Aj,Ak⟩ := idx_some Ax
 obtain ⟨Ci,A⟩ := chk_some A
 have Bh := Ci
 try simp at Bh
 refine VW.wdr tau_ok Sound.none try_mixed _ [(1,.val (.ptr [i64 a0_0,dI a0_1])),(3,.val (i64 ((w64 (s2.1 * v7)).tmod a0_0))),(4,.val (i64 s2.2))] 11 rfl (by kernel_rfl) (by rfl) ?_ ?_
 ·simp [Ah,Ai,Aj,Ak,Ci,Bh]
 refine hK6 _ ?_
 refine zr [(1,.val (.ptr [i64 a0_0,dI a0_1])),(3,.val (i64 ((w64 (s2.1 * v7)).tmod a0_0))),(4,.val (i64 (w64 (s2.2 + 1))))] ?_ ?_
 ·simp
 cases A
 exact ⟨_,rfl,Fits.of rfl⟩

theorem s_l08Raise_ok {a0 : Int} {a1 : Int} {r : Int} (h : s_l08Raise a0 a1 = some r) :
  VCall Try.prog 47 [i64 a0,i64 a1] [.sc (i64 r)] := by
 unfold s_l08Raise at h
 refine VCall.enter Try.call47 Try.func47 rfl 14 Try.ntmps47 (by simp) [.tmp 4] rfl ?_
 show VW _ _ _ (mk [(0,.val (i64 a0)),(1,.val (i64 a1))]) _
 refine zs [(0,.val (i64 a0)),(1,.val (i64 a1))] ?_ ?_
 ·simp
 refine zs [(0,.val (i64 a0)),(1,.val (i64 a1)),(5,.val (i64 1))] ?_ ?_
 ·simp
 refine VW.sqc fun K1 hK1 hCK1 => ?_
 obtain ⟨x2,F,h⟩ := bind_some h
 refine VW.tlE [(5,.val (i64 x2))] (hCK1) ?_ ?_
 ·clear F
  refine hK1 _ ?_
  refine zs [(4,.val (i64 x2))] ?_ ?_
  ·simp
  cases h
  refine VW.ret ?_
  simp [Post,PostM,PostC,PostC2,Nx,Bk]
 refine VW.block ?_
 refine VW.loopF (s_l08Raise_L0 a0) (fun s2 => [(0,.val (i64 a0)),(1,.val (i64 s2.1)),(5,.val (i64 s2.2))]) F (Fits.of rfl) ?_
 clear F
 intro s2 ox2 A G
 unfold s_l08Raise_L0 at A
 refine VW.sqc fun K4 hK4 hCK4 => ?_
 refine zs [(0,.val (i64 a0)),(1,.val (i64 s2.1)),(5,.val (i64 s2.2)),(7,.val (.bool (ilt 0 s2.1)))] ?_ ?_
 ·simp
 refine VW.cond rfl (fun C => ?_) (fun C => ?_)
 rotate_left
 ·
  replace C : ¬ (0 < s2.1) := by simpa [ieq,ilt,ile] using C
  rw [if_neg C] at A
  refine VW.exit ?_
  cases A
  have hq := G _ rfl
  subst hq
  exact Fits.of rfl
 replace C : 0 < s2.1 := by simpa [ieq,ilt,ile] using C
 rw [if_pos C] at A
 refine VW.skip ?_
 refine hK4 _ ?_
 refine VW.sqc fun K6 hK6 hCK6 => ?_
 refine VW.block ?_
 refine zr [(0,.val (i64 a0)),(1,.val (i64 s2.1)),(5,.val (i64 (w64 (s2.2 * a0))))] ?_ ?_
 ·simp
 refine hK6 _ ?_
 refine zr [(0,.val (i64 a0)),(1,.val (i64 (w64 (s2.1 - 1)))),(5,.val (i64 (w64 (s2.2 * a0))))] ?_ ?_
 ·simp
 cases A
 exact ⟨_,rfl,Fits.of rfl⟩
end Go.Vam
