import Derived.Test.YtijmfifejmgeaaaR9T
import Derived.Test.YtijmfifejmgeaaaFmG0
namespace Go.Vam
open Go Go.RowKit Go.Proofs
set_option maxRecDepth 100000
set_option linter.unusedSimpArgs false
set_option linter.unusedVariables false

theorem l_big_ok {a0 : List Int} {r : Bool} (h : l_big a0 = some r) :
  VCall Try.prog 23 [.list (a0.map (D.int .u8))] [.sc (.bool r)] := by
 unfold l_big at h
 refine VCall.enter Try.call23 Try.func23 rfl 6 Try.ntmps23 (by simp) [.tmp 2] rfl ?_
 show VW _ _ _ (mk [(0,.val (.list (a0.map (D.int .u8))))]) _
 refine zs [(0,.val (.list (a0.map (D.int .u8))))] ?_ ?_
 ·simp
 refine zs [(2,.val (.bool (ilt 4096 (a0.length : Int))))] ?_ ?_
 ·simp
 cases h
 refine VW.ret ?_
 simp [Post,PostM,PostC,PostC2,Nx,Bk]

theorem s_l01From_ok {a0 : List Int} {r : (List Int) × Int × Int} (h : s_l01From a0 = some r) :
  VCall Try.prog 85 [.list (a0.map (D.int .u8))] [.own false (.ptr [.list (r.1.map (D.int .u8)),i64 r.2.1,.int .u64 r.2.2])] := by
 unfold s_l01From at h
 refine VCall.enter Try.call85 Try.func85 rfl 38 Try.ntmps85 (by simp) [.tmp 2] rfl ?_
 show VW _ _ _ (mk [(0,.val (.list (a0.map (D.int .u8))))]) _
 refine zs [(0,.val (.list (a0.map (D.int .u8))))] ?_ ?_
 ·simp
 refine zs [(0,.val (.list (a0.map (D.int .u8)))),(3,.ref 3 [] false (.ptr [.list (a0.map (D.int .u8)),i64 0,.int .u64 (IntKind.u64.wrap (4409 + (IntKind.u64.wrap ((a0.length : Int)))))]))] ?_ ?_
 ·simp
 refine VW.sqc fun K1 hK1 hCK1 => ?_
 refine zs [(0,.val (.list (a0.map (D.int .u8)))),(3,.ref 3 [] false (.ptr [.list (a0.map (D.int .u8)),i64 0,.int .u64 (IntKind.u64.wrap (4409 + (IntKind.u64.wrap ((a0.length : Int)))))])),(4,.val (i64 0))] ?_ ?_
 ·simp
 obtain ⟨x2,X,h⟩ := bind_some h
 refine VW.tlE [(3,.ref 3 [] false (.ptr [.list (x2.1.map (D.int .u8)),i64 x2.2.1,.int .u64 x2.2.2]))] (hCK1) ?_ ?_
 ·clear X
  refine hK1 _ ?_
  refine zs [(2,.ref 2 [] false (.ptr [.list (x2.1.map (D.int .u8)),i64 x2.2.1,.int .u64 x2.2.2]))] ?_ ?_
  ·simp
  cases h
  refine VW.ret ?_
  simp [Post,PostM,PostC,PostC2,Nx,Bk]
 refine VW.block ?_
 refine VW.loopF (s_l01From_L0 a0) (fun s2 => [(0,.val (.list (a0.map (D.int .u8)))),(3,.ref 3 [] false (.ptr [.list (s2.1.map (D.int .u8)),i64 s2.2.1,.int .u64 s2.2.2.1])),(4,.val (i64 s2.2.2.2))]) X (Fits.of rfl) ?_
 clear X
 intro s2 ox2 A Ax
 unfold s_l01From_L0 at A
 refine VW.sqc fun K4 hK4 hCK4 => ?_
 obtain ⟨x6,Bs,A⟩ := bind_some A
 refine VW.cut [(0,.val (.list (a0.map (D.int .u8)))),(3,.ref 3 [] false (.ptr [.list (s2.1.map (D.int .u8)),i64 s2.2.1,.int .u64 s2.2.2.1])),(4,.val (i64 s2.2.2.2)),(19,.val (.bool x6))] ?_ fun hy => ?_
 rotate_left
 ·clear A
  by_cases Ft : s2.2.2.2 < (a0.length : Int)
  ·rw [if_pos Ft] at Bs
   have Bt : ilt s2.2.2.2 (a0.length : Int) = true := by simpa [ieq,ilt,ile] using Ft
   have Bu := Bt
   try simp at Bu
   cases Bs
   refine VW.ws tau_ok Sound.none _ _ rfl ?_ hy
   simp [Bt,Bu]
  ·rw [if_neg Ft] at Bs
   have Bt : ilt s2.2.2.2 (a0.length : Int) = false := by simpa [ieq,ilt,ile] using Ft
   have Bu := Bt
   try simp at Bu
   cases Bs
   refine VW.ws tau_ok Sound.none _ _ rfl ?_ hy
   simp [Bt,Bu]
 refine VW.cond rfl (fun C8 => ?_) (fun C8 => ?_)
 rotate_left
 ·
  replace C8 : ¬ (x6 = true) := by simpa [ieq,ilt,ile] using C8
  rw [if_neg C8] at A
  refine VW.exit ?_
  cases A
  have hq := Ax _ rfl
  subst hq
  exact Fits.of rfl
 replace C8 : x6 = true := by simpa [ieq,ilt,ile] using C8
 rw [if_pos C8] at A
 refine VW.skip ?_
 refine hK4 _ ?_
 refine VW.sqc fun K8 hK8 hCK8 => ?_
 refine VW.block ?_
 obtain ⟨v9,Cp,A⟩ := bind_some A
 obtain ⟨Fw,Fx,Fy,Fz⟩ := idx_some Cp
 refine VW.wdr tau_ok Sound.none try_mixed _ [(0,.val (.list (a0.map (D.int .u8)))),(3,.ref 3 [] false (.ptr [.list (s2.1.map (D.int .u8)),i64 s2.2.1,.int .u64 (IntKind.u64.wrap ((IntKind.u64.wrap ((IntKind.u64.wrap (s2.2.2.1 * 1099511628211)) + (IntKind.u64.wrap (v9)))) + 11))])),(4,.val (i64 s2.2.2.2))] 15 rfl (by kernel_rfl) (by rfl) ?_ ?_
 ·simp [Fw,Fx,Fy,Fz]
 refine hK8 _ ?_
 refine zr [(0,.val (.list (a0.map (D.int .u8)))),(3,.ref 3 [] false (.ptr [.list (s2.1.map (D.int .u8)),i64 s2.2.1,.int .u64 (IntKind.u64.wrap ((IntKind.u64.wrap ((IntKind.u64.wrap (s2.2.2.1 * 1099511628211)) + (IntKind.u64.wrap (v9)))) + 11))])),(4,.val (i64 (w64 (s2.2.2.2 + 1))))] ?_ ?_
 ·simp
 cases A
 exact ⟨_,rfl,Fits.of rfl⟩

theorem s_l01Next_ok {a0_0 : List Int} {a0_1 : Int} {a0_2 : Int} {a1 : Int} {r : Int × ((List Int) × Int × Int)} (h : s_l01Next a0_0 a0_1 a0_2 a1 = some r) :
  VPtr Try.prog 87 [.list (a0_0.map (D.int .u8)),i64 a0_1,.int .u64 a0_2] [i64 a1] [.sc (i64 r.1)] [.list (r.2.1.map (D.int .u8)),i64 r.2.2.1,.int .u64 r.2.2.2] := by
 unfold s_l01Next at h
 refine VPtr.enter Try.call87 Try.func87 rfl 58 Try.ntmps87 (by simp) [.tmp 4] rfl ?_
 show VW _ _ _ (mk [(0,.ref 0 [] false (.ptr [.list (a0_0.map (D.int .u8)),i64 a0_1,.int .u64 a0_2])),(1,.val (i64 a1))]) _
 refine zs [(0,.ref 0 [] false (.ptr [.list (a0_0.map (D.int .u8)),i64 a0_1,.int .u64 a0_2])),(1,.val (i64 a1))] ?_ ?_
 ·simp
 refine VW.sqc fun K1 hK1 hCK1 => ?_
 refine zs [(0,.ref 0 [] false (.ptr [.list (a0_0.map (D.int .u8)),i64 a0_1,.int .u64 a0_2])),(1,.val (i64 a1)),(7,.val (.bool (ilt a1 1)))] ?_ ?_
 ·simp
 refine VW.cond rfl (fun P => ?_) (fun P => ?_)
 ·
  replace P : a1 < 1 := by simpa [ieq,ilt,ile] using P
  rw [if_pos P] at h
  refine zs [(0,.ref 0 [] false (.ptr [.list (a0_0.map (D.int .u8)),i64 a0_1,.int .u64 a0_2])),(4,.val (i64 0))] ?_ ?_
  ·simp
  cases h
  refine VW.ret ?_
  simp [PostW,resW,PostWC,resWC,Nx,Bk]
 replace P : ¬ (a1 < 1) := by simpa [ieq,ilt,ile] using P
 rw [if_neg P] at h
 refine VW.skip ?_
 refine hK1 _ ?_
 refine zs [(0,.ref 0 [] false (.ptr [.list (a0_0.map (D.int .u8)),i64 a0_1,.int .u64 (IntKind.u64.wrap ((IntKind.u64.wrap (a0_2 * 6364136223846793005)) + 1442695040888963407))])),(1,.val (i64 a1))] ?_ ?_
 ·simp
 refine zs [(0,.ref 0 [] false (.ptr [.list (a0_0.map (D.int .u8)),i64 a0_1,.int .u64 (IntKind.u64.wrap ((IntKind.u64.wrap (a0_2 * 6364136223846793005)) + 1442695040888963407))])),(1,.val (i64 a1)),(5,.val (i64 (w64 (band .u64 (shr .u64 (IntKind.u64.wrap ((IntKind.u64.wrap (a0_2 * 6364136223846793005)) + 1442695040888963407)) 33) 16777215))))] ?_ ?_
 ·simp
 refine VW.sqc fun K3 hK3 hCK3 => ?_
 refine VW.wds tau_ok Sound.none try_mixed _ [(0,.ref 0 [] false (.ptr [.list (a0_0.map (D.int .u8)),i64 a0_1,.int .u64 (IntKind.u64.wrap ((IntKind.u64.wrap (a0_2 * 6364136223846793005)) + 1442695040888963407))])),(1,.val (i64 a1)),(5,.val (i64 (w64 (band .u64 (shr .u64 (IntKind.u64.wrap ((IntKind.u64.wrap (a0_2 * 6364136223846793005)) + 1442695040888963407)) 33) 16777215)))),(33,.val (.bool (ilt a0_1 (a0_0.length : Int))))] 10 rfl (by kernel_rfl) (by rfl) ?_ ?_
 ·simp
 obtain ⟨x4,J,h⟩ := bind_some h
 refine VW.tlE [(0,.ref 0 [] false (.ptr [.list (x4.1.map (D.int .u8)),i64 x4.2.1,.int .u64 x4.2.2.1])),(1,.val (i64 a1)),(5,.val (i64 x4.2.2.2))] (hCK3) ?_ ?_
 ·clear J
  refine hK3 _ ?_
  obtain ⟨Dv,h⟩ := chk_some h
  have Bv := Dv
  try simp at Bv
  refine zs [(0,.ref 0 [] false (.ptr [.list (x4.1.map (D.int .u8)),i64 x4.2.1,.int .u64 x4.2.2.1])),(4,.val (i64 (x4.2.2.2.tmod a1)))] ?_ ?_
  ·simp [Dv,Bv]
  cases h
  refine VW.ret ?_
  simp [PostW,resW,PostWC,resWC,Nx,Bk]
 refine VW.cond rfl (fun Q => ?_) (fun Q => ?_)
 rotate_left
 ·
  replace Q : ¬ (a0_1 < (a0_0.length : Int)) := by simpa [ieq,ilt,ile] using Q
  rw [if_neg Q] at J
  refine VW.skip ?_
  cases J
  exact Fits.of rfl
 replace Q : a0_1 < (a0_0.length : Int) := by simpa [ieq,ilt,ile] using Q
 rw [if_pos Q] at J
 obtain ⟨v7,A5,J⟩ := bind_some J
 obtain ⟨Ao,Ah,Ai,Aj⟩ := idx_some A5
 refine VW.wds tau_ok Sound.none try_mixed _ [(0,.ref 0 [] false (.ptr [.list (a0_0.map (D.int .u8)),i64 a0_1,.int .u64 (IntKind.u64.wrap ((IntKind.u64.wrap (a0_2 * 6364136223846793005)) + 1442695040888963407))])),(1,.val (i64 a1)),(5,.val (i64 (w64 ((w64 (band .u64 (shr .u64 (IntKind.u64.wrap ((IntKind.u64.wrap (a0_2 * 6364136223846793005)) + 1442695040888963407)) 33) 16777215)) + (w64 (v7))))))] 14 rfl (by kernel_rfl) (by rfl) ?_ ?_
 ·simp [Ao,Ah,Ai,Aj]
 refine zr [(0,.ref 0 [] false (.ptr [.list (a0_0.map (D.int .u8)),i64 (w64 (a0_1 + 1)),.int .u64 (IntKind.u64.wrap ((IntKind.u64.wrap (a0_2 * 6364136223846793005)) + 1442695040888963407))])),(1,.val (i64 a1)),(5,.val (i64 (w64 ((w64 (band .u64 (shr .u64 (IntKind.u64.wrap ((IntKind.u64.wrap (a0_2 * 6364136223846793005)) + 1442695040888963407)) 33) 16777215)) + (w64 (v7))))))] ?_ ?_
 ·simp
 cases J
 exact Fits.of rfl

theorem s_l01Pick_ok {a0_0 : List Int} {a0_1 : Int} {a0_2 : Int} {a1 : List Int} {r : Int × ((List Int) × Int × Int)} (h : s_l01Pick a0_0 a0_1 a0_2 a1 = some r) :
  VPtr Try.prog 88 [.list (a0_0.map (D.int .u8)),i64 a0_1,.int .u64 a0_2] [dI a1] [.sc (i64 r.1)] [.list (r.2.1.map (D.int .u8)),i64 r.2.2.1,.int .u64 r.2.2.2] := by
 unfold s_l01Pick at h
 refine VPtr.enter Try.call88 Try.func88 rfl 12 Try.ntmps88 (by simp) [.tmp 4] rfl ?_
 show VW _ _ _ (mk [(0,.ref 0 [] false (.ptr [.list (a0_0.map (D.int .u8)),i64 a0_1,.int .u64 a0_2])),(1,.val (dI a1))]) _
 refine zs [(0,.ref 0 [] false (.ptr [.list (a0_0.map (D.int .u8)),i64 a0_1,.int .u64 a0_2])),(1,.val (dI a1))] ?_ ?_
 ·simp
 obtain ⟨v1,Az,h⟩ := bind_some h
 obtain ⟨v2,A4,h⟩ := bind_some h
 obtain ⟨C9,Bw,Bx,By⟩ := idx_some A4
 refine VW.ws tau_ok (Sound.none.ptrc 9 (s_l01Next_ok Az)) _ [(0,.ref 0 [] false (.ptr [.list (v1.2.1.map (D.int .u8)),i64 v1.2.2.1,.int .u64 v1.2.2.2])),(4,.val (i64 v2))] rfl ?_ ?_
 ·simp [C9,Bw,Bx,By]
 cases h
 refine VW.ret ?_
 simp [PostW,resW,PostWC,resWC,Nx,Bk]

theorem s_l01Prime_ok {a0 : Int} {r : Bool} (h : s_l01Prime a0 = some r) :
  VCall Try.prog 169 [i64 a0] [.sc (.bool r)] := by
 unfold s_l01Prime at h
 refine VCall.enter Try.call169 Try.func169 rfl 21 Try.ntmps169 (by simp) [.tmp 2] rfl ?_
 show VW _ _ _ (mk [(0,.val (i64 a0))]) _
 refine zs [(0,.val (i64 a0))] ?_ ?_
 ·simp
 obtain ⟨x5,Y,h⟩ := bind_some h
 refine VW.cut [(2,.val (.bool x5))] ?_ fun hy => ?_
 rotate_left
 ·clear h
  by_cases Bn : a0 = 3
  ·rw [if_pos Bn] at Y
   have K : ieq a0 3 = true := by simpa [ieq,ilt,ile] using Bn
   have L := K
   try simp at L
   cases Y
   refine VW.ws tau_ok Sound.none _ _ rfl ?_ hy
   simp [K,L]
  ·rw [if_neg Bn] at Y
   have K : ieq a0 3 = false := by simpa [ieq,ilt,ile] using Bn
   have L := K
   try simp at L
   by_cases Fu : a0 = 5
   ·rw [if_pos Fu] at Y
    have A6 : ieq a0 5 = true := by simpa [ieq,ilt,ile] using Fu
    have A7 := A6
    try simp at A7
    cases Y
    refine VW.ws tau_ok Sound.none _ _ rfl ?_ hy
    simp [K,L,A6,A7]
   ·rw [if_neg Fu] at Y
    have A6 : ieq a0 5 = false := by simpa [ieq,ilt,ile] using Fu
    have A7 := A6
    try simp at A7
    by_cases Cq : a0 = 7
    ·rw [if_pos Cq] at Y
     have Ak : ieq a0 7 = true := by simpa [ieq,ilt,ile] using Cq
     have Al := Ak
     try simp at Al
     cases Y
     refine VW.ws tau_ok Sound.none _ _ rfl ?_ hy
     simp [K,L,A6,A7,Ak,Al]
    ·rw [if_neg Cq] at Y
     have Ak : ieq a0 7 = false := by simpa [ieq,ilt,ile] using Cq
     have Al := Ak
     try simp at Al
     by_cases Fv : a0 = 11
     ·rw [if_pos Fv] at Y
      have Bz : ieq a0 11 = true := by simpa [ieq,ilt,ile] using Fv
      have B0 := Bz
      try simp at B0
      cases Y
      refine VW.ws tau_ok Sound.none _ _ rfl ?_ hy
      simp [K,L,A6,A7,Ak,Al,Bz,B0]
     ·rw [if_neg Fv] at Y
      have Bz : ieq a0 11 = false := by simpa [ieq,ilt,ile] using Fv
      have B0 := Bz
      try simp at B0
      cases Y
      refine VW.ws tau_ok Sound.none _ _ rfl ?_ hy
      simp [K,L,A6,A7,Ak,Al,Bz,B0]
 cases h
 refine VW.ret ?_
 simp [Post,PostM,PostC,PostC2,Nx,Bk]

theorem s_l01In_ok {a0 : Int} {a1 : Int} {a2 : Int} {r : Bool} (h : s_l01In a0 a1 a2 = some r) :
  VCall Try.prog 76 [i64 a0,i64 a1,i64 a2] [.sc (.bool r)] := by
 unfold s_l01In at h
 refine VCall.enter Try.call76 Try.func76 rfl 15 Try.ntmps76 (by simp) [.tmp 6] rfl ?_
 show VW _ _ _ (mk [(0,.val (i64 a0)),(1,.val (i64 a1)),(2,.val (i64 a2))]) _
 refine zs [(0,.val (i64 a0)),(1,.val (i64 a1)),(2,.val (i64 a2))] ?_ ?_
 ·simp
 obtain ⟨x2,X,h⟩ := bind_some h
 refine VW.cut [(6,.val (.bool x2))] ?_ fun hy => ?_
 rotate_left
 ·clear h
  by_cases Bn : a1 ≤ a0
  ·rw [if_pos Bn] at X
   have K : ile a1 a0 = true := by simpa [ieq,ilt,ile] using Bn
   have L := K
   try simp at L
   cases X
   refine VW.ws tau_ok Sound.none _ _ rfl ?_ hy
   simp [K,L]
  ·rw [if_neg Bn] at X
   have K : ile a1 a0 = false := by simpa [ieq,ilt,ile] using Bn
   have L := K
   try simp at L
   cases X
   refine VW.ws tau_ok Sound.none _ _ rfl ?_ hy
   simp [K,L]
 cases h
 refine VW.ret ?_
 simp [Post,PostM,PostC,PostC2,Nx,Bk]

theorem s_l11Is_ok {a0_0 : Int} {a0_1 : List Int} {r : Bool} (h : s_l11Is a0_0 a0_1 = some r) :
  VCall Try.prog 93 [.agg [i64 a0_0,dI a0_1]] [.sc (.bool r)] := by
 unfold s_l11Is at h
 refine VCall.enter Try.call93 Try.func93 rfl 31 Try.ntmps93 (by simp) [.tmp 2] rfl ?_
 show VW _ _ _ (mk [(0,.val (.agg [i64 a0_0,dI a0_1]))]) _
 refine zs [(1,.val (.ptr [i64 a0_0,dI a0_1]))] ?_ ?_
 ·simp
 refine VW.sqc fun K1 hK1 hCK1 => ?_
 obtain ⟨x4,J,h⟩ := bind_some h
 refine VW.cut [(1,.val (.ptr [i64 a0_0,dI a0_1])),(13,.val (.bool x4))] ?_ fun hy => ?_
 rotate_left
 ·clear h
  obtain ⟨v2,A4,J⟩ := bind_some J
  by_cases Cq : v2 = false
  ·rw [if_pos Cq] at J
   have Ak : v2 = false := by simpa [ieq,ilt,ile] using Cq
   have Al := Ak
   try simp at Al
   cases J
   refine VW.ws tau_ok (Sound.none.add 6 (s_l01Prime_ok A4) rfl) _ _ rfl ?_ hy
   simp [Ak,Al]
  ·rw [if_neg Cq] at J
   have Ak : v2 = true := by simpa [ieq,ilt,ile] using Cq
   have Al := Ak
   try simp at Al
   cases J
   refine VW.ws tau_ok (Sound.none.add 6 (s_l01Prime_ok A4) rfl) _ _ rfl ?_ hy
   simp [Ak,Al]
 refine VW.cond rfl (fun R => ?_) (fun R => ?_)
 ·
  replace R : x4 = true := by simpa [ieq,ilt,ile] using R
  rw [if_pos R] at h
  refine zs [(2,.val (.bool false))] ?_ ?_
  ·simp
  cases h
  refine VW.ret ?_
  simp [Post,PostM,PostC,PostC2,Nx,Bk]
 replace R : ¬ (x4 = true) := by simpa [ieq,ilt,ile] using R
 rw [if_neg R] at h
 refine VW.skip ?_
 refine hK1 _ ?_
 refine VW.sqc fun K6 hK6 hCK6 => ?_
 refine zs [(1,.val (.ptr [i64 a0_0,dI a0_1])),(3,.val (i64 0))] ?_ ?_
 ·simp
 obtain ⟨x7,F0,h⟩ := bind_some h
 refine VW.tlO (fun y9 => []) x7 (hCK6) ?_ ?_
 ·clear F0
  rintro y9 rfl
  dsimp only at h
  refine hK6 _ ?_
  refine zs [(2,.val (.bool true))] ?_ ?_
  ·simp
  cases h
  refine VW.ret ?_
  simp [Post,PostM,PostC,PostC2,Nx,Bk]
 refine VW.block ?_
 refine VW.loopF (s_l11Is_L0 a0_0 a0_1) (fun s7 => [(1,.val (.ptr [i64 a0_0,dI a0_1])),(3,.val (i64 s7))]) F0 (Fits.of rfl) ?_
 clear F0
 intro s7 ox7 Am Dw
 unfold s_l11Is_L0 at Am
 refine VW.sqc fun K10 hK10 hCK10 => ?_
 refine zs [(1,.val (.ptr [i64 a0_0,dI a0_1])),(3,.val (i64 s7)),(18,.val (.bool (ilt s7 (a0_1.length : Int))))] ?_ ?_
 ·simp
 refine VW.cond rfl (fun A8 => ?_) (fun A8 => ?_)
 rotate_left
 ·
  replace A8 : ¬ (s7 < (a0_1.length : Int)) := by simpa [ieq,ilt,ile] using A8
  rw [if_neg A8] at Am
  refine VW.exit ?_
  cases Am
  have hq := Dw _ rfl
  subst hq
  exact ⟨_,rfl,Fits.of rfl⟩
 replace A8 : s7 < (a0_1.length : Int) := by simpa [ieq,ilt,ile] using A8
 rw [if_pos A8] at Am
 refine VW.skip ?_
 refine hK10 _ ?_
 refine VW.sqc fun K12 hK12 hCK12 => ?_
 refine VW.block ?_
 obtain ⟨v13,A9,Am⟩ := bind_some Am
 obtain ⟨B1,B2,B3,B4⟩ := idx_some A9
 obtain ⟨v14,Da,Am⟩ := bind_some Am
 refine VW.wds tau_ok (Sound.none.add 29 (s_l01In_ok Da) rfl) try_mixed _ [(1,.val (.ptr [i64 a0_0,dI a0_1])),(3,.val (i64 s7)),(30,.val (.bool (!v14)))] 10 rfl (by kernel_rfl) (by rfl) ?_ ?_
 ·simp [B1,B2,B3,B4]
 refine VW.cond rfl (fun S => ?_) (fun S => ?_)
 rotate_left
 ·
  replace S : ¬ (v14 = false) := by simpa [ieq,ilt,ile] using S
  rw [if_neg S] at Am
  refine VW.skip ?_
  refine hK12 _ ?_
  refine zr [(1,.val (.ptr [i64 a0_0,dI a0_1])),(3,.val (i64 (w64 (s7 + 1))))] ?_ ?_
  ·simp
  cases Am
  exact ⟨_,rfl,Fits.of rfl⟩
 replace S : v14 = false := by simpa [ieq,ilt,ile] using S
 rw [if_pos S] at Am
 refine zs [(2,.val (.bool false))] ?_ ?_
 ·simp
 cases Am
 have hq := Dw _ rfl
 subst hq
 dsimp only at h
 cases h
 refine VW.ret ?_
 simp [Post,PostM,PostC,PostC2,Nx,Bk]

theorem s_l11Size_ok {a0_0 : Int} {a0_1 : List Int} {r : Int} (h : s_l11Size a0_0 a0_1 = some r) :
  VCall Try.prog 95 [.agg [i64 a0_0,dI a0_1]] [.sc (i64 r)] := by
 unfold s_l11Size at h
 refine VCall.enter Try.call95 Try.func95 rfl 8 Try.ntmps95 (by simp) [.tmp 2] rfl ?_
 show VW _ _ _ (mk [(0,.val (.agg [i64 a0_0,dI a0_1]))]) _
 refine zs [(1,.val (.ptr [i64 a0_0,dI a0_1]))] ?_ ?_
 ·simp
 obtain ⟨B5,h⟩ := chk_some h
 have Ap := B5
 try simp at Ap
 refine zs [(2,.val (i64 (shl .i64 1 (IntKind.u64.wrap ((a0_1.length : Int))))))] ?_ ?_
 ·simp [B5,Ap]
 cases h
 refine VW.ret ?_
 simp [Post,PostM,PostC,PostC2,Nx,Bk]

theorem s_l11One_ok {a0_0 : Int} {a0_1 : List Int} {a1 : Int} {r : List Int} (h : s_l11One a0_0 a0_1 a1 = some r) :
  VCall Try.prog 171 [.agg [i64 a0_0,dI a0_1],i64 a1] [.own true (dI r)] := by
 unfold s_l11One at h
 refine VCall.enter Try.call171 Try.func171 rfl 13 Try.ntmps171 (by simp) [.tmp 4] rfl ?_
 show VW _ _ _ (mk [(0,.val (.agg [i64 a0_0,dI a0_1])),(1,.val (i64 a1))]) _
 refine zs [(1,.val (i64 a1)),(2,.val (.ptr [i64 a0_0,dI a0_1]))] ?_ ?_
 ·simp
 obtain ⟨v1,Az,h⟩ := bind_some h
 obtain ⟨Dx,h⟩ := chk_some h
 have B6 := Dx
 try simp at B6
 refine VW.ws tau_ok (Sound.none.add 7 (s_l11Size_ok Az) rfl) _ [(1,.val (i64 a1)),(5,.ref 5 [] true (dI (List.replicate v1.toNat 0)))] rfl ?_ ?_
 ·simp [Dx,B6]
 obtain ⟨l3,Ga,h⟩ := bind_some h
 rw [Option.some.inj Ga]
 obtain ⟨v4,F1,h⟩ := bind_some h
 obtain ⟨Db,B7,B8,B9⟩ := idx_some F1
 refine zs [(5,.ref 5 [] true (dI (l3.set a1.toNat 1)))] ?_ ?_
 ·simp [Db,B7,B8,B9]
 refine zs [(4,.ref 4 [] true (dI (l3.set a1.toNat 1)))] ?_ ?_
 ·simp
 cases h
 refine VW.ret ?_
 simp [Post,PostM,PostC,PostC2,Nx,Bk]

theorem s_l01Mod_ok {a0 : Int} {a1 : Int} {r : Int} (h : s_l01Mod a0 a1 = some r) :
  VCall Try.prog 190 [i64 a0,i64 a1] [.sc (i64 r)] := by
 unfold s_l01Mod at h
 refine VCall.enter Try.call190 Try.func190 rfl 12 Try.ntmps190 (by simp) [.tmp 4] rfl ?_
 show VW _ _ _ (mk [(0,.val (i64 a0)),(1,.val (i64 a1))]) _
 refine zs [(0,.val (i64 a0)),(1,.val (i64 a1))] ?_ ?_
 ·simp
 obtain ⟨B5,h⟩ := chk_some h
 have Ap := B5
 try simp at Ap
 obtain ⟨Dx,h⟩ := chk_some h
 have B6 := Dx
 try simp at B6
 refine zs [(4,.val (i64 ((w64 ((a1.tmod a0) + a0)).tmod a0)))] ?_ ?_
 ·simp [B5,Ap,Dx,B6]
 cases h
 refine VW.ret ?_
 simp [Post,PostM,PostC,PostC2,Nx,Bk]

theorem s_l11Scale_ok {a0 : Int} {a1 : Int} {a2 : List Int} {r : List Int} (h : s_l11Scale a0 a1 a2 = some r) :
  VCall Try.prog 223 [i64 a0,i64 a1,dI a2] [.own true (dI r)] := by
 unfold s_l11Scale at h
 refine VCall.enter Try.call223 Try.func223 rfl 28 Try.ntmps223 (by simp) [.tmp 6] rfl ?_
 show VW _ _ _ (mk [(0,.val (i64 a0)),(1,.val (i64 a1)),(2,.val (dI a2))]) _
 refine zs [(0,.val (i64 a0)),(1,.val (i64 a1)),(2,.val (dI a2))] ?_ ?_
 ·simp
 refine zs [(0,.val (i64 a0)),(1,.val (i64 a1)),(2,.val (dI a2)),(7,.ref 7 [] true (dI []))] ?_ ?_
 ·simp
 refine VW.sqc fun K1 hK1 hCK1 => ?_
 refine zs [(0,.val (i64 a0)),(1,.val (i64 a1)),(2,.val (dI a2)),(7,.ref 7 [] true (dI [])),(8,.val (i64 0))] ?_ ?_
 ·simp
 obtain ⟨x2,X,h⟩ := bind_some h
 refine VW.tlE [(7,.ref 7 [] true (dI x2))] (hCK1) ?_ ?_
 ·clear X
  refine hK1 _ ?_
  refine zs [(6,.ref 6 [] true (dI x2))] ?_ ?_
  ·simp
  cases h
  refine VW.ret ?_
  simp [Post,PostM,PostC,PostC2,Nx,Bk]
 refine VW.block ?_
 refine VW.loopF (s_l11Scale_L0 a0 a1 a2) (fun s2 => [(0,.val (i64 a0)),(1,.val (i64 a1)),(2,.val (dI a2)),(7,.ref 7 [] true (dI s2.1)),(8,.val (i64 s2.2))]) X (Fits.of rfl) ?_
 clear X
 intro s2 ox2 A Ax
 unfold s_l11Scale_L0 at A
 refine VW.sqc fun K4 hK4 hCK4 => ?_
 refine zs [(0,.val (i64 a0)),(1,.val (i64 a1)),(2,.val (dI a2)),(7,.ref 7 [] true (dI s2.1)),(8,.val (i64 s2.2)),(13,.val (.bool (ilt s2.2 (a2.length : Int))))] ?_ ?_
 ·simp
 refine VW.cond rfl (fun R => ?_) (fun R => ?_)
 rotate_left
 ·
  replace R : ¬ (s2.2 < (a2.length : Int)) := by simpa [ieq,ilt,ile] using R
  rw [if_neg R] at A
  refine VW.exit ?_
  cases A
  have hq := Ax _ rfl
  subst hq
  exact Fits.of rfl
 replace R : s2.2 < (a2.length : Int) := by simpa [ieq,ilt,ile] using R
 rw [if_pos R] at A
 refine VW.skip ?_
 refine hK4 _ ?_
 refine VW.sqc fun K6 hK6 hCK6 => ?_
 refine VW.block ?_
 obtain ⟨v7,A5,A⟩ := bind_some A
 obtain ⟨Ao,Ah,Ai,Aj⟩ := idx_some A5
 obtain ⟨v8,Dc,A⟩ := bind_some A
 obtain ⟨Ca,A⟩ := chk_some A
 have Aq := Ca
 try simp at Aq
 refine VW.wr tau_ok (Sound.none.add 24 (s_l01Mod_ok Dc) rfl) _ [(0,.val (i64 a0)),(1,.val (i64 a1)),(2,.val (dI a2)),(7,.ref 7 [] true (dI (s2.1 ++ [v8]))),(8,.val (i64 s2.2))] rfl ?_ ?_
 ·simp [Ao,Ah,Ai,Aj,Ca,Aq]
 refine hK6 _ ?_
 refine zr [(0,.val (i64 a0)),(1,.val (i64 a1)),(2,.val (dI a2)),(7,.ref 7 [] true (dI (s2.1 ++ [v8]))),(8,.val (i64 (w64 (s2.2 + 1))))] ?_ ?_
 ·simp
 cases A
 exact ⟨_,rfl,Fits.of rfl⟩

theorem s_l11Star_ok {a0 : Int} {a1 : List Int} {r : List Int} (h : s_l11Star a0 a1 = some r) :
  VCall Try.prog 247 [i64 a0,dI a1] [.own true (dI r)] := by
 unfold s_l11Star at h
 refine VCall.enter Try.call247 Try.func247 rfl 17 Try.ntmps247 (by simp) [.tmp 4] rfl ?_
 show VW _ _ _ (mk [(0,.val (i64 a0)),(1,.val (dI a1))]) _
 refine zs [(0,.val (i64 a0)),(1,.val (dI a1))] ?_ ?_
 ·simp
 obtain ⟨v1,Az,h⟩ := bind_some h
 refine VW.ws tau_ok (Sound.none.add 10 (s_l11Scale_ok Az) rfl) _ [(1,.val (dI a1)),(5,.ref 5 [] true (dI v1))] rfl ?_ ?_
 ·simp
 obtain ⟨v2,A4,h⟩ := bind_some h
 obtain ⟨C9,Bw,Bx,By⟩ := idx_some A4
 replace Bw : 0 < a1.length := Bw
 replace Bx : a1[0]? = some v2 := Bx
 replace By : ∀ h,a1[0]'h = v2 := By
 obtain ⟨v3,Cr,h⟩ := bind_some h
 obtain ⟨Cb,Ar,As,At⟩ := idx_some Cr
 replace Ar : 0 < v1.length := Ar
 replace As : v1[0]? = some v3 := As
 replace At : ∀ h,v1[0]'h = v3 := At
 refine zs [(5,.ref 5 [] true (dI (v1.set 0 v2)))] ?_ ?_
 ·simp [C9,Bw,Bx,By,Cb,Ar,As,At]
 refine zs [(4,.ref 4 [] true (dI (v1.set 0 v2)))] ?_ ?_
 ·simp
 cases h
 refine VW.ret ?_
 simp [Post,PostM,PostC,PostC2,Nx,Bk]

theorem s_l11Add_ok {a0 : Int} {a1 : List Int} {a2 : List Int} {r : List Int} (h : s_l11Add a0 a1 a2 = some r) :
  VCall Try.prog 246 [i64 a0,dI a1,dI a2] [.own true (dI r)] := by
 unfold s_l11Add at h
 refine VCall.enter Try.call246 Try.func246 rfl 31 Try.ntmps246 (by simp) [.tmp 6] rfl ?_
 show VW _ _ _ (mk [(0,.val (i64 a0)),(1,.val (dI a1)),(2,.val (dI a2))]) _
 refine zs [(0,.val (i64 a0)),(1,.val (dI a1)),(2,.val (dI a2))] ?_ ?_
 ·simp
 refine zs [(0,.val (i64 a0)),(1,.val (dI a1)),(2,.val (dI a2)),(7,.ref 7 [] true (dI []))] ?_ ?_
 ·simp
 refine VW.sqc fun K1 hK1 hCK1 => ?_
 refine zs [(0,.val (i64 a0)),(1,.val (dI a1)),(2,.val (dI a2)),(7,.ref 7 [] true (dI [])),(8,.val (i64 0))] ?_ ?_
 ·simp
 obtain ⟨x2,X,h⟩ := bind_some h
 refine VW.tlE [(7,.ref 7 [] true (dI x2))] (hCK1) ?_ ?_
 ·clear X
  refine hK1 _ ?_
  refine zs [(6,.ref 6 [] true (dI x2))] ?_ ?_
  ·simp
  cases h
  refine VW.ret ?_
  simp [Post,PostM,PostC,PostC2,Nx,Bk]
 refine VW.block ?_
 refine VW.loopF (s_l11Add_L0 a0 a1 a2) (fun s2 => [(0,.val (i64 a0)),(1,.val (dI a1)),(2,.val (dI a2)),(7,.ref 7 [] true (dI s2.1)),(8,.val (i64 s2.2))]) X (Fits.of rfl) ?_
 clear X
 intro s2 ox2 A Ax
 unfold s_l11Add_L0 at A
 refine VW.sqc fun K4 hK4 hCK4 => ?_
 refine zs [(0,.val (i64 a0)),(1,.val (dI a1)),(2,.val (dI a2)),(7,.ref 7 [] true (dI s2.1)),(8,.val (i64 s2.2)),(13,.val (.bool (ilt s2.2 (a1.length : Int))))] ?_ ?_
 ·simp
 refine VW.cond rfl (fun R => ?_) (fun R => ?_)
 rotate_left
 ·
  replace R : ¬ (s2.2 < (a1.length : Int)) := by simpa [ieq,ilt,ile] using R
  rw [if_neg R] at A
  refine VW.exit ?_
  cases A
  have hq := Ax _ rfl
  subst hq
  exact Fits.of rfl
 replace R : s2.2 < (a1.length : Int) := by simpa [ieq,ilt,ile] using R
 rw [if_pos R] at A
 refine VW.skip ?_
 refine hK4 _ ?_
 refine VW.sqc fun K6 hK6 hCK6 => ?_
 refine VW.block ?_
 obtain ⟨v7,A5,A⟩ := bind_some A
 obtain ⟨Ao,Ah,Ai,Aj⟩ := idx_some A5
 obtain ⟨v8,Dc,A⟩ := bind_some A
 obtain ⟨Dd,De,Df,Dg⟩ := idx_some Dc
 obtain ⟨v9,Cp,A⟩ := bind_some A
 obtain ⟨Au,A⟩ := chk_some A
 have M := Au
 try simp at M
 refine VW.wdr tau_ok (Sound.none.add 27 (s_l01Mod_ok Cp) rfl) try_mixed _ [(0,.val (i64 a0)),(1,.val (dI a1)),(2,.val (dI a2)),(7,.ref 7 [] true (dI (s2.1 ++ [v9]))),(8,.val (i64 s2.2))] 13 rfl (by kernel_rfl) (by rfl) ?_ ?_
 ·simp [Ao,Ah,Ai,Aj,Dd,De,Df,Dg,Au,M]
 refine hK6 _ ?_
 refine zr [(0,.val (i64 a0)),(1,.val (dI a1)),(2,.val (dI a2)),(7,.ref 7 [] true (dI (s2.1 ++ [v9]))),(8,.val (i64 (w64 (s2.2 + 1))))] ?_ ?_
 ·simp
 cases A
 exact ⟨_,rfl,Fits.of rfl⟩

theorem s_l11Mul_b_ok {self : Int → (List Int) → (List Int) → (List Int) → Option (List Int)} (hself : ∀ {a0 a1 a2 a3} {r : List Int},self a0 a1 a2 a3 = some r → VCall Try.prog 221 [i64 a0,dI a1,dI a2,dI a3] [.own true (dI r)]) {a0 : Int} {a1 : List Int} {a2 : List Int} {a3 : List Int} {r : List Int} (h : s_l11Mul_b self a0 a1 a2 a3 = some r) :
  VCall Try.prog 221 [i64 a0,dI a1,dI a2,dI a3] [.own true (dI r)] := by
 unfold s_l11Mul_b at h
 refine VCall.enter Try.call221 Try.func221 rfl 91 Try.ntmps221 (by simp) [.tmp 8] rfl ?_
 show VW _ _ _ (mk [(0,.val (i64 a0)),(1,.val (dI a1)),(2,.val (dI a2)),(3,.val (dI a3))]) _
 refine zs [(0,.val (i64 a0)),(1,.val (dI a1)),(2,.val (dI a2)),(3,.val (dI a3))] ?_ ?_
 ·simp
 refine VW.sqc fun K1 hK1 hCK1 => ?_
 refine zs [(0,.val (i64 a0)),(1,.val (dI a1)),(2,.val (dI a2)),(3,.val (dI a3)),(21,.val (.bool (ieq (a1.length : Int) 0)))] ?_ ?_
 ·simp
 refine VW.cond rfl (fun P => ?_) (fun P => ?_)
 ·
  replace P : (a1.length : Int) = 0 := by simpa [ieq,ilt,ile] using P
  rw [if_pos P] at h
  obtain ⟨v3,Cr,h⟩ := bind_some h
  obtain ⟨Cb,Ar,As,At⟩ := idx_some Cr
  replace Ar : 0 < a2.length := Ar
  replace As : a2[0]? = some v3 := As
  replace At : ∀ h,a2[0]'h = v3 := At
  obtain ⟨v4,F1,h⟩ := bind_some h
  obtain ⟨Db,B7,B8,B9⟩ := idx_some F1
  replace B7 : 0 < a3.length := B7
  replace B8 : a3[0]? = some v4 := B8
  replace B9 : ∀ h,a3[0]'h = v4 := B9
  obtain ⟨v5,Dy,h⟩ := bind_some h
  refine VW.wds tau_ok (Sound.none.add 30 (s_l01Mod_ok Dy) rfl) try_mixed _ [(8,.ref 8 [] true (dI [v5]))] 10 rfl (by kernel_rfl) (by rfl) ?_ ?_
  ·simp [Cb,Ar,As,At,Db,B7,B8,B9]
  cases h
  refine VW.ret ?_
  simp [Post,PostM,PostC,PostC2,Nx,Bk]
 replace P : ¬ ((a1.length : Int) = 0) := by simpa [ieq,ilt,ile] using P
 rw [if_neg P] at h
 refine VW.skip ?_
 refine hK1 _ ?_
 refine zs [(0,.val (i64 a0)),(1,.val (dI a1)),(2,.val (dI a2)),(3,.val (dI a3)),(9,.val (i64 (w64 ((a1.length : Int) - 1))))] ?_ ?_
 ·simp
 obtain ⟨F9,h⟩ := chk_some h
 have Dz := F9
 try simp at Dz
 obtain ⟨v7,A5,h⟩ := bind_some h
 obtain ⟨Ao,Ah,Ai,Aj⟩ := idx_some A5
 refine VW.wds tau_ok Sound.none try_mixed _ [(0,.val (i64 a0)),(2,.val (dI a2)),(3,.val (dI a3)),(10,.val (i64 (w64 ((a2.length : Int).tdiv 2)))),(11,.val (dI (a1.take (w64 ((a1.length : Int) - 1)).toNat))),(12,.val (i64 v7))] 13 rfl (by kernel_rfl) (by rfl) ?_ ?_
 ·simp [F9,Dz,Ao,Ah,Ai,Aj]
 obtain ⟨Dv,h⟩ := chk_some h
 have Bv := Dv
 try simp at Bv
 obtain ⟨Ca,h⟩ := chk_some h
 have Aq := Ca
 try simp at Aq
 obtain ⟨Au,h⟩ := chk_some h
 have M := Au
 try simp at M
 obtain ⟨D0,h⟩ := chk_some h
 have Ct := D0
 try simp at Ct
 refine VW.wds tau_ok Sound.none try_mixed _ [(0,.val (i64 a0)),(11,.val (dI (a1.take (w64 ((a1.length : Int) - 1)).toNat))),(12,.val (i64 v7)),(13,.val (dI (a2.take (w64 ((a2.length : Int).tdiv 2)).toNat))),(14,.val (dI (a2.drop (w64 ((a2.length : Int).tdiv 2)).toNat))),(15,.val (dI (a3.take (w64 ((a2.length : Int).tdiv 2)).toNat))),(16,.val (dI (a3.drop (w64 ((a2.length : Int).tdiv 2)).toNat)))] 16 rfl (by kernel_rfl) (by rfl) ?_ ?_
 ·simp [Dv,Bv,Ca,Aq,Au,M,D0,Ct]
 obtain ⟨v12,Cc,h⟩ := bind_some h
 obtain ⟨v13,A9,h⟩ := bind_some h
 obtain ⟨v14,Da,h⟩ := bind_some h
 obtain ⟨v15,Ba,h⟩ := bind_some h
 obtain ⟨v16,Cd,h⟩ := bind_some h
 refine VW.ws tau_ok (((((Sound.none.add 62 (hself Cc) rfl).add 69 (s_l11Star_ok A9) rfl).add 71 (hself Da) rfl).add 72 (s_l11Scale_ok Ba) rfl).add 73 (s_l11Add_ok Cd) rfl) _ [(0,.val (i64 a0)),(11,.val (dI (a1.take (w64 ((a1.length : Int) - 1)).toNat))),(13,.val (dI (a2.take (w64 ((a2.length : Int).tdiv 2)).toNat))),(14,.val (dI (a2.drop (w64 ((a2.length : Int).tdiv 2)).toNat))),(15,.val (dI (a3.take (w64 ((a2.length : Int).tdiv 2)).toNat))),(16,.val (dI (a3.drop (w64 ((a2.length : Int).tdiv 2)).toNat))),(17,.ref 17 [] true (dI v16))] rfl ?_ ?_
 ·simp
 obtain ⟨v17,Bb,h⟩ := bind_some h
 obtain ⟨v18,Ce,h⟩ := bind_some h
 obtain ⟨v19,Dh,h⟩ := bind_some h
 obtain ⟨v20,Cf,h⟩ := bind_some h
 refine VW.ws tau_ok ((((Sound.none.add 79 (hself Bb) rfl).add 85 (s_l11Star_ok Ce) rfl).add 86 (hself Dh) rfl).add 87 (s_l11Add_ok Cf) rfl) _ [(17,.ref 17 [] true (dI v16)),(18,.ref 18 [] true (dI v20))] rfl ?_ ?_
 ·simp
 obtain ⟨D1,h⟩ := chk_some h
 have Cu := D1
 try simp at Cu
 refine zs [(8,.ref 8 [] true (dI (v16 ++ v20)))] ?_ ?_
 ·simp [D1,Cu]
 cases h
 refine VW.ret ?_
 simp [Post,PostM,PostC,PostC2,Nx,Bk]
theorem s_l11Mul_ok : ∀ {n : Nat} {a0 : Int} {a1 : List Int} {a2 : List Int} {a3 : List Int} {r : List Int} (_ : s_l11Mul n a0 a1 a2 a3 = some r),
  VCall Try.prog 221 [i64 a0,dI a1,dI a2,dI a3] [.own true (dI r)]
 | 0,_,_,_,_,_,h => by cases h
 | n + 1,_,_,_,_,_,h => s_l11Mul_b_ok (fun h => s_l11Mul_ok (n := n) h) h

theorem s_l11Times_ok {a0_0 : Int} {a0_1 : List Int} {a1 : List Int} {a2 : List Int} {r : List Int} (h : s_l11Times a0_0 a0_1 a1 a2 = some r) :
  VCall Try.prog 170 [.agg [i64 a0_0,dI a0_1],dI a1,dI a2] [.own true (dI r)] := by
 unfold s_l11Times at h
 refine VCall.enter Try.call170 Try.func170 rfl 14 Try.ntmps170 (by simp) [.tmp 6] rfl ?_
 show VW _ _ _ (mk [(0,.val (.agg [i64 a0_0,dI a0_1])),(1,.val (dI a1)),(2,.val (dI a2))]) _
 refine zs [(1,.val (dI a1)),(2,.val (dI a2)),(3,.val (.ptr [i64 a0_0,dI a0_1]))] ?_ ?_
 ·simp
 obtain ⟨v1,Az,h⟩ := bind_some h
 refine VW.ws tau_ok (Sound.none.add 13 (s_l11Mul_ok (n := BIG) Az) rfl) _ [(6,.ref 6 [] true (dI v1))] rfl ?_ ?_
 ·simp
 cases h
 refine VW.ret ?_
 simp [Post,PostM,PostC,PostC2,Nx,Bk]

theorem s_l11Basis_ok {a0_0 : Int} {a0_1 : List Int} {r : List (List Int)} (h : s_l11Basis a0_0 a0_1 = some r) :
  VCall Try.prog 94 [.agg [i64 a0_0,dI a0_1]] [.own true (dM r)] := by
 unfold s_l11Basis at h
 refine VCall.enter Try.call94 Try.func94 rfl 42 Try.ntmps94 (by simp) [.tmp 2] rfl ?_
 show VW _ _ _ (mk [(0,.val (.agg [i64 a0_0,dI a0_1]))]) _
 refine zs [(1,.val (.ptr [i64 a0_0,dI a0_1]))] ?_ ?_
 ·simp
 refine zs [(1,.val (.ptr [i64 a0_0,dI a0_1])),(3,.ref 3 [] true (dM []))] ?_ ?_
 ·simp
 refine VW.sqc fun K1 hK1 hCK1 => ?_
 refine zs [(1,.val (.ptr [i64 a0_0,dI a0_1])),(3,.ref 3 [] true (dM [])),(4,.val (i64 0))] ?_ ?_
 ·simp
 obtain ⟨x2,X,h⟩ := bind_some h
 refine VW.tlE [(3,.ref 3 [] true (dM x2))] (hCK1) ?_ ?_
 ·clear X
  refine hK1 _ ?_
  refine zs [(2,.ref 2 [] true (dM x2))] ?_ ?_
  ·simp
  cases h
  refine VW.ret ?_
  simp [Post,PostM,PostC,PostC2,Nx,Bk]
 refine VW.block ?_
 refine VW.loopF (s_l11Basis_L0 a0_0 a0_1) (fun s2 => [(1,.val (.ptr [i64 a0_0,dI a0_1])),(3,.ref 3 [] true (dM s2.1)),(4,.val (i64 s2.2))]) X (Fits.of rfl) ?_
 clear X
 intro s2 ox2 A Ax
 unfold s_l11Basis_L0 at A
 refine VW.sqc fun K4 hK4 hCK4 => ?_
 obtain ⟨v5,Dy,A⟩ := bind_some A
 refine VW.ws tau_ok (Sound.none.add 10 (s_l11Size_ok Dy) rfl) _ [(1,.val (.ptr [i64 a0_0,dI a0_1])),(3,.ref 3 [] true (dM s2.1)),(4,.val (i64 s2.2)),(11,.val (.bool (ilt s2.2 v5)))] rfl ?_ ?_
 ·simp
 refine VW.cond rfl (fun Q => ?_) (fun Q => ?_)
 rotate_left
 ·
  replace Q : ¬ (s2.2 < v5) := by simpa [ieq,ilt,ile] using Q
  rw [if_neg Q] at A
  refine VW.exit ?_
  cases A
  have hq := Ax _ rfl
  subst hq
  exact Fits.of rfl
 replace Q : s2.2 < v5 := by simpa [ieq,ilt,ile] using Q
 rw [if_pos Q] at A
 refine VW.skip ?_
 refine hK4 _ ?_
 refine VW.sqc fun K7 hK7 hCK7 => ?_
 refine VW.block ?_
 refine zs [(1,.val (.ptr [i64 a0_0,dI a0_1])),(3,.ref 3 [] true (dM s2.1)),(4,.val (i64 s2.2)),(5,.ref 5 [] true (dI []))] ?_ ?_
 ·simp
 refine VW.sqc fun K8 hK8 hCK8 => ?_
 refine zs [(1,.val (.ptr [i64 a0_0,dI a0_1])),(3,.ref 3 [] true (dM s2.1)),(4,.val (i64 s2.2)),(5,.ref 5 [] true (dI [])),(6,.val (i64 0))] ?_ ?_
 ·simp
 obtain ⟨x9,A0,A⟩ := bind_some A
 refine VW.tlE [(1,.val (.ptr [i64 a0_0,dI a0_1])),(3,.ref 3 [] true (dM s2.1)),(4,.val (i64 s2.2)),(5,.ref 5 [] true (dI x9))] (hCK8) ?_ ?_
 ·clear A0
  refine hK8 _ ?_
  obtain ⟨D2,A⟩ := chk_some A
  have Cv := D2
  try simp at Cv
  refine zr [(1,.val (.ptr [i64 a0_0,dI a0_1])),(3,.ref 3 [] true (dM (s2.1 ++ [x9]))),(4,.val (i64 s2.2))] ?_ ?_
  ·simp [D2,Cv]
  refine hK7 _ ?_
  refine zr [(1,.val (.ptr [i64 a0_0,dI a0_1])),(3,.ref 3 [] true (dM (s2.1 ++ [x9]))),(4,.val (i64 (w64 (s2.2 + 1))))] ?_ ?_
  ·simp
  cases A
  exact ⟨_,rfl,Fits.of rfl⟩
 refine VW.block ?_
 refine VW.loopF (s_l11Basis_L1 a0_0 a0_1 s2) (fun s9 => [(1,.val (.ptr [i64 a0_0,dI a0_1])),(3,.ref 3 [] true (dM s2.1)),(4,.val (i64 s2.2)),(5,.ref 5 [] true (dI s9.1)),(6,.val (i64 s9.2))]) A0 (Fits.of rfl) ?_
 clear A0
 intro s9 ox9 N F2
 unfold s_l11Basis_L1 at N
 refine VW.sqc fun K11 hK11 hCK11 => ?_
 obtain ⟨v12,Cc,N⟩ := bind_some N
 refine VW.ws tau_ok (Sound.none.add 17 (s_l11Size_ok Cc) rfl) _ [(1,.val (.ptr [i64 a0_0,dI a0_1])),(3,.ref 3 [] true (dM s2.1)),(4,.val (i64 s2.2)),(5,.ref 5 [] true (dI s9.1)),(6,.val (i64 s9.2)),(18,.val (.bool (ilt s9.2 v12)))] rfl ?_ ?_
 ·simp
 refine VW.cond rfl (fun T => ?_) (fun T => ?_)
 rotate_left
 ·
  replace T : ¬ (s9.2 < v12) := by simpa [ieq,ilt,ile] using T
  rw [if_neg T] at N
  refine VW.exit ?_
  cases N
  have hq := F2 _ rfl
  subst hq
  exact Fits.of rfl
 replace T : s9.2 < v12 := by simpa [ieq,ilt,ile] using T
 rw [if_pos T] at N
 refine VW.skip ?_
 refine hK11 _ ?_
 refine VW.sqc fun K14 hK14 hCK14 => ?_
 refine VW.block ?_
 obtain ⟨v15,Ba,N⟩ := bind_some N
 obtain ⟨v16,Cd,N⟩ := bind_some N
 obtain ⟨v17,Bb,N⟩ := bind_some N
 obtain ⟨v18,Ce,N⟩ := bind_some N
 obtain ⟨D3,D4,D5,D6⟩ := idx_some Ce
 obtain ⟨D7,N⟩ := chk_some N
 have Cw := D7
 try simp at Cw
 refine VW.wdr tau_ok (((Sound.none.add 25 (s_l11One_ok Ba) rfl).add 28 (s_l11One_ok Cd) rfl).add 29 (s_l11Times_ok Bb) rfl) try_mixed _ [(1,.val (.ptr [i64 a0_0,dI a0_1])),(3,.ref 3 [] true (dM s2.1)),(4,.val (i64 s2.2)),(5,.ref 5 [] true (dI (s9.1 ++ [v18]))),(6,.val (i64 s9.2))] 15 rfl (by kernel_rfl) (by rfl) ?_ ?_
 ·simp [D3,D4,D5,D6,D7,Cw]
 refine hK14 _ ?_
 refine zr [(1,.val (.ptr [i64 a0_0,dI a0_1])),(3,.ref 3 [] true (dM s2.1)),(4,.val (i64 s2.2)),(5,.ref 5 [] true (dI (s9.1 ++ [v18]))),(6,.val (i64 (w64 (s9.2 + 1))))] ?_ ?_
 ·simp
 cases N
 exact ⟨_,rfl,Fits.of rfl⟩

theorem s_SignedBasis_ok {a0_0 : Int} {a0_1 : List Int} {r : (List (List Int)) × Int} (h : s_SignedBasis a0_0 a0_1 = some r) :
  VCall Try.prog 26 [.agg [i64 a0_0,dI a0_1]] [.own true (dM r.1),.sc (i64 r.2)] := by
 unfold s_SignedBasis at h
 refine VCall.enter Try.call26 Try.func26 rfl 88 Try.ntmps26 (by simp) [.tmp 2,.tmp 3] rfl ?_
 show VW _ _ _ (mk [(0,.val (.agg [i64 a0_0,dI a0_1]))]) _
 refine zs [(1,.val (.ptr [i64 a0_0,dI a0_1]))] ?_ ?_
 ·simp
 refine VW.sqc fun K1 hK1 hCK1 => ?_
 obtain ⟨v2,A4,h⟩ := bind_some h
 refine VW.ws tau_ok (Sound.none.add 12 (s_l11Is_ok A4) rfl) _ [(1,.val (.ptr [i64 a0_0,dI a0_1])),(13,.val (.bool (!v2)))] rfl ?_ ?_
 ·simp
 refine VW.cond rfl (fun Av => ?_) (fun Av => ?_)
 ·
  replace Av : v2 = false := by simpa [ieq,ilt,ile] using Av
  rw [if_pos Av] at h
  refine zs [(2,.ref 2 [] true (.list [])),(3,.val (i64 1))] ?_ ?_
  ·simp
  cases h
  refine VW.ret ?_
  simp [Post,PostM,PostC,PostC2,Nx,Bk]
 replace Av : ¬ (v2 = false) := by simpa [ieq,ilt,ile] using Av
 rw [if_neg Av] at h
 refine VW.skip ?_
 refine hK1 _ ?_
 refine VW.sqc fun K4 hK4 hCK4 => ?_
 refine zs [(1,.val (.ptr [i64 a0_0,dI a0_1])),(4,.val (i64 0))] ?_ ?_
 ·simp
 obtain ⟨x5,Y,h⟩ := bind_some h
 refine VW.tlO (fun y7 => [(1,.val (.ptr [i64 a0_0,dI a0_1]))]) x5 (hCK4) ?_ ?_
 ·clear Y
  rintro y7 rfl
  dsimp only at h
  refine hK4 _ ?_
  obtain ⟨v15,Ba,h⟩ := bind_some h
  refine VW.ws tau_ok (Sound.none.add 39 (s_l11Basis_ok Ba) rfl) _ [(1,.val (.ptr [i64 a0_0,dI a0_1])),(5,.ref 5 [] true (dM v15)),(6,.ref 6 [] true (dM []))] rfl ?_ ?_
  ·simp
  refine VW.sqc fun K16 hK16 hCK16 => ?_
  refine zs [(1,.val (.ptr [i64 a0_0,dI a0_1])),(5,.ref 5 [] true (dM v15)),(6,.ref 6 [] true (dM [])),(7,.val (i64 0))] ?_ ?_
  ·simp
  obtain ⟨x17,Bc,h⟩ := bind_some h
  refine VW.tlE [(6,.ref 6 [] true (dM x17))] (hCK16) ?_ ?_
  ·clear Bc
   refine hK16 _ ?_
   refine zs [(2,.ref 2 [] true (dM x17)),(3,.val (i64 0))] ?_ ?_
   ·simp
   cases h
   refine VW.ret ?_
   simp [Post,PostM,PostC,PostC2,Nx,Bk]
  refine VW.block ?_
  refine VW.loopF (s_SignedBasis_L1 a0_0 a0_1 v15) (fun s17 => [(1,.val (.ptr [i64 a0_0,dI a0_1])),(5,.ref 5 [] true (dM v15)),(6,.ref 6 [] true (dM s17.1)),(7,.val (i64 s17.2))]) Bc (Fits.of rfl) ?_
  clear Bc
  intro s17 ox17 E Cg
  unfold s_SignedBasis_L1 at E
  refine VW.sqc fun K19 hK19 hCK19 => ?_
  obtain ⟨v20,Cf,E⟩ := bind_some E
  refine VW.ws tau_ok (Sound.none.add 43 (s_l11Size_ok Cf) rfl) _ [(1,.val (.ptr [i64 a0_0,dI a0_1])),(5,.ref 5 [] true (dM v15)),(6,.ref 6 [] true (dM s17.1)),(7,.val (i64 s17.2)),(45,.val (.bool (ilt s17.2 (w64 (2 * v20)))))] rfl ?_ ?_
  ·simp
  refine VW.cond rfl (fun Bd => ?_) (fun Bd => ?_)
  rotate_left
  ·
   replace Bd : ¬ (s17.2 < (w64 (2 * v20))) := by simpa [ieq,ilt,ile] using Bd
   rw [if_neg Bd] at E
   refine VW.exit ?_
   cases E
   have hq := Cg _ rfl
   subst hq
   exact Fits.of rfl
  replace Bd : s17.2 < (w64 (2 * v20)) := by simpa [ieq,ilt,ile] using Bd
  rw [if_pos Bd] at E
  refine VW.skip ?_
  refine hK19 _ ?_
  refine VW.sqc fun K22 hK22 hCK22 => ?_
  refine VW.block ?_
  refine zs [(1,.val (.ptr [i64 a0_0,dI a0_1])),(5,.ref 5 [] true (dM v15)),(6,.ref 6 [] true (dM s17.1)),(7,.val (i64 s17.2)),(8,.ref 8 [] true (dI []))] ?_ ?_
  ·simp
  refine VW.sqc fun K23 hK23 hCK23 => ?_
  refine zs [(1,.val (.ptr [i64 a0_0,dI a0_1])),(5,.ref 5 [] true (dM v15)),(6,.ref 6 [] true (dM s17.1)),(7,.val (i64 s17.2)),(8,.ref 8 [] true (dI [])),(9,.val (i64 0))] ?_ ?_
  ·simp
  obtain ⟨x24,Di,E⟩ := bind_some E
  refine VW.tlE [(1,.val (.ptr [i64 a0_0,dI a0_1])),(5,.ref 5 [] true (dM v15)),(6,.ref 6 [] true (dM s17.1)),(7,.val (i64 s17.2)),(8,.ref 8 [] true (dI x24))] (hCK23) ?_ ?_
  ·clear Di
   refine hK23 _ ?_
   obtain ⟨D8,E⟩ := chk_some E
   have Cx := D8
   try simp at Cx
   refine zr [(1,.val (.ptr [i64 a0_0,dI a0_1])),(5,.ref 5 [] true (dM v15)),(6,.ref 6 [] true (dM (s17.1 ++ [x24]))),(7,.val (i64 s17.2))] ?_ ?_
   ·simp [D8,Cx]
   refine hK22 _ ?_
   refine zr [(1,.val (.ptr [i64 a0_0,dI a0_1])),(5,.ref 5 [] true (dM v15)),(6,.ref 6 [] true (dM (s17.1 ++ [x24]))),(7,.val (i64 (w64 (s17.2 + 1))))] ?_ ?_
   ·simp
   cases E
   exact ⟨_,rfl,Fits.of rfl⟩
  refine VW.block ?_
  refine VW.loopF (s_SignedBasis_L2 a0_0 a0_1 v15 s17) (fun s24 => [(1,.val (.ptr [i64 a0_0,dI a0_1])),(5,.ref 5 [] true (dM v15)),(6,.ref 6 [] true (dM s17.1)),(7,.val (i64 s17.2)),(8,.ref 8 [] true (dI s24.1)),(9,.val (i64 s24.2))]) Di (Fits.of rfl) ?_
  clear Di
  intro s24 ox24 F D9
  unfold s_SignedBasis_L2 at F
  refine VW.sqc fun K26 hK26 hCK26 => ?_
  obtain ⟨v27,F3,F⟩ := bind_some F
  refine VW.ws tau_ok (Sound.none.add 51 (s_l11Size_ok F3) rfl) _ [(1,.val (.ptr [i64 a0_0,dI a0_1])),(5,.ref 5 [] true (dM v15)),(6,.ref 6 [] true (dM s17.1)),(7,.val (i64 s17.2)),(8,.ref 8 [] true (dI s24.1)),(9,.val (i64 s24.2)),(53,.val (.bool (ilt s24.2 (w64 (2 * v27)))))] rfl ?_ ?_
  ·simp
  refine VW.cond rfl (fun U => ?_) (fun U => ?_)
  rotate_left
  ·
   replace U : ¬ (s24.2 < (w64 (2 * v27))) := by simpa [ieq,ilt,ile] using U
   rw [if_neg U] at F
   refine VW.exit ?_
   cases F
   have hq := D9 _ rfl
   subst hq
   exact Fits.of rfl
  replace U : s24.2 < (w64 (2 * v27)) := by simpa [ieq,ilt,ile] using U
  rw [if_pos U] at F
  refine VW.skip ?_
  refine hK26 _ ?_
  refine VW.sqc fun K29 hK29 hCK29 => ?_
  refine VW.block ?_
  refine zs [(1,.val (.ptr [i64 a0_0,dI a0_1])),(5,.ref 5 [] true (dM v15)),(6,.ref 6 [] true (dM s17.1)),(7,.val (i64 s17.2)),(8,.ref 8 [] true (dI s24.1)),(9,.val (i64 s24.2)),(10,.val (i64 ((w64 (s17.2 + s24.2)).tmod 2)))] ?_ ?_
  ·simp
  refine VW.sqc fun K30 hK30 hCK30 => ?_
  obtain ⟨v31,F4,F⟩ := bind_some F
  obtain ⟨Ea,Eb,Ec,Ed⟩ := idx_some F4
  obtain ⟨v32,F5,F⟩ := bind_some F
  obtain ⟨Ee,Ef,Eg,Eh⟩ := idx_some F5
  refine zs [(1,.val (.ptr [i64 a0_0,dI a0_1])),(5,.ref 5 [] true (dM v15)),(6,.ref 6 [] true (dM s17.1)),(7,.val (i64 s17.2)),(8,.ref 8 [] true (dI s24.1)),(9,.val (i64 s24.2)),(10,.val (i64 ((w64 (s17.2 + s24.2)).tmod 2))),(69,.val (.bool (!(ieq v32 1))))] ?_ ?_
  ·simp [Ea,Eb,Ec,Ed,Ee,Ef,Eg,Eh]
  obtain ⟨x33,Ch,F⟩ := bind_some F
  refine VW.tlE [(1,.val (.ptr [i64 a0_0,dI a0_1])),(5,.ref 5 [] true (dM v15)),(6,.ref 6 [] true (dM s17.1)),(7,.val (i64 s17.2)),(8,.ref 8 [] true (dI s24.1)),(9,.val (i64 s24.2)),(10,.val (i64 x33))] (hCK30) ?_ ?_
  ·clear Ch
   refine hK30 _ ?_
   obtain ⟨Ei,F⟩ := chk_some F
   have Cy := Ei
   try simp at Cy
   refine zr [(1,.val (.ptr [i64 a0_0,dI a0_1])),(5,.ref 5 [] true (dM v15)),(6,.ref 6 [] true (dM s17.1)),(7,.val (i64 s17.2)),(8,.ref 8 [] true (dI (s24.1 ++ [w64 ((w64 (2 * (bxor .i64 (w64 (s17.2.tdiv 2)) (w64 (s24.2.tdiv 2))))) + x33)]))),(9,.val (i64 s24.2))] ?_ ?_
   ·simp [Ei,Cy]
   refine hK29 _ ?_
   refine zr [(1,.val (.ptr [i64 a0_0,dI a0_1])),(5,.ref 5 [] true (dM v15)),(6,.ref 6 [] true (dM s17.1)),(7,.val (i64 s17.2)),(8,.ref 8 [] true (dI (s24.1 ++ [w64 ((w64 (2 * (bxor .i64 (w64 (s17.2.tdiv 2)) (w64 (s24.2.tdiv 2))))) + x33)]))),(9,.val (i64 (w64 (s24.2 + 1))))] ?_ ?_
   ·simp
   cases F
   exact ⟨_,rfl,Fits.of rfl⟩
  refine VW.cond rfl (fun Be => ?_) (fun Be => ?_)
  rotate_left
  ·
   replace Be : ¬ (¬ v32 = 1) := by simpa [ieq,ilt,ile] using Be
   rw [if_neg Be] at Ch
   refine VW.skip ?_
   cases Ch
   exact Fits.of rfl
  replace Be : ¬ v32 = 1 := by simpa [ieq,ilt,ile] using Be
  rw [if_pos Be] at Ch
  refine zr [(1,.val (.ptr [i64 a0_0,dI a0_1])),(5,.ref 5 [] true (dM v15)),(6,.ref 6 [] true (dM s17.1)),(7,.val (i64 s17.2)),(8,.ref 8 [] true (dI s24.1)),(9,.val (i64 s24.2)),(10,.val (i64 (w64 (1 - ((w64 (s17.2 + s24.2)).tmod 2)))))] ?_ ?_
  ·simp
  cases Ch
  exact Fits.of rfl
 refine VW.block ?_
 refine VW.loopF (s_SignedBasis_L0 a0_0 a0_1) (fun s5 => [(1,.val (.ptr [i64 a0_0,dI a0_1])),(4,.val (i64 s5))]) Y (Fits.of rfl) ?_
 clear Y
 intro s5 ox5 B A1
 unfold s_SignedBasis_L0 at B
 refine VW.sqc fun K8 hK8 hCK8 => ?_
 refine zs [(1,.val (.ptr [i64 a0_0,dI a0_1])),(4,.val (i64 s5)),(18,.val (.bool (ilt s5 (a0_1.length : Int))))] ?_ ?_
 ·simp
 refine VW.cond rfl (fun Dj => ?_) (fun Dj => ?_)
 rotate_left
 ·
  replace Dj : ¬ (s5 < (a0_1.length : Int)) := by simpa [ieq,ilt,ile] using Dj
  rw [if_neg Dj] at B
  refine VW.exit ?_
  cases B
  have hq := A1 _ rfl
  subst hq
  exact ⟨_,rfl,Fits.of rfl⟩
 replace Dj : s5 < (a0_1.length : Int) := by simpa [ieq,ilt,ile] using Dj
 rw [if_pos Dj] at B
 refine VW.skip ?_
 refine hK8 _ ?_
 refine VW.sqc fun K10 hK10 hCK10 => ?_
 refine VW.block ?_
 obtain ⟨x13,Br,B⟩ := bind_some B
 refine VW.cut [(1,.val (.ptr [i64 a0_0,dI a0_1])),(4,.val (i64 s5)),(37,.val (.bool x13))] ?_ fun hy => ?_
 rotate_left
 ·clear B
  obtain ⟨v11,Ay,Br⟩ := bind_some Br
  obtain ⟨Z,Aa,Ab,Ac⟩ := idx_some Ay
  by_cases Cs : ¬ v11 = 1
  ·rw [if_pos Cs] at Br
   have A2 : ieq v11 1 = false := by simpa [ieq,ilt,ile] using Cs
   have A3 := A2
   try simp at A3
   cases Br
   refine VW.wds tau_ok Sound.none try_mixed _ _ 17 rfl (by kernel_rfl) (by rfl) ?_ hy
   simp [Z,Aa,Ab,Ac,A2,A3]
  ·rw [if_neg Cs] at Br
   have A2 : ieq v11 1 = true := by simpa [ieq,ilt,ile] using Cs
   have A3 := A2
   try simp at A3
   cases Br
   refine VW.wds tau_ok Sound.none try_mixed _ _ 17 rfl (by kernel_rfl) (by rfl) ?_ hy
   simp [Z,Aa,Ab,Ac,A2,A3]
 refine VW.cond rfl (fun C => ?_) (fun C => ?_)
 rotate_left
 ·
  replace C : ¬ (x13 = true) := by simpa [ieq,ilt,ile] using C
  rw [if_neg C] at B
  refine VW.skip ?_
  refine hK10 _ ?_
  refine zr [(1,.val (.ptr [i64 a0_0,dI a0_1])),(4,.val (i64 (w64 (s5 + 1))))] ?_ ?_
  ·simp
  cases B
  exact ⟨_,rfl,Fits.of rfl⟩
 replace C : x13 = true := by simpa [ieq,ilt,ile] using C
 rw [if_pos C] at B
 refine zs [(2,.ref 2 [] true (.list [])),(3,.val (i64 5))] ?_ ?_
 ·simp
 cases B
 have hq := A1 _ rfl
 subst hq
 dsimp only at h
 cases h
 refine VW.ret ?_
 simp [Post,PostM,PostC,PostC2,Nx,Bk]

theorem s_l11Diagonal_ok {a0_0 : Int} {a0_1 : List Int} {r : List Int} (h : s_l11Diagonal a0_0 a0_1 = some r) :
  VCall Try.prog 177 [.agg [i64 a0_0,dI a0_1]] [.own true (dI r)] := by
 unfold s_l11Diagonal at h
 refine VCall.enter Try.call177 Try.func177 rfl 28 Try.ntmps177 (by simp) [.tmp 2] rfl ?_
 show VW _ _ _ (mk [(0,.val (.agg [i64 a0_0,dI a0_1]))]) _
 refine zs [(1,.val (.ptr [i64 a0_0,dI a0_1]))] ?_ ?_
 ·simp
 refine zs [(1,.val (.ptr [i64 a0_0,dI a0_1])),(3,.ref 3 [] true (dI [1]))] ?_ ?_
 ·simp
 refine VW.sqc fun K1 hK1 hCK1 => ?_
 refine zs [(1,.val (.ptr [i64 a0_0,dI a0_1])),(3,.ref 3 [] true (dI [1])),(4,.val (i64 0))] ?_ ?_
 ·simp
 obtain ⟨x2,X,h⟩ := bind_some h
 refine VW.tlE [(3,.ref 3 [] true (dI x2))] (hCK1) ?_ ?_
 ·clear X
  refine hK1 _ ?_
  refine zs [(2,.ref 2 [] true (dI x2))] ?_ ?_
  ·simp
  cases h
  refine VW.ret ?_
  simp [Post,PostM,PostC,PostC2,Nx,Bk]
 refine VW.block ?_
 refine VW.loopF (s_l11Diagonal_L0 a0_0 a0_1) (fun s2 => [(1,.val (.ptr [i64 a0_0,dI a0_1])),(3,.ref 3 [] true (dI s2.1)),(4,.val (i64 s2.2))]) X (Fits.of rfl) ?_
 clear X
 intro s2 ox2 A Ax
 unfold s_l11Diagonal_L0 at A
 refine VW.sqc fun K4 hK4 hCK4 => ?_
 refine zs [(1,.val (.ptr [i64 a0_0,dI a0_1])),(3,.ref 3 [] true (dI s2.1)),(4,.val (i64 s2.2)),(10,.val (.bool (ilt s2.2 (a0_1.length : Int))))] ?_ ?_
 ·simp
 refine VW.cond rfl (fun R => ?_) (fun R => ?_)
 rotate_left
 ·
  replace R : ¬ (s2.2 < (a0_1.length : Int)) := by simpa [ieq,ilt,ile] using R
  rw [if_neg R] at A
  refine VW.exit ?_
  cases A
  have hq := Ax _ rfl
  subst hq
  exact Fits.of rfl
 replace R : s2.2 < (a0_1.length : Int) := by simpa [ieq,ilt,ile] using R
 rw [if_pos R] at A
 refine VW.skip ?_
 refine hK4 _ ?_
 refine VW.sqc fun K6 hK6 hCK6 => ?_
 refine VW.block ?_
 obtain ⟨v7,A5,A⟩ := bind_some A
 obtain ⟨Ao,Ah,Ai,Aj⟩ := idx_some A5
 obtain ⟨v8,Dc,A⟩ := bind_some A
 obtain ⟨Ca,A⟩ := chk_some A
 have Aq := Ca
 try simp at Aq
 refine VW.wdr tau_ok (Sound.none.add 25 (s_l11Scale_ok Dc) rfl) try_mixed _ [(1,.val (.ptr [i64 a0_0,dI a0_1])),(3,.ref 3 [] true (dI (s2.1 ++ v8))),(4,.val (i64 s2.2))] 13 rfl (by kernel_rfl) (by rfl) ?_ ?_
 ·simp [Ao,Ah,Ai,Aj,Ca,Aq]
 refine hK6 _ ?_
 refine zr [(1,.val (.ptr [i64 a0_0,dI a0_1])),(3,.ref 3 [] true (dI (s2.1 ++ v8))),(4,.val (i64 (w64 (s2.2 + 1))))] ?_ ?_
 ·simp
 cases A
 exact ⟨_,rfl,Fits.of rfl⟩

theorem s_l12Counts_ok {a0 : Int} {a1 : List Int} {r : List Int} (h : s_l12Counts a0 a1 = some r) :
  VCall Try.prog 261 [i64 a0,dI a1] [.own true (dI r)] := by
 unfold s_l12Counts at h
 refine VCall.enter Try.call261 Try.func261 rfl 59 Try.ntmps261 (by simp) [.tmp 4] rfl ?_
 show VW _ _ _ (mk [(0,.val (i64 a0)),(1,.val (dI a1))]) _
 refine zs [(0,.val (i64 a0)),(1,.val (dI a1))] ?_ ?_
 ·simp
 obtain ⟨B5,h⟩ := chk_some h
 have Ap := B5
 try simp at Ap
 refine zs [(0,.val (i64 a0)),(1,.val (dI a1)),(5,.ref 5 [] true (dI (List.replicate a0.toNat 0)))] ?_ ?_
 ·simp [B5,Ap]
 obtain ⟨l2,Gb,h⟩ := bind_some h
 rw [Option.some.inj Gb]
 obtain ⟨v3,Cr,h⟩ := bind_some h
 obtain ⟨Cb,Ar,As,At⟩ := idx_some Cr
 replace Ar : 0 < l2.length := Ar
 replace As : l2[0]? = some v3 := As
 replace At : ∀ h,l2[0]'h = v3 := At
 refine zs [(0,.val (i64 a0)),(1,.val (dI a1)),(5,.ref 5 [] true (dI (l2.set 0 1)))] ?_ ?_
 ·simp [Cb,Ar,As,At]
 refine VW.sqc fun K4 hK4 hCK4 => ?_
 refine zs [(0,.val (i64 a0)),(1,.val (dI a1)),(5,.ref 5 [] true (dI (l2.set 0 1))),(6,.val (i64 0))] ?_ ?_
 ·simp
 obtain ⟨x5,Y,h⟩ := bind_some h
 refine VW.tlE [(5,.ref 5 [] true (dI x5))] (hCK4) ?_ ?_
 ·clear Y
  refine hK4 _ ?_
  refine zs [(4,.ref 4 [] true (dI x5))] ?_ ?_
  ·simp
  cases h
  refine VW.ret ?_
  simp [Post,PostM,PostC,PostC2,Nx,Bk]
 refine VW.block ?_
 refine VW.loopF (s_l12Counts_L0 a0 a1) (fun s5 => [(0,.val (i64 a0)),(1,.val (dI a1)),(5,.ref 5 [] true (dI s5.1)),(6,.val (i64 s5.2))]) Y (Fits.of rfl) ?_
 clear Y
 intro s5 ox5 B A1
 unfold s_l12Counts_L0 at B
 refine VW.sqc fun K7 hK7 hCK7 => ?_
 refine zs [(0,.val (i64 a0)),(1,.val (dI a1)),(5,.ref 5 [] true (dI s5.1)),(6,.val (i64 s5.2)),(18,.val (.bool (ilt s5.2 (a1.length : Int))))] ?_ ?_
 ·simp
 refine VW.cond rfl (fun G => ?_) (fun G => ?_)
 rotate_left
 ·
  replace G : ¬ (s5.2 < (a1.length : Int)) := by simpa [ieq,ilt,ile] using G
  rw [if_neg G] at B
  refine VW.exit ?_
  cases B
  have hq := A1 _ rfl
  subst hq
  exact Fits.of rfl
 replace G : s5.2 < (a1.length : Int) := by simpa [ieq,ilt,ile] using G
 rw [if_pos G] at B
 refine VW.skip ?_
 refine hK7 _ ?_
 refine VW.sqc fun K9 hK9 hCK9 => ?_
 refine VW.block ?_
 obtain ⟨Au,B⟩ := chk_some B
 have M := Au
 try simp at M
 refine zs [(0,.val (i64 a0)),(1,.val (dI a1)),(5,.ref 5 [] true (dI s5.1)),(6,.val (i64 s5.2)),(7,.ref 7 [] true (dI (List.replicate a0.toNat 0)))] ?_ ?_
 ·simp [Au,M]
 refine VW.sqc fun K11 hK11 hCK11 => ?_
 refine zs [(0,.val (i64 a0)),(1,.val (dI a1)),(5,.ref 5 [] true (dI s5.1)),(6,.val (i64 s5.2)),(7,.ref 7 [] true (dI (List.replicate a0.toNat 0))),(8,.val (i64 0))] ?_ ?_
 ·simp
 obtain ⟨x12,Dk,B⟩ := bind_some B
 refine VW.tlE [(0,.val (i64 a0)),(1,.val (dI a1)),(6,.val (i64 s5.2)),(7,.ref 7 [] true (dI x12))] (hCK11) ?_ ?_
 ·clear Dk
  refine hK11 _ ?_
  refine zr [(0,.val (i64 a0)),(1,.val (dI a1)),(5,.ref 5 [] true (dI x12)),(6,.val (i64 s5.2))] ?_ ?_
  ·simp
  refine hK9 _ ?_
  refine zr [(0,.val (i64 a0)),(1,.val (dI a1)),(5,.ref 5 [] true (dI x12)),(6,.val (i64 (w64 (s5.2 + 1))))] ?_ ?_
  ·simp
  cases B
  exact ⟨_,rfl,Fits.of rfl⟩
 refine VW.block ?_
 refine VW.loopF (s_l12Counts_L1 a0 a1 s5) (fun s12 => [(0,.val (i64 a0)),(1,.val (dI a1)),(5,.ref 5 [] true (dI s5.1)),(6,.val (i64 s5.2)),(7,.ref 7 [] true (dI s12.1)),(8,.val (i64 s12.2))]) Dk (Fits.of rfl) ?_
 clear Dk
 intro s12 ox12 Aw Ej
 unfold s_l12Counts_L1 at Aw
 refine VW.sqc fun K14 hK14 hCK14 => ?_
 refine zs [(0,.val (i64 a0)),(1,.val (dI a1)),(5,.ref 5 [] true (dI s5.1)),(6,.val (i64 s5.2)),(7,.ref 7 [] true (dI s12.1)),(8,.val (i64 s12.2)),(25,.val (.bool (ilt s12.2 a0)))] ?_ ?_
 ·simp
 refine VW.cond rfl (fun S => ?_) (fun S => ?_)
 rotate_left
 ·
  replace S : ¬ (s12.2 < a0) := by simpa [ieq,ilt,ile] using S
  rw [if_neg S] at Aw
  refine VW.exit ?_
  cases Aw
  have hq := Ej _ rfl
  subst hq
  exact Fits.of rfl
 replace S : s12.2 < a0 := by simpa [ieq,ilt,ile] using S
 rw [if_pos S] at Aw
 refine VW.skip ?_
 refine hK14 _ ?_
 refine VW.sqc fun K16 hK16 hCK16 => ?_
 refine VW.block ?_
 refine zs [(0,.val (i64 a0)),(1,.val (dI a1)),(5,.ref 5 [] true (dI s5.1)),(6,.val (i64 s5.2)),(7,.ref 7 [] true (dI s12.1)),(8,.val (i64 s12.2)),(9,.val (i64 0))] ?_ ?_
 ·simp
 obtain ⟨x17,Bc,Aw⟩ := bind_some Aw
 refine VW.tlE [(0,.val (i64 a0)),(1,.val (dI a1)),(5,.ref 5 [] true (dI s5.1)),(6,.val (i64 s5.2)),(7,.ref 7 [] true (dI x17)),(8,.val (i64 s12.2))] (hCK16) ?_ ?_
 ·clear Bc
  refine hK16 _ ?_
  refine zr [(0,.val (i64 a0)),(1,.val (dI a1)),(5,.ref 5 [] true (dI s5.1)),(6,.val (i64 s5.2)),(7,.ref 7 [] true (dI x17)),(8,.val (i64 (w64 (s12.2 + 1))))] ?_ ?_
  ·simp
  cases Aw
  exact ⟨_,rfl,Fits.of rfl⟩
 refine VW.block ?_
 refine VW.loopF (s_l12Counts_L2 a0 a1 s5 s12) (fun s17 => [(0,.val (i64 a0)),(1,.val (dI a1)),(5,.ref 5 [] true (dI s5.1)),(6,.val (i64 s5.2)),(7,.ref 7 [] true (dI s17.1)),(8,.val (i64 s12.2)),(9,.val (i64 s17.2))]) Bc (Fits.of rfl) ?_
 clear Bc
 intro s17 ox17 E Cg
 unfold s_l12Counts_L2 at E
 refine VW.sqc fun K19 hK19 hCK19 => ?_
 refine zs [(0,.val (i64 a0)),(1,.val (dI a1)),(5,.ref 5 [] true (dI s5.1)),(6,.val (i64 s5.2)),(7,.ref 7 [] true (dI s17.1)),(8,.val (i64 s12.2)),(9,.val (i64 s17.2)),(30,.val (.bool (ilt s17.2 a0)))] ?_ ?_
 ·simp
 refine VW.cond rfl (fun Bf => ?_) (fun Bf => ?_)
 rotate_left
 ·
  replace Bf : ¬ (s17.2 < a0) := by simpa [ieq,ilt,ile] using Bf
  rw [if_neg Bf] at E
  refine VW.exit ?_
  cases E
  have hq := Cg _ rfl
  subst hq
  exact Fits.of rfl
 replace Bf : s17.2 < a0 := by simpa [ieq,ilt,ile] using Bf
 rw [if_pos Bf] at E
 refine VW.skip ?_
 refine hK19 _ ?_
 refine VW.sqc fun K21 hK21 hCK21 => ?_
 refine VW.block ?_
 obtain ⟨v22,Ci,E⟩ := bind_some E
 obtain ⟨Ek,El,Em,En⟩ := idx_some Ci
 obtain ⟨v23,Cj,E⟩ := bind_some E
 refine VW.ws tau_ok (Sound.none.add 44 (s_l01Mod_ok Cj) rfl) _ [(0,.val (i64 a0)),(1,.val (dI a1)),(5,.ref 5 [] true (dI s5.1)),(6,.val (i64 s5.2)),(7,.ref 7 [] true (dI s17.1)),(8,.val (i64 s12.2)),(9,.val (i64 s17.2)),(10,.val (i64 v23))] rfl ?_ ?_
 ·simp [Ek,El,Em,En]
 obtain ⟨v24,Dl,E⟩ := bind_some E
 obtain ⟨Eo,Ep,Eq,Er⟩ := idx_some Dl
 obtain ⟨v25,Dm,E⟩ := bind_some E
 obtain ⟨Es,Et,Eu,Ev⟩ := idx_some Dm
 refine VW.wdr tau_ok Sound.none try_mixed _ [(0,.val (i64 a0)),(1,.val (dI a1)),(5,.ref 5 [] true (dI s5.1)),(6,.val (i64 s5.2)),(7,.ref 7 [] true (dI (s17.1.set v23.toNat (w64 (v24 + v25))))),(8,.val (i64 s12.2)),(9,.val (i64 s17.2))] 12 rfl (by kernel_rfl) (by rfl) ?_ ?_
 ·simp [Eo,Ep,Eq,Er,Es,Et,Eu,Ev]
 refine hK21 _ ?_
 refine zr [(0,.val (i64 a0)),(1,.val (dI a1)),(5,.ref 5 [] true (dI s5.1)),(6,.val (i64 s5.2)),(7,.ref 7 [] true (dI (s17.1.set v23.toNat (w64 (v24 + v25))))),(8,.val (i64 s12.2)),(9,.val (i64 (w64 (s17.2 + 1))))] ?_ ?_
 ·simp
 cases E
 exact ⟨_,rfl,Fits.of rfl⟩

theorem s_l01Own_ok {a0 : List Int} {r : List Int} (h : s_l01Own a0 = some r) :
  VCall Try.prog 205 [dI a0] [.own true (dI r)] := by
 unfold s_l01Own at h
 refine VCall.enter Try.call205 Try.func205 rfl 6 Try.ntmps205 (by simp) [.tmp 2] rfl ?_
 show VW _ _ _ (mk [(0,.val (dI a0))]) _
 refine zs [(0,.val (dI a0))] ?_ ?_
 ·simp
 obtain ⟨B5,h⟩ := chk_some h
 have Ap := B5
 try simp at Ap
 refine zs [(2,.ref 2 [] true (dI (([] : List Int) ++ a0)))] ?_ ?_
 ·simp [B5,Ap]
 cases h
 refine VW.ret ?_
 simp [Post,PostM,PostC,PostC2,Nx,Bk]

theorem s_l13Search_b_ok {self : Int → (List Int) → Int → (List Int) → (List (List Int)) → Option (List (List Int))} (hself : ∀ {a0 a1 a2 a3 a4} {r : List (List Int)},self a0 a1 a2 a3 a4 = some r → VTkW Try.prog 263 [i64 a0,dI a1,i64 a2,dI a3] (a4.map dI) (r.map dI)) {a0 : Int} {a1 : List Int} {a2 : Int} {a3 : List Int} {a4 : List (List Int)} {r : List (List Int)} (h : s_l13Search_b self a0 a1 a2 a3 a4 = some r) :
  VTkW Try.prog 263 [i64 a0,dI a1,i64 a2,dI a3] (a4.map dI) (r.map dI) := by
 unfold s_l13Search_b at h
 refine VTkW.enter Try.call263 Try.func263 rfl 69 Try.ntmps263 (by simp) 10 rfl ?_
 show VW _ _ _ (mk [(0,.val (i64 a0)),(1,.val (dI a1)),(2,.val (i64 a2)),(3,.val (dI a3)),(4,.ref 4 [] false (dM a4))]) _
 refine zs [(0,.val (i64 a0)),(1,.val (dI a1)),(2,.val (i64 a2)),(3,.val (dI a3)),(4,.ref 4 [] false (dM a4))] ?_ ?_
 ·simp
 refine VW.sqc fun K1 hK1 hCK1 => ?_
 refine zs [(0,.val (i64 a0)),(1,.val (dI a1)),(2,.val (i64 a2)),(3,.val (dI a3)),(4,.ref 4 [] false (dM a4)),(15,.val (.bool (ilt 129 (a4.length : Int))))] ?_ ?_
 ·simp
 refine VW.cond rfl (fun P => ?_) (fun P => ?_)
 ·
  replace P : 129 < (a4.length : Int) := by simpa [ieq,ilt,ile] using P
  rw [if_pos P] at h
  refine zs [(10,.ref 10 [] false (dM a4))] ?_ ?_
  ·simp
  cases h
  refine VW.ret ?_
  simp [Post,PostM,PostC,PostC2,Nx,Bk]
 replace P : ¬ (129 < (a4.length : Int)) := by simpa [ieq,ilt,ile] using P
 rw [if_neg P] at h
 refine VW.skip ?_
 refine hK1 _ ?_
 refine VW.sqc fun K3 hK3 hCK3 => ?_
 refine zs [(0,.val (i64 a0)),(1,.val (dI a1)),(2,.val (i64 a2)),(3,.val (dI a3)),(4,.ref 4 [] false (dM a4)),(21,.val (.bool (ieq (a3.length : Int) (a1.length : Int))))] ?_ ?_
 ·simp
 refine VW.cond rfl (fun Bg => ?_) (fun Bg => ?_)
 ·
  replace Bg : (a3.length : Int) = (a1.length : Int) := by simpa [ieq,ilt,ile] using Bg
  rw [if_pos Bg] at h
  refine VW.sqc fun K5 hK5 hCK5 => ?_
  refine zs [(3,.val (dI a3)),(4,.ref 4 [] false (dM a4)),(23,.val (.bool (ieq a2 0)))] ?_ ?_
  ·simp
  obtain ⟨x6,Bs,h⟩ := bind_some h
  refine VW.tlE [(4,.ref 4 [] false (dM x6))] (hCK5) ?_ ?_
  ·clear Bs
   refine hK5 _ ?_
   refine zs [(10,.ref 10 [] false (dM x6))] ?_ ?_
   ·simp
   cases h
   refine VW.ret ?_
   simp [Post,PostM,PostC,PostC2,Nx,Bk]
  refine VW.cond rfl (fun G => ?_) (fun G => ?_)
  rotate_left
  ·
   replace G : ¬ (a2 = 0) := by simpa [ieq,ilt,ile] using G
   rw [if_neg G] at Bs
   refine VW.skip ?_
   cases Bs
   exact Fits.of rfl
  replace G : a2 = 0 := by simpa [ieq,ilt,ile] using G
  rw [if_pos G] at Bs
  obtain ⟨Ca,Bs⟩ := chk_some Bs
  have Aq := Ca
  try simp at Aq
  refine zr [(4,.ref 4 [] false (dM (a4 ++ [a3])))] ?_ ?_
  ·simp [Ca,Aq]
  cases Bs
  exact Fits.of rfl
 replace Bg : ¬ ((a3.length : Int) = (a1.length : Int)) := by simpa [ieq,ilt,ile] using Bg
 rw [if_neg Bg] at h
 refine VW.skip ?_
 refine hK3 _ ?_
 obtain ⟨Au,h⟩ := chk_some h
 have M := Au
 try simp at M
 obtain ⟨v11,Ay,h⟩ := bind_some h
 refine VW.ws tau_ok (Sound.none.add 34 (s_l12Counts_ok Ay) rfl) _ [(0,.val (i64 a0)),(1,.val (dI a1)),(2,.val (i64 a2)),(3,.val (dI a3)),(4,.ref 4 [] false (dM a4)),(11,.ref 11 [] true (dI v11))] rfl ?_ ?_
 ·simp [Au,M]
 refine VW.sqc fun K12 hK12 hCK12 => ?_
 obtain ⟨v13,A9,h⟩ := bind_some h
 obtain ⟨B1,B2,B3,B4⟩ := idx_some A9
 refine zs [(0,.val (i64 a0)),(1,.val (dI a1)),(2,.val (i64 a2)),(3,.val (dI a3)),(4,.ref 4 [] false (dM a4)),(39,.val (.bool (ieq v13 0)))] ?_ ?_
 ·simp [B1,B2,B3,B4]
 refine VW.cond rfl (fun C => ?_) (fun C => ?_)
 ·
  replace C : v13 = 0 := by simpa [ieq,ilt,ile] using C
  rw [if_pos C] at h
  refine zs [(10,.ref 10 [] false (dM a4))] ?_ ?_
  ·simp
  cases h
  refine VW.ret ?_
  simp [Post,PostM,PostC,PostC2,Nx,Bk]
 replace C : ¬ (v13 = 0) := by simpa [ieq,ilt,ile] using C
 rw [if_neg C] at h
 refine VW.skip ?_
 refine hK12 _ ?_
 refine VW.sqc fun K15 hK15 hCK15 => ?_
 refine zs [(0,.val (i64 a0)),(1,.val (dI a1)),(2,.val (i64 a2)),(3,.val (dI a3)),(4,.ref 4 [] false (dM a4)),(12,.val (i64 0))] ?_ ?_
 ·simp
 obtain ⟨x16,Dn,h⟩ := bind_some h
 refine VW.tlE [(4,.ref 4 [] false (dM x16))] (hCK15) ?_ ?_
 ·clear Dn
  refine hK15 _ ?_
  refine zs [(10,.ref 10 [] false (dM x16))] ?_ ?_
  ·simp
  cases h
  refine VW.ret ?_
  simp [Post,PostM,PostC,PostC2,Nx,Bk]
 refine VW.block ?_
 refine VW.loopF (s_l13Search_L0 a0 a1 a2 a3 self) (fun s16 => [(0,.val (i64 a0)),(1,.val (dI a1)),(2,.val (i64 a2)),(3,.val (dI a3)),(4,.ref 4 [] false (dM s16.1)),(12,.val (i64 s16.2))]) Dn (Fits.of rfl) ?_
 clear Dn
 intro s16 ox16 H Ew
 unfold s_l13Search_L0 at H
 refine VW.sqc fun K18 hK18 hCK18 => ?_
 refine zs [(0,.val (i64 a0)),(1,.val (dI a1)),(2,.val (i64 a2)),(3,.val (dI a3)),(4,.ref 4 [] false (dM s16.1)),(12,.val (i64 s16.2)),(43,.val (.bool (ilt s16.2 a0)))] ?_ ?_
 ·simp
 refine VW.cond rfl (fun Bh => ?_) (fun Bh => ?_)
 rotate_left
 ·
  replace Bh : ¬ (s16.2 < a0) := by simpa [ieq,ilt,ile] using Bh
  rw [if_neg Bh] at H
  refine VW.exit ?_
  cases H
  have hq := Ew _ rfl
  subst hq
  exact Fits.of rfl
 replace Bh : s16.2 < a0 := by simpa [ieq,ilt,ile] using Bh
 rw [if_pos Bh] at H
 refine VW.skip ?_
 refine hK18 _ ?_
 refine VW.sqc fun K20 hK20 hCK20 => ?_
 refine VW.block ?_
 obtain ⟨v21,F6,H⟩ := bind_some H
 obtain ⟨Cz,Bo,Bp,Bq⟩ := idx_some F6
 replace Bo : a3.length < a1.length := Bo
 replace Bp : a1[a3.length]? = some v21 := Bp
 replace Bq : ∀ h,a1[a3.length]'h = v21 := Bq
 obtain ⟨v22,Ci,H⟩ := bind_some H
 obtain ⟨v23,Cj,H⟩ := bind_some H
 obtain ⟨Do,H⟩ := chk_some H
 have Ck := Do
 try simp at Ck
 obtain ⟨v25,Dm,H⟩ := bind_some H
 refine VW.midr tau_ok ((Sound.none.add 60 (s_l01Mod_ok Ci) rfl).add 62 (s_l01Own_ok Cj) rfl) _ 21 [(0,.val (i64 a0)),(1,.val (dI a1)),(2,.val (i64 a2)),(3,.val (dI a3)),(12,.val (i64 s16.2)),(46,.val (i64 a0)),(47,.val (dI a1)),(60,.val (i64 v22)),(65,.ref 65 [] true (dI (v23 ++ [s16.2]))),(66,.ref 4 [] false (dM s16.1))] _ (fun _ => [(0,.val (i64 a0)),(1,.val (dI a1)),(2,.val (i64 a2)),(3,.val (dI a3)),(4,.ref 4 [] false (dM v25)),(12,.val (i64 s16.2))]) (fun _ => True) _ rfl rfl rfl ?_ (OStep.fits (f1 := [(0,.val (i64 a0)),(1,.val (dI a1)),(2,.val (i64 a2)),(3,.val (dI a3)),(12,.val (i64 s16.2)),(46,.val (i64 a0)),(47,.val (dI a1)),(60,.val (i64 v22)),(65,.val (dI (v23 ++ [s16.2]))),(66,.ref 4 [] false (dM s16.1))]) (Fits.freeze (s := 65) rfl (by simp) (Fits.of rfl)) (step_tkw' rfl rfl rfl (by simp) rfl (by simp) rfl (hself Dm))) (fun _ _ => ?_) (fun _ _ => ?_)
 ·simp [Cz,Bo,Bp,Bq,Do,Ck]
 ·simp [Cz,Bo,Bp,Bq,Do,Ck]
 refine hK20 _ ?_
 refine zr [(0,.val (i64 a0)),(1,.val (dI a1)),(2,.val (i64 a2)),(3,.val (dI a3)),(4,.ref 4 [] false (dM v25)),(12,.val (i64 (w64 (s16.2 + 1))))] ?_ ?_
 ·simp
 cases H
 exact ⟨_,rfl,Fits.of rfl⟩
theorem s_l13Search_ok : ∀ {n : Nat} {a0 : Int} {a1 : List Int} {a2 : Int} {a3 : List Int} {a4 : List (List Int)} {r : List (List Int)} (_ : s_l13Search n a0 a1 a2 a3 a4 = some r),
  VTkW Try.prog 263 [i64 a0,dI a1,i64 a2,dI a3] (a4.map dI) (r.map dI)
 | 0,_,_,_,_,_,_,h => by cases h
 | n + 1,_,_,_,_,_,_,h => s_l13Search_b_ok (fun h => s_l13Search_ok (n := n) h) h

theorem s_l01Same_ok {a0 : List Int} {a1 : List Int} {r : Bool} (h : s_l01Same a0 a1 = some r) :
  VCall Try.prog 259 [dI a0,dI a1] [.sc (.bool r)] := by
 unfold s_l01Same at h
 refine VCall.enter Try.call259 Try.func259 rfl 26 Try.ntmps259 (by simp) [.tmp 4] rfl ?_
 show VW _ _ _ (mk [(0,.val (dI a0)),(1,.val (dI a1))]) _
 refine zs [(0,.val (dI a0)),(1,.val (dI a1))] ?_ ?_
 ·simp
 refine VW.sqc fun K1 hK1 hCK1 => ?_
 refine zs [(0,.val (dI a0)),(1,.val (dI a1)),(10,.val (.bool (!(ieq (a0.length : Int) (a1.length : Int)))))] ?_ ?_
 ·simp
 refine VW.cond rfl (fun P => ?_) (fun P => ?_)
 ·
  replace P : ¬ (a0.length : Int) = (a1.length : Int) := by simpa [ieq,ilt,ile] using P
  rw [if_pos P] at h
  refine zs [(4,.val (.bool false))] ?_ ?_
  ·simp
  cases h
  refine VW.ret ?_
  simp [Post,PostM,PostC,PostC2,Nx,Bk]
 replace P : ¬ (¬ (a0.length : Int) = (a1.length : Int)) := by simpa [ieq,ilt,ile] using P
 rw [if_neg P] at h
 refine VW.skip ?_
 refine hK1 _ ?_
 refine VW.sqc fun K3 hK3 hCK3 => ?_
 refine zs [(0,.val (dI a0)),(1,.val (dI a1)),(5,.val (i64 0))] ?_ ?_
 ·simp
 obtain ⟨x4,J,h⟩ := bind_some h
 refine VW.tlO (fun y6 => []) x4 (hCK3) ?_ ?_
 ·clear J
  rintro y6 rfl
  dsimp only at h
  refine hK3 _ ?_
  refine zs [(4,.val (.bool true))] ?_ ?_
  ·simp
  cases h
  refine VW.ret ?_
  simp [Post,PostM,PostC,PostC2,Nx,Bk]
 refine VW.block ?_
 refine VW.loopF (s_l01Same_L0 a0 a1) (fun s4 => [(0,.val (dI a0)),(1,.val (dI a1)),(5,.val (i64 s4))]) J (Fits.of rfl) ?_
 clear J
 intro s4 ox4 An Ex
 unfold s_l01Same_L0 at An
 refine VW.sqc fun K7 hK7 hCK7 => ?_
 refine zs [(0,.val (dI a0)),(1,.val (dI a1)),(5,.val (i64 s4)),(14,.val (.bool (ilt s4 (a0.length : Int))))] ?_ ?_
 ·simp
 refine VW.cond rfl (fun G => ?_) (fun G => ?_)
 rotate_left
 ·
  replace G : ¬ (s4 < (a0.length : Int)) := by simpa [ieq,ilt,ile] using G
  rw [if_neg G] at An
  refine VW.exit ?_
  cases An
  have hq := Ex _ rfl
  subst hq
  exact ⟨_,rfl,Fits.of rfl⟩
 replace G : s4 < (a0.length : Int) := by simpa [ieq,ilt,ile] using G
 rw [if_pos G] at An
 refine VW.skip ?_
 refine hK7 _ ?_
 refine VW.sqc fun K9 hK9 hCK9 => ?_
 refine VW.block ?_
 obtain ⟨v10,Dp,An⟩ := bind_some An
 obtain ⟨Ey,Ez,E0,E1⟩ := idx_some Dp
 obtain ⟨v11,Ay,An⟩ := bind_some An
 obtain ⟨Z,Aa,Ab,Ac⟩ := idx_some Ay
 refine VW.wds tau_ok Sound.none try_mixed _ [(0,.val (dI a0)),(1,.val (dI a1)),(5,.val (i64 s4)),(25,.val (.bool (!(ieq v10 v11))))] 9 rfl (by kernel_rfl) (by rfl) ?_ ?_
 ·simp [Ey,Ez,E0,E1,Z,Aa,Ab,Ac]
 refine VW.cond rfl (fun V => ?_) (fun V => ?_)
 rotate_left
 ·
  replace V : ¬ (¬ v10 = v11) := by simpa [ieq,ilt,ile] using V
  rw [if_neg V] at An
  refine VW.skip ?_
  refine hK9 _ ?_
  refine zr [(0,.val (dI a0)),(1,.val (dI a1)),(5,.val (i64 (w64 (s4 + 1))))] ?_ ?_
  ·simp
  cases An
  exact ⟨_,rfl,Fits.of rfl⟩
 replace V : ¬ v10 = v11 := by simpa [ieq,ilt,ile] using V
 rw [if_pos V] at An
 refine zs [(4,.val (.bool false))] ?_ ?_
 ·simp
 cases An
 have hq := Ex _ rfl
 subst hq
 dsimp only at h
 cases h
 refine VW.ret ?_
 simp [Post,PostM,PostC,PostC2,Nx,Bk]

theorem s_l13Units_ok {a0_0 : Int} {a0_1 : List Int} {r : List (List Int)} (h : s_l13Units a0_0 a0_1 = some r) :
  VCall Try.prog 262 [.agg [i64 a0_0,dI a0_1]] [.own false (dM r)] := by
 unfold s_l13Units at h
 refine VCall.enter Try.call262 Try.func262 rfl 38 Try.ntmps262 (by simp) [.tmp 2] rfl ?_
 show VW _ _ _ (mk [(0,.val (.agg [i64 a0_0,dI a0_1]))]) _
 refine zs [(1,.val (.ptr [i64 a0_0,dI a0_1]))] ?_ ?_
 ·simp
 obtain ⟨v1,Az,h⟩ := bind_some h
 refine VW.ws tau_ok (Sound.none.add 7 (s_l11One_ok Az) rfl) _ [(1,.val (.ptr [i64 a0_0,dI a0_1])),(3,.ref 3 [] true (dM [v1]))] rfl ?_ ?_
 ·simp
 obtain ⟨v2,A4,h⟩ := bind_some h
 obtain ⟨v3,Cr,h⟩ := bind_some h
 refine VW.dls2 tau_ok (Sound.none.add 12 (s_l11Diagonal_ok A4) rfl) try_mixed [some 9,some 10,some 11,some 12,some 13,some 14,some 4] 5 [(3,.ref 3 [] true (dM [v1])),(10,.val (i64 a0_0)),(12,.ref 12 [] true (dI v2)),(13,.ref 13 [] true (dI []))] _ [(3,.ref 3 [] true (dM [v1])),(14,.ref 14 [] false (dM v3))] _ [(3,.ref 3 [] true (dM [v1])),(4,.ref 4 [] false (dM v3))] _ _ rfl rfl rfl rfl rfl (by kernel_rfl) (by rfl) ?_ (OStep.fits (f1 := [(3,.ref 3 [] true (dM [v1])),(10,.val (i64 a0_0)),(12,.val (dI v2)),(13,.val (dI []))]) (Fits.freeze (s := 12) rfl (by simp) (Fits.freeze (s := 13) rfl (by simp) (Fits.of rfl))) (step_tkw' rfl rfl rfl (by simp) rfl (by simp) rfl (s_l13Search_ok (n := BIG) Cr))) ?_ (step_asnW rfl rfl (by simp) rfl (by decide)) ?_ ?_
 ·simp
 ·simp
 ·simp
 refine VW.sqc fun K4 hK4 hCK4 => ?_
 refine zs [(3,.ref 3 [] true (dM [v1])),(4,.ref 4 [] false (dM v3)),(5,.val (i64 0))] ?_ ?_
 ·simp
 obtain ⟨x5,Y,h⟩ := bind_some h
 refine VW.tlE [(3,.ref 3 [] false (dM x5))] (hCK4) ?_ ?_
 ·clear Y
  refine hK4 _ ?_
  refine zs [(2,.ref 2 [] false (dM x5))] ?_ ?_
  ·simp
  cases h
  refine VW.ret ?_
  simp [Post,PostM,PostC,PostC2,Nx,Bk]
 refine VW.block ?_
 refine VW.loopF (s_l13Units_L0 v3) (fun s5 => [(3,.ref 3 [] false (dM s5.1)),(4,.ref 4 [] false (dM v3)),(5,.val (i64 s5.2))]) Y (Fits.weak (s := 3) rfl (by simp) (Fits.of rfl)) ?_
 clear Y
 intro s5 ox5 B A1
 unfold s_l13Units_L0 at B
 refine VW.sqc fun K7 hK7 hCK7 => ?_
 refine zs [(3,.ref 3 [] false (dM s5.1)),(4,.ref 4 [] false (dM v3)),(5,.val (i64 s5.2)),(18,.val (.bool (ilt s5.2 (v3.length : Int))))] ?_ ?_
 ·simp
 refine VW.cond rfl (fun G => ?_) (fun G => ?_)
 rotate_left
 ·
  replace G : ¬ (s5.2 < (v3.length : Int)) := by simpa [ieq,ilt,ile] using G
  rw [if_neg G] at B
  refine VW.exit ?_
  cases B
  have hq := A1 _ rfl
  subst hq
  exact Fits.of rfl
 replace G : s5.2 < (v3.length : Int) := by simpa [ieq,ilt,ile] using G
 rw [if_pos G] at B
 refine VW.skip ?_
 refine hK7 _ ?_
 obtain ⟨x9,A0,B⟩ := bind_some B
 refine VW.sqE [(3,.ref 3 [] false (dM x9)),(4,.ref 4 [] false (dM v3)),(5,.val (i64 s5.2))] ?_ ?_
 ·clear A0
  refine zr [(3,.ref 3 [] false (dM x9)),(4,.ref 4 [] false (dM v3)),(5,.val (i64 (w64 (s5.2 + 1))))] ?_ ?_
  ·simp
  cases B
  exact ⟨_,rfl,Fits.of rfl⟩
 refine VW.block ?_
 obtain ⟨v11,Ay,A0⟩ := bind_some A0
 obtain ⟨Z,Aa,Ab,Ac⟩ := idx_some Ay
 obtain ⟨v12,Cc,A0⟩ := bind_some A0
 obtain ⟨E2,Cl,Cm,Cn⟩ := idx_some Cc
 replace Cl : 0 < s5.1.length := Cl
 replace Cm : s5.1[0]? = some v12 := Cm
 replace Cn : ∀ h,s5.1[0]'h = v12 := Cn
 obtain ⟨v13,A9,A0⟩ := bind_some A0
 refine VW.wds tau_ok (Sound.none.add 28 (s_l01Same_ok A9) rfl) try_mixed _ [(3,.ref 3 [] false (dM s5.1)),(4,.ref 4 [] false (dM v3)),(5,.val (i64 s5.2)),(29,.val (.bool (!v13)))] 9 rfl (by kernel_rfl) (by rfl) ?_ ?_
 ·simp [Z,Aa,Ab,Ac,E2,Cl,Cm,Cn]
 refine VW.cond rfl (fun C => ?_) (fun C => ?_)
 rotate_left
 ·
  replace C : ¬ (v13 = false) := by simpa [ieq,ilt,ile] using C
  rw [if_neg C] at A0
  refine VW.skip ?_
  cases A0
  exact Fits.of rfl
 replace C : v13 = false := by simpa [ieq,ilt,ile] using C
 rw [if_pos C] at A0
 obtain ⟨E3,A0⟩ := chk_some A0
 have C0 := E3
 try simp at C0
 refine zr [(3,.ref 3 [] false (dM (s5.1 ++ [v11]))),(4,.ref 4 [] false (dM v3)),(5,.val (i64 s5.2))] ?_ ?_
 ·simp [Z,Aa,Ab,Ac,E3,C0]
 cases A0
 exact Fits.of rfl

theorem s_l13Small_ok {a0_0 : Int} {a0_1 : List Int} {r : (List (List Int)) × Int} (h : s_l13Small a0_0 a0_1 = some r) :
  VCall Try.prog 258 [.agg [i64 a0_0,dI a0_1]] [.own false (dM r.1),.sc (i64 r.2)] := by
 unfold s_l13Small at h
 refine VCall.enter Try.call258 Try.func258 rfl 24 Try.ntmps258 (by simp) [.tmp 2,.tmp 3] rfl ?_
 show VW _ _ _ (mk [(0,.val (.agg [i64 a0_0,dI a0_1]))]) _
 refine zs [(1,.val (.ptr [i64 a0_0,dI a0_1]))] ?_ ?_
 ·simp
 refine VW.sqc fun K1 hK1 hCK1 => ?_
 refine VW.block ?_
 obtain ⟨v2,A4,h⟩ := bind_some h
 refine VW.ws tau_ok (Sound.none.add 6 (s_l11Is_ok A4) rfl) _ [(1,.val (.ptr [i64 a0_0,dI a0_1])),(4,.val (.bool (!v2)))] rfl ?_ ?_
 ·simp
 refine VW.cond rfl (fun Av => ?_) (fun Av => ?_)
 ·
  replace Av : v2 = false := by simpa [ieq,ilt,ile] using Av
  rw [if_pos Av] at h
  refine zs [(2,.ref 2 [] true (.list [])),(3,.val (i64 1))] ?_ ?_
  ·simp
  have E4 := Option.some.inj h
  subst E4
  refine VW.fits (fl' := [(2,.ref 2 [] false (.list [])),(3,.val (i64 1))]) (Fits.weak (s := 2) rfl (by simp) (Fits.of rfl)) ?_
  refine VW.ret ?_
  simp [Post,PostM,PostC,PostC2,Nx,Bk]
 replace Av : ¬ (v2 = false) := by simpa [ieq,ilt,ile] using Av
 rw [if_neg Av] at h
 refine zs [(1,.val (.ptr [i64 a0_0,dI a0_1])),(8,.val (.bool (ilt 3 (a0_1.length : Int))))] ?_ ?_
 ·simp
 refine VW.cond rfl (fun Bg => ?_) (fun Bg => ?_)
 ·
  replace Bg : 3 < (a0_1.length : Int) := by simpa [ieq,ilt,ile] using Bg
  rw [if_pos Bg] at h
  refine zs [(2,.ref 2 [] true (.list [])),(3,.val (i64 5))] ?_ ?_
  ·simp
  have E4 := Option.some.inj h
  subst E4
  refine VW.fits (fl' := [(2,.ref 2 [] false (.list [])),(3,.val (i64 5))]) (Fits.weak (s := 2) rfl (by simp) (Fits.of rfl)) ?_
  refine VW.ret ?_
  simp [Post,PostM,PostC,PostC2,Nx,Bk]
 replace Bg : ¬ (3 < (a0_1.length : Int)) := by simpa [ieq,ilt,ile] using Bg
 rw [if_neg Bg] at h
 obtain ⟨v5,Dy,h⟩ := bind_some h
 obtain ⟨v6,Gc,h⟩ := bind_some h
 obtain ⟨v7,A5,h⟩ := bind_some h
 obtain ⟨Ao,Ah,Ai,Aj⟩ := idx_some A5
 replace Ah : 1 < v6.length := Ah
 replace Ai : v6[1]? = some v7 := Ai
 replace Aj : ∀ h,v6[1]'h = v7 := Aj
 refine VW.wds tau_ok ((Sound.none.add 17 (s_l11Diagonal_ok Dy) rfl).add 18 (s_l12Counts_ok Gc) rfl) try_mixed _ [(1,.val (.ptr [i64 a0_0,dI a0_1])),(13,.val (.bool (ilt 128 v7)))] 9 rfl (by kernel_rfl) (by rfl) ?_ ?_
 ·simp [Ao,Ah,Ai,Aj]
 refine VW.cond rfl (fun G => ?_) (fun G => ?_)
 ·
  replace G : 128 < v7 := by simpa [ieq,ilt,ile] using G
  rw [if_pos G] at h
  refine zs [(2,.ref 2 [] true (.list [])),(3,.val (i64 3))] ?_ ?_
  ·simp
  have E4 := Option.some.inj h
  subst E4
  refine VW.fits (fl' := [(2,.ref 2 [] false (.list [])),(3,.val (i64 3))]) (Fits.weak (s := 2) rfl (by simp) (Fits.of rfl)) ?_
  refine VW.ret ?_
  simp [Post,PostM,PostC,PostC2,Nx,Bk]
 replace G : ¬ (128 < v7) := by simpa [ieq,ilt,ile] using G
 rw [if_neg G] at h
 refine VW.skip ?_
 refine hK1 _ ?_
 obtain ⟨v9,Cp,h⟩ := bind_some h
 refine VW.ws tau_ok (Sound.none.add 23 (s_l13Units_ok Cp) rfl) _ [(2,.ref 2 [] false (dM v9)),(3,.val (i64 0))] rfl ?_ ?_
 ·simp
 cases h
 refine VW.ret ?_
 simp [Post,PostM,PostC,PostC2,Nx,Bk]

theorem s_LoopOfUnits_ok {a0_0 : Int} {a0_1 : List Int} {r : (List (List Int)) × Int} (h : s_LoopOfUnits a0_0 a0_1 = some r) :
  VCall Try.prog 248 [.agg [i64 a0_0,dI a0_1]] [.own true (dM r.1),.sc (i64 r.2)] := by
 unfold s_LoopOfUnits at h
 refine VCall.enter Try.call248 Try.func248 rfl 62 Try.ntmps248 (by simp) [.tmp 2,.tmp 3] rfl ?_
 show VW _ _ _ (mk [(0,.val (.agg [i64 a0_0,dI a0_1]))]) _
 refine zs [(1,.val (.ptr [i64 a0_0,dI a0_1]))] ?_ ?_
 ·simp
 obtain ⟨v1,Az,h⟩ := bind_some h
 refine VW.ws tau_ok (Sound.none.add 14 (s_l13Small_ok Az) rfl) _ [(1,.val (.ptr [i64 a0_0,dI a0_1])),(4,.ref 4 [] false (dM v1.1)),(5,.val (i64 v1.2))] rfl ?_ ?_
 ·simp
 refine VW.sqc fun K2 hK2 hCK2 => ?_
 refine zs [(1,.val (.ptr [i64 a0_0,dI a0_1])),(4,.ref 4 [] false (dM v1.1)),(5,.val (i64 v1.2)),(18,.val (.bool (!(ieq v1.2 0))))] ?_ ?_
 ·simp
 refine VW.cond rfl (fun Av => ?_) (fun Av => ?_)
 ·
  replace Av : ¬ v1.2 = 0 := by simpa [ieq,ilt,ile] using Av
  rw [if_pos Av] at h
  refine zs [(2,.ref 2 [] true (.list [])),(3,.val (i64 v1.2))] ?_ ?_
  ·simp
  cases h
  refine VW.ret ?_
  simp [Post,PostM,PostC,PostC2,Nx,Bk]
 replace Av : ¬ (¬ v1.2 = 0) := by simpa [ieq,ilt,ile] using Av
 rw [if_neg Av] at h
 refine VW.skip ?_
 refine hK2 _ ?_
 refine zs [(1,.val (.ptr [i64 a0_0,dI a0_1])),(4,.ref 4 [] false (dM v1.1)),(6,.ref 6 [] true (dM []))] ?_ ?_
 ·simp
 refine VW.sqc fun K4 hK4 hCK4 => ?_
 refine zs [(1,.val (.ptr [i64 a0_0,dI a0_1])),(4,.ref 4 [] false (dM v1.1)),(6,.ref 6 [] true (dM [])),(7,.val (i64 0))] ?_ ?_
 ·simp
 obtain ⟨x5,Y,h⟩ := bind_some h
 refine VW.tlE [(6,.ref 6 [] true (dM x5))] (hCK4) ?_ ?_
 ·clear Y
  refine hK4 _ ?_
  refine zs [(2,.ref 2 [] true (dM x5)),(3,.val (i64 0))] ?_ ?_
  ·simp
  cases h
  refine VW.ret ?_
  simp [Post,PostM,PostC,PostC2,Nx,Bk]
 refine VW.block ?_
 refine VW.loopF (s_LoopOfUnits_L0 a0_0 a0_1 v1) (fun s5 => [(1,.val (.ptr [i64 a0_0,dI a0_1])),(4,.ref 4 [] false (dM v1.1)),(6,.ref 6 [] true (dM s5.1)),(7,.val (i64 s5.2))]) Y (Fits.of rfl) ?_
 clear Y
 intro s5 ox5 B A1
 unfold s_LoopOfUnits_L0 at B
 refine VW.sqc fun K7 hK7 hCK7 => ?_
 refine zs [(1,.val (.ptr [i64 a0_0,dI a0_1])),(4,.ref 4 [] false (dM v1.1)),(6,.ref 6 [] true (dM s5.1)),(7,.val (i64 s5.2)),(24,.val (.bool (ilt s5.2 (v1.1.length : Int))))] ?_ ?_
 ·simp
 refine VW.cond rfl (fun G => ?_) (fun G => ?_)
 rotate_left
 ·
  replace G : ¬ (s5.2 < (v1.1.length : Int)) := by simpa [ieq,ilt,ile] using G
  rw [if_neg G] at B
  refine VW.exit ?_
  cases B
  have hq := A1 _ rfl
  subst hq
  exact Fits.of rfl
 replace G : s5.2 < (v1.1.length : Int) := by simpa [ieq,ilt,ile] using G
 rw [if_pos G] at B
 refine VW.skip ?_
 refine hK7 _ ?_
 refine VW.sqc fun K9 hK9 hCK9 => ?_
 refine VW.block ?_
 refine zs [(1,.val (.ptr [i64 a0_0,dI a0_1])),(4,.ref 4 [] false (dM v1.1)),(6,.ref 6 [] true (dM s5.1)),(7,.val (i64 s5.2)),(8,.ref 8 [] true (dI []))] ?_ ?_
 ·simp
 refine VW.sqc fun K10 hK10 hCK10 => ?_
 refine zs [(1,.val (.ptr [i64 a0_0,dI a0_1])),(4,.ref 4 [] false (dM v1.1)),(6,.ref 6 [] true (dM s5.1)),(7,.val (i64 s5.2)),(8,.ref 8 [] true (dI [])),(9,.val (i64 0))] ?_ ?_
 ·simp
 obtain ⟨x11,Dq,B⟩ := bind_some B
 refine VW.tlE [(1,.val (.ptr [i64 a0_0,dI a0_1])),(4,.ref 4 [] false (dM v1.1)),(6,.ref 6 [] true (dM s5.1)),(7,.val (i64 s5.2)),(8,.ref 8 [] true (dI x11))] (hCK10) ?_ ?_
 ·clear Dq
  refine hK10 _ ?_
  obtain ⟨E5,B⟩ := chk_some B
  have C1 := E5
  try simp at C1
  refine zr [(1,.val (.ptr [i64 a0_0,dI a0_1])),(4,.ref 4 [] false (dM v1.1)),(6,.ref 6 [] true (dM (s5.1 ++ [x11]))),(7,.val (i64 s5.2))] ?_ ?_
  ·simp [E5,C1]
  refine hK9 _ ?_
  refine zr [(1,.val (.ptr [i64 a0_0,dI a0_1])),(4,.ref 4 [] false (dM v1.1)),(6,.ref 6 [] true (dM (s5.1 ++ [x11]))),(7,.val (i64 (w64 (s5.2 + 1))))] ?_ ?_
  ·simp
  cases B
  exact ⟨_,rfl,Fits.of rfl⟩
 refine VW.block ?_
 refine VW.loopF (s_LoopOfUnits_L1 a0_0 a0_1 v1 s5) (fun s11 => [(1,.val (.ptr [i64 a0_0,dI a0_1])),(4,.ref 4 [] false (dM v1.1)),(6,.ref 6 [] true (dM s5.1)),(7,.val (i64 s5.2)),(8,.ref 8 [] true (dI s11.1)),(9,.val (i64 s11.2))]) Dq (Fits.of rfl) ?_
 clear Dq
 intro s11 ox11 I E6
 unfold s_LoopOfUnits_L1 at I
 refine VW.sqc fun K13 hK13 hCK13 => ?_
 refine zs [(1,.val (.ptr [i64 a0_0,dI a0_1])),(4,.ref 4 [] false (dM v1.1)),(6,.ref 6 [] true (dM s5.1)),(7,.val (i64 s5.2)),(8,.ref 8 [] true (dI s11.1)),(9,.val (i64 s11.2)),(31,.val (.bool (ilt s11.2 (v1.1.length : Int))))] ?_ ?_
 ·simp
 refine VW.cond rfl (fun C => ?_) (fun C => ?_)
 rotate_left
 ·
  replace C : ¬ (s11.2 < (v1.1.length : Int)) := by simpa [ieq,ilt,ile] using C
  rw [if_neg C] at I
  refine VW.exit ?_
  cases I
  have hq := E6 _ rfl
  subst hq
  exact Fits.of rfl
 replace C : s11.2 < (v1.1.length : Int) := by simpa [ieq,ilt,ile] using C
 rw [if_pos C] at I
 refine VW.skip ?_
 refine hK13 _ ?_
 refine VW.sqc fun K15 hK15 hCK15 => ?_
 refine VW.block ?_
 obtain ⟨v16,Cd,I⟩ := bind_some I
 obtain ⟨E7,E8,E9,Fa⟩ := idx_some Cd
 obtain ⟨v17,Bb,I⟩ := bind_some I
 obtain ⟨Fb,Fc,Fd,Fe⟩ := idx_some Bb
 obtain ⟨v18,Ce,I⟩ := bind_some I
 refine VW.wds tau_ok (Sound.none.add 43 (s_l11Times_ok Ce) rfl) try_mixed _ [(1,.val (.ptr [i64 a0_0,dI a0_1])),(4,.ref 4 [] false (dM v1.1)),(6,.ref 6 [] true (dM s5.1)),(7,.val (i64 s5.2)),(8,.ref 8 [] true (dI s11.1)),(9,.val (i64 s11.2)),(10,.ref 10 [] true (dI v18)),(11,.val (i64 0))] 10 rfl (by kernel_rfl) (by rfl) ?_ ?_
 ·simp [E7,E8,E9,Fa,Fb,Fc,Fd,Fe]
 refine VW.sqc fun K19 hK19 hCK19 => ?_
 obtain ⟨x20,Dr,I⟩ := bind_some I
 refine VW.tlE [(1,.val (.ptr [i64 a0_0,dI a0_1])),(4,.ref 4 [] false (dM v1.1)),(6,.ref 6 [] true (dM s5.1)),(7,.val (i64 s5.2)),(8,.ref 8 [] true (dI s11.1)),(9,.val (i64 s11.2)),(11,.val (i64 x20))] (hCK19) ?_ ?_
 ·clear Dr
  refine hK19 _ ?_
  obtain ⟨Ff,I⟩ := chk_some I
  have C2 := Ff
  try simp at C2
  refine zr [(1,.val (.ptr [i64 a0_0,dI a0_1])),(4,.ref 4 [] false (dM v1.1)),(6,.ref 6 [] true (dM s5.1)),(7,.val (i64 s5.2)),(8,.ref 8 [] true (dI (s11.1 ++ [x20]))),(9,.val (i64 s11.2))] ?_ ?_
  ·simp [Ff,C2]
  refine hK15 _ ?_
  refine zr [(1,.val (.ptr [i64 a0_0,dI a0_1])),(4,.ref 4 [] false (dM v1.1)),(6,.ref 6 [] true (dM s5.1)),(7,.val (i64 s5.2)),(8,.ref 8 [] true (dI (s11.1 ++ [x20]))),(9,.val (i64 (w64 (s11.2 + 1))))] ?_ ?_
  ·simp
  cases I
  exact ⟨_,rfl,Fits.of rfl⟩
 refine VW.block ?_
 refine VW.loopF (s_LoopOfUnits_L2 v1 v18) (fun s20 => [(1,.val (.ptr [i64 a0_0,dI a0_1])),(4,.ref 4 [] false (dM v1.1)),(6,.ref 6 [] true (dM s5.1)),(7,.val (i64 s5.2)),(8,.ref 8 [] true (dI s11.1)),(9,.val (i64 s11.2)),(10,.ref 10 [] true (dI v18)),(11,.val (i64 s20))]) Dr (Fits.of rfl) ?_
 clear Dr
 intro s20 ox20 Ad Fg
 unfold s_LoopOfUnits_L2 at Ad
 refine VW.sqc fun K22 hK22 hCK22 => ?_
 obtain ⟨v23,Cj,Ad⟩ := bind_some Ad
 obtain ⟨Fh,Fi,Fj,Fk⟩ := idx_some Cj
 obtain ⟨v24,Dl,Ad⟩ := bind_some Ad
 refine VW.ws tau_ok (Sound.none.add 49 (s_l01Same_ok Dl) rfl) _ [(1,.val (.ptr [i64 a0_0,dI a0_1])),(4,.ref 4 [] false (dM v1.1)),(6,.ref 6 [] true (dM s5.1)),(7,.val (i64 s5.2)),(8,.ref 8 [] true (dI s11.1)),(9,.val (i64 s11.2)),(10,.ref 10 [] true (dI v18)),(11,.val (i64 s20)),(50,.val (.bool (!v24)))] rfl ?_ ?_
 ·simp [Fh,Fi,Fj,Fk]
 refine VW.cond rfl (fun W => ?_) (fun W => ?_)
 rotate_left
 ·
  replace W : ¬ (v24 = false) := by simpa [ieq,ilt,ile] using W
  rw [if_neg W] at Ad
  refine VW.exit ?_
  cases Ad
  have hq := Fg _ rfl
  subst hq
  exact Fits.of rfl
 replace W : v24 = false := by simpa [ieq,ilt,ile] using W
 rw [if_pos W] at Ad
 refine VW.skip ?_
 refine hK22 _ ?_
 refine VW.block ?_
 refine zr [(1,.val (.ptr [i64 a0_0,dI a0_1])),(4,.ref 4 [] false (dM v1.1)),(6,.ref 6 [] true (dM s5.1)),(7,.val (i64 s5.2)),(8,.ref 8 [] true (dI s11.1)),(9,.val (i64 s11.2)),(10,.ref 10 [] true (dI v18)),(11,.val (i64 (w64 (s20 + 1))))] ?_ ?_
 ·simp
 cases Ad
 exact ⟨_,rfl,Fits.of rfl⟩

theorem s_l13Draw_ok {a0_0 : List Int} {a0_1 : Int} {a0_2 : Int} {r : (List (List Int)) × ((List Int) × Int × Int)} (h : s_l13Draw a0_0 a0_1 a0_2 = some r) :
  VPtr Try.prog 222 [.list (a0_0.map (D.int .u8)),i64 a0_1,.int .u64 a0_2] [] [.own true (dM r.1)] [.list (r.2.1.map (D.int .u8)),i64 r.2.2.1,.int .u64 r.2.2.2] := by
 unfold s_l13Draw at h
 refine VPtr.enter Try.call222 Try.func222 rfl 106 Try.ntmps222 (by simp) [.tmp 2] rfl ?_
 show VW _ _ _ (mk [(0,.ref 0 [] false (.ptr [.list (a0_0.map (D.int .u8)),i64 a0_1,.int .u64 a0_2]))]) _
 refine zs [(0,.ref 0 [] false (.ptr [.list (a0_0.map (D.int .u8)),i64 a0_1,.int .u64 a0_2]))] ?_ ?_
 ·simp
 refine VW.sqc fun K1 hK1 hCK1 => ?_
 obtain ⟨v2,A4,h⟩ := bind_some h
 refine VW.ws tau_ok (Sound.none.ptrc 16 (s_l01Next_ok A4)) _ [(0,.ref 0 [] false (.ptr [.list (v2.2.1.map (D.int .u8)),i64 v2.2.2.1,.int .u64 v2.2.2.2])),(16,.val (i64 v2.1))] rfl ?_ ?_
 ·simp
 obtain ⟨x3,O,h⟩ := bind_some h
 refine VW.tlO (fun y5 => [(0,.ref 0 [] false (.ptr [.list (y5.1.map (D.int .u8)),i64 y5.2.1,.int .u64 y5.2.2]))]) x3 (hCK1) ?_ ?_
 ·clear O
  rintro y5 rfl
  dsimp only at h
  refine hK1 _ ?_
  obtain ⟨v29,F7,h⟩ := bind_some h
  refine VW.ws tau_ok (Sound.none.ptrc 79 (s_l01Next_ok F7)) _ [(0,.ref 0 [] false (.ptr [.list (v29.2.1.map (D.int .u8)),i64 v29.2.2.1,.int .u64 v29.2.2.2])),(10,.val (i64 (w64 (1 + v29.1))))] rfl ?_ ?_
  ·simp
  refine zs [(0,.ref 0 [] false (.ptr [.list (v29.2.1.map (D.int .u8)),i64 v29.2.2.1,.int .u64 v29.2.2.2])),(10,.val (i64 (w64 (1 + v29.1)))),(11,.ref 11 [] true (dM []))] ?_ ?_
  ·simp
  refine VW.sqc fun K30 hK30 hCK30 => ?_
  refine zs [(0,.ref 0 [] false (.ptr [.list (v29.2.1.map (D.int .u8)),i64 v29.2.2.1,.int .u64 v29.2.2.2])),(10,.val (i64 (w64 (1 + v29.1)))),(11,.ref 11 [] true (dM [])),(12,.val (i64 0))] ?_ ?_
  ·simp
  obtain ⟨x31,Ds,h⟩ := bind_some h
  refine VW.tlE [(0,.ref 0 [] false (.ptr [.list (v29.2.1.map (D.int .u8)),i64 v29.2.2.1,.int .u64 v29.2.2.2])),(11,.ref 11 [] true (dM x31))] (hCK30) ?_ ?_
  ·clear Ds
   refine hK30 _ ?_
   refine zs [(0,.ref 0 [] false (.ptr [.list (v29.2.1.map (D.int .u8)),i64 v29.2.2.1,.int .u64 v29.2.2.2])),(2,.ref 2 [] true (dM x31))] ?_ ?_
   ·simp
   cases h
   refine VW.ret ?_
   simp [PostW,resW,PostWC,resWC,Nx,Bk]
  refine VW.block ?_
  refine VW.loopF (s_l13Draw_L1 v29) (fun s31 => [(0,.ref 0 [] false (.ptr [.list (v29.2.1.map (D.int .u8)),i64 v29.2.2.1,.int .u64 v29.2.2.2])),(10,.val (i64 (w64 (1 + v29.1)))),(11,.ref 11 [] true (dM s31.1)),(12,.val (i64 s31.2))]) Ds (Fits.of rfl) ?_
  clear Ds
  intro s31 ox31 Ae Fl
  unfold s_l13Draw_L1 at Ae
  refine VW.sqc fun K33 hK33 hCK33 => ?_
  refine zs [(0,.ref 0 [] false (.ptr [.list (v29.2.1.map (D.int .u8)),i64 v29.2.2.1,.int .u64 v29.2.2.2])),(10,.val (i64 (w64 (1 + v29.1)))),(11,.ref 11 [] true (dM s31.1)),(12,.val (i64 s31.2)),(84,.val (.bool (ilt s31.2 (w64 (1 + v29.1)))))] ?_ ?_
  ·simp
  refine VW.cond rfl (fun Bi => ?_) (fun Bi => ?_)
  rotate_left
  ·
   replace Bi : ¬ (s31.2 < (w64 (1 + v29.1))) := by simpa [ieq,ilt,ile] using Bi
   rw [if_neg Bi] at Ae
   refine VW.exit ?_
   cases Ae
   have hq := Fl _ rfl
   subst hq
   exact Fits.of rfl
  replace Bi : s31.2 < (w64 (1 + v29.1)) := by simpa [ieq,ilt,ile] using Bi
  rw [if_pos Bi] at Ae
  refine VW.skip ?_
  refine hK33 _ ?_
  refine VW.sqc fun K35 hK35 hCK35 => ?_
  refine VW.block ?_
  refine zs [(0,.ref 0 [] false (.ptr [.list (v29.2.1.map (D.int .u8)),i64 v29.2.2.1,.int .u64 v29.2.2.2])),(10,.val (i64 (w64 (1 + v29.1)))),(11,.ref 11 [] true (dM s31.1)),(12,.val (i64 s31.2)),(13,.ref 13 [] true (dI []))] ?_ ?_
  ·simp
  refine VW.sqc fun K36 hK36 hCK36 => ?_
  refine zs [(0,.ref 0 [] false (.ptr [.list (v29.2.1.map (D.int .u8)),i64 v29.2.2.1,.int .u64 v29.2.2.2])),(10,.val (i64 (w64 (1 + v29.1)))),(11,.ref 11 [] true (dM s31.1)),(12,.val (i64 s31.2)),(13,.ref 13 [] true (dI [])),(14,.val (i64 0))] ?_ ?_
  ·simp
  obtain ⟨x37,Dt,Ae⟩ := bind_some Ae
  refine VW.tlE [(0,.ref 0 [] false (.ptr [.list (v29.2.1.map (D.int .u8)),i64 v29.2.2.1,.int .u64 v29.2.2.2])),(10,.val (i64 (w64 (1 + v29.1)))),(11,.ref 11 [] true (dM s31.1)),(12,.val (i64 s31.2)),(13,.ref 13 [] true (dI x37))] (hCK36) ?_ ?_
  ·clear Dt
   refine hK36 _ ?_
   obtain ⟨Fm,Ae⟩ := chk_some Ae
   have C3 := Fm
   try simp at C3
   refine zr [(0,.ref 0 [] false (.ptr [.list (v29.2.1.map (D.int .u8)),i64 v29.2.2.1,.int .u64 v29.2.2.2])),(10,.val (i64 (w64 (1 + v29.1)))),(11,.ref 11 [] true (dM (s31.1 ++ [x37]))),(12,.val (i64 s31.2))] ?_ ?_
   ·simp [Fm,C3]
   refine hK35 _ ?_
   refine zr [(0,.ref 0 [] false (.ptr [.list (v29.2.1.map (D.int .u8)),i64 v29.2.2.1,.int .u64 v29.2.2.2])),(10,.val (i64 (w64 (1 + v29.1)))),(11,.ref 11 [] true (dM (s31.1 ++ [x37]))),(12,.val (i64 (w64 (s31.2 + 1))))] ?_ ?_
   ·simp
   cases Ae
   exact ⟨_,rfl,Fits.of rfl⟩
  refine VW.block ?_
  refine VW.loopF (s_l13Draw_L2 v29 s31) (fun s37 => [(0,.ref 0 [] false (.ptr [.list (v29.2.1.map (D.int .u8)),i64 v29.2.2.1,.int .u64 v29.2.2.2])),(10,.val (i64 (w64 (1 + v29.1)))),(11,.ref 11 [] true (dM s31.1)),(12,.val (i64 s31.2)),(13,.ref 13 [] true (dI s37.1)),(14,.val (i64 s37.2))]) Dt (Fits.of rfl) ?_
  clear Dt
  intro s37 ox37 Af Fn
  unfold s_l13Draw_L2 at Af
  refine VW.sqc fun K39 hK39 hCK39 => ?_
  refine zs [(0,.ref 0 [] false (.ptr [.list (v29.2.1.map (D.int .u8)),i64 v29.2.2.1,.int .u64 v29.2.2.2])),(10,.val (i64 (w64 (1 + v29.1)))),(11,.ref 11 [] true (dM s31.1)),(12,.val (i64 s31.2)),(13,.ref 13 [] true (dI s37.1)),(14,.val (i64 s37.2)),(90,.val (.bool (ilt s37.2 (w64 (1 + v29.1)))))] ?_ ?_
  ·simp
  refine VW.cond rfl (fun Bj => ?_) (fun Bj => ?_)
  rotate_left
  ·
   replace Bj : ¬ (s37.2 < (w64 (1 + v29.1))) := by simpa [ieq,ilt,ile] using Bj
   rw [if_neg Bj] at Af
   refine VW.exit ?_
   cases Af
   have hq := Fn _ rfl
   subst hq
   exact Fits.of rfl
  replace Bj : s37.2 < (w64 (1 + v29.1)) := by simpa [ieq,ilt,ile] using Bj
  rw [if_pos Bj] at Af
  refine VW.skip ?_
  refine hK39 _ ?_
  refine VW.sqc fun K41 hK41 hCK41 => ?_
  refine VW.block ?_
  obtain ⟨Fo,Af⟩ := chk_some Af
  have C4 := Fo
  try simp at C4
  obtain ⟨Fp,Af⟩ := chk_some Af
  have C5 := Fp
  try simp at C5
  refine zr [(0,.ref 0 [] false (.ptr [.list (v29.2.1.map (D.int .u8)),i64 v29.2.2.1,.int .u64 v29.2.2.2])),(10,.val (i64 (w64 (1 + v29.1)))),(11,.ref 11 [] true (dM s31.1)),(12,.val (i64 s31.2)),(13,.ref 13 [] true (dI (s37.1 ++ [(w64 (s31.2 + s37.2)).tmod (w64 (1 + v29.1))]))),(14,.val (i64 s37.2))] ?_ ?_
  ·simp [Fo,C4,Fp,C5]
  refine hK41 _ ?_
  refine zr [(0,.ref 0 [] false (.ptr [.list (v29.2.1.map (D.int .u8)),i64 v29.2.2.1,.int .u64 v29.2.2.2])),(10,.val (i64 (w64 (1 + v29.1)))),(11,.ref 11 [] true (dM s31.1)),(12,.val (i64 s31.2)),(13,.ref 13 [] true (dI (s37.1 ++ [(w64 (s31.2 + s37.2)).tmod (w64 (1 + v29.1))]))),(14,.val (i64 (w64 (s37.2 + 1))))] ?_ ?_
  ·simp
  cases Af
  exact ⟨_,rfl,Fits.of rfl⟩
 refine VW.block ?_
 refine zs [(0,.ref 0 [] false (.ptr [.list (v2.2.1.map (D.int .u8)),i64 v2.2.2.1,.int .u64 v2.2.2.2])),(16,.val (i64 v2.1)),(17,.val (.bool (ieq v2.1 0)))] ?_ ?_
 ·simp
 refine VW.cond rfl (fun Q => ?_) (fun Q => ?_)
 ·
  replace Q : v2.1 = 0 := by simpa [ieq,ilt,ile] using Q
  rw [if_pos Q] at O
  obtain ⟨v7,A5,O⟩ := bind_some O
  refine VW.ws tau_ok (Sound.none.ptrc 21 (s_l01Pick_ok A5)) _ [(0,.ref 0 [] false (.ptr [.list (v7.2.1.map (D.int .u8)),i64 v7.2.2.1,.int .u64 v7.2.2.2])),(3,.ref 3 [] true (.ptr [i64 v7.1,dI []]))] rfl ?_ ?_
  ·simp
  refine VW.sqc fun K8 hK8 hCK8 => ?_
  obtain ⟨v9,Cp,O⟩ := bind_some O
  refine VW.ws tau_ok (Sound.none.ptrc 25 (s_l01Pick_ok Cp)) _ [(0,.ref 0 [] false (.ptr [.list (v9.2.1.map (D.int .u8)),i64 v9.2.2.1,.int .u64 v9.2.2.2])),(3,.ref 3 [] true (.ptr [i64 v7.1,dI []])),(4,.val (i64 v9.1))] rfl ?_ ?_
  ·simp
  obtain ⟨x10,Du,O⟩ := bind_some O
  refine VW.tlE [(0,.ref 0 [] false (.ptr [.list (x10.1.map (D.int .u8)),i64 x10.2.1,.int .u64 x10.2.2.1])),(3,.ref 3 [] true (.ptr [i64 x10.2.2.2.1,dI x10.2.2.2.2]))] (hCK8) ?_ ?_
  ·clear Du
   refine hK8 _ ?_
   obtain ⟨v17,Bb,O⟩ := bind_some O
   refine VW.ws tau_ok (Sound.none.add 43 (s_SignedBasis_ok Bb) rfl) _ [(0,.ref 0 [] false (.ptr [.list (x10.1.map (D.int .u8)),i64 x10.2.1,.int .u64 x10.2.2.1])),(5,.ref 5 [] true (dM v17.1))] rfl ?_ ?_
   ·simp
   refine zs [(0,.ref 0 [] false (.ptr [.list (x10.1.map (D.int .u8)),i64 x10.2.1,.int .u64 x10.2.2.1])),(2,.ref 2 [] true (dM v17.1))] ?_ ?_
   ·simp
   cases O
   dsimp only at h
   cases h
   refine VW.ret ?_
   simp [PostW,resW,PostWC,resWC,Nx,Bk]
  refine VW.block ?_
  refine VW.loopF s_l13Draw_L0 (fun s10 => [(0,.ref 0 [] false (.ptr [.list (s10.1.map (D.int .u8)),i64 s10.2.1,.int .u64 s10.2.2.1])),(3,.ref 3 [] true (.ptr [i64 s10.2.2.2.1,dI s10.2.2.2.2.1])),(4,.val (i64 s10.2.2.2.2.2))]) Du (Fits.of rfl) ?_
  clear Du
  intro s10 ox10 Ag Fq
  unfold s_l13Draw_L0 at Ag
  refine VW.sqc fun K12 hK12 hCK12 => ?_
  refine zs [(0,.ref 0 [] false (.ptr [.list (s10.1.map (D.int .u8)),i64 s10.2.1,.int .u64 s10.2.2.1])),(3,.ref 3 [] true (.ptr [i64 s10.2.2.2.1,dI s10.2.2.2.2.1])),(4,.val (i64 s10.2.2.2.2.2)),(27,.val (.bool (ilt 0 s10.2.2.2.2.2)))] ?_ ?_
  ·simp
  refine VW.cond rfl (fun T => ?_) (fun T => ?_)
  rotate_left
  ·
   replace T : ¬ (0 < s10.2.2.2.2.2) := by simpa [ieq,ilt,ile] using T
   rw [if_neg T] at Ag
   refine VW.exit ?_
   cases Ag
   have hq := Fq _ rfl
   subst hq
   exact Fits.of rfl
  replace T : 0 < s10.2.2.2.2.2 := by simpa [ieq,ilt,ile] using T
  rw [if_pos T] at Ag
  refine VW.skip ?_
  refine hK12 _ ?_
  refine VW.sqc fun K14 hK14 hCK14 => ?_
  refine VW.block ?_
  obtain ⟨v15,Ba,Ag⟩ := bind_some Ag
  obtain ⟨Fr,Ag⟩ := chk_some Ag
  have C6 := Fr
  try simp at C6
  refine VW.wxr tau_ok (Sound.none.ptrc 37 (s_l01Pick_ok Ba)) try_mixed [some 30,some 31,some 32,some 33,some 34,some 35,some 36,some 37,some 38,some 39,some 40,none] [(0,.ref 0 [] false (.ptr [.list (v15.2.1.map (D.int .u8)),i64 v15.2.2.1,.int .u64 v15.2.2.2])),(3,.ref 3 [] true (.ptr [i64 s10.2.2.2.1,dI (s10.2.2.2.2.1 ++ [v15.1])])),(4,.val (i64 s10.2.2.2.2.2))] [1,1,0,0,0,0,0,2,2,3,0,3] [[3],[30],[0],[3],[33],[34],[35],[32,36],[37],[31,38],[3],[40,39]] [0,36,38] rfl rfl (by kernel_rfl) (by rfl) ?_ ?_
  ·simp [Fr,C6]
  refine hK14 _ ?_
  refine zr [(0,.ref 0 [] false (.ptr [.list (v15.2.1.map (D.int .u8)),i64 v15.2.2.1,.int .u64 v15.2.2.2])),(3,.ref 3 [] true (.ptr [i64 s10.2.2.2.1,dI (s10.2.2.2.2.1 ++ [v15.1])])),(4,.val (i64 (w64 (s10.2.2.2.2.2 - 1))))] ?_ ?_
  ·simp
  cases Ag
  exact ⟨_,rfl,Fits.of rfl⟩
 replace Q : ¬ (v2.1 = 0) := by simpa [ieq,ilt,ile] using Q
 rw [if_neg Q] at O
 refine zs [(0,.ref 0 [] false (.ptr [.list (v2.2.1.map (D.int .u8)),i64 v2.2.2.1,.int .u64 v2.2.2.2])),(16,.val (i64 v2.1)),(47,.val (.bool (ieq v2.1 1)))] ?_ ?_
 ·simp
 refine VW.cond rfl (fun Bl => ?_) (fun Bl => ?_)
 rotate_left
 ·
  replace Bl : ¬ (v2.1 = 1) := by simpa [ieq,ilt,ile] using Bl
  rw [if_neg Bl] at O
  refine zs [(0,.ref 0 [] false (.ptr [.list (v2.2.1.map (D.int .u8)),i64 v2.2.2.1,.int .u64 v2.2.2.2])),(70,.val (.bool (ieq v2.1 2)))] ?_ ?_
  ·simp
  refine VW.cond rfl (fun U => ?_) (fun U => ?_)
  rotate_left
  ·
   replace U : ¬ (v2.1 = 2) := by simpa [ieq,ilt,ile] using U
   rw [if_neg U] at O
   refine VW.skip ?_
   cases O
   exact ⟨_,rfl,Fits.of rfl⟩
  replace U : v2.1 = 2 := by simpa [ieq,ilt,ile] using U
  rw [if_pos U] at O
  refine zs [(0,.ref 0 [] false (.ptr [.list (v2.2.1.map (D.int .u8)),i64 v2.2.2.1,.int .u64 v2.2.2.2])),(2,.ref 2 [] true (dM [[0,1,2,3,4],[1,0,3,4,2],[2,4,0,1,3],[3,2,4,0,1],[4,3,1,2,0]]))] ?_ ?_
  ·simp
  cases O
  dsimp only at h
  cases h
  refine VW.ret ?_
  simp [PostW,resW,PostWC,resWC,Nx,Bk]
 replace Bl : v2.1 = 1 := by simpa [ieq,ilt,ile] using Bl
 rw [if_pos Bl] at O
 obtain ⟨v19,Dh,O⟩ := bind_some O
 obtain ⟨v20,Cf,O⟩ := bind_some O
 refine VW.ws tau_ok ((Sound.none.ptrc 51 (s_l01Pick_ok Dh)).ptrc 53 (s_l01Next_ok Cf)) _ [(0,.ref 0 [] false (.ptr [.list (v20.2.1.map (D.int .u8)),i64 v20.2.2.1,.int .u64 v20.2.2.2])),(7,.ref 7 [] true (.ptr [i64 v19.1,dI [w64 (1 + v20.1)]]))] rfl ?_ ?_
 ·simp
 refine VW.sqc fun K21 hK21 hCK21 => ?_
 obtain ⟨v22,Ci,O⟩ := bind_some O
 refine VW.ws tau_ok (Sound.none.ptrc 58 (s_l01Next_ok Ci)) _ [(0,.ref 0 [] false (.ptr [.list (v22.2.1.map (D.int .u8)),i64 v22.2.2.1,.int .u64 v22.2.2.2])),(7,.ref 7 [] true (.ptr [i64 v19.1,dI [w64 (1 + v20.1)]])),(59,.val (.bool (ieq v22.1 0)))] rfl ?_ ?_
 ·simp
 obtain ⟨x23,Co,O⟩ := bind_some O
 refine VW.tlE [(0,.ref 0 [] false (.ptr [.list (v22.2.1.map (D.int .u8)),i64 v22.2.2.1,.int .u64 v22.2.2.2])),(7,.ref 7 [] true (.ptr [i64 x23.1,dI x23.2]))] (hCK21) ?_ ?_
 ·clear Co
  refine hK21 _ ?_
  obtain ⟨v26,F8,O⟩ := bind_some O
  refine VW.ws tau_ok (Sound.none.add 64 (s_LoopOfUnits_ok F8) rfl) _ [(0,.ref 0 [] false (.ptr [.list (v22.2.1.map (D.int .u8)),i64 v22.2.2.1,.int .u64 v22.2.2.2])),(8,.ref 8 [] true (dM v26.1)),(9,.val (i64 v26.2))] rfl ?_ ?_
  ·simp
  refine zs [(0,.ref 0 [] false (.ptr [.list (v22.2.1.map (D.int .u8)),i64 v22.2.2.1,.int .u64 v22.2.2.2])),(8,.ref 8 [] true (dM v26.1)),(68,.val (.bool (ieq v26.2 0)))] ?_ ?_
  ·simp
  refine VW.cond rfl (fun Bm => ?_) (fun Bm => ?_)
  rotate_left
  ·
   replace Bm : ¬ (v26.2 = 0) := by simpa [ieq,ilt,ile] using Bm
   rw [if_neg Bm] at O
   refine VW.skip ?_
   cases O
   exact ⟨_,rfl,Fits.of rfl⟩
  replace Bm : v26.2 = 0 := by simpa [ieq,ilt,ile] using Bm
  rw [if_pos Bm] at O
  refine zs [(0,.ref 0 [] false (.ptr [.list (v22.2.1.map (D.int .u8)),i64 v22.2.2.1,.int .u64 v22.2.2.2])),(2,.ref 2 [] true (dM v26.1))] ?_ ?_
  ·simp
  cases O
  dsimp only at h
  cases h
  refine VW.ret ?_
  simp [PostW,resW,PostWC,resWC,Nx,Bk]
 refine VW.cond rfl (fun W => ?_) (fun W => ?_)
 rotate_left
 ·
  replace W : ¬ (v22.1 = 0) := by simpa [ieq,ilt,ile] using W
  rw [if_neg W] at Co
  refine VW.skip ?_
  cases Co
  exact Fits.of rfl
 replace W : v22.1 = 0 := by simpa [ieq,ilt,ile] using W
 rw [if_pos W] at Co
 refine zr [(0,.ref 0 [] false (.ptr [.list (v22.2.1.map (D.int .u8)),i64 v22.2.2.1,.int .u64 v22.2.2.2])),(7,.ref 7 [] true (.ptr [i64 3,dI [2,2]]))] ?_ ?_
 ·simp
 cases Co
 exact Fits.of rfl

theorem s_l13DrawAny_ok {a0_0 : List Int} {a0_1 : Int} {a0_2 : Int} {r : (List (List Int)) × ((List Int) × Int × Int)} (h : s_l13DrawAny a0_0 a0_1 a0_2 = some r) :
  VPtr Try.prog 176 [.list (a0_0.map (D.int .u8)),i64 a0_1,.int .u64 a0_2] [] [.shr (dM r.1)] [.list (r.2.1.map (D.int .u8)),i64 r.2.2.1,.int .u64 r.2.2.2] := by
 unfold s_l13DrawAny at h
 refine VPtr.enter Try.call176 Try.func176 rfl 34 Try.ntmps176 (by simp) [.tmp 2] rfl ?_
 show VW _ _ _ (mk [(0,.ref 0 [] false (.ptr [.list (a0_0.map (D.int .u8)),i64 a0_1,.int .u64 a0_2]))]) _
 refine zs [(0,.ref 0 [] false (.ptr [.list (a0_0.map (D.int .u8)),i64 a0_1,.int .u64 a0_2]))] ?_ ?_
 ·simp
 obtain ⟨v1,Az,h⟩ := bind_some h
 refine VW.ws tau_ok (Sound.none.ptrc 6 (s_l13Draw_ok Az)) _ [(0,.ref 0 [] false (.ptr [.list (v1.2.1.map (D.int .u8)),i64 v1.2.2.1,.int .u64 v1.2.2.2])),(3,.ref 3 [] true (dM v1.1))] rfl ?_ ?_
 ·simp
 refine zs [(0,.ref 0 [] false (.ptr [.list (v1.2.1.map (D.int .u8)),i64 v1.2.2.1,.int .u64 v1.2.2.2])),(3,.ref 3 [] true (dM v1.1)),(4,.val (i64 (v1.1.length : Int)))] ?_ ?_
 ·simp
 refine VW.sqc fun K2 hK2 hCK2 => ?_
 obtain ⟨v3,Cr,h⟩ := bind_some h
 refine VW.ws tau_ok (Sound.none.ptrc 10 (s_l01Next_ok Cr)) _ [(0,.ref 0 [] false (.ptr [.list (v3.2.1.map (D.int .u8)),i64 v3.2.2.1,.int .u64 v3.2.2.2])),(3,.ref 3 [] true (dM v1.1)),(4,.val (i64 (v1.1.length : Int))),(10,.val (i64 v3.1))] rfl ?_ ?_
 ·simp
 obtain ⟨x4,J,h⟩ := bind_some h
 refine VW.tlE [(0,.ref 0 [] false (.ptr [.list (x4.1.map (D.int .u8)),i64 x4.2.1,.int .u64 x4.2.2.1])),(3,.val (dM x4.2.2.2))] (hCK2) ?_ ?_
 ·clear J
  refine hK2 _ ?_
  refine zs [(0,.ref 0 [] false (.ptr [.list (x4.1.map (D.int .u8)),i64 x4.2.1,.int .u64 x4.2.2.1])),(2,.val (dM x4.2.2.2))] ?_ ?_
  ·simp
  cases h
  refine VW.ret ?_
  simp [PostW,resW,PostWC,resWC,Nx,Bk]
 refine VW.block ?_
 refine zs [(0,.ref 0 [] false (.ptr [.list (v3.2.1.map (D.int .u8)),i64 v3.2.2.1,.int .u64 v3.2.2.2])),(3,.ref 3 [] true (dM v1.1)),(4,.val (i64 (v1.1.length : Int))),(10,.val (i64 v3.1)),(11,.val (.bool (ieq v3.1 0)))] ?_ ?_
 ·simp
 refine VW.cond rfl (fun Q => ?_) (fun Q => ?_)
 ·
  replace Q : v3.1 = 0 := by simpa [ieq,ilt,ile] using Q
  rw [if_pos Q] at J
  obtain ⟨v7,A5,J⟩ := bind_some J
  obtain ⟨v8,Dc,J⟩ := bind_some J
  obtain ⟨Dd,De,Df,Dg⟩ := idx_some Dc
  obtain ⟨v9,Cp,J⟩ := bind_some J
  obtain ⟨v10,Dp,J⟩ := bind_some J
  obtain ⟨v11,Ay,J⟩ := bind_some J
  obtain ⟨Z,Aa,Ab,Ac⟩ := idx_some Ay
  refine VW.wxr tau_ok (((Sound.none.ptrc 16 (s_l01Next_ok A5)).ptrc 21 (s_l01Next_ok Cp)).ptrc 25 (s_l01Next_ok Dp)) try_mixed [some 13,some 14,some 15,some 16,some 17,some 18,some 19,some 20,some 21,some 22,some 23,some 24,some 25,some 26,none] [(0,.ref 0 [] false (.ptr [.list (v10.2.1.map (D.int .u8)),i64 v10.2.2.1,.int .u64 v10.2.2.2])),(3,.ref 3 [] true (dM (v1.1.set v7.1.toNat (v8.set v9.1.toNat v10.1))))] [0,0,0,2,1,1,0,0,2,0,0,1,2,0,3] [[3],[0],[4],[14,15],[13,16],[17],[0],[4],[19,20],[0],[4],[23],[22,24],[18,21],[26,25]] [0] rfl rfl (by kernel_rfl) (by rfl) ?_ ?_
  ·simp [Dd,De,Df,Dg,Z,Aa,Ab,Ac]
  cases J
  exact Fits.freeze (s := 3) rfl (by simp) (Fits.of rfl)
 replace Q : ¬ (v3.1 = 0) := by simpa [ieq,ilt,ile] using Q
 rw [if_neg Q] at J
 refine zs [(0,.ref 0 [] false (.ptr [.list (v3.2.1.map (D.int .u8)),i64 v3.2.2.1,.int .u64 v3.2.2.2])),(3,.ref 3 [] true (dM v1.1)),(10,.val (i64 v3.1)),(27,.val (.bool (ieq v3.1 1)))] ?_ ?_
 ·simp
 refine VW.cond rfl (fun V => ?_) (fun V => ?_)
 ·
  replace V : v3.1 = 1 := by simpa [ieq,ilt,ile] using V
  rw [if_pos V] at J
  refine VW.fits (fl' := [(0,.ref 0 [] false (.ptr [.list (v3.2.1.map (D.int .u8)),i64 v3.2.2.1,.int .u64 v3.2.2.2])),(3,.val (dM v1.1)),(10,.val (i64 v3.1)),(27,.val (.bool (ieq v3.1 1)))]) (Fits.freeze (s := 3) rfl (by simp) (Fits.of rfl)) ?_
  obtain ⟨Fs,J⟩ := chk_some J
  have C7 := Fs
  try simp at C7
  refine zr [(0,.ref 0 [] false (.ptr [.list (v3.2.1.map (D.int .u8)),i64 v3.2.2.1,.int .u64 v3.2.2.2])),(3,.val (dM (v1.1.drop 1)))] ?_ ?_
  ·simp [Fs,C7]
  cases J
  exact Fits.of rfl
 replace V : ¬ (v3.1 = 1) := by simpa [ieq,ilt,ile] using V
 rw [if_neg V] at J
 refine zs [(0,.ref 0 [] false (.ptr [.list (v3.2.1.map (D.int .u8)),i64 v3.2.2.1,.int .u64 v3.2.2.2])),(3,.ref 3 [] true (dM v1.1)),(31,.val (.bool (ieq v3.1 2)))] ?_ ?_
 ·simp
 refine VW.cond rfl (fun C => ?_) (fun C => ?_)
 rotate_left
 ·
  replace C : ¬ (v3.1 = 2) := by simpa [ieq,ilt,ile] using C
  rw [if_neg C] at J
  refine VW.skip ?_
  cases J
  exact Fits.freeze (s := 3) rfl (by simp) (Fits.of rfl)
 replace C : v3.1 = 2 := by simpa [ieq,ilt,ile] using C
 rw [if_pos C] at J
 refine zr [(0,.ref 0 [] false (.ptr [.list (v3.2.1.map (D.int .u8)),i64 v3.2.2.1,.int .u64 v3.2.2.2])),(3,.ref 3 [] true (.list []))] ?_ ?_
 ·simp
 cases J
 exact Fits.freeze (s := 3) rfl (by simp) (Fits.of rfl)

theorem s_DrawIsLoop_ok {a0 : List Int} {r : List (List Int)} (h : s_DrawIsLoop a0 = some r) :
  VCall Try.prog 104 [.list (a0.map (D.int .u8))] [.shr (dM r)] := by
 unfold s_DrawIsLoop at h
 refine VCall.enter Try.call104 Try.func104 rfl 6 Try.ntmps104 (by simp) [.tmp 2] rfl ?_
 show VW _ _ _ (mk [(0,.val (.list (a0.map (D.int .u8))))]) _
 refine zs [(0,.val (.list (a0.map (D.int .u8))))] ?_ ?_
 ·simp
 obtain ⟨v1,Az,h⟩ := bind_some h
 obtain ⟨v2,A4,h⟩ := bind_some h
 refine VW.ws tau_ok ((Sound.none.add 4 (s_l01From_ok Az) rfl).ptrc 5 (s_l13DrawAny_ok A4)) _ [(2,.val (dM v2.1))] rfl ?_ ?_
 ·simp
 cases h
 refine VW.ret ?_
 simp [Post,PostM,PostC,PostC2,Nx,Bk]

theorem s_DrawIsMoufangLoop_ok {a0 : List Int} {r : List (List Int)} (h : s_DrawIsMoufangLoop a0 = some r) :
  VCall Try.prog 32 [.list (a0.map (D.int .u8))] [.shr (dM r)] := by
 unfold s_DrawIsMoufangLoop at h
 refine VCall.enter Try.call32 Try.func32 rfl 5 Try.ntmps32 (by simp) [.tmp 2] rfl ?_
 show VW _ _ _ (mk [(0,.val (.list (a0.map (D.int .u8))))]) _
 refine zs [(0,.val (.list (a0.map (D.int .u8))))] ?_ ?_
 ·simp
 obtain ⟨v1,Az,h⟩ := bind_some h
 refine VW.ws tau_ok (Sound.none.add 4 (s_DrawIsLoop_ok Az) rfl) _ [(2,.val (dM v1))] rfl ?_ ?_
 ·simp
 cases h
 refine VW.ret ?_
 simp [Post,PostM,PostC,PostC2,Nx,Bk]

theorem i_length_I_ok {a0 : List Int} {r : Int} (h : i_length_I a0 = some r) :
  VCall Try.prog 174 [dI a0] [.sc (i64 r)] := by
 unfold i_length_I at h
 refine VCall.enter Try.call174 Try.func174 rfl 5 Try.ntmps174 (by simp) [.tmp 2] rfl ?_
 show VW _ _ _ (mk [(0,.val (dI a0))]) _
 refine zs [(0,.val (dI a0))] ?_ ?_
 ·simp
 refine zs [(2,.val (i64 (a0.length : Int)))] ?_ ?_
 ·simp
 cases h
 refine VW.ret ?_
 simp [Post,PostM,PostC,PostC2,Nx,Bk]

theorem i_inRange_ok {a0 : Int} {a1 : Int} {a2 : Int} {r : Bool} (h : i_inRange a0 a1 a2 = some r) :
  VCall Try.prog 160 [i64 a0,i64 a1,i64 a2] [.sc (.bool r)] := by
 unfold i_inRange at h
 refine VCall.enter Try.call160 Try.func160 rfl 15 Try.ntmps160 (by simp) [.tmp 6] rfl ?_
 show VW _ _ _ (mk [(0,.val (i64 a0)),(1,.val (i64 a1)),(2,.val (i64 a2))]) _
 refine zs [(0,.val (i64 a0)),(1,.val (i64 a1)),(2,.val (i64 a2))] ?_ ?_
 ·simp
 obtain ⟨x2,X,h⟩ := bind_some h
 refine VW.cut [(6,.val (.bool x2))] ?_ fun hy => ?_
 rotate_left
 ·clear h
  by_cases Bn : a1 ≤ a0
  ·rw [if_pos Bn] at X
   have K : ile a1 a0 = true := by simpa [ieq,ilt,ile] using Bn
   have L := K
   try simp at L
   cases X
   refine VW.ws tau_ok Sound.none _ _ rfl ?_ hy
   simp [K,L]
  ·rw [if_neg Bn] at X
   have K : ile a1 a0 = false := by simpa [ieq,ilt,ile] using Bn
   have L := K
   try simp at L
   cases X
   refine VW.ws tau_ok Sound.none _ _ rfl ?_ hy
   simp [K,L]
 cases h
 refine VW.ret ?_
 simp [Post,PostM,PostC,PostC2,Nx,Bk]
end Go.Vam
