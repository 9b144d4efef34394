import Derived.Test.YtijmfifejmgeaaaR9T
import Derived.Test.YtijmfifejmgeaaaFmG0
namespace Go.Vam
open Go Go.RowKit Go.Proofs
set_option maxRecDepth 100000
set_option linter.unusedSimpArgs false
set_option linter.unusedVariables false

theorem l_big_ok {a0 : List Int} {r : Bool} (h : l_big a0 = some r) :
  VCall Try.prog 23 [.list (a0.map (D.int .u8))] [.sc (.bool r)] := by
 unfold l_big at h
 refine VCall.enter Try.call23 Try.func23 rfl 6 Try.ntmps23 (by simp) [.tmp 2] rfl ?_
 show VW _ _ _ (mk [(0,.val (.list (a0.map (D.int .u8))))]) _
 refine zs [(0,.val (.list (a0.map (D.int .u8))))] ?_ ?_
 ·simp
 refine zs [(2,.val (.bool (ilt 4096 (a0.length : Int))))] ?_ ?_
 ·simp
 cases h
 refine VW.ret ?_
 simp [Post,PostM,PostC,PostC2,Nx,Bk]

theorem s_l01From_ok {a0 : List Int} {r : (List Int) × Int × Int} (h : s_l01From a0 = some r) :
  VCall Try.prog 85 [.list (a0.map (D.int .u8))] [.own false (.ptr [.list (r.1.map (D.int .u8)),i64 r.2.1,.int .u64 r.2.2])] := by
 unfold s_l01From at h
 refine VCall.enter Try.call85 Try.func85 rfl 38 Try.ntmps85 (by simp) [.tmp 2] rfl ?_
 show VW _ _ _ (mk [(0,.val (.list (a0.map (D.int .u8))))]) _
 refine zs [(0,.val (.list (a0.map (D.int .u8))))] ?_ ?_
 ·simp
 refine zs [(0,.val (.list (a0.map (D.int .u8)))),(3,.ref 3 [] false (.ptr [.list (a0.map (D.int .u8)),i64 0,.int .u64 (IntKind.u64.wrap (4409 + (IntKind.u64.wrap ((a0.length : Int)))))]))] ?_ ?_
 ·simp
 refine VW.sqc fun K1 hK1 hCK1 => ?_
 refine zs [(0,.val (.list (a0.map (D.int .u8)))),(3,.ref 3 [] false (.ptr [.list (a0.map (D.int .u8)),i64 0,.int .u64 (IntKind.u64.wrap (4409 + (IntKind.u64.wrap ((a0.length : Int)))))])),(4,.val (i64 0))] ?_ ?_
 ·simp
 obtain ⟨x2,H,h⟩ := bind_some h
 refine VW.tlE [(3,.ref 3 [] false (.ptr [.list (x2.1.map (D.int .u8)),i64 x2.2.1,.int .u64 x2.2.2]))] (hCK1) ?_ ?_
 ·clear H
  refine hK1 _ ?_
  refine zs [(2,.ref 2 [] false (.ptr [.list (x2.1.map (D.int .u8)),i64 x2.2.1,.int .u64 x2.2.2]))] ?_ ?_
  ·simp
  cases h
  refine VW.ret ?_
  simp [Post,PostM,PostC,PostC2,Nx,Bk]
 refine VW.block ?_
 refine VW.loopF (s_l01From_L0 a0) (fun s2 => [(0,.val (.list (a0.map (D.int .u8)))),(3,.ref 3 [] false (.ptr [.list (s2.1.map (D.int .u8)),i64 s2.2.1,.int .u64 s2.2.2.1])),(4,.val (i64 s2.2.2.2))]) H (Fits.of rfl) ?_
 clear H
 intro s2 ox2 A F
 unfold s_l01From_L0 at A
 refine VW.sqc fun K4 hK4 hCK4 => ?_
 obtain ⟨x6,A7,A⟩ := bind_some A
 refine VW.cut [(0,.val (.list (a0.map (D.int .u8)))),(3,.ref 3 [] false (.ptr [.list (s2.1.map (D.int .u8)),i64 s2.2.1,.int .u64 s2.2.2.1])),(4,.val (i64 s2.2.2.2)),(19,.val (.bool x6))] ?_ fun hy => ?_
 rotate_left
 ·clear A
  by_cases B0 : s2.2.2.2 < (a0.length : Int)
  ·rw [if_pos B0] at A7
   have W : ilt s2.2.2.2 (a0.length : Int) = true := by simpa [ieq,ilt,ile] using B0
   have X := W
   try simp at X
   cases A7
   refine VW.ws tau_ok Sound.none _ _ rfl ?_ hy
   simp [W,X]
  ·rw [if_neg B0] at A7
   have W : ilt s2.2.2.2 (a0.length : Int) = false := by simpa [ieq,ilt,ile] using B0
   have X := W
   try simp at X
   cases A7
   refine VW.ws tau_ok Sound.none _ _ rfl ?_ hy
   simp [W,X]
 refine VW.cond rfl (fun Y => ?_) (fun Y => ?_)
 rotate_left
 ·
  replace Y : ¬ (x6 = true) := by simpa [ieq,ilt,ile] using Y
  rw [if_neg Y] at A
  refine VW.exit ?_
  cases A
  have hq := F _ rfl
  subst hq
  exact Fits.of rfl
 replace Y : x6 = true := by simpa [ieq,ilt,ile] using Y
 rw [if_pos Y] at A
 refine VW.skip ?_
 refine hK4 _ ?_
 refine VW.sqc fun K8 hK8 hCK8 => ?_
 refine VW.block ?_
 obtain ⟨v9,Ah,A⟩ := bind_some A
 obtain ⟨Cc,Cd,Ce,Cf⟩ := idx_some Ah
 refine VW.wdr tau_ok Sound.none try_mixed _ [(0,.val (.list (a0.map (D.int .u8)))),(3,.ref 3 [] false (.ptr [.list (s2.1.map (D.int .u8)),i64 s2.2.1,.int .u64 (IntKind.u64.wrap ((IntKind.u64.wrap ((IntKind.u64.wrap (s2.2.2.1 * 1099511628211)) + (IntKind.u64.wrap (v9)))) + 11))])),(4,.val (i64 s2.2.2.2))] 15 rfl (by kernel_rfl) (by rfl) ?_ ?_
 ·simp [Cc,Cd,Ce,Cf]
 refine hK8 _ ?_
 refine zr [(0,.val (.list (a0.map (D.int .u8)))),(3,.ref 3 [] false (.ptr [.list (s2.1.map (D.int .u8)),i64 s2.2.1,.int .u64 (IntKind.u64.wrap ((IntKind.u64.wrap ((IntKind.u64.wrap (s2.2.2.1 * 1099511628211)) + (IntKind.u64.wrap (v9)))) + 11))])),(4,.val (i64 (w64 (s2.2.2.2 + 1))))] ?_ ?_
 ·simp
 cases A
 exact ⟨_,rfl,Fits.of rfl⟩

theorem s_l01Next_ok {a0_0 : List Int} {a0_1 : Int} {a0_2 : Int} {a1 : Int} {r : Int × ((List Int) × Int × Int)} (h : s_l01Next a0_0 a0_1 a0_2 a1 = some r) :
  VPtr Try.prog 87 [.list (a0_0.map (D.int .u8)),i64 a0_1,.int .u64 a0_2] [i64 a1] [.sc (i64 r.1)] [.list (r.2.1.map (D.int .u8)),i64 r.2.2.1,.int .u64 r.2.2.2] := by
 unfold s_l01Next at h
 refine VPtr.enter Try.call87 Try.func87 rfl 58 Try.ntmps87 (by simp) [.tmp 4] rfl ?_
 show VW _ _ _ (mk [(0,.ref 0 [] false (.ptr [.list (a0_0.map (D.int .u8)),i64 a0_1,.int .u64 a0_2])),(1,.val (i64 a1))]) _
 refine zs [(0,.ref 0 [] false (.ptr [.list (a0_0.map (D.int .u8)),i64 a0_1,.int .u64 a0_2])),(1,.val (i64 a1))] ?_ ?_
 ·simp
 refine VW.sqc fun K1 hK1 hCK1 => ?_
 refine zs [(0,.ref 0 [] false (.ptr [.list (a0_0.map (D.int .u8)),i64 a0_1,.int .u64 a0_2])),(1,.val (i64 a1)),(7,.val (.bool (ilt a1 1)))] ?_ ?_
 ·simp
 refine VW.cond rfl (fun Cg => ?_) (fun Cg => ?_)
 ·
  replace Cg : a1 < 1 := by simpa [ieq,ilt,ile] using Cg
  rw [if_pos Cg] at h
  refine zs [(0,.ref 0 [] false (.ptr [.list (a0_0.map (D.int .u8)),i64 a0_1,.int .u64 a0_2])),(4,.val (i64 0))] ?_ ?_
  ·simp
  cases h
  refine VW.ret ?_
  simp [PostW,resW,PostWC,resWC,Nx,Bk]
 replace Cg : ¬ (a1 < 1) := by simpa [ieq,ilt,ile] using Cg
 rw [if_neg Cg] at h
 refine VW.skip ?_
 refine hK1 _ ?_
 refine zs [(0,.ref 0 [] false (.ptr [.list (a0_0.map (D.int .u8)),i64 a0_1,.int .u64 (IntKind.u64.wrap ((IntKind.u64.wrap (a0_2 * 6364136223846793005)) + 1442695040888963407))])),(1,.val (i64 a1))] ?_ ?_
 ·simp
 refine zs [(0,.ref 0 [] false (.ptr [.list (a0_0.map (D.int .u8)),i64 a0_1,.int .u64 (IntKind.u64.wrap ((IntKind.u64.wrap (a0_2 * 6364136223846793005)) + 1442695040888963407))])),(1,.val (i64 a1)),(5,.val (i64 (w64 (band .u64 (shr .u64 (IntKind.u64.wrap ((IntKind.u64.wrap (a0_2 * 6364136223846793005)) + 1442695040888963407)) 33) 16777215))))] ?_ ?_
 ·simp
 refine VW.sqc fun K3 hK3 hCK3 => ?_
 refine VW.wds tau_ok Sound.none try_mixed _ [(0,.ref 0 [] false (.ptr [.list (a0_0.map (D.int .u8)),i64 a0_1,.int .u64 (IntKind.u64.wrap ((IntKind.u64.wrap (a0_2 * 6364136223846793005)) + 1442695040888963407))])),(1,.val (i64 a1)),(5,.val (i64 (w64 (band .u64 (shr .u64 (IntKind.u64.wrap ((IntKind.u64.wrap (a0_2 * 6364136223846793005)) + 1442695040888963407)) 33) 16777215)))),(33,.val (.bool (ilt a0_1 (a0_0.length : Int))))] 10 rfl (by kernel_rfl) (by rfl) ?_ ?_
 ·simp
 obtain ⟨x4,G,h⟩ := bind_some h
 refine VW.tlE [(0,.ref 0 [] false (.ptr [.list (x4.1.map (D.int .u8)),i64 x4.2.1,.int .u64 x4.2.2.1])),(1,.val (i64 a1)),(5,.val (i64 x4.2.2.2))] (hCK3) ?_ ?_
 ·clear G
  refine hK3 _ ?_
  obtain ⟨Dz,h⟩ := chk_some h
  have Cq := Dz
  try simp at Cq
  refine zs [(0,.ref 0 [] false (.ptr [.list (x4.1.map (D.int .u8)),i64 x4.2.1,.int .u64 x4.2.2.1])),(4,.val (i64 (x4.2.2.2.tmod a1)))] ?_ ?_
  ·simp [Dz,Cq]
  cases h
  refine VW.ret ?_
  simp [PostW,resW,PostWC,resWC,Nx,Bk]
 refine VW.cond rfl (fun B => ?_) (fun B => ?_)
 rotate_left
 ·
  replace B : ¬ (a0_1 < (a0_0.length : Int)) := by simpa [ieq,ilt,ile] using B
  rw [if_neg B] at G
  refine VW.skip ?_
  cases G
  exact Fits.of rfl
 replace B : a0_1 < (a0_0.length : Int) := by simpa [ieq,ilt,ile] using B
 rw [if_pos B] at G
 obtain ⟨v7,Bb,G⟩ := bind_some G
 obtain ⟨Bc,Bd,Be,Bf⟩ := idx_some Bb
 refine VW.wds tau_ok Sound.none try_mixed _ [(0,.ref 0 [] false (.ptr [.list (a0_0.map (D.int .u8)),i64 a0_1,.int .u64 (IntKind.u64.wrap ((IntKind.u64.wrap (a0_2 * 6364136223846793005)) + 1442695040888963407))])),(1,.val (i64 a1)),(5,.val (i64 (w64 ((w64 (band .u64 (shr .u64 (IntKind.u64.wrap ((IntKind.u64.wrap (a0_2 * 6364136223846793005)) + 1442695040888963407)) 33) 16777215)) + (w64 (v7))))))] 14 rfl (by kernel_rfl) (by rfl) ?_ ?_
 ·simp [Bc,Bd,Be,Bf]
 refine zr [(0,.ref 0 [] false (.ptr [.list (a0_0.map (D.int .u8)),i64 (w64 (a0_1 + 1)),.int .u64 (IntKind.u64.wrap ((IntKind.u64.wrap (a0_2 * 6364136223846793005)) + 1442695040888963407))])),(1,.val (i64 a1)),(5,.val (i64 (w64 ((w64 (band .u64 (shr .u64 (IntKind.u64.wrap ((IntKind.u64.wrap (a0_2 * 6364136223846793005)) + 1442695040888963407)) 33) 16777215)) + (w64 (v7))))))] ?_ ?_
 ·simp
 cases G
 exact Fits.of rfl

theorem s_l01Pick_ok {a0_0 : List Int} {a0_1 : Int} {a0_2 : Int} {a1 : List Int} {r : Int × ((List Int) × Int × Int)} (h : s_l01Pick a0_0 a0_1 a0_2 a1 = some r) :
  VPtr Try.prog 88 [.list (a0_0.map (D.int .u8)),i64 a0_1,.int .u64 a0_2] [dI a1] [.sc (i64 r.1)] [.list (r.2.1.map (D.int .u8)),i64 r.2.2.1,.int .u64 r.2.2.2] := by
 unfold s_l01Pick at h
 refine VPtr.enter Try.call88 Try.func88 rfl 12 Try.ntmps88 (by simp) [.tmp 4] rfl ?_
 show VW _ _ _ (mk [(0,.ref 0 [] false (.ptr [.list (a0_0.map (D.int .u8)),i64 a0_1,.int .u64 a0_2])),(1,.val (dI a1))]) _
 refine zs [(0,.ref 0 [] false (.ptr [.list (a0_0.map (D.int .u8)),i64 a0_1,.int .u64 a0_2])),(1,.val (dI a1))] ?_ ?_
 ·simp
 obtain ⟨v1,I,h⟩ := bind_some h
 obtain ⟨v2,Bg,h⟩ := bind_some h
 obtain ⟨Ch,Bh,Bi,Bj⟩ := idx_some Bg
 refine VW.ws tau_ok (Sound.none.ptrc 9 (s_l01Next_ok I)) _ [(0,.ref 0 [] false (.ptr [.list (v1.2.1.map (D.int .u8)),i64 v1.2.2.1,.int .u64 v1.2.2.2])),(4,.val (i64 v2))] rfl ?_ ?_
 ·simp [Ch,Bh,Bi,Bj]
 cases h
 refine VW.ret ?_
 simp [PostW,resW,PostWC,resWC,Nx,Bk]

theorem s_l01DrawPrime_ok {a0_0 : List Int} {a0_1 : Int} {a0_2 : Int} {r : Int × ((List Int) × Int × Int)} (h : s_l01DrawPrime a0_0 a0_1 a0_2 = some r) :
  VPtr Try.prog 196 [.list (a0_0.map (D.int .u8)),i64 a0_1,.int .u64 a0_2] [] [.sc (i64 r.1)] [.list (r.2.1.map (D.int .u8)),i64 r.2.2.1,.int .u64 r.2.2.2] := by
 unfold s_l01DrawPrime at h
 refine VPtr.enter Try.call196 Try.func196 rfl 6 Try.ntmps196 (by simp) [.tmp 2] rfl ?_
 show VW _ _ _ (mk [(0,.ref 0 [] false (.ptr [.list (a0_0.map (D.int .u8)),i64 a0_1,.int .u64 a0_2]))]) _
 refine zs [(0,.ref 0 [] false (.ptr [.list (a0_0.map (D.int .u8)),i64 a0_1,.int .u64 a0_2]))] ?_ ?_
 ·simp
 obtain ⟨v1,I,h⟩ := bind_some h
 refine VW.ws tau_ok (Sound.none.ptrc 5 (s_l01Pick_ok I)) _ [(0,.ref 0 [] false (.ptr [.list (v1.2.1.map (D.int .u8)),i64 v1.2.2.1,.int .u64 v1.2.2.2])),(2,.val (i64 v1.1))] rfl ?_ ?_
 ·simp
 cases h
 refine VW.ret ?_
 simp [PostW,resW,PostWC,resWC,Nx,Bk]

theorem s_l03Any_ok {a0_0 : List Int} {a0_1 : Int} {a0_2 : Int} {a1 : Int} {r : (Int × (List Int)) × ((List Int) × Int × Int)} (h : s_l03Any a0_0 a0_1 a0_2 a1 = some r) :
  VPtr Try.prog 126 [.list (a0_0.map (D.int .u8)),i64 a0_1,.int .u64 a0_2] [i64 a1] [.own true (.agg [i64 r.1.1,dI r.1.2])] [.list (r.2.1.map (D.int .u8)),i64 r.2.2.1,.int .u64 r.2.2.2] := by
 unfold s_l03Any at h
 refine VPtr.enterC Try.call126 Try.func126 rfl 41 Try.ntmps126 (by simp) (tau_ok 63) 4 rfl ?_
 show VW _ _ _ (mk [(0,.ref 0 [] false (.ptr [.list (a0_0.map (D.int .u8)),i64 a0_1,.int .u64 a0_2])),(1,.val (i64 a1))]) _
 refine zs [(0,.ref 0 [] false (.ptr [.list (a0_0.map (D.int .u8)),i64 a0_1,.int .u64 a0_2])),(1,.val (i64 a1)),(4,.ref 4 [] true (.ptr [i64 0,dI []]))] ?_ ?_
 ·simp
 obtain ⟨v1,I,h⟩ := bind_some h
 refine VW.ws tau_ok (Sound.none.ptrc 10 (s_l01DrawPrime_ok I)) _ [(0,.ref 0 [] false (.ptr [.list (v1.2.1.map (D.int .u8)),i64 v1.2.2.1,.int .u64 v1.2.2.2])),(1,.val (i64 a1)),(4,.ref 4 [] true (.ptr [i64 0,dI []])),(5,.val (i64 v1.1))] rfl ?_ ?_
 ·simp
 refine zs [(0,.ref 0 [] false (.ptr [.list (v1.2.1.map (D.int .u8)),i64 v1.2.2.1,.int .u64 v1.2.2.2])),(1,.val (i64 a1)),(4,.ref 4 [] true (.ptr [i64 0,dI []])),(5,.val (i64 v1.1)),(6,.ref 6 [] true (.ptr [i64 v1.1,dI []]))] ?_ ?_
 ·simp
 refine VW.sqc fun K2 hK2 hCK2 => ?_
 obtain ⟨v3,A8,h⟩ := bind_some h
 refine VW.ws tau_ok (Sound.none.ptrc 15 (s_l01Next_ok A8)) _ [(0,.ref 0 [] false (.ptr [.list (v3.2.1.map (D.int .u8)),i64 v3.2.2.1,.int .u64 v3.2.2.2])),(4,.ref 4 [] true (.ptr [i64 0,dI []])),(5,.val (i64 v1.1)),(6,.ref 6 [] true (.ptr [i64 v1.1,dI []])),(7,.val (i64 (w64 (1 + v3.1))))] rfl ?_ ?_
 ·simp
 obtain ⟨x4,G,h⟩ := bind_some h
 refine VW.tlE [(0,.ref 0 [] false (.ptr [.list (x4.1.map (D.int .u8)),i64 x4.2.1,.int .u64 x4.2.2.1])),(4,.ref 4 [] true (.ptr [i64 0,dI []])),(6,.ref 6 [] true (.ptr [i64 x4.2.2.2.1,dI x4.2.2.2.2]))] (hCK2) ?_ ?_
 ·clear G
  refine hK2 _ ?_
  refine zs [(0,.ref 0 [] false (.ptr [.list (x4.1.map (D.int .u8)),i64 x4.2.1,.int .u64 x4.2.2.1])),(4,.ref 4 [] true (.ptr [i64 x4.2.2.2.1,dI x4.2.2.2.2]))] ?_ ?_
  ·simp
  cases h
  refine VW.ret ?_
  simp [PostW,resW,PostWC,resWC,Nx,Bk]
 refine VW.block ?_
 refine VW.loopF (s_l03Any_L0 v1) (fun s4 => [(0,.ref 0 [] false (.ptr [.list (s4.1.map (D.int .u8)),i64 s4.2.1,.int .u64 s4.2.2.1])),(4,.ref 4 [] true (.ptr [i64 0,dI []])),(5,.val (i64 v1.1)),(6,.ref 6 [] true (.ptr [i64 s4.2.2.2.1,dI s4.2.2.2.2.1])),(7,.val (i64 s4.2.2.2.2.2))]) G (Fits.of rfl) ?_
 clear G
 intro s4 ox4 O Dl
 unfold s_l03Any_L0 at O
 refine VW.sqc fun K6 hK6 hCK6 => ?_
 refine zs [(0,.ref 0 [] false (.ptr [.list (s4.1.map (D.int .u8)),i64 s4.2.1,.int .u64 s4.2.2.1])),(4,.ref 4 [] true (.ptr [i64 0,dI []])),(5,.val (i64 v1.1)),(6,.ref 6 [] true (.ptr [i64 s4.2.2.2.1,dI s4.2.2.2.2.1])),(7,.val (i64 s4.2.2.2.2.2)),(18,.val (.bool (ilt 0 s4.2.2.2.2.2)))] ?_ ?_
 ·simp
 refine VW.cond rfl (fun Y => ?_) (fun Y => ?_)
 rotate_left
 ·
  replace Y : ¬ (0 < s4.2.2.2.2.2) := by simpa [ieq,ilt,ile] using Y
  rw [if_neg Y] at O
  refine VW.exit ?_
  cases O
  have hq := Dl _ rfl
  subst hq
  exact Fits.of rfl
 replace Y : 0 < s4.2.2.2.2.2 := by simpa [ieq,ilt,ile] using Y
 rw [if_pos Y] at O
 refine VW.skip ?_
 refine hK6 _ ?_
 refine VW.sqc fun K8 hK8 hCK8 => ?_
 refine VW.block ?_
 obtain ⟨v9,Ah,O⟩ := bind_some O
 obtain ⟨v10,Bl,O⟩ := bind_some O
 refine VW.ws tau_ok ((Sound.none.ptrc 27 (s_l01Next_ok Ah)).ptrc 30 (s_l01Pick_ok Bl)) _ [(0,.ref 0 [] false (.ptr [.list (v10.2.1.map (D.int .u8)),i64 v10.2.2.1,.int .u64 v10.2.2.2])),(4,.ref 4 [] true (.ptr [i64 0,dI []])),(5,.val (i64 v1.1)),(6,.ref 6 [] true (.ptr [i64 s4.2.2.2.1,dI s4.2.2.2.2.1])),(7,.val (i64 s4.2.2.2.2.2)),(8,.val (i64 v10.1))] rfl ?_ ?_
 ·simp
 refine VW.sqc fun K11 hK11 hCK11 => ?_
 obtain ⟨v12,Dm,O⟩ := bind_some O
 refine VW.ws tau_ok (Sound.none.ptrc 32 (s_l01Next_ok Dm)) _ [(0,.ref 0 [] false (.ptr [.list (v12.2.1.map (D.int .u8)),i64 v12.2.2.1,.int .u64 v12.2.2.2])),(4,.ref 4 [] true (.ptr [i64 0,dI []])),(5,.val (i64 v1.1)),(6,.ref 6 [] true (.ptr [i64 s4.2.2.2.1,dI s4.2.2.2.2.1])),(7,.val (i64 s4.2.2.2.2.2)),(8,.val (i64 v10.1)),(33,.val (.bool (ieq v12.1 0)))] rfl ?_ ?_
 ·simp
 obtain ⟨x13,Ai,O⟩ := bind_some O
 refine VW.tlE [(0,.ref 0 [] false (.ptr [.list (v12.2.1.map (D.int .u8)),i64 v12.2.2.1,.int .u64 v12.2.2.2])),(4,.ref 4 [] true (.ptr [i64 0,dI []])),(5,.val (i64 v1.1)),(6,.ref 6 [] true (.ptr [i64 s4.2.2.2.1,dI s4.2.2.2.2.1])),(7,.val (i64 s4.2.2.2.2.2)),(8,.val (i64 x13))] (hCK11) ?_ ?_
 ·clear Ai
  refine hK11 _ ?_
  obtain ⟨Bm,O⟩ := chk_some O
  have An := Bm
  try simp at An
  refine zr [(0,.ref 0 [] false (.ptr [.list (v12.2.1.map (D.int .u8)),i64 v12.2.2.1,.int .u64 v12.2.2.2])),(4,.ref 4 [] true (.ptr [i64 0,dI []])),(5,.val (i64 v1.1)),(6,.ref 6 [] true (.ptr [i64 s4.2.2.2.1,dI (s4.2.2.2.2.1 ++ [x13])])),(7,.val (i64 s4.2.2.2.2.2))] ?_ ?_
  ·simp [Bm,An]
  refine hK8 _ ?_
  refine zr [(0,.ref 0 [] false (.ptr [.list (v12.2.1.map (D.int .u8)),i64 v12.2.2.1,.int .u64 v12.2.2.2])),(4,.ref 4 [] true (.ptr [i64 0,dI []])),(5,.val (i64 v1.1)),(6,.ref 6 [] true (.ptr [i64 s4.2.2.2.1,dI (s4.2.2.2.2.1 ++ [x13])])),(7,.val (i64 (w64 (s4.2.2.2.2.2 - 1))))] ?_ ?_
  ·simp
  cases O
  exact ⟨_,rfl,Fits.of rfl⟩
 refine VW.cond rfl (fun Ay => ?_) (fun Ay => ?_)
 rotate_left
 ·
  replace Ay : ¬ (v12.1 = 0) := by simpa [ieq,ilt,ile] using Ay
  rw [if_neg Ay] at Ai
  refine VW.skip ?_
  cases Ai
  exact Fits.of rfl
 replace Ay : v12.1 = 0 := by simpa [ieq,ilt,ile] using Ay
 rw [if_pos Ay] at Ai
 refine zr [(0,.ref 0 [] false (.ptr [.list (v12.2.1.map (D.int .u8)),i64 v12.2.2.1,.int .u64 v12.2.2.2])),(4,.ref 4 [] true (.ptr [i64 0,dI []])),(5,.val (i64 v1.1)),(6,.ref 6 [] true (.ptr [i64 s4.2.2.2.1,dI s4.2.2.2.2.1])),(7,.val (i64 s4.2.2.2.2.2)),(8,.val (i64 0))] ?_ ?_
 ·simp
 cases Ai
 exact Fits.of rfl

theorem s_l01Own_ok {a0 : List Int} {r : List Int} (h : s_l01Own a0 = some r) :
  VCall Try.prog 205 [dI a0] [.own true (dI r)] := by
 unfold s_l01Own at h
 refine VCall.enter Try.call205 Try.func205 rfl 6 Try.ntmps205 (by simp) [.tmp 2] rfl ?_
 show VW _ _ _ (mk [(0,.val (dI a0))]) _
 refine zs [(0,.val (dI a0))] ?_ ?_
 ·simp
 obtain ⟨Cr,h⟩ := chk_some h
 have Bn := Cr
 try simp at Bn
 refine zs [(2,.ref 2 [] true (dI (([] : List Int) ++ a0)))] ?_ ?_
 ·simp [Cr,Bn]
 cases h
 refine VW.ret ?_
 simp [Post,PostM,PostC,PostC2,Nx,Bk]

theorem s_l03Draw_ok {a0_0 : List Int} {a0_1 : Int} {a0_2 : Int} {r : (Int × (List Int)) × ((List Int) × Int × Int)} (h : s_l03Draw a0_0 a0_1 a0_2 = some r) :
  VPtr Try.prog 232 [.list (a0_0.map (D.int .u8)),i64 a0_1,.int .u64 a0_2] [] [.own true (.agg [i64 r.1.1,dI r.1.2])] [.list (r.2.1.map (D.int .u8)),i64 r.2.2.1,.int .u64 r.2.2.2] := by
 unfold s_l03Draw at h
 refine VPtr.enterC Try.call232 Try.func232 rfl 8 Try.ntmps232 (by simp) (tau_ok 63) 2 rfl ?_
 show VW _ _ _ (mk [(0,.ref 0 [] false (.ptr [.list (a0_0.map (D.int .u8)),i64 a0_1,.int .u64 a0_2]))]) _
 refine zs [(0,.ref 0 [] false (.ptr [.list (a0_0.map (D.int .u8)),i64 a0_1,.int .u64 a0_2])),(2,.ref 2 [] true (.ptr [i64 0,dI []]))] ?_ ?_
 ·simp
 obtain ⟨v1,I,h⟩ := bind_some h
 obtain ⟨v2,Bg,h⟩ := bind_some h
 refine VW.ws tau_ok ((Sound.none.ptrc 6 (s_l01Pick_ok I)).ptrc 7 (s_l03Any_ok Bg)) _ [(0,.ref 0 [] false (.ptr [.list (v2.2.1.map (D.int .u8)),i64 v2.2.2.1,.int .u64 v2.2.2.2])),(2,.ref 2 [] true (.ptr [i64 v2.1.1,dI v2.1.2]))] rfl ?_ ?_
 ·simp
 cases h
 refine VW.ret ?_
 simp [PostW,resW,PostWC,resWC,Nx,Bk]

theorem s_l03Spoil_ok {a0_0 : List Int} {a0_1 : Int} {a0_2 : Int} {r : (Int × (List Int)) × ((List Int) × Int × Int)} (h : s_l03Spoil a0_0 a0_1 a0_2 = some r) :
  VPtr Try.prog 210 [.list (a0_0.map (D.int .u8)),i64 a0_1,.int .u64 a0_2] [] [.own true (.agg [i64 r.1.1,dI r.1.2])] [.list (r.2.1.map (D.int .u8)),i64 r.2.2.1,.int .u64 r.2.2.2] := by
 unfold s_l03Spoil at h
 refine VPtr.enterC Try.call210 Try.func210 rfl 40 Try.ntmps210 (by simp) (tau_ok 63) 2 rfl ?_
 show VW _ _ _ (mk [(0,.ref 0 [] false (.ptr [.list (a0_0.map (D.int .u8)),i64 a0_1,.int .u64 a0_2]))]) _
 refine zs [(0,.ref 0 [] false (.ptr [.list (a0_0.map (D.int .u8)),i64 a0_1,.int .u64 a0_2])),(2,.ref 2 [] true (.ptr [i64 0,dI []]))] ?_ ?_
 ·simp
 obtain ⟨v1,I,h⟩ := bind_some h
 refine VW.ws tau_ok (Sound.none.ptrc 5 (s_l03Draw_ok I)) _ [(0,.ref 0 [] false (.ptr [.list (v1.2.1.map (D.int .u8)),i64 v1.2.2.1,.int .u64 v1.2.2.2])),(2,.ref 2 [] true (.ptr [i64 0,dI []])),(3,.ref 3 [] true (.ptr [i64 v1.1.1,dI v1.1.2]))] rfl ?_ ?_
 ·simp
 refine VW.sqc fun K2 hK2 hCK2 => ?_
 obtain ⟨v3,A8,h⟩ := bind_some h
 refine VW.ws tau_ok (Sound.none.ptrc 7 (s_l01Next_ok A8)) _ [(0,.ref 0 [] false (.ptr [.list (v3.2.1.map (D.int .u8)),i64 v3.2.2.1,.int .u64 v3.2.2.2])),(2,.ref 2 [] true (.ptr [i64 0,dI []])),(3,.ref 3 [] true (.ptr [i64 v1.1.1,dI v1.1.2])),(7,.val (i64 v3.1))] rfl ?_ ?_
 ·simp
 obtain ⟨x4,G,h⟩ := bind_some h
 refine VW.tlE [(0,.ref 0 [] false (.ptr [.list (x4.1.map (D.int .u8)),i64 x4.2.1,.int .u64 x4.2.2.1])),(2,.ref 2 [] true (.ptr [i64 0,dI []])),(3,.ref 3 [] true (.ptr [i64 x4.2.2.2.1,dI x4.2.2.2.2]))] (hCK2) ?_ ?_
 ·clear G
  refine hK2 _ ?_
  refine zs [(0,.ref 0 [] false (.ptr [.list (x4.1.map (D.int .u8)),i64 x4.2.1,.int .u64 x4.2.2.1])),(2,.ref 2 [] true (.ptr [i64 x4.2.2.2.1,dI x4.2.2.2.2]))] ?_ ?_
  ·simp
  cases h
  refine VW.ret ?_
  simp [PostW,resW,PostWC,resWC,Nx,Bk]
 refine VW.block ?_
 refine zs [(0,.ref 0 [] false (.ptr [.list (v3.2.1.map (D.int .u8)),i64 v3.2.2.1,.int .u64 v3.2.2.2])),(2,.ref 2 [] true (.ptr [i64 0,dI []])),(3,.ref 3 [] true (.ptr [i64 v1.1.1,dI v1.1.2])),(7,.val (i64 v3.1)),(8,.val (.bool (ieq v3.1 0)))] ?_ ?_
 ·simp
 refine VW.cond rfl (fun B => ?_) (fun B => ?_)
 ·
  replace B : v3.1 = 0 := by simpa [ieq,ilt,ile] using B
  rw [if_pos B] at G
  obtain ⟨v7,Bb,G⟩ := bind_some G
  refine VW.wr tau_ok (Sound.none.ptrc 12 (s_l01Pick_ok Bb)) _ [(0,.ref 0 [] false (.ptr [.list (v7.2.1.map (D.int .u8)),i64 v7.2.2.1,.int .u64 v7.2.2.2])),(2,.ref 2 [] true (.ptr [i64 0,dI []])),(3,.ref 3 [] true (.ptr [i64 v7.1,dI v1.1.2]))] rfl ?_ ?_
  ·simp
  cases G
  exact Fits.of rfl
 replace B : ¬ (v3.1 = 0) := by simpa [ieq,ilt,ile] using B
 rw [if_neg B] at G
 refine zs [(0,.ref 0 [] false (.ptr [.list (v3.2.1.map (D.int .u8)),i64 v3.2.2.1,.int .u64 v3.2.2.2])),(2,.ref 2 [] true (.ptr [i64 0,dI []])),(3,.ref 3 [] true (.ptr [i64 v1.1.1,dI v1.1.2])),(7,.val (i64 v3.1)),(14,.val (.bool (ieq v3.1 1)))] ?_ ?_
 ·simp
 refine VW.cond rfl (fun P => ?_) (fun P => ?_)
 ·
  replace P : v3.1 = 1 := by simpa [ieq,ilt,ile] using P
  rw [if_pos P] at G
  obtain ⟨v9,Ah,G⟩ := bind_some G
  obtain ⟨v10,Bl,G⟩ := bind_some G
  obtain ⟨Cs,Bo,Bp,Bq⟩ := idx_some Bl
  replace Bo : 0 < v1.1.2.length := Bo
  replace Bp : v1.1.2[0]? = some v10 := Bp
  replace Bq : ∀ h,v1.1.2[0]'h = v10 := Bq
  refine VW.wxr tau_ok (Sound.none.ptrc 22 (s_l01Pick_ok Ah)) try_mixed [some 16,some 17,some 18,some 19,some 20,some 21,some 22,some 23,none] [(0,.ref 0 [] false (.ptr [.list (v9.2.1.map (D.int .u8)),i64 v9.2.2.1,.int .u64 v9.2.2.2])),(2,.ref 2 [] true (.ptr [i64 0,dI []])),(3,.ref 3 [] true (.ptr [i64 v1.1.1,dI (v1.1.2.set 0 v9.1)]))] [1,1,0,0,0,0,2,0,3] [[3],[16],[0],[3],[19],[20],[18,21],[17],[23,22]] [0,21] rfl rfl (by kernel_rfl) (by rfl) ?_ ?_
  ·simp [Cs,Bo,Bp,Bq]
  cases G
  exact Fits.of rfl
 replace P : ¬ (v3.1 = 1) := by simpa [ieq,ilt,ile] using P
 rw [if_neg P] at G
 refine zs [(0,.ref 0 [] false (.ptr [.list (v3.2.1.map (D.int .u8)),i64 v3.2.2.1,.int .u64 v3.2.2.2])),(2,.ref 2 [] true (.ptr [i64 0,dI []])),(3,.ref 3 [] true (.ptr [i64 v1.1.1,dI v1.1.2])),(7,.val (i64 v3.1)),(24,.val (.bool (ieq v3.1 2)))] ?_ ?_
 ·simp
 refine VW.cond rfl (fun Q => ?_) (fun Q => ?_)
 ·
  replace Q : v3.1 = 2 := by simpa [ieq,ilt,ile] using Q
  rw [if_pos Q] at G
  refine zr [(0,.ref 0 [] false (.ptr [.list (v3.2.1.map (D.int .u8)),i64 v3.2.2.1,.int .u64 v3.2.2.2])),(2,.ref 2 [] true (.ptr [i64 0,dI []])),(3,.ref 3 [] true (.ptr [i64 v1.1.1,dI []]))] ?_ ?_
  ·simp
  cases G
  exact Fits.of rfl
 replace Q : ¬ (v3.1 = 2) := by simpa [ieq,ilt,ile] using Q
 rw [if_neg Q] at G
 refine zs [(0,.ref 0 [] false (.ptr [.list (v3.2.1.map (D.int .u8)),i64 v3.2.2.1,.int .u64 v3.2.2.2])),(2,.ref 2 [] true (.ptr [i64 0,dI []])),(3,.ref 3 [] true (.ptr [i64 v1.1.1,dI v1.1.2])),(28,.val (.bool (ieq v3.1 3)))] ?_ ?_
 ·simp
 refine VW.cond rfl (fun R => ?_) (fun R => ?_)
 rotate_left
 ·
  replace R : ¬ (v3.1 = 3) := by simpa [ieq,ilt,ile] using R
  rw [if_neg R] at G
  refine VW.skip ?_
  cases G
  exact Fits.of rfl
 replace R : v3.1 = 3 := by simpa [ieq,ilt,ile] using R
 rw [if_pos R] at G
 obtain ⟨x13,Ai,G⟩ := bind_some G
 refine VW.tlE [(0,.ref 0 [] false (.ptr [.list (v3.2.1.map (D.int .u8)),i64 v3.2.2.1,.int .u64 v3.2.2.2])),(2,.ref 2 [] true (.ptr [i64 0,dI []])),(3,.ref 3 [] true (.ptr [i64 x13.1,dI x13.2]))] (Cl.fits _) ?_ ?_
 ·clear Ai
  cases G
  exact Fits.of rfl
 refine VW.block ?_
 refine VW.loopF s_l03Spoil_L0 (fun s13 => [(0,.ref 0 [] false (.ptr [.list (v3.2.1.map (D.int .u8)),i64 v3.2.2.1,.int .u64 v3.2.2.2])),(2,.ref 2 [] true (.ptr [i64 0,dI []])),(3,.ref 3 [] true (.ptr [i64 s13.1,dI s13.2]))]) Ai (Fits.of rfl) ?_
 clear Ai
 intro s13 ox13 Z Ct
 unfold s_l03Spoil_L0 at Z
 refine VW.sqc fun K15 hK15 hCK15 => ?_
 refine zs [(0,.ref 0 [] false (.ptr [.list (v3.2.1.map (D.int .u8)),i64 v3.2.2.1,.int .u64 v3.2.2.2])),(2,.ref 2 [] true (.ptr [i64 0,dI []])),(3,.ref 3 [] true (.ptr [i64 s13.1,dI s13.2])),(33,.val (.bool (ilt (s13.2.length : Int) 7)))] ?_ ?_
 ·simp
 refine VW.cond rfl (fun S => ?_) (fun S => ?_)
 rotate_left
 ·
  replace S : ¬ ((s13.2.length : Int) < 7) := by simpa [ieq,ilt,ile] using S
  rw [if_neg S] at Z
  refine VW.exit ?_
  cases Z
  have hq := Ct _ rfl
  subst hq
  exact Fits.of rfl
 replace S : (s13.2.length : Int) < 7 := by simpa [ieq,ilt,ile] using S
 rw [if_pos S] at Z
 refine VW.skip ?_
 refine hK15 _ ?_
 refine VW.block ?_
 obtain ⟨Br,Z⟩ := chk_some Z
 have Ao := Br
 try simp at Ao
 refine zr [(0,.ref 0 [] false (.ptr [.list (v3.2.1.map (D.int .u8)),i64 v3.2.2.1,.int .u64 v3.2.2.2])),(2,.ref 2 [] true (.ptr [i64 0,dI []])),(3,.ref 3 [] true (.ptr [i64 s13.1,dI (s13.2 ++ [1])]))] ?_ ?_
 ·simp [Br,Ao]
 cases Z
 exact ⟨_,rfl,Fits.of rfl⟩

theorem s_l03Two_ok {a0_0 : List Int} {a0_1 : Int} {a0_2 : Int} {a1 : Int} {r : ((Int × (List Int)) × (Int × (List Int))) × ((List Int) × Int × Int)} (h : s_l03Two a0_0 a0_1 a0_2 a1 = some r) :
  VPtr Try.prog 140 [.list (a0_0.map (D.int .u8)),i64 a0_1,.int .u64 a0_2] [i64 a1] [.tup [.agg [i64 r.1.1.1,dI r.1.1.2],.agg [i64 r.1.2.1,dI r.1.2.2]]] [.list (r.2.1.map (D.int .u8)),i64 r.2.2.1,.int .u64 r.2.2.2] := by
 unfold s_l03Two at h
 refine VPtr.enterT tau_ok Try.call140 Try.func140 rfl 99 Try.ntmps140 (by simp) [.cell 4 63,.cell 5 63] rfl (by simp) ?_
 show VW _ _ _ (mk [(0,.ref 0 [] false (.ptr [.list (a0_0.map (D.int .u8)),i64 a0_1,.int .u64 a0_2])),(1,.val (i64 a1))]) _
 refine zs [(0,.ref 0 [] false (.ptr [.list (a0_0.map (D.int .u8)),i64 a0_1,.int .u64 a0_2])),(1,.val (i64 a1)),(4,.ref 4 [] true (.ptr [i64 0,dI []])),(5,.ref 5 [] true (.ptr [i64 0,dI []]))] ?_ ?_
 ·simp
 obtain ⟨v1,I,h⟩ := bind_some h
 refine VW.ws tau_ok (Sound.none.ptrc 14 (s_l03Any_ok I)) _ [(0,.ref 0 [] false (.ptr [.list (v1.2.1.map (D.int .u8)),i64 v1.2.2.1,.int .u64 v1.2.2.2])),(4,.ref 4 [] true (.ptr [i64 0,dI []])),(5,.ref 5 [] true (.ptr [i64 0,dI []])),(6,.ref 6 [] true (.ptr [i64 v1.1.1,dI v1.1.2]))] rfl ?_ ?_
 ·simp
 refine zs [(0,.ref 0 [] false (.ptr [.list (v1.2.1.map (D.int .u8)),i64 v1.2.2.1,.int .u64 v1.2.2.2])),(4,.ref 4 [] true (.ptr [i64 0,dI []])),(5,.ref 5 [] true (.ptr [i64 0,dI []])),(6,.ref 6 [] true (.ptr [i64 v1.1.1,dI v1.1.2])),(7,.ref 7 [] true (.ptr [i64 v1.1.1,dI []]))] ?_ ?_
 ·simp
 refine VW.sqc fun K2 hK2 hCK2 => ?_
 refine zs [(0,.ref 0 [] false (.ptr [.list (v1.2.1.map (D.int .u8)),i64 v1.2.2.1,.int .u64 v1.2.2.2])),(4,.ref 4 [] true (.ptr [i64 0,dI []])),(5,.ref 5 [] true (.ptr [i64 0,dI []])),(6,.ref 6 [] true (.ptr [i64 v1.1.1,dI v1.1.2])),(7,.ref 7 [] true (.ptr [i64 v1.1.1,dI []])),(8,.val (i64 0))] ?_ ?_
 ·simp
 obtain ⟨x3,V,h⟩ := bind_some h
 refine VW.tlE [(0,.ref 0 [] false (.ptr [.list (x3.1.map (D.int .u8)),i64 x3.2.1,.int .u64 x3.2.2.1])),(4,.ref 4 [] true (.ptr [i64 0,dI []])),(5,.ref 5 [] true (.ptr [i64 0,dI []])),(6,.ref 6 [] true (.ptr [i64 v1.1.1,dI v1.1.2])),(7,.ref 7 [] true (.ptr [i64 x3.2.2.2.1,dI x3.2.2.2.2]))] (hCK2) ?_ ?_
 ·clear V
  refine hK2 _ ?_
  obtain ⟨v21,Ci,h⟩ := bind_some h
  refine VW.ws tau_ok (Sound.none.ptrc 73 (s_l01Next_ok Ci)) _ [(0,.ref 0 [] false (.ptr [.list (v21.2.1.map (D.int .u8)),i64 v21.2.2.1,.int .u64 v21.2.2.2])),(4,.ref 4 [] true (.ptr [i64 0,dI []])),(5,.ref 5 [] true (.ptr [i64 0,dI []])),(6,.ref 6 [] true (.ptr [i64 v1.1.1,dI v1.1.2])),(7,.ref 7 [] true (.ptr [i64 x3.2.2.2.1,dI x3.2.2.2.2])),(11,.val (i64 v21.1))] rfl ?_ ?_
  ·simp
  obtain ⟨Cu,h⟩ := chk_some h
  have B3 := Cu
  try simp at B3
  obtain ⟨v23,Cj,h⟩ := bind_some h
  obtain ⟨Cv,h⟩ := chk_some h
  have B4 := Cv
  try simp at B4
  obtain ⟨Ck,h⟩ := chk_some h
  have B5 := Ck
  try simp at B5
  have Cw : v23.length + v21.1.toNat ≤ 1099511627776 := by have q := Ck; simp only [List.length_take] at q; omega
  have Cx : v21.1 = 0 → v23.length ≤ 1099511627776 := fun _ => by omega
  refine VW.wds tau_ok (Sound.none.add 78 (s_l01Own_ok Cj) rfl) try_mixed _ [(0,.ref 0 [] false (.ptr [.list (v21.2.1.map (D.int .u8)),i64 v21.2.2.1,.int .u64 v21.2.2.2])),(4,.ref 4 [] true (.ptr [i64 0,dI []])),(5,.ref 5 [] true (.ptr [i64 0,dI []])),(6,.ref 6 [] true (.ptr [i64 v1.1.1,dI v1.1.2])),(7,.ref 7 [] true (.ptr [i64 x3.2.2.2.1,dI (v23 ++ (x3.2.2.2.2.take v21.1.toNat))]))] 9 rfl (by kernel_rfl) (by rfl) ?_ ?_
  ·by_cases D0 : v21.1 = 0 <;> simp [D0,Cu,B3,Cv,B4,Ck,B5,Cw,Cx]
  refine VW.sqc fun K26 hK26 hCK26 => ?_
  obtain ⟨v27,Cm,h⟩ := bind_some h
  refine VW.ws tau_ok (Sound.none.ptrc 86 (s_l01Next_ok Cm)) _ [(0,.ref 0 [] false (.ptr [.list (v27.2.1.map (D.int .u8)),i64 v27.2.2.1,.int .u64 v27.2.2.2])),(4,.ref 4 [] true (.ptr [i64 0,dI []])),(5,.ref 5 [] true (.ptr [i64 0,dI []])),(6,.ref 6 [] true (.ptr [i64 v1.1.1,dI v1.1.2])),(7,.ref 7 [] true (.ptr [i64 x3.2.2.2.1,dI (v23 ++ (x3.2.2.2.2.take v21.1.toNat))])),(86,.val (i64 v27.1))] rfl ?_ ?_
  ·simp
  refine VW.block ?_
  refine zs [(0,.ref 0 [] false (.ptr [.list (v27.2.1.map (D.int .u8)),i64 v27.2.2.1,.int .u64 v27.2.2.2])),(4,.ref 4 [] true (.ptr [i64 0,dI []])),(5,.ref 5 [] true (.ptr [i64 0,dI []])),(6,.ref 6 [] true (.ptr [i64 v1.1.1,dI v1.1.2])),(7,.ref 7 [] true (.ptr [i64 x3.2.2.2.1,dI (v23 ++ (x3.2.2.2.2.take v21.1.toNat))])),(86,.val (i64 v27.1)),(87,.val (.bool (ieq v27.1 0)))] ?_ ?_
  ·simp
  refine VW.cond rfl (fun Az => ?_) (fun Az => ?_)
  ·
   replace Az : v27.1 = 0 := by simpa [ieq,ilt,ile] using Az
   rw [if_pos Az] at h
   obtain ⟨v29,Dn,h⟩ := bind_some h
   refine VW.wxs tau_ok (Sound.none.ptrc 91 (s_l03Spoil_ok Dn)) try_mixed [some 89,some 90,some 91,none,none] [(0,.ref 0 [] false (.ptr [.list (v29.2.1.map (D.int .u8)),i64 v29.2.2.1,.int .u64 v29.2.2.2])),(4,.ref 4 [] true (.ptr [i64 v1.1.1,dI v1.1.2])),(5,.ref 5 [] true (.ptr [i64 v29.1.1,dI v29.1.2]))] [1,0,2,3,3] [[6],[0],[90],[4,89],[5,91]] [0,91] rfl rfl (by kernel_rfl) (by rfl) ?_ ?_
   ·simp
   have Cy := Option.some.inj h
   subst Cy
   refine VW.fits (fl' := [(0,.ref 0 [] false (.ptr [.list (v29.2.1.map (D.int .u8)),i64 v29.2.2.1,.int .u64 v29.2.2.2])),(4,.val (.ptr [i64 v1.1.1,dI v1.1.2])),(5,.val (.ptr [i64 v29.1.1,dI v29.1.2]))]) (Fits.freeze (s := 4) rfl (by simp) (Fits.freeze (s := 5) rfl (by simp) (Fits.of rfl))) ?_
   refine VW.ret ?_
   exact ⟨_,rfl,⟨rfl,_,rfl,rfl⟩,⟨rfl,_,rfl,rfl⟩,trivial⟩
  replace Az : ¬ (v27.1 = 0) := by simpa [ieq,ilt,ile] using Az
  rw [if_neg Az] at h
  refine zs [(0,.ref 0 [] false (.ptr [.list (v27.2.1.map (D.int .u8)),i64 v27.2.2.1,.int .u64 v27.2.2.2])),(4,.ref 4 [] true (.ptr [i64 0,dI []])),(5,.ref 5 [] true (.ptr [i64 0,dI []])),(6,.ref 6 [] true (.ptr [i64 v1.1.1,dI v1.1.2])),(7,.ref 7 [] true (.ptr [i64 x3.2.2.2.1,dI (v23 ++ (x3.2.2.2.2.take v21.1.toNat))])),(92,.val (.bool (ieq v27.1 1)))] ?_ ?_
  ·simp
  refine VW.cond rfl (fun A0 => ?_) (fun A0 => ?_)
  ·
   replace A0 : v27.1 = 1 := by simpa [ieq,ilt,ile] using A0
   rw [if_pos A0] at h
   obtain ⟨v31,Do,h⟩ := bind_some h
   refine VW.wxs tau_ok (Sound.none.ptrc 95 (s_l03Spoil_ok Do)) try_mixed [some 94,some 95,some 96,none,none] [(0,.ref 0 [] false (.ptr [.list (v31.2.1.map (D.int .u8)),i64 v31.2.2.1,.int .u64 v31.2.2.2])),(4,.ref 4 [] true (.ptr [i64 v31.1.1,dI v31.1.2])),(5,.ref 5 [] true (.ptr [i64 x3.2.2.2.1,dI (v23 ++ (x3.2.2.2.2.take v21.1.toNat))]))] [0,2,1,2,3] [[0],[94],[7],[4,95],[5,96]] [0,4,95] rfl rfl (by kernel_rfl) (by rfl) ?_ ?_
   ·simp
   have Cy := Option.some.inj h
   subst Cy
   refine VW.fits (fl' := [(0,.ref 0 [] false (.ptr [.list (v31.2.1.map (D.int .u8)),i64 v31.2.2.1,.int .u64 v31.2.2.2])),(4,.val (.ptr [i64 v31.1.1,dI v31.1.2])),(5,.val (.ptr [i64 x3.2.2.2.1,dI (v23 ++ (x3.2.2.2.2.take v21.1.toNat))]))]) (Fits.freeze (s := 4) rfl (by simp) (Fits.freeze (s := 5) rfl (by simp) (Fits.of rfl))) ?_
   refine VW.ret ?_
   exact ⟨_,rfl,⟨rfl,_,rfl,rfl⟩,⟨rfl,_,rfl,rfl⟩,trivial⟩
  replace A0 : ¬ (v27.1 = 1) := by simpa [ieq,ilt,ile] using A0
  rw [if_neg A0] at h
  refine VW.skip ?_
  refine hK26 _ ?_
  refine VW.wxs tau_ok Sound.none try_mixed [some 97,some 98,none,none] [(0,.ref 0 [] false (.ptr [.list (v27.2.1.map (D.int .u8)),i64 v27.2.2.1,.int .u64 v27.2.2.2])),(4,.ref 4 [] true (.ptr [i64 v1.1.1,dI v1.1.2])),(5,.ref 5 [] true (.ptr [i64 x3.2.2.2.1,dI (v23 ++ (x3.2.2.2.2.take v21.1.toNat))]))] [0,1,2,3] [[6],[7],[4,97],[5,98]] [4,6] rfl rfl (by kernel_rfl) (by rfl) ?_ ?_
  ·simp
  have Cy := Option.some.inj h
  subst Cy
  refine VW.fits (fl' := [(0,.ref 0 [] false (.ptr [.list (v27.2.1.map (D.int .u8)),i64 v27.2.2.1,.int .u64 v27.2.2.2])),(4,.val (.ptr [i64 v1.1.1,dI v1.1.2])),(5,.val (.ptr [i64 x3.2.2.2.1,dI (v23 ++ (x3.2.2.2.2.take v21.1.toNat))]))]) (Fits.freeze (s := 4) rfl (by simp) (Fits.freeze (s := 5) rfl (by simp) (Fits.of rfl))) ?_
  refine VW.ret ?_
  exact ⟨_,rfl,⟨rfl,_,rfl,rfl⟩,⟨rfl,_,rfl,rfl⟩,trivial⟩
 refine VW.block ?_
 refine VW.loopF (s_l03Two_L0 v1) (fun s3 => [(0,.ref 0 [] false (.ptr [.list (s3.1.map (D.int .u8)),i64 s3.2.1,.int .u64 s3.2.2.1])),(4,.ref 4 [] true (.ptr [i64 0,dI []])),(5,.ref 5 [] true (.ptr [i64 0,dI []])),(6,.ref 6 [] true (.ptr [i64 v1.1.1,dI v1.1.2])),(7,.ref 7 [] true (.ptr [i64 s3.2.2.2.1,dI s3.2.2.2.2.1])),(8,.val (i64 s3.2.2.2.2.2))]) V (Fits.of rfl) ?_
 clear V
 intro s3 ox3 C Ba
 unfold s_l03Two_L0 at C
 refine VW.sqc fun K5 hK5 hCK5 => ?_
 refine zs [(0,.ref 0 [] false (.ptr [.list (s3.1.map (D.int .u8)),i64 s3.2.1,.int .u64 s3.2.2.1])),(4,.ref 4 [] true (.ptr [i64 0,dI []])),(5,.ref 5 [] true (.ptr [i64 0,dI []])),(6,.ref 6 [] true (.ptr [i64 v1.1.1,dI v1.1.2])),(7,.ref 7 [] true (.ptr [i64 s3.2.2.2.1,dI s3.2.2.2.2.1])),(8,.val (i64 s3.2.2.2.2.2)),(23,.val (.bool (ilt s3.2.2.2.2.2 (v1.1.2.length : Int))))] ?_ ?_
 ·simp
 refine VW.cond rfl (fun B => ?_) (fun B => ?_)
 rotate_left
 ·
  replace B : ¬ (s3.2.2.2.2.2 < (v1.1.2.length : Int)) := by simpa [ieq,ilt,ile] using B
  rw [if_neg B] at C
  refine VW.exit ?_
  cases C
  have hq := Ba _ rfl
  subst hq
  exact Fits.of rfl
 replace B : s3.2.2.2.2.2 < (v1.1.2.length : Int) := by simpa [ieq,ilt,ile] using B
 rw [if_pos B] at C
 refine VW.skip ?_
 refine hK5 _ ?_
 refine VW.sqc fun K7 hK7 hCK7 => ?_
 refine VW.block ?_
 obtain ⟨v8,A1,C⟩ := bind_some C
 obtain ⟨v9,Ah,C⟩ := bind_some C
 refine VW.wxs tau_ok ((Sound.none.ptrc 34 (s_l01Next_ok A1)).ptrc 37 (s_l01Pick_ok Ah)) try_mixed [some 26,some 27,some 28,some 29,some 30,some 31,some 32,some 33,some 34,some 35,some 36,some 37,some 9] [(0,.ref 0 [] false (.ptr [.list (v9.2.1.map (D.int .u8)),i64 v9.2.2.1,.int .u64 v9.2.2.2])),(4,.ref 4 [] true (.ptr [i64 0,dI []])),(5,.ref 5 [] true (.ptr [i64 0,dI []])),(6,.ref 6 [] true (.ptr [i64 v1.1.1,dI v1.1.2])),(7,.ref 7 [] true (.ptr [i64 s3.2.2.2.1,dI s3.2.2.2.2.1])),(8,.val (i64 s3.2.2.2.2.2)),(9,.val (i64 v9.1))] [0,1,1,1,0,0,0,0,2,0,3,3,3] [[0],[6],[27],[28],[0],[6],[31],[32],[30,33],[34],[29,35],[26,36],[37]] [0] rfl rfl (by kernel_rfl) (by rfl) ?_ ?_
 ·simp
 refine VW.sqc fun K10 hK10 hCK10 => ?_
 obtain ⟨v11,Dp,C⟩ := bind_some C
 refine VW.ws tau_ok (Sound.none.ptrc 39 (s_l01Next_ok Dp)) _ [(0,.ref 0 [] false (.ptr [.list (v11.2.1.map (D.int .u8)),i64 v11.2.2.1,.int .u64 v11.2.2.2])),(4,.ref 4 [] true (.ptr [i64 0,dI []])),(5,.ref 5 [] true (.ptr [i64 0,dI []])),(6,.ref 6 [] true (.ptr [i64 v1.1.1,dI v1.1.2])),(7,.ref 7 [] true (.ptr [i64 s3.2.2.2.1,dI s3.2.2.2.2.1])),(8,.val (i64 s3.2.2.2.2.2)),(9,.val (i64 v9.1)),(40,.val (.bool (ilt 0 v11.1)))] rfl ?_ ?_
 ·simp
 obtain ⟨x12,M,C⟩ := bind_some C
 refine VW.tlE [(0,.ref 0 [] false (.ptr [.list (x12.1.map (D.int .u8)),i64 x12.2.1,.int .u64 x12.2.2.1])),(4,.ref 4 [] true (.ptr [i64 0,dI []])),(5,.ref 5 [] true (.ptr [i64 0,dI []])),(6,.ref 6 [] true (.ptr [i64 v1.1.1,dI v1.1.2])),(7,.ref 7 [] true (.ptr [i64 s3.2.2.2.1,dI s3.2.2.2.2.1])),(8,.val (i64 s3.2.2.2.2.2)),(9,.val (i64 x12.2.2.2))] (hCK10) ?_ ?_
 ·clear M
  refine hK10 _ ?_
  obtain ⟨Cz,C⟩ := chk_some C
  have B6 := Cz
  try simp at B6
  refine zr [(0,.ref 0 [] false (.ptr [.list (x12.1.map (D.int .u8)),i64 x12.2.1,.int .u64 x12.2.2.1])),(4,.ref 4 [] true (.ptr [i64 0,dI []])),(5,.ref 5 [] true (.ptr [i64 0,dI []])),(6,.ref 6 [] true (.ptr [i64 v1.1.1,dI v1.1.2])),(7,.ref 7 [] true (.ptr [i64 s3.2.2.2.1,dI (s3.2.2.2.2.1 ++ [x12.2.2.2])])),(8,.val (i64 s3.2.2.2.2.2))] ?_ ?_
  ·simp [Cz,B6]
  refine hK7 _ ?_
  refine zr [(0,.ref 0 [] false (.ptr [.list (x12.1.map (D.int .u8)),i64 x12.2.1,.int .u64 x12.2.2.1])),(4,.ref 4 [] true (.ptr [i64 0,dI []])),(5,.ref 5 [] true (.ptr [i64 0,dI []])),(6,.ref 6 [] true (.ptr [i64 v1.1.1,dI v1.1.2])),(7,.ref 7 [] true (.ptr [i64 s3.2.2.2.1,dI (s3.2.2.2.2.1 ++ [x12.2.2.2])])),(8,.val (i64 (w64 (s3.2.2.2.2.2 + 1))))] ?_ ?_
  ·simp
  cases C
  exact ⟨_,rfl,Fits.of rfl⟩
 refine VW.cond rfl (fun A2 => ?_) (fun A2 => ?_)
 rotate_left
 ·
  replace A2 : ¬ (0 < v11.1) := by simpa [ieq,ilt,ile] using A2
  rw [if_neg A2] at M
  refine VW.skip ?_
  cases M
  exact Fits.of rfl
 replace A2 : 0 < v11.1 := by simpa [ieq,ilt,ile] using A2
 rw [if_pos A2] at M
 obtain ⟨v15,Cn,M⟩ := bind_some M
 obtain ⟨Bs,Bt,Bu,Bv⟩ := idx_some Cn
 refine zs [(0,.ref 0 [] false (.ptr [.list (v11.2.1.map (D.int .u8)),i64 v11.2.2.1,.int .u64 v11.2.2.2])),(4,.ref 4 [] true (.ptr [i64 0,dI []])),(5,.ref 5 [] true (.ptr [i64 0,dI []])),(6,.ref 6 [] true (.ptr [i64 v1.1.1,dI v1.1.2])),(7,.ref 7 [] true (.ptr [i64 s3.2.2.2.1,dI s3.2.2.2.2.1])),(8,.val (i64 s3.2.2.2.2.2)),(9,.val (i64 v15))] ?_ ?_
 ·simp [Bs,Bt,Bu,Bv]
 obtain ⟨v16,Dq,M⟩ := bind_some M
 refine VW.ws tau_ok (Sound.none.ptrc 49 (s_l01Next_ok Dq)) _ [(0,.ref 0 [] false (.ptr [.list (v16.2.1.map (D.int .u8)),i64 v16.2.2.1,.int .u64 v16.2.2.2])),(4,.ref 4 [] true (.ptr [i64 0,dI []])),(5,.ref 5 [] true (.ptr [i64 0,dI []])),(6,.ref 6 [] true (.ptr [i64 v1.1.1,dI v1.1.2])),(7,.ref 7 [] true (.ptr [i64 s3.2.2.2.1,dI s3.2.2.2.2.1])),(8,.val (i64 s3.2.2.2.2.2)),(9,.val (i64 v15)),(10,.val (i64 v16.1))] rfl ?_ ?_
 ·simp
 refine zs [(0,.ref 0 [] false (.ptr [.list (v16.2.1.map (D.int .u8)),i64 v16.2.2.1,.int .u64 v16.2.2.2])),(4,.ref 4 [] true (.ptr [i64 0,dI []])),(5,.ref 5 [] true (.ptr [i64 0,dI []])),(6,.ref 6 [] true (.ptr [i64 v1.1.1,dI v1.1.2])),(7,.ref 7 [] true (.ptr [i64 s3.2.2.2.1,dI s3.2.2.2.2.1])),(8,.val (i64 s3.2.2.2.2.2)),(9,.val (i64 v15)),(10,.val (i64 v16.1)),(51,.val (.bool (ilt 0 v16.1)))] ?_ ?_
 ·simp
 refine VW.cond rfl (fun A3 => ?_) (fun A3 => ?_)
 rotate_left
 ·
  replace A3 : ¬ (0 < v16.1) := by simpa [ieq,ilt,ile] using A3
  rw [if_neg A3] at M
  refine VW.skip ?_
  cases M
  exact Fits.of rfl
 replace A3 : 0 < v16.1 := by simpa [ieq,ilt,ile] using A3
 rw [if_pos A3] at M
 obtain ⟨C0,M⟩ := chk_some M
 have B7 := C0
 try simp at B7
 obtain ⟨C1,M⟩ := chk_some M
 have B8 := C1
 try simp at B8
 refine VW.wdr tau_ok Sound.none try_mixed _ [(0,.ref 0 [] false (.ptr [.list (v16.2.1.map (D.int .u8)),i64 v16.2.2.1,.int .u64 v16.2.2.2])),(4,.ref 4 [] true (.ptr [i64 0,dI []])),(5,.ref 5 [] true (.ptr [i64 0,dI []])),(6,.ref 6 [] true (.ptr [i64 v1.1.1,dI v1.1.2])),(7,.ref 7 [] true (.ptr [i64 s3.2.2.2.1,dI s3.2.2.2.2.1])),(8,.val (i64 s3.2.2.2.2.2)),(9,.val (i64 ((w64 (((w64 (v15 * v16.1)).tmod v1.1.1) * v16.1)).tmod v1.1.1)))] 12 rfl (by kernel_rfl) (by rfl) ?_ ?_
 ·simp [C0,B7,C1,B8]
 cases M
 exact Fits.of rfl

theorem s_DrawIsometryOf_ok {a0 : List Int} {r : (Int × (List Int)) × (Int × (List Int))} (h : s_DrawIsometryOf a0 = some r) :
  VCall Try.prog 64 [.list (a0.map (D.int .u8))] [.tup [.agg [i64 r.1.1,dI r.1.2],.agg [i64 r.2.1,dI r.2.2]]] := by
 unfold s_DrawIsometryOf at h
 refine VCall.enterT tau_ok Try.call64 Try.func64 rfl 19 Try.ntmps64 (by simp) [.cell 2 63,.cell 3 63] rfl (by simp) ?_
 show VW _ _ _ (mk [(0,.val (.list (a0.map (D.int .u8))))]) _
 refine zs [(0,.val (.list (a0.map (D.int .u8)))),(2,.ref 2 [] true (.ptr [i64 0,dI []])),(3,.ref 3 [] true (.ptr [i64 0,dI []]))] ?_ ?_
 ·simp
 obtain ⟨v1,I,h⟩ := bind_some h
 refine VW.ws tau_ok (Sound.none.add 8 (s_l01From_ok I) rfl) _ [(2,.ref 2 [] true (.ptr [i64 0,dI []])),(3,.ref 3 [] true (.ptr [i64 0,dI []])),(4,.ref 4 [] false (.ptr [.list (v1.1.map (D.int .u8)),i64 v1.2.1,.int .u64 v1.2.2]))] rfl ?_ ?_
 ·simp
 obtain ⟨v2,Bg,h⟩ := bind_some h
 obtain ⟨v3,A8,h⟩ := bind_some h
 refine VW.ws tau_ok ((Sound.none.ptrc 13 (s_l01Pick_ok Bg)).ptrc 14 (s_l03Two_ok A8)) _ [(2,.ref 2 [] true (.ptr [i64 0,dI []])),(3,.ref 3 [] true (.ptr [i64 0,dI []])),(5,.val (.ptr [i64 v3.1.1.1,dI v3.1.1.2])),(6,.val (.ptr [i64 v3.1.2.1,dI v3.1.2.2]))] rfl ?_ ?_
 ·simp
 refine VW.wdsE tau_ok Sound.none try_mixed [some 17,some 18,none,none] [(2,.val (.ptr [i64 v3.1.1.1,dI v3.1.1.2])),(3,.val (.ptr [i64 v3.1.2.1,dI v3.1.2.2]))] 2 [1] rfl (by kernel_rfl) (by kernel_rfl) (by rfl) (by
  intro i hi hE
  simp only [List.mem_cons,List.not_mem_nil,or_false] at hi
  rcases hi with rfl
  all_goals first | (simp [isEx] at hE; done) | simp [exS]) ?_ ?_
 ·simp
 cases h
 refine VW.ret ?_
 exact ⟨⟨rfl,_,rfl,rfl⟩,⟨rfl,_,rfl,rfl⟩,trivial⟩

theorem i_IsPrime_ok {a0 : Int} {r : Bool} (h : i_IsPrime a0 = some r) :
  VCall Try.prog 165 [i64 a0] [.sc (.bool r)] := by
 unfold i_IsPrime at h
 refine VCall.enter Try.call165 Try.func165 rfl 10 Try.ntmps165 (by simp) [.tmp 2] rfl ?_
 show VW _ _ _ (mk [(0,.val (i64 a0))]) _
 refine zs [(0,.val (i64 a0))] ?_ ?_
 ·simp
 refine VW.sqc fun K1 hK1 hCK1 => ?_
 refine zs [(3,.val (i64 a0))] ?_ ?_
 ·simp
 refine VW.block ?_
 refine VW.sqc fun K2 hK2 hCK2 => ?_
 refine zs [(3,.val (i64 a0)),(4,.val (.bool (ieq a0 3)))] ?_ ?_
 ·simp
 obtain ⟨x3,V,h⟩ := bind_some h
 refine VW.tlE [(4,.val (.bool x3))] (hCK2) ?_ ?_
 ·clear V
  refine hK2 _ ?_
  refine VW.cond rfl (fun Aa => ?_) (fun Aa => ?_)
  ·
   replace Aa : x3 = true := by simpa [ieq,ilt,ile] using Aa
   rw [if_pos Aa] at h
   refine zs [(2,.val (.bool true))] ?_ ?_
   ·simp
   cases h
   refine VW.ret ?_
   simp [Post,PostM,PostC,PostC2,Nx,Bk]
  replace Aa : ¬ (x3 = true) := by simpa [ieq,ilt,ile] using Aa
  rw [if_neg Aa] at h
  refine VW.skip ?_
  refine hK1 _ ?_
  refine zs [(2,.val (.bool false))] ?_ ?_
  ·simp
  cases h
  refine VW.ret ?_
  simp [Post,PostM,PostC,PostC2,Nx,Bk]
 refine VW.cond rfl (fun U => ?_) (fun U => ?_)
 ·
  replace U : a0 = 3 := by simpa [ieq,ilt,ile] using U
  rw [if_pos U] at V
  refine VW.skip ?_
  cases V
  exact Fits.of rfl
 replace U : ¬ (a0 = 3) := by simpa [ieq,ilt,ile] using U
 rw [if_neg U] at V
 refine zs [(3,.val (i64 a0)),(4,.val (.bool (ieq a0 5)))] ?_ ?_
 ·simp
 refine VW.cond rfl (fun B => ?_) (fun B => ?_)
 ·
  replace B : a0 = 5 := by simpa [ieq,ilt,ile] using B
  rw [if_pos B] at V
  refine VW.skip ?_
  cases V
  exact Fits.of rfl
 replace B : ¬ (a0 = 5) := by simpa [ieq,ilt,ile] using B
 rw [if_neg B] at V
 refine zs [(3,.val (i64 a0)),(4,.val (.bool (ieq a0 7)))] ?_ ?_
 ·simp
 refine VW.cond rfl (fun Y => ?_) (fun Y => ?_)
 ·
  replace Y : a0 = 7 := by simpa [ieq,ilt,ile] using Y
  rw [if_pos Y] at V
  refine VW.skip ?_
  cases V
  exact Fits.of rfl
 replace Y : ¬ (a0 = 7) := by simpa [ieq,ilt,ile] using Y
 rw [if_neg Y] at V
 refine zs [(3,.val (i64 a0)),(4,.val (.bool (ieq a0 11)))] ?_ ?_
 ·simp
 refine VW.cond rfl (fun P => ?_) (fun P => ?_)
 ·
  replace P : a0 = 11 := by simpa [ieq,ilt,ile] using P
  rw [if_pos P] at V
  refine VW.skip ?_
  cases V
  exact Fits.of rfl
 replace P : ¬ (a0 = 11) := by simpa [ieq,ilt,ile] using P
 rw [if_neg P] at V
 refine zr [(4,.val (.bool (ieq a0 13)))] ?_ ?_
 ·simp
 cases V
 exact Fits.of rfl

theorem i_length_I_ok {a0 : List Int} {r : Int} (h : i_length_I a0 = some r) :
  VCall Try.prog 174 [dI a0] [.sc (i64 r)] := by
 unfold i_length_I at h
 refine VCall.enter Try.call174 Try.func174 rfl 5 Try.ntmps174 (by simp) [.tmp 2] rfl ?_
 show VW _ _ _ (mk [(0,.val (dI a0))]) _
 refine zs [(0,.val (dI a0))] ?_ ?_
 ·simp
 refine zs [(2,.val (i64 (a0.length : Int)))] ?_ ?_
 ·simp
 cases h
 refine VW.ret ?_
 simp [Post,PostM,PostC,PostC2,Nx,Bk]

theorem i_inRange_ok {a0 : Int} {a1 : Int} {a2 : Int} {r : Bool} (h : i_inRange a0 a1 a2 = some r) :
  VCall Try.prog 160 [i64 a0,i64 a1,i64 a2] [.sc (.bool r)] := by
 unfold i_inRange at h
 refine VCall.enter Try.call160 Try.func160 rfl 15 Try.ntmps160 (by simp) [.tmp 6] rfl ?_
 show VW _ _ _ (mk [(0,.val (i64 a0)),(1,.val (i64 a1)),(2,.val (i64 a2))]) _
 refine zs [(0,.val (i64 a0)),(1,.val (i64 a1)),(2,.val (i64 a2))] ?_ ?_
 ·simp
 obtain ⟨x2,H,h⟩ := bind_some h
 refine VW.cut [(6,.val (.bool x2))] ?_ fun hy => ?_
 rotate_left
 ·clear h
  by_cases Dj : a1 ≤ a0
  ·rw [if_pos Dj] at H
   have Bw : ile a1 a0 = true := by simpa [ieq,ilt,ile] using Dj
   have Bx := Bw
   try simp at Bx
   cases H
   refine VW.ws tau_ok Sound.none _ _ rfl ?_ hy
   simp [Bw,Bx]
  ·rw [if_neg Dj] at H
   have Bw : ile a1 a0 = false := by simpa [ieq,ilt,ile] using Dj
   have Bx := Bw
   try simp at Bx
   cases H
   refine VW.ws tau_ok Sound.none _ _ rfl ?_ hy
   simp [Bw,Bx]
 cases h
 refine VW.ret ?_
 simp [Post,PostM,PostC,PostC2,Nx,Bk]

theorem i_Space_field_ok {a0_0 : Int} {a0_1 : List Int} {r : Int} (h : i_Space_field a0_0 a0_1 = some r) :
  VCall Try.prog 136 [.agg [i64 a0_0,dI a0_1]] [.sc (i64 r)] := by
 unfold i_Space_field at h
 refine VCall.enter Try.call136 Try.func136 rfl 5 Try.ntmps136 (by simp) [.tmp 2] rfl ?_
 show VW _ _ _ (mk [(0,.val (.agg [i64 a0_0,dI a0_1]))]) _
 refine zs [(1,.val (.ptr [i64 a0_0,dI a0_1]))] ?_ ?_
 ·simp
 refine zs [(2,.val (i64 a0_0))] ?_ ?_
 ·simp
 cases h
 refine VW.ret ?_
 simp [Post,PostM,PostC,PostC2,Nx,Bk]

theorem i_field_is_ok {a0 : Int} {a1 : List Int} {r : Bool} (h : i_field_is a0 a1 = some r) :
  VCall Try.prog 155 [i64 a0,dI a1] [.sc (.bool r)] := by
 unfold i_field_is at h
 refine VCall.enter Try.call155 Try.func155 rfl 19 Try.ntmps155 (by simp) [.tmp 4] rfl ?_
 show VW _ _ _ (mk [(0,.val (i64 a0)),(1,.val (dI a1))]) _
 refine zs [(0,.val (i64 a0)),(1,.val (dI a1))] ?_ ?_
 ·simp
 refine VW.sqc fun K1 hK1 hCK1 => ?_
 refine zs [(0,.val (i64 a0)),(7,.val (dI a1)),(8,.val (i64 (a1.length : Int))),(9,.val (i64 0))] ?_ ?_
 ·simp
 obtain ⟨x2,H,h⟩ := bind_some h
 refine VW.tlO (fun y4 => []) x2 (hCK1) ?_ ?_
 ·clear H
  rintro y4 rfl
  dsimp only at h
  refine hK1 _ ?_
  refine zs [(4,.val (.bool true))] ?_ ?_
  ·simp
  cases h
  refine VW.ret ?_
  simp [Post,PostM,PostC,PostC2,Nx,Bk]
 refine VW.block ?_
 refine VW.loopF (i_field_is_L0 a0 a1) (fun s2 => [(0,.val (i64 a0)),(7,.val (dI a1)),(8,.val (i64 (a1.length : Int))),(9,.val (i64 s2))]) H (Fits.of rfl) ?_
 clear H
 intro s2 ox2 A F
 unfold i_field_is_L0 at A
 refine zs [(0,.val (i64 a0)),(7,.val (dI a1)),(8,.val (i64 (a1.length : Int))),(9,.val (i64 s2)),(10,.val (.bool (ilt s2 (a1.length : Int))))] ?_ ?_
 ·simp
 refine VW.sqc fun K5 hK5 hCK5 => ?_
 refine VW.cond rfl (fun B => ?_) (fun B => ?_)
 rotate_left
 ·
  replace B : ¬ (s2 < (a1.length : Int)) := by simpa [ieq,ilt,ile] using B
  rw [if_neg B] at A
  refine VW.exit ?_
  cases A
  have hq := F _ rfl
  subst hq
  exact ⟨_,rfl,Fits.of rfl⟩
 replace B : s2 < (a1.length : Int) := by simpa [ieq,ilt,ile] using B
 rw [if_pos B] at A
 refine VW.skip ?_
 refine hK5 _ ?_
 refine VW.sqc fun K7 hK7 hCK7 => ?_
 refine VW.block ?_
 obtain ⟨v8,A1,A⟩ := bind_some A
 obtain ⟨Aj,Ak,Al,Am⟩ := idx_some A1
 refine zs [(0,.val (i64 a0)),(6,.val (i64 v8)),(7,.val (dI a1)),(8,.val (i64 (a1.length : Int))),(9,.val (i64 s2))] ?_ ?_
 ·simp [Aj,Ak,Al,Am]
 obtain ⟨v9,Ah,A⟩ := bind_some A
 refine VW.ws tau_ok (Sound.none.add 16 (i_inRange_ok Ah) rfl) _ [(0,.val (i64 a0)),(7,.val (dI a1)),(8,.val (i64 (a1.length : Int))),(9,.val (i64 s2)),(17,.val (.bool (!v9)))] rfl ?_ ?_
 ·simp
 refine VW.cond rfl (fun E => ?_) (fun E => ?_)
 rotate_left
 ·
  replace E : ¬ (v9 = false) := by simpa [ieq,ilt,ile] using E
  rw [if_neg E] at A
  refine VW.skip ?_
  refine hK7 _ ?_
  refine zr [(0,.val (i64 a0)),(7,.val (dI a1)),(8,.val (i64 (a1.length : Int))),(9,.val (i64 (w64 (s2 + 1))))] ?_ ?_
  ·simp
  cases A
  exact ⟨_,rfl,Fits.of rfl⟩
 replace E : v9 = false := by simpa [ieq,ilt,ile] using E
 rw [if_pos E] at A
 refine zs [(4,.val (.bool false))] ?_ ?_
 ·simp
 cases A
 have hq := F _ rfl
 subst hq
 dsimp only at h
 cases h
 refine VW.ret ?_
 simp [Post,PostM,PostC,PostC2,Nx,Bk]

theorem i_IsSpace_ok {a0_0 : Int} {a0_1 : List Int} {r : Bool} (h : i_IsSpace a0_0 a0_1 = some r) :
  VCall Try.prog 132 [.agg [i64 a0_0,dI a0_1]] [.sc (.bool r)] := by
 unfold i_IsSpace at h
 refine VCall.enter Try.call132 Try.func132 rfl 19 Try.ntmps132 (by simp) [.tmp 2] rfl ?_
 show VW _ _ _ (mk [(0,.val (.agg [i64 a0_0,dI a0_1]))]) _
 refine zs [(1,.val (.ptr [i64 a0_0,dI a0_1]))] ?_ ?_
 ·simp
 obtain ⟨x8,Af,h⟩ := bind_some h
 refine VW.cut [(2,.val (.bool x8))] ?_ fun hy => ?_
 rotate_left
 ·clear h
  obtain ⟨v1,I,Af⟩ := bind_some Af
  by_cases A9 : v1 = true
  ·rw [if_pos A9] at Af
   have J : v1 = true := by simpa [ieq,ilt,ile] using A9
   have L := J
   try simp at L
   obtain ⟨v3,A8,Af⟩ := bind_some Af
   obtain ⟨v4,Dk,Af⟩ := bind_some Af
   by_cases B0 : v4 = true
   ·rw [if_pos B0] at Af
    have W : v4 = true := by simpa [ieq,ilt,ile] using B0
    have X := W
    try simp at X
    obtain ⟨v6,D1,Af⟩ := bind_some Af
    obtain ⟨v7,Bb,Af⟩ := bind_some Af
    cases Af
    refine VW.wds tau_ok (((((Sound.none.add 5 (i_IsPrime_ok I) rfl).add 9 (i_length_I_ok A8) rfl).add 10 (i_inRange_ok Dk) rfl).add 14 (i_Space_field_ok D1) rfl).add 17 (i_field_is_ok Bb) rfl) try_mixed _ _ 17 rfl (by kernel_rfl) (by rfl) ?_ hy
    simp [J,L,W,X]
   ·rw [if_neg B0] at Af
    have W : v4 = false := by simpa [ieq,ilt,ile] using B0
    have X := W
    try simp at X
    cases Af
    refine VW.wds tau_ok (((Sound.none.add 5 (i_IsPrime_ok I) rfl).add 9 (i_length_I_ok A8) rfl).add 10 (i_inRange_ok Dk) rfl) try_mixed _ _ 17 rfl (by kernel_rfl) (by rfl) ?_ hy
    simp [J,L,W,X]
  ·rw [if_neg A9] at Af
   have J : v1 = false := by simpa [ieq,ilt,ile] using A9
   have L := J
   try simp at L
   cases Af
   refine VW.wds tau_ok (Sound.none.add 5 (i_IsPrime_ok I) rfl) try_mixed _ _ 17 rfl (by kernel_rfl) (by rfl) ?_ hy
   simp [J,L]
 cases h
 refine VW.ret ?_
 simp [Post,PostM,PostC,PostC2,Nx,Bk]

theorem i_checkSpaces_c1_ok {a0_0 : Int} {a0_1 : List Int} {r : Bool} (h : i_checkSpaces_c1 a0_0 a0_1 = some r) :
  VCall Try.prog 212 [.agg [i64 a0_0,dI a0_1]] [.sc (.bool r)] := by
 unfold i_checkSpaces_c1 at h
 refine VCall.enter Try.call212 Try.func212 rfl 6 Try.ntmps212 (by simp) [.tmp 2] rfl ?_
 show VW _ _ _ (mk [(0,.val (.agg [i64 a0_0,dI a0_1]))]) _
 refine zs [(1,.val (.ptr [i64 a0_0,dI a0_1]))] ?_ ?_
 ·simp
 obtain ⟨v1,I,h⟩ := bind_some h
 refine VW.ws tau_ok (Sound.none.add 4 (i_IsSpace_ok I) rfl) _ [(2,.val (.bool (!v1)))] rfl ?_ ?_
 ·simp
 cases h
 refine VW.ret ?_
 simp [Post,PostM,PostC,PostC2,Nx,Bk]

theorem g_slices_IndexFunc_Limpl_Space_impl_Space_of_i_checkSpaces_c1_ok {a0 : List (Int × (List Int))} {r : Int} (h : g_slices_IndexFunc_Limpl_Space_impl_Space_of_i_checkSpaces_c1 a0 = some r) :
  VCall Try.prog 233 [.recs 2 (a0.map (fun x => .agg [i64 x.1,dI x.2])),.fn 212 []] [.sc (i64 r)] := by
 unfold g_slices_IndexFunc_Limpl_Space_impl_Space_of_i_checkSpaces_c1 at h
 refine VCall.enter Try.call233 Try.func233 rfl 19 Try.ntmps233 (by simp) [.tmp 4] rfl ?_
 show VW _ _ _ (mk [(0,.val (.recs 2 (a0.map (fun x => .agg [i64 x.1,dI x.2])))),(1,.val (.fn 212 []))]) _
 refine zs [(0,.val (.recs 2 (a0.map (fun x => .agg [i64 x.1,dI x.2])))),(1,.val (.fn 212 []))] ?_ ?_
 ·simp
 refine VW.sqc fun K1 hK1 hCK1 => ?_
 refine zs [(0,.val (.recs 2 (a0.map (fun x => .agg [i64 x.1,dI x.2])))),(1,.val (.fn 212 [])),(7,.val (i64 (a0.length : Int))),(8,.val (i64 0))] ?_ ?_
 ·simp
 obtain ⟨x2,H,h⟩ := bind_some h
 refine VW.tlO (fun y4 => []) x2 (hCK1) ?_ ?_
 ·clear H
  rintro y4 rfl
  dsimp only at h
  refine hK1 _ ?_
  refine zs [(4,.val (i64 (-1)))] ?_ ?_
  ·simp
  cases h
  refine VW.ret ?_
  simp [Post,PostM,PostC,PostC2,Nx,Bk]
 refine VW.block ?_
 refine VW.loopF (g_slices_IndexFunc_Limpl_Space_impl_Space_of_i_checkSpaces_c1_L0 a0) (fun s2 => [(0,.val (.recs 2 (a0.map (fun x => .agg [i64 x.1,dI x.2])))),(1,.val (.fn 212 [])),(7,.val (i64 (a0.length : Int))),(8,.val (i64 s2))]) H (Fits.of rfl) ?_
 clear H
 intro s2 ox2 A F
 unfold g_slices_IndexFunc_Limpl_Space_impl_Space_of_i_checkSpaces_c1_L0 at A
 refine zs [(0,.val (.recs 2 (a0.map (fun x => .agg [i64 x.1,dI x.2])))),(1,.val (.fn 212 [])),(7,.val (i64 (a0.length : Int))),(8,.val (i64 s2)),(9,.val (.bool (ilt s2 (a0.length : Int))))] ?_ ?_
 ·simp
 refine VW.sqc fun K5 hK5 hCK5 => ?_
 refine VW.cond rfl (fun B => ?_) (fun B => ?_)
 rotate_left
 ·
  replace B : ¬ (s2 < (a0.length : Int)) := by simpa [ieq,ilt,ile] using B
  rw [if_neg B] at A
  refine VW.exit ?_
  cases A
  have hq := F _ rfl
  subst hq
  exact ⟨_,rfl,Fits.of rfl⟩
 replace B : s2 < (a0.length : Int) := by simpa [ieq,ilt,ile] using B
 rw [if_pos B] at A
 refine VW.skip ?_
 refine hK5 _ ?_
 refine VW.sqc fun K7 hK7 hCK7 => ?_
 refine VW.block ?_
 refine zs [(0,.val (.recs 2 (a0.map (fun x => .agg [i64 x.1,dI x.2])))),(1,.val (.fn 212 [])),(5,.val (i64 s2)),(7,.val (i64 (a0.length : Int))),(8,.val (i64 s2))] ?_ ?_
 ·simp
 obtain ⟨v8,A1,A⟩ := bind_some A
 obtain ⟨Aj,Ak,Al,Am⟩ := idx_some A1
 obtain ⟨v9,Ah,A⟩ := bind_some A
 refine VW.ws tau_ok (Sound.none.add 16 (i_checkSpaces_c1_ok Ah) rfl) _ [(0,.val (.recs 2 (a0.map (fun x => .agg [i64 x.1,dI x.2])))),(1,.val (.fn 212 [])),(5,.val (i64 s2)),(7,.val (i64 (a0.length : Int))),(8,.val (i64 s2)),(16,.val (.bool v9))] rfl ?_ ?_
 ·simp [Aj,Ak,Al,Am]
 refine VW.cond rfl (fun E => ?_) (fun E => ?_)
 rotate_left
 ·
  replace E : ¬ (v9 = true) := by simpa [ieq,ilt,ile] using E
  rw [if_neg E] at A
  refine VW.skip ?_
  refine hK7 _ ?_
  refine zr [(0,.val (.recs 2 (a0.map (fun x => .agg [i64 x.1,dI x.2])))),(1,.val (.fn 212 [])),(7,.val (i64 (a0.length : Int))),(8,.val (i64 (w64 (s2 + 1))))] ?_ ?_
  ·simp
  cases A
  exact ⟨_,rfl,Fits.of rfl⟩
 replace E : v9 = true := by simpa [ieq,ilt,ile] using E
 rw [if_pos E] at A
 refine zs [(4,.val (i64 s2))] ?_ ?_
 ·simp
 cases A
 have hq := F _ rfl
 subst hq
 dsimp only at h
 cases h
 refine VW.ret ?_
 simp [Post,PostM,PostC,PostC2,Nx,Bk]

theorem g_slices_ContainsFunc_Limpl_Space_impl_Space_of_i_checkSpaces_c1_ok {a0 : List (Int × (List Int))} {r : Bool} (h : g_slices_ContainsFunc_Limpl_Space_impl_Space_of_i_checkSpaces_c1 a0 = some r) :
  VCall Try.prog 211 [.recs 2 (a0.map (fun x => .agg [i64 x.1,dI x.2])),.fn 212 []] [.sc (.bool r)] := by
 unfold g_slices_ContainsFunc_Limpl_Space_impl_Space_of_i_checkSpaces_c1 at h
 refine VCall.enter Try.call211 Try.func211 rfl 9 Try.ntmps211 (by simp) [.tmp 4] rfl ?_
 show VW _ _ _ (mk [(0,.val (.recs 2 (a0.map (fun x => .agg [i64 x.1,dI x.2])))),(1,.val (.fn 212 []))]) _
 refine zs [(0,.val (.recs 2 (a0.map (fun x => .agg [i64 x.1,dI x.2])))),(1,.val (.fn 212 []))] ?_ ?_
 ·simp
 obtain ⟨v1,I,h⟩ := bind_some h
 refine VW.ws tau_ok (Sound.none.add 7 (g_slices_IndexFunc_Limpl_Space_impl_Space_of_i_checkSpaces_c1_ok I) rfl) _ [(4,.val (.bool (ile 0 v1)))] rfl ?_ ?_
 ·simp
 cases h
 refine VW.ret ?_
 simp [Post,PostM,PostC,PostC2,Nx,Bk]

theorem i_checkSpaces_ok {a0 : List (Int × (List Int))} {r : Int} (h : i_checkSpaces a0 = some r) :
  VCall Try.prog 141 [.recs 2 (a0.map (fun x => .agg [i64 x.1,dI x.2]))] [.sc (i64 r)] := by
 unfold i_checkSpaces at h
 refine VCall.enter Try.call141 Try.func141 rfl 5 Try.ntmps141 (by simp) [.tmp 2] rfl ?_
 show VW _ _ _ (mk [(0,.val (.recs 2 (a0.map (fun x => .agg [i64 x.1,dI x.2]))))]) _
 refine zs [(0,.val (.recs 2 (a0.map (fun x => .agg [i64 x.1,dI x.2]))))] ?_ ?_
 ·simp
 refine VW.sqc fun K1 hK1 hCK1 => ?_
 obtain ⟨v2,Bg,h⟩ := bind_some h
 refine VW.ws tau_ok (Sound.none.add 4 (g_slices_ContainsFunc_Limpl_Space_impl_Space_of_i_checkSpaces_c1_ok Bg) rfl) _ [(4,.val (.bool v2))] rfl ?_ ?_
 ·simp
 refine VW.cond rfl (fun Co => ?_) (fun Co => ?_)
 ·
  replace Co : v2 = true := by simpa [ieq,ilt,ile] using Co
  rw [if_pos Co] at h
  refine zs [(2,.val (i64 1))] ?_ ?_
  ·simp
  cases h
  refine VW.ret ?_
  simp [Post,PostM,PostC,PostC2,Nx,Bk]
 replace Co : ¬ (v2 = true) := by simpa [ieq,ilt,ile] using Co
 rw [if_neg Co] at h
 refine VW.skip ?_
 refine hK1 _ ?_
 refine zs [(2,.val (i64 0))] ?_ ?_
 ·simp
 cases h
 refine VW.ret ?_
 simp [Post,PostM,PostC,PostC2,Nx,Bk]

theorem g_slices_Index_LI_I_ok {a0 : List Int} {a1 : Int} {r : Int} (h : g_slices_Index_LI_I a0 a1 = some r) :
  VCall Try.prog 109 [dI a0,i64 a1] [.sc (i64 r)] := by
 unfold g_slices_Index_LI_I at h
 refine VCall.enter Try.call109 Try.func109 rfl 19 Try.ntmps109 (by simp) [.tmp 4] rfl ?_
 show VW _ _ _ (mk [(0,.val (dI a0)),(1,.val (i64 a1))]) _
 refine zs [(0,.val (dI a0)),(1,.val (i64 a1))] ?_ ?_
 ·simp
 refine VW.sqc fun K1 hK1 hCK1 => ?_
 refine zs [(0,.val (dI a0)),(1,.val (i64 a1)),(7,.val (i64 (a0.length : Int))),(8,.val (i64 0))] ?_ ?_
 ·simp
 obtain ⟨x2,H,h⟩ := bind_some h
 refine VW.tlO (fun y4 => []) x2 (hCK1) ?_ ?_
 ·clear H
  rintro y4 rfl
  dsimp only at h
  refine hK1 _ ?_
  refine zs [(4,.val (i64 (-1)))] ?_ ?_
  ·simp
  cases h
  refine VW.ret ?_
  simp [Post,PostM,PostC,PostC2,Nx,Bk]
 refine VW.block ?_
 refine VW.loopF (g_slices_Index_LI_I_L0 a0 a1) (fun s2 => [(0,.val (dI a0)),(1,.val (i64 a1)),(7,.val (i64 (a0.length : Int))),(8,.val (i64 s2))]) H (Fits.of rfl) ?_
 clear H
 intro s2 ox2 A F
 unfold g_slices_Index_LI_I_L0 at A
 refine zs [(0,.val (dI a0)),(1,.val (i64 a1)),(7,.val (i64 (a0.length : Int))),(8,.val (i64 s2)),(9,.val (.bool (ilt s2 (a0.length : Int))))] ?_ ?_
 ·simp
 refine VW.sqc fun K5 hK5 hCK5 => ?_
 refine VW.cond rfl (fun B => ?_) (fun B => ?_)
 rotate_left
 ·
  replace B : ¬ (s2 < (a0.length : Int)) := by simpa [ieq,ilt,ile] using B
  rw [if_neg B] at A
  refine VW.exit ?_
  cases A
  have hq := F _ rfl
  subst hq
  exact ⟨_,rfl,Fits.of rfl⟩
 replace B : s2 < (a0.length : Int) := by simpa [ieq,ilt,ile] using B
 rw [if_pos B] at A
 refine VW.skip ?_
 refine hK5 _ ?_
 refine VW.sqc fun K7 hK7 hCK7 => ?_
 refine VW.block ?_
 refine zs [(0,.val (dI a0)),(1,.val (i64 a1)),(5,.val (i64 s2)),(7,.val (i64 (a0.length : Int))),(8,.val (i64 s2))] ?_ ?_
 ·simp
 obtain ⟨v8,A1,A⟩ := bind_some A
 obtain ⟨Aj,Ak,Al,Am⟩ := idx_some A1
 refine zs [(0,.val (dI a0)),(1,.val (i64 a1)),(5,.val (i64 s2)),(7,.val (i64 (a0.length : Int))),(8,.val (i64 s2)),(16,.val (.bool (ieq a1 v8)))] ?_ ?_
 ·simp [Aj,Ak,Al,Am]
 refine VW.cond rfl (fun Aa => ?_) (fun Aa => ?_)
 rotate_left
 ·
  replace Aa : ¬ (a1 = v8) := by simpa [ieq,ilt,ile] using Aa
  rw [if_neg Aa] at A
  refine VW.skip ?_
  refine hK7 _ ?_
  refine zr [(0,.val (dI a0)),(1,.val (i64 a1)),(7,.val (i64 (a0.length : Int))),(8,.val (i64 (w64 (s2 + 1))))] ?_ ?_
  ·simp
  cases A
  exact ⟨_,rfl,Fits.of rfl⟩
 replace Aa : a1 = v8 := by simpa [ieq,ilt,ile] using Aa
 rw [if_pos Aa] at A
 refine zs [(4,.val (i64 s2))] ?_ ?_
 ·simp
 cases A
 have hq := F _ rfl
 subst hq
 dsimp only at h
 cases h
 refine VW.ret ?_
 simp [Post,PostM,PostC,PostC2,Nx,Bk]

theorem g_slices_Contains_LI_I_ok {a0 : List Int} {a1 : Int} {r : Bool} (h : g_slices_Contains_LI_I a0 a1 = some r) :
  VCall Try.prog 166 [dI a0,i64 a1] [.sc (.bool r)] := by
 unfold g_slices_Contains_LI_I at h
 refine VCall.enter Try.call166 Try.func166 rfl 9 Try.ntmps166 (by simp) [.tmp 4] rfl ?_
 show VW _ _ _ (mk [(0,.val (dI a0)),(1,.val (i64 a1))]) _
 refine zs [(0,.val (dI a0)),(1,.val (i64 a1))] ?_ ?_
 ·simp
 obtain ⟨v1,I,h⟩ := bind_some h
 refine VW.ws tau_ok (Sound.none.add 7 (g_slices_Index_LI_I_ok I) rfl) _ [(4,.val (.bool (ile 0 v1)))] rfl ?_ ?_
 ·simp
 cases h
 refine VW.ret ?_
 simp [Post,PostM,PostC,PostC2,Nx,Bk]

theorem i_Space_regular_ok {a0_0 : Int} {a0_1 : List Int} {r : Bool} (h : i_Space_regular a0_0 a0_1 = some r) :
  VCall Try.prog 133 [.agg [i64 a0_0,dI a0_1]] [.sc (.bool r)] := by
 unfold i_Space_regular at h
 refine VCall.enter Try.call133 Try.func133 rfl 7 Try.ntmps133 (by simp) [.tmp 2] rfl ?_
 show VW _ _ _ (mk [(0,.val (.agg [i64 a0_0,dI a0_1]))]) _
 refine zs [(1,.val (.ptr [i64 a0_0,dI a0_1]))] ?_ ?_
 ·simp
 obtain ⟨v1,I,h⟩ := bind_some h
 refine VW.ws tau_ok (Sound.none.add 5 (g_slices_Contains_LI_I_ok I) rfl) _ [(2,.val (.bool (!v1)))] rfl ?_ ?_
 ·simp
 cases h
 refine VW.ret ?_
 simp [Post,PostM,PostC,PostC2,Nx,Bk]

theorem i_Space_dim_ok {a0_0 : Int} {a0_1 : List Int} {r : Int} (h : i_Space_dim a0_0 a0_1 = some r) :
  VCall Try.prog 197 [.agg [i64 a0_0,dI a0_1]] [.sc (i64 r)] := by
 unfold i_Space_dim at h
 refine VCall.enter Try.call197 Try.func197 rfl 6 Try.ntmps197 (by simp) [.tmp 2] rfl ?_
 show VW _ _ _ (mk [(0,.val (.agg [i64 a0_0,dI a0_1]))]) _
 refine zs [(1,.val (.ptr [i64 a0_0,dI a0_1]))] ?_ ?_
 ·simp
 refine zs [(2,.val (i64 (a0_1.length : Int)))] ?_ ?_
 ·simp
 cases h
 refine VW.ret ?_
 simp [Post,PostM,PostC,PostC2,Nx,Bk]

theorem i_field_num_ok {a0 : Int} {a1 : Int} {r : Int} (h : i_field_num a0 a1 = some r) :
  VCall Try.prog 156 [i64 a0,i64 a1] [.sc (i64 r)] := by
 unfold i_field_num at h
 refine VCall.enter Try.call156 Try.func156 rfl 14 Try.ntmps156 (by simp) [.tmp 4] rfl ?_
 show VW _ _ _ (mk [(0,.val (i64 a0)),(1,.val (i64 a1))]) _
 refine zs [(0,.val (i64 a0)),(1,.val (i64 a1))] ?_ ?_
 ·simp
 refine zs [(1,.val (i64 a1)),(5,.val (i64 a0))] ?_ ?_
 ·simp
 obtain ⟨Cr,h⟩ := chk_some h
 have Bn := Cr
 try simp at Bn
 obtain ⟨C2,h⟩ := chk_some h
 have By := C2
 try simp at By
 refine zs [(4,.val (i64 ((w64 ((a1.tmod a0) + a0)).tmod a0)))] ?_ ?_
 ·simp [Cr,Bn,C2,By]
 cases h
 refine VW.ret ?_
 simp [Post,PostM,PostC,PostC2,Nx,Bk]

theorem i_field_root_ok {a0 : Int} {a1 : Int} {r : Int × Bool} (h : i_field_root a0 a1 = some r) :
  VCall Try.prog 234 [i64 a0,i64 a1] [.sc (i64 r.1),.sc (.bool r.2)] := by
 unfold i_field_root at h
 refine VCall.enter Try.call234 Try.func234 rfl 20 Try.ntmps234 (by simp) [.tmp 4,.tmp 5] rfl ?_
 show VW _ _ _ (mk [(0,.val (i64 a0)),(1,.val (i64 a1))]) _
 refine zs [(0,.val (i64 a0)),(1,.val (i64 a1))] ?_ ?_
 ·simp
 refine VW.sqc fun K1 hK1 hCK1 => ?_
 refine zs [(0,.val (i64 a0)),(1,.val (i64 a1)),(7,.val (i64 a0)),(8,.val (i64 0))] ?_ ?_
 ·simp
 obtain ⟨x2,H,h⟩ := bind_some h
 refine VW.tlO (fun y4 => []) x2 (hCK1) ?_ ?_
 ·clear H
  rintro y4 rfl
  dsimp only at h
  refine hK1 _ ?_
  refine zs [(4,.val (i64 0)),(5,.val (.bool false))] ?_ ?_
  ·simp
  cases h
  refine VW.ret ?_
  simp [Post,PostM,PostC,PostC2,Nx,Bk]
 refine VW.block ?_
 refine VW.loopF (i_field_root_L0 a0 a1) (fun s2 => [(0,.val (i64 a0)),(1,.val (i64 a1)),(7,.val (i64 a0)),(8,.val (i64 s2))]) H (Fits.of rfl) ?_
 clear H
 intro s2 ox2 A F
 unfold i_field_root_L0 at A
 refine zs [(0,.val (i64 a0)),(1,.val (i64 a1)),(7,.val (i64 a0)),(8,.val (i64 s2)),(9,.val (.bool (ilt s2 a0)))] ?_ ?_
 ·simp
 refine VW.sqc fun K5 hK5 hCK5 => ?_
 refine VW.cond rfl (fun B => ?_) (fun B => ?_)
 rotate_left
 ·
  replace B : ¬ (s2 < a0) := by simpa [ieq,ilt,ile] using B
  rw [if_neg B] at A
  refine VW.exit ?_
  cases A
  have hq := F _ rfl
  subst hq
  exact ⟨_,rfl,Fits.of rfl⟩
 replace B : s2 < a0 := by simpa [ieq,ilt,ile] using B
 rw [if_pos B] at A
 refine VW.skip ?_
 refine hK5 _ ?_
 refine VW.sqc fun K7 hK7 hCK7 => ?_
 refine VW.block ?_
 refine zs [(0,.val (i64 a0)),(1,.val (i64 a1)),(6,.val (i64 s2)),(7,.val (i64 a0)),(8,.val (i64 s2))] ?_ ?_
 ·simp
 obtain ⟨v8,A1,A⟩ := bind_some A
 refine VW.ws tau_ok (Sound.none.add 15 (i_field_num_ok A1) rfl) _ [(0,.val (i64 a0)),(1,.val (i64 a1)),(6,.val (i64 s2)),(7,.val (i64 a0)),(8,.val (i64 s2)),(17,.val (.bool (ieq v8 a1)))] rfl ?_ ?_
 ·simp
 refine VW.cond rfl (fun Aa => ?_) (fun Aa => ?_)
 rotate_left
 ·
  replace Aa : ¬ (v8 = a1) := by simpa [ieq,ilt,ile] using Aa
  rw [if_neg Aa] at A
  refine VW.skip ?_
  refine hK7 _ ?_
  refine zr [(0,.val (i64 a0)),(1,.val (i64 a1)),(7,.val (i64 a0)),(8,.val (i64 (w64 (s2 + 1))))] ?_ ?_
  ·simp
  cases A
  exact ⟨_,rfl,Fits.of rfl⟩
 replace Aa : v8 = a1 := by simpa [ieq,ilt,ile] using Aa
 rw [if_pos Aa] at A
 refine zs [(4,.val (i64 s2)),(5,.val (.bool true))] ?_ ?_
 ·simp
 cases A
 have hq := F _ rfl
 subst hq
 dsimp only at h
 cases h
 refine VW.ret ?_
 simp [Post,PostM,PostC,PostC2,Nx,Bk]

theorem i_field_isSquare_ok {a0 : Int} {a1 : Int} {r : Bool} (h : i_field_isSquare a0 a1 = some r) :
  VCall Try.prog 213 [i64 a0,i64 a1] [.sc (.bool r)] := by
 unfold i_field_isSquare at h
 refine VCall.enter Try.call213 Try.func213 rfl 14 Try.ntmps213 (by simp) [.tmp 4] rfl ?_
 show VW _ _ _ (mk [(0,.val (i64 a0)),(1,.val (i64 a1))]) _
 refine zs [(0,.val (i64 a0)),(1,.val (i64 a1))] ?_ ?_
 ·simp
 obtain ⟨v1,I,h⟩ := bind_some h
 refine VW.ws tau_ok (Sound.none.add 10 (i_field_root_ok I) rfl) _ [(6,.val (.bool v1.2))] rfl ?_ ?_
 ·simp
 refine zs [(4,.val (.bool v1.2))] ?_ ?_
 ·simp
 cases h
 refine VW.ret ?_
 simp [Post,PostM,PostC,PostC2,Nx,Bk]

theorem i_isometric_ok {a0_0 : Int} {a0_1 : List Int} {a1_0 : Int} {a1_1 : List Int} {r : Bool} (h : i_isometric a0_0 a0_1 a1_0 a1_1 = some r) :
  VCall Try.prog 142 [.agg [i64 a0_0,dI a0_1],.agg [i64 a1_0,dI a1_1]] [.sc (.bool r)] := by
 unfold i_isometric at h
 refine VCall.enter Try.call142 Try.func142 rfl 66 Try.ntmps142 (by simp) [.tmp 4] rfl ?_
 show VW _ _ _ (mk [(0,.val (.agg [i64 a0_0,dI a0_1])),(1,.val (.agg [i64 a1_0,dI a1_1]))]) _
 refine zs [(2,.val (.ptr [i64 a0_0,dI a0_1])),(3,.val (.ptr [i64 a1_0,dI a1_1]))] ?_ ?_
 ·simp
 refine VW.sqc fun K1 hK1 hCK1 => ?_
 obtain ⟨x5,B9,h⟩ := bind_some h
 refine VW.cut [(2,.val (.ptr [i64 a0_0,dI a0_1])),(3,.val (.ptr [i64 a1_0,dI a1_1])),(21,.val (.bool x5))] ?_ fun hy => ?_
 rotate_left
 ·clear h
  by_cases A9 : ¬ a0_0 = a1_0
  ·rw [if_pos A9] at B9
   have J : ieq a0_0 a1_0 = false := by simpa [ieq,ilt,ile] using A9
   have L := J
   try simp at L
   cases B9
   refine VW.wds tau_ok Sound.none try_mixed _ _ 12 rfl (by kernel_rfl) (by rfl) ?_ hy
   simp [J,L]
  ·rw [if_neg A9] at B9
   have J : ieq a0_0 a1_0 = true := by simpa [ieq,ilt,ile] using A9
   have L := J
   try simp at L
   obtain ⟨v3,A8,B9⟩ := bind_some B9
   obtain ⟨v4,Dk,B9⟩ := bind_some B9
   cases B9
   refine VW.wds tau_ok ((Sound.none.add 17 (i_Space_dim_ok A8) rfl).add 19 (i_Space_dim_ok Dk) rfl) try_mixed _ _ 12 rfl (by kernel_rfl) (by rfl) ?_ hy
   simp [J,L]
 refine VW.cond rfl (fun B => ?_) (fun B => ?_)
 ·
  replace B : x5 = true := by simpa [ieq,ilt,ile] using B
  rw [if_pos B] at h
  refine zs [(4,.val (.bool false))] ?_ ?_
  ·simp
  cases h
  refine VW.ret ?_
  simp [Post,PostM,PostC,PostC2,Nx,Bk]
 replace B : ¬ (x5 = true) := by simpa [ieq,ilt,ile] using B
 rw [if_neg B] at h
 refine VW.skip ?_
 refine hK1 _ ?_
 refine zs [(2,.val (.ptr [i64 a0_0,dI a0_1])),(3,.val (.ptr [i64 a1_0,dI a1_1])),(5,.val (i64 0)),(6,.val (i64 1))] ?_ ?_
 ·simp
 refine VW.sqc fun K7 hK7 hCK7 => ?_
 refine zs [(2,.val (.ptr [i64 a0_0,dI a0_1])),(3,.val (.ptr [i64 a1_0,dI a1_1])),(5,.val (i64 0)),(6,.val (i64 1)),(24,.val (i64 (a0_1.length : Int))),(25,.val (i64 0))] ?_ ?_
 ·simp
 obtain ⟨x8,Af,h⟩ := bind_some h
 refine VW.tlE [(2,.val (.ptr [i64 a0_0,dI a0_1])),(5,.val (i64 x8.1)),(6,.val (i64 x8.2))] (hCK7) ?_ ?_
 ·clear Af
  refine hK7 _ ?_
  obtain ⟨x28,Ap,h⟩ := bind_some h
  refine VW.cut [(4,.val (.bool x28))] ?_ fun hy => ?_
  rotate_left
  ·clear h
   by_cases B1 : x8.1 = 0
   ·rw [if_pos B1] at Ap
    have Aq : ieq x8.1 0 = true := by simpa [ieq,ilt,ile] using B1
    have Ar := Aq
    try simp at Ar
    obtain ⟨v26,Dr,Ap⟩ := bind_some Ap
    obtain ⟨v27,Cm,Ap⟩ := bind_some Ap
    cases Ap
    refine VW.ws tau_ok ((Sound.none.add 62 (i_Space_field_ok Dr) rfl).add 64 (i_field_isSquare_ok Cm) rfl) _ _ rfl ?_ hy
    simp [Aq,Ar]
   ·rw [if_neg B1] at Ap
    have Aq : ieq x8.1 0 = false := by simpa [ieq,ilt,ile] using B1
    have Ar := Aq
    try simp at Ar
    cases Ap
    refine VW.ws tau_ok Sound.none _ _ rfl ?_ hy
    simp [Aq,Ar]
  cases h
  refine VW.ret ?_
  simp [Post,PostM,PostC,PostC2,Nx,Bk]
 refine VW.block ?_
 refine VW.loopF (i_isometric_L0 a0_0 a0_1 a1_1) (fun s8 => [(2,.val (.ptr [i64 a0_0,dI a0_1])),(3,.val (.ptr [i64 a1_0,dI a1_1])),(5,.val (i64 s8.1)),(6,.val (i64 s8.2.1)),(24,.val (i64 (a0_1.length : Int))),(25,.val (i64 s8.2.2))]) Af (Fits.of rfl) ?_
 clear Af
 intro s8 ox8 Ab Ds
 unfold i_isometric_L0 at Ab
 refine zs [(2,.val (.ptr [i64 a0_0,dI a0_1])),(3,.val (.ptr [i64 a1_0,dI a1_1])),(5,.val (i64 s8.1)),(6,.val (i64 s8.2.1)),(24,.val (i64 (a0_1.length : Int))),(25,.val (i64 s8.2.2)),(26,.val (.bool (ilt s8.2.2 (a0_1.length : Int))))] ?_ ?_
 ·simp
 refine VW.sqc fun K10 hK10 hCK10 => ?_
 refine VW.cond rfl (fun Q => ?_) (fun Q => ?_)
 rotate_left
 ·
  replace Q : ¬ (s8.2.2 < (a0_1.length : Int)) := by simpa [ieq,ilt,ile] using Q
  rw [if_neg Q] at Ab
  refine VW.exit ?_
  cases Ab
  have hq := Ds _ rfl
  subst hq
  exact Fits.of rfl
 replace Q : s8.2.2 < (a0_1.length : Int) := by simpa [ieq,ilt,ile] using Q
 rw [if_pos Q] at Ab
 refine VW.skip ?_
 refine hK10 _ ?_
 refine VW.sqc fun K12 hK12 hCK12 => ?_
 refine VW.block ?_
 refine zs [(2,.val (.ptr [i64 a0_0,dI a0_1])),(3,.val (.ptr [i64 a1_0,dI a1_1])),(5,.val (i64 s8.1)),(6,.val (i64 s8.2.1)),(7,.val (i64 s8.2.2)),(24,.val (i64 (a0_1.length : Int))),(25,.val (i64 s8.2.2))] ?_ ?_
 ·simp
 obtain ⟨v13,Dt,Ab⟩ := bind_some Ab
 obtain ⟨C3,C4,C5,C6⟩ := idx_some Dt
 obtain ⟨v14,Bz,Ab⟩ := bind_some Ab
 obtain ⟨As,At,Au,Av⟩ := idx_some Bz
 refine VW.wds tau_ok Sound.none try_mixed _ [(2,.val (.ptr [i64 a0_0,dI a0_1])),(3,.val (.ptr [i64 a1_0,dI a1_1])),(5,.val (i64 s8.1)),(6,.val (i64 s8.2.1)),(24,.val (i64 (a0_1.length : Int))),(25,.val (i64 s8.2.2)),(38,.val (.agg [i64 v13,i64 v14])),(39,.val (i64 0))] 12 rfl (by kernel_rfl) (by rfl) ?_ ?_
 ·simp [C3,C4,C5,C6,As,At,Au,Av]
 obtain ⟨x15,Ag,Ab⟩ := bind_some Ab
 refine VW.tlE [(2,.val (.ptr [i64 a0_0,dI a0_1])),(3,.val (.ptr [i64 a1_0,dI a1_1])),(5,.val (i64 x15.1)),(6,.val (i64 x15.2)),(24,.val (i64 (a0_1.length : Int))),(25,.val (i64 s8.2.2))] (hCK12) ?_ ?_
 ·clear Ag
  refine hK12 _ ?_
  refine zr [(2,.val (.ptr [i64 a0_0,dI a0_1])),(3,.val (.ptr [i64 a1_0,dI a1_1])),(5,.val (i64 x15.1)),(6,.val (i64 x15.2)),(24,.val (i64 (a0_1.length : Int))),(25,.val (i64 (w64 (s8.2.2 + 1))))] ?_ ?_
  ·simp
  cases Ab
  exact ⟨_,rfl,Fits.of rfl⟩
 refine VW.block ?_
 refine VW.loopF (i_isometric_L1 a0_0 a0_1 v13 v14) (fun s15 => [(2,.val (.ptr [i64 a0_0,dI a0_1])),(3,.val (.ptr [i64 a1_0,dI a1_1])),(5,.val (i64 s15.1)),(6,.val (i64 s15.2.1)),(24,.val (i64 (a0_1.length : Int))),(25,.val (i64 s8.2.2)),(38,.val (.agg [i64 v13,i64 v14])),(39,.val (i64 s15.2.2))]) Ag (Fits.of rfl) ?_
 clear Ag
 intro s15 ox15 Ac C7
 unfold i_isometric_L1 at Ac
 refine zs [(2,.val (.ptr [i64 a0_0,dI a0_1])),(3,.val (.ptr [i64 a1_0,dI a1_1])),(5,.val (i64 s15.1)),(6,.val (i64 s15.2.1)),(24,.val (i64 (a0_1.length : Int))),(25,.val (i64 s8.2.2)),(38,.val (.agg [i64 v13,i64 v14])),(39,.val (i64 s15.2.2)),(40,.val (.bool (ilt s15.2.2 2)))] ?_ ?_
 ·simp
 refine VW.sqc fun K17 hK17 hCK17 => ?_
 refine VW.cond rfl (fun A4 => ?_) (fun A4 => ?_)
 rotate_left
 ·
  replace A4 : ¬ (s15.2.2 < 2) := by simpa [ieq,ilt,ile] using A4
  rw [if_neg A4] at Ac
  refine VW.exit ?_
  cases Ac
  have hq := C7 _ rfl
  subst hq
  exact Fits.of rfl
 replace A4 : s15.2.2 < 2 := by simpa [ieq,ilt,ile] using A4
 rw [if_pos A4] at Ac
 refine VW.skip ?_
 refine hK17 _ ?_
 obtain ⟨x19,Ad,Ac⟩ := bind_some Ac
 refine VW.sqE [(2,.val (.ptr [i64 a0_0,dI a0_1])),(3,.val (.ptr [i64 a1_0,dI a1_1])),(5,.val (i64 x19.1)),(6,.val (i64 x19.2)),(24,.val (i64 (a0_1.length : Int))),(25,.val (i64 s8.2.2)),(38,.val (.agg [i64 v13,i64 v14])),(39,.val (i64 s15.2.2))] ?_ ?_
 ·clear Ad
  refine zr [(2,.val (.ptr [i64 a0_0,dI a0_1])),(3,.val (.ptr [i64 a1_0,dI a1_1])),(5,.val (i64 x19.1)),(6,.val (i64 x19.2)),(24,.val (i64 (a0_1.length : Int))),(25,.val (i64 s8.2.2)),(38,.val (.agg [i64 v13,i64 v14])),(39,.val (i64 (w64 (s15.2.2 + 1))))] ?_ ?_
  ·simp
  cases Ac
  exact ⟨_,rfl,Fits.of rfl⟩
 refine VW.block ?_
 obtain ⟨v21,Ci,Ad⟩ := bind_some Ad
 refine VW.mid tau_ok Sound.none _ 1 [(2,.val (.ptr [i64 a0_0,dI a0_1])),(3,.val (.ptr [i64 a1_0,dI a1_1])),(5,.val (i64 s15.1)),(6,.val (i64 s15.2.1)),(24,.val (i64 (a0_1.length : Int))),(25,.val (i64 s8.2.2)),(38,.val (.agg [i64 v13,i64 v14])),(39,.val (i64 s15.2.2)),(41,.val (i64 s15.2.2))] _ (fun _ => [(2,.val (.ptr [i64 a0_0,dI a0_1])),(3,.val (.ptr [i64 a1_0,dI a1_1])),(5,.val (i64 s15.1)),(6,.val (i64 s15.2.1)),(8,.val (i64 s15.2.2)),(9,.val (i64 v21)),(24,.val (i64 (a0_1.length : Int))),(25,.val (i64 s8.2.2)),(38,.val (.agg [i64 v13,i64 v14])),(39,.val (i64 s15.2.2))]) (fun _ => True) _ rfl rfl rfl ?_ (step_iarr (ns := [v13,v14]) rfl rfl (by simp) rfl rfl Ci rfl Try.underlying166 Try.sizeOf2 Try.isAgg2) (fun _ _ => ?_) (fun _ _ => ?_)
 ·simp
 ·simp
 refine zs [(2,.val (.ptr [i64 a0_0,dI a0_1])),(3,.val (.ptr [i64 a1_0,dI a1_1])),(5,.val (i64 s15.1)),(6,.val (i64 s15.2.1)),(8,.val (i64 s15.2.2)),(9,.val (i64 v21)),(24,.val (i64 (a0_1.length : Int))),(25,.val (i64 s8.2.2)),(38,.val (.agg [i64 v13,i64 v14])),(39,.val (i64 s15.2.2)),(44,.val (.bool (ieq v21 0)))] ?_ ?_
 ·simp
 refine VW.cond rfl (fun A5 => ?_) (fun A5 => ?_)
 ·
  replace A5 : v21 = 0 := by simpa [ieq,ilt,ile] using A5
  rw [if_pos A5] at Ad
  refine zr [(2,.val (.ptr [i64 a0_0,dI a0_1])),(3,.val (.ptr [i64 a1_0,dI a1_1])),(5,.val (i64 (w64 (s15.1 + (w64 (1 - (w64 (2 * s15.2.2)))))))),(6,.val (i64 s15.2.1)),(24,.val (i64 (a0_1.length : Int))),(25,.val (i64 s8.2.2)),(38,.val (.agg [i64 v13,i64 v14])),(39,.val (i64 s15.2.2))] ?_ ?_
  ·simp
  cases Ad
  exact Fits.of rfl
 replace A5 : ¬ (v21 = 0) := by simpa [ieq,ilt,ile] using A5
 rw [if_neg A5] at Ad
 obtain ⟨v23,Cj,Ad⟩ := bind_some Ad
 obtain ⟨v24,Du,Ad⟩ := bind_some Ad
 refine VW.wr tau_ok ((Sound.none.add 51 (i_Space_field_ok Cj) rfl).add 55 (i_field_num_ok Du) rfl) _ [(2,.val (.ptr [i64 a0_0,dI a0_1])),(3,.val (.ptr [i64 a1_0,dI a1_1])),(5,.val (i64 s15.1)),(6,.val (i64 v24)),(24,.val (i64 (a0_1.length : Int))),(25,.val (i64 s8.2.2)),(38,.val (.agg [i64 v13,i64 v14])),(39,.val (i64 s15.2.2))] rfl ?_ ?_
 ·simp
 cases Ad
 exact Fits.of rfl

theorem i_Space_hasMany_ok {a0_0 : Int} {a0_1 : List Int} {r : Bool} (h : i_Space_hasMany a0_0 a0_1 = some r) :
  VCall Try.prog 143 [.agg [i64 a0_0,dI a0_1]] [.sc (.bool r)] := by
 unfold i_Space_hasMany at h
 refine VCall.enter Try.call143 Try.func143 rfl 16 Try.ntmps143 (by simp) [.tmp 2] rfl ?_
 show VW _ _ _ (mk [(0,.val (.agg [i64 a0_0,dI a0_1]))]) _
 refine zs [(1,.val (.ptr [i64 a0_0,dI a0_1]))] ?_ ?_
 ·simp
 refine zs [(1,.val (.ptr [i64 a0_0,dI a0_1])),(3,.val (i64 1))] ?_ ?_
 ·simp
 refine VW.sqc fun K1 hK1 hCK1 => ?_
 refine zs [(1,.val (.ptr [i64 a0_0,dI a0_1])),(3,.val (i64 1)),(6,.val (i64 (a0_1.length : Int))),(7,.val (i64 0))] ?_ ?_
 ·simp
 obtain ⟨x2,H,h⟩ := bind_some h
 refine VW.tlE [(3,.val (i64 x2))] (hCK1) ?_ ?_
 ·clear H
  refine hK1 _ ?_
  refine zs [(2,.val (.bool (ilt 5000 x2)))] ?_ ?_
  ·simp
  cases h
  refine VW.ret ?_
  simp [Post,PostM,PostC,PostC2,Nx,Bk]
 refine VW.block ?_
 refine VW.loopF (i_Space_hasMany_L0 a0_0 a0_1) (fun s2 => [(1,.val (.ptr [i64 a0_0,dI a0_1])),(3,.val (i64 s2.1)),(6,.val (i64 (a0_1.length : Int))),(7,.val (i64 s2.2))]) H (Fits.of rfl) ?_
 clear H
 intro s2 ox2 A F
 unfold i_Space_hasMany_L0 at A
 refine zs [(1,.val (.ptr [i64 a0_0,dI a0_1])),(3,.val (i64 s2.1)),(6,.val (i64 (a0_1.length : Int))),(7,.val (i64 s2.2)),(8,.val (.bool (ilt s2.2 (a0_1.length : Int))))] ?_ ?_
 ·simp
 refine VW.sqc fun K4 hK4 hCK4 => ?_
 refine VW.cond rfl (fun U => ?_) (fun U => ?_)
 rotate_left
 ·
  replace U : ¬ (s2.2 < (a0_1.length : Int)) := by simpa [ieq,ilt,ile] using U
  rw [if_neg U] at A
  refine VW.exit ?_
  cases A
  have hq := F _ rfl
  subst hq
  exact Fits.of rfl
 replace U : s2.2 < (a0_1.length : Int) := by simpa [ieq,ilt,ile] using U
 rw [if_pos U] at A
 refine VW.skip ?_
 refine hK4 _ ?_
 refine VW.sqc fun K6 hK6 hCK6 => ?_
 refine VW.block ?_
 refine zr [(1,.val (.ptr [i64 a0_0,dI a0_1])),(3,.val (i64 (w64 (s2.1 * a0_0)))),(6,.val (i64 (a0_1.length : Int))),(7,.val (i64 s2.2))] ?_ ?_
 ·simp
 refine hK6 _ ?_
 refine zr [(1,.val (.ptr [i64 a0_0,dI a0_1])),(3,.val (i64 (w64 (s2.1 * a0_0)))),(6,.val (i64 (a0_1.length : Int))),(7,.val (i64 (w64 (s2.2 + 1))))] ?_ ?_
 ·simp
 cases A
 exact ⟨_,rfl,Fits.of rfl⟩

theorem i_Space_weighted_ok {a0_0 : Int} {a0_1 : List Int} {a1 : List Int} {r : List Int} (h : i_Space_weighted a0_0 a0_1 a1 = some r) :
  VCall Try.prog 214 [.agg [i64 a0_0,dI a0_1],dI a1] [.own true (dI r)] := by
 unfold i_Space_weighted at h
 refine VCall.enter Try.call214 Try.func214 rfl 31 Try.ntmps214 (by simp) [.tmp 4] rfl ?_
 show VW _ _ _ (mk [(0,.val (.agg [i64 a0_0,dI a0_1])),(1,.val (dI a1))]) _
 refine zs [(1,.val (dI a1)),(2,.val (.ptr [i64 a0_0,dI a0_1]))] ?_ ?_
 ·simp
 refine zs [(1,.val (dI a1)),(2,.val (.ptr [i64 a0_0,dI a0_1])),(5,.ref 5 [] true (dI []))] ?_ ?_
 ·simp
 refine VW.sqc fun K1 hK1 hCK1 => ?_
 refine zs [(2,.val (.ptr [i64 a0_0,dI a0_1])),(5,.ref 5 [] true (dI [])),(9,.val (dI a1)),(10,.val (i64 (a1.length : Int))),(11,.val (i64 0))] ?_ ?_
 ·simp
 obtain ⟨x2,H,h⟩ := bind_some h
 refine VW.tlE [(5,.ref 5 [] true (dI x2))] (hCK1) ?_ ?_
 ·clear H
  refine hK1 _ ?_
  refine zs [(4,.ref 4 [] true (dI x2))] ?_ ?_
  ·simp
  cases h
  refine VW.ret ?_
  simp [Post,PostM,PostC,PostC2,Nx,Bk]
 refine VW.block ?_
 refine VW.loopF (i_Space_weighted_L0 a0_0 a0_1 a1) (fun s2 => [(2,.val (.ptr [i64 a0_0,dI a0_1])),(5,.ref 5 [] true (dI s2.1)),(9,.val (dI a1)),(10,.val (i64 (a1.length : Int))),(11,.val (i64 s2.2))]) H (Fits.of rfl) ?_
 clear H
 intro s2 ox2 A F
 unfold i_Space_weighted_L0 at A
 refine zs [(2,.val (.ptr [i64 a0_0,dI a0_1])),(5,.ref 5 [] true (dI s2.1)),(9,.val (dI a1)),(10,.val (i64 (a1.length : Int))),(11,.val (i64 s2.2)),(12,.val (.bool (ilt s2.2 (a1.length : Int))))] ?_ ?_
 ·simp
 refine VW.sqc fun K4 hK4 hCK4 => ?_
 refine VW.cond rfl (fun U => ?_) (fun U => ?_)
 rotate_left
 ·
  replace U : ¬ (s2.2 < (a1.length : Int)) := by simpa [ieq,ilt,ile] using U
  rw [if_neg U] at A
  refine VW.exit ?_
  cases A
  have hq := F _ rfl
  subst hq
  exact Fits.of rfl
 replace U : s2.2 < (a1.length : Int) := by simpa [ieq,ilt,ile] using U
 rw [if_pos U] at A
 refine VW.skip ?_
 refine hK4 _ ?_
 refine VW.sqc fun K6 hK6 hCK6 => ?_
 refine VW.block ?_
 obtain ⟨v7,Bb,A⟩ := bind_some A
 obtain ⟨Bc,Bd,Be,Bf⟩ := idx_some Bb
 refine zs [(2,.val (.ptr [i64 a0_0,dI a0_1])),(5,.ref 5 [] true (dI s2.1)),(6,.val (i64 s2.2)),(7,.val (i64 v7)),(9,.val (dI a1)),(10,.val (i64 (a1.length : Int))),(11,.val (i64 s2.2))] ?_ ?_
 ·simp [Bc,Bd,Be,Bf]
 obtain ⟨v8,A1,A⟩ := bind_some A
 obtain ⟨v9,Ah,A⟩ := bind_some A
 obtain ⟨Cc,Cd,Ce,Cf⟩ := idx_some Ah
 obtain ⟨v10,Bl,A⟩ := bind_some A
 obtain ⟨C8,A⟩ := chk_some A
 have Ca := C8
 try simp at Ca
 refine VW.wdr tau_ok ((Sound.none.add 18 (i_Space_field_ok A1) rfl).add 26 (i_field_num_ok Bl) rfl) try_mixed _ [(2,.val (.ptr [i64 a0_0,dI a0_1])),(5,.ref 5 [] true (dI (s2.1 ++ [v10]))),(9,.val (dI a1)),(10,.val (i64 (a1.length : Int))),(11,.val (i64 s2.2))] 12 rfl (by kernel_rfl) (by rfl) ?_ ?_
 ·simp [Cc,Cd,Ce,Cf,C8,Ca]
 refine hK6 _ ?_
 refine zr [(2,.val (.ptr [i64 a0_0,dI a0_1])),(5,.ref 5 [] true (dI (s2.1 ++ [v10]))),(9,.val (dI a1)),(10,.val (i64 (a1.length : Int))),(11,.val (i64 (w64 (s2.2 + 1))))] ?_ ?_
 ·simp
 cases A
 exact ⟨_,rfl,Fits.of rfl⟩

theorem i_field_dot_ok {a0 : Int} {a1 : List Int} {a2 : List Int} {r : Int} (h : i_field_dot a0 a1 a2 = some r) :
  VCall Try.prog 184 [i64 a0,dI a1,dI a2] [.sc (i64 r)] := by
 unfold i_field_dot at h
 refine VCall.enter Try.call184 Try.func184 rfl 29 Try.ntmps184 (by simp) [.tmp 6] rfl ?_
 show VW _ _ _ (mk [(0,.val (i64 a0)),(1,.val (dI a1)),(2,.val (dI a2))]) _
 refine zs [(0,.val (i64 a0)),(1,.val (dI a1)),(2,.val (dI a2))] ?_ ?_
 ·simp
 refine zs [(0,.val (i64 a0)),(1,.val (dI a1)),(2,.val (dI a2)),(7,.val (i64 0))] ?_ ?_
 ·simp
 refine VW.sqc fun K1 hK1 hCK1 => ?_
 refine zs [(0,.val (i64 a0)),(2,.val (dI a2)),(7,.val (i64 0)),(10,.val (dI a1)),(11,.val (i64 (a1.length : Int))),(12,.val (i64 0))] ?_ ?_
 ·simp
 obtain ⟨x2,H,h⟩ := bind_some h
 refine VW.tlE [(0,.val (i64 a0)),(7,.val (i64 x2))] (hCK1) ?_ ?_
 ·clear H
  refine hK1 _ ?_
  obtain ⟨v9,Ah,h⟩ := bind_some h
  refine VW.ws tau_ok (Sound.none.add 28 (i_field_num_ok Ah) rfl) _ [(6,.val (i64 v9))] rfl ?_ ?_
  ·simp
  cases h
  refine VW.ret ?_
  simp [Post,PostM,PostC,PostC2,Nx,Bk]
 refine VW.block ?_
 refine VW.loopF (i_field_dot_L0 a1 a2) (fun s2 => [(0,.val (i64 a0)),(2,.val (dI a2)),(7,.val (i64 s2.1)),(10,.val (dI a1)),(11,.val (i64 (a1.length : Int))),(12,.val (i64 s2.2))]) H (Fits.of rfl) ?_
 clear H
 intro s2 ox2 A F
 unfold i_field_dot_L0 at A
 refine zs [(0,.val (i64 a0)),(2,.val (dI a2)),(7,.val (i64 s2.1)),(10,.val (dI a1)),(11,.val (i64 (a1.length : Int))),(12,.val (i64 s2.2)),(13,.val (.bool (ilt s2.2 (a1.length : Int))))] ?_ ?_
 ·simp
 refine VW.sqc fun K4 hK4 hCK4 => ?_
 refine VW.cond rfl (fun U => ?_) (fun U => ?_)
 rotate_left
 ·
  replace U : ¬ (s2.2 < (a1.length : Int)) := by simpa [ieq,ilt,ile] using U
  rw [if_neg U] at A
  refine VW.exit ?_
  cases A
  have hq := F _ rfl
  subst hq
  exact Fits.of rfl
 replace U : s2.2 < (a1.length : Int) := by simpa [ieq,ilt,ile] using U
 rw [if_pos U] at A
 refine VW.skip ?_
 refine hK4 _ ?_
 refine VW.sqc fun K6 hK6 hCK6 => ?_
 refine VW.block ?_
 obtain ⟨v7,Bb,A⟩ := bind_some A
 obtain ⟨Bc,Bd,Be,Bf⟩ := idx_some Bb
 refine zs [(0,.val (i64 a0)),(2,.val (dI a2)),(7,.val (i64 s2.1)),(8,.val (i64 s2.2)),(9,.val (i64 v7)),(10,.val (dI a1)),(11,.val (i64 (a1.length : Int))),(12,.val (i64 s2.2))] ?_ ?_
 ·simp [Bc,Bd,Be,Bf]
 obtain ⟨v8,A1,A⟩ := bind_some A
 obtain ⟨Aj,Ak,Al,Am⟩ := idx_some A1
 refine zr [(0,.val (i64 a0)),(2,.val (dI a2)),(7,.val (i64 (w64 (s2.1 + (w64 (v7 * v8)))))),(10,.val (dI a1)),(11,.val (i64 (a1.length : Int))),(12,.val (i64 s2.2))] ?_ ?_
 ·simp [Aj,Ak,Al,Am]
 refine hK6 _ ?_
 refine zr [(0,.val (i64 a0)),(2,.val (dI a2)),(7,.val (i64 (w64 (s2.1 + (w64 (v7 * v8)))))),(10,.val (dI a1)),(11,.val (i64 (a1.length : Int))),(12,.val (i64 (w64 (s2.2 + 1))))] ?_ ?_
 ·simp
 cases A
 exact ⟨_,rfl,Fits.of rfl⟩

theorem i_Space_pair_ok {a0_0 : Int} {a0_1 : List Int} {a1 : List Int} {a2 : List Int} {r : Int} (h : i_Space_pair a0_0 a0_1 a1 a2 = some r) :
  VCall Try.prog 148 [.agg [i64 a0_0,dI a0_1],dI a1,dI a2] [.sc (i64 r)] := by
 unfold i_Space_pair at h
 refine VCall.enter Try.call148 Try.func148 rfl 14 Try.ntmps148 (by simp) [.tmp 6] rfl ?_
 show VW _ _ _ (mk [(0,.val (.agg [i64 a0_0,dI a0_1])),(1,.val (dI a1)),(2,.val (dI a2))]) _
 refine zs [(1,.val (dI a1)),(2,.val (dI a2)),(3,.val (.ptr [i64 a0_0,dI a0_1]))] ?_ ?_
 ·simp
 obtain ⟨v1,I,h⟩ := bind_some h
 obtain ⟨v2,Bg,h⟩ := bind_some h
 obtain ⟨v3,A8,h⟩ := bind_some h
 refine VW.wds tau_ok (((Sound.none.add 8 (i_Space_field_ok I) rfl).add 11 (i_Space_weighted_ok Bg) rfl).add 13 (i_field_dot_ok A8) rfl) try_mixed _ [(6,.val (i64 v3))] 8 rfl (by kernel_rfl) (by rfl) ?_ ?_
 ·simp
 cases h
 refine VW.ret ?_
 simp [Post,PostM,PostC,PostC2,Nx,Bk]

theorem i_Space_norm_ok {a0_0 : Int} {a0_1 : List Int} {a1 : List Int} {r : Int} (h : i_Space_norm a0_0 a0_1 a1 = some r) :
  VCall Try.prog 146 [.agg [i64 a0_0,dI a0_1],dI a1] [.sc (i64 r)] := by
 unfold i_Space_norm at h
 refine VCall.enter Try.call146 Try.func146 rfl 9 Try.ntmps146 (by simp) [.tmp 4] rfl ?_
 show VW _ _ _ (mk [(0,.val (.agg [i64 a0_0,dI a0_1])),(1,.val (dI a1))]) _
 refine zs [(1,.val (dI a1)),(2,.val (.ptr [i64 a0_0,dI a0_1]))] ?_ ?_
 ·simp
 obtain ⟨v1,I,h⟩ := bind_some h
 refine VW.ws tau_ok (Sound.none.add 8 (i_Space_pair_ok I) rfl) _ [(4,.val (i64 v1))] rfl ?_ ?_
 ·simp
 cases h
 refine VW.ret ?_
 simp [Post,PostM,PostC,PostC2,Nx,Bk]

theorem i_IsometryOf_c1_c1_ok {a0 : List Int} {a1_0 : Int} {a1_1 : List Int} {a2_0 : List Int} {r : Bool} (h : i_IsometryOf_c1_c1 a0 a1_0 a1_1 a2_0 = some r) :
  VCall Try.prog 147 [dI a0,.ptr [i64 a1_0,dI a1_1],.ptr [dI a2_0]] [.sc (.bool r)] := by
 unfold i_IsometryOf_c1_c1 at h
 refine VCall.enter Try.call147 Try.func147 rfl 10 Try.ntmps147 (by simp) [.tmp 4] rfl ?_
 show VW _ _ _ (mk [(0,.val (dI a0)),(1,.val (.ptr [i64 a1_0,dI a1_1])),(2,.val (.ptr [dI a2_0]))]) _
 refine zs [(0,.val (dI a0)),(1,.val (.ptr [i64 a1_0,dI a1_1])),(2,.val (.ptr [dI a2_0]))] ?_ ?_
 ·simp
 obtain ⟨v1,I,h⟩ := bind_some h
 refine VW.ws tau_ok (Sound.none.add 8 (i_Space_pair_ok I) rfl) _ [(4,.val (.bool (!(ieq v1 0))))] rfl ?_ ?_
 ·simp
 cases h
 refine VW.ret ?_
 simp [Post,PostM,PostC,PostC2,Nx,Bk]

theorem g_slices_IndexFunc_LLI_LI_of_i_IsometryOf_c1_c1_ok {a0 : List (List Int)} {a1_0_0 : Int} {a1_0_1 : List Int} {a1_1_0 : List Int} {r : Int} (h : g_slices_IndexFunc_LLI_LI_of_i_IsometryOf_c1_c1 a0 a1_0_0 a1_0_1 a1_1_0 = some r) :
  VCall Try.prog 175 [dM a0,.fn 147 [.ptr [i64 a1_0_0,dI a1_0_1],.ptr [dI a1_1_0]]] [.sc (i64 r)] := by
 unfold g_slices_IndexFunc_LLI_LI_of_i_IsometryOf_c1_c1 at h
 refine VCall.enter Try.call175 Try.func175 rfl 19 Try.ntmps175 (by simp) [.tmp 4] rfl ?_
 show VW _ _ _ (mk [(0,.val (dM a0)),(1,.val (.fn 147 [.ptr [i64 a1_0_0,dI a1_0_1],.ptr [dI a1_1_0]]))]) _
 refine zs [(0,.val (dM a0)),(1,.val (.fn 147 [.ptr [i64 a1_0_0,dI a1_0_1],.ptr [dI a1_1_0]]))] ?_ ?_
 ·simp
 refine VW.sqc fun K1 hK1 hCK1 => ?_
 refine zs [(0,.val (dM a0)),(1,.val (.fn 147 [.ptr [i64 a1_0_0,dI a1_0_1],.ptr [dI a1_1_0]])),(7,.val (i64 (a0.length : Int))),(8,.val (i64 0))] ?_ ?_
 ·simp
 obtain ⟨x2,H,h⟩ := bind_some h
 refine VW.tlO (fun y4 => []) x2 (hCK1) ?_ ?_
 ·clear H
  rintro y4 rfl
  dsimp only at h
  refine hK1 _ ?_
  refine zs [(4,.val (i64 (-1)))] ?_ ?_
  ·simp
  cases h
  refine VW.ret ?_
  simp [Post,PostM,PostC,PostC2,Nx,Bk]
 refine VW.block ?_
 refine VW.loopF (g_slices_IndexFunc_LLI_LI_of_i_IsometryOf_c1_c1_L0 a0 a1_0_0 a1_0_1 a1_1_0) (fun s2 => [(0,.val (dM a0)),(1,.val (.fn 147 [.ptr [i64 a1_0_0,dI a1_0_1],.ptr [dI a1_1_0]])),(7,.val (i64 (a0.length : Int))),(8,.val (i64 s2))]) H (Fits.of rfl) ?_
 clear H
 intro s2 ox2 A F
 unfold g_slices_IndexFunc_LLI_LI_of_i_IsometryOf_c1_c1_L0 at A
 refine zs [(0,.val (dM a0)),(1,.val (.fn 147 [.ptr [i64 a1_0_0,dI a1_0_1],.ptr [dI a1_1_0]])),(7,.val (i64 (a0.length : Int))),(8,.val (i64 s2)),(9,.val (.bool (ilt s2 (a0.length : Int))))] ?_ ?_
 ·simp
 refine VW.sqc fun K5 hK5 hCK5 => ?_
 refine VW.cond rfl (fun B => ?_) (fun B => ?_)
 rotate_left
 ·
  replace B : ¬ (s2 < (a0.length : Int)) := by simpa [ieq,ilt,ile] using B
  rw [if_neg B] at A
  refine VW.exit ?_
  cases A
  have hq := F _ rfl
  subst hq
  exact ⟨_,rfl,Fits.of rfl⟩
 replace B : s2 < (a0.length : Int) := by simpa [ieq,ilt,ile] using B
 rw [if_pos B] at A
 refine VW.skip ?_
 refine hK5 _ ?_
 refine VW.sqc fun K7 hK7 hCK7 => ?_
 refine VW.block ?_
 refine zs [(0,.val (dM a0)),(1,.val (.fn 147 [.ptr [i64 a1_0_0,dI a1_0_1],.ptr [dI a1_1_0]])),(5,.val (i64 s2)),(7,.val (i64 (a0.length : Int))),(8,.val (i64 s2))] ?_ ?_
 ·simp
 obtain ⟨v8,A1,A⟩ := bind_some A
 obtain ⟨Aj,Ak,Al,Am⟩ := idx_some A1
 obtain ⟨v9,Ah,A⟩ := bind_some A
 refine VW.ws tau_ok (Sound.none.add 16 (i_IsometryOf_c1_c1_ok Ah) rfl) _ [(0,.val (dM a0)),(1,.val (.fn 147 [.ptr [i64 a1_0_0,dI a1_0_1],.ptr [dI a1_1_0]])),(5,.val (i64 s2)),(7,.val (i64 (a0.length : Int))),(8,.val (i64 s2)),(16,.val (.bool v9))] rfl ?_ ?_
 ·simp [Aj,Ak,Al,Am]
 refine VW.cond rfl (fun E => ?_) (fun E => ?_)
 rotate_left
 ·
  replace E : ¬ (v9 = true) := by simpa [ieq,ilt,ile] using E
  rw [if_neg E] at A
  refine VW.skip ?_
  refine hK7 _ ?_
  refine zr [(0,.val (dM a0)),(1,.val (.fn 147 [.ptr [i64 a1_0_0,dI a1_0_1],.ptr [dI a1_1_0]])),(7,.val (i64 (a0.length : Int))),(8,.val (i64 (w64 (s2 + 1))))] ?_ ?_
  ·simp
  cases A
  exact ⟨_,rfl,Fits.of rfl⟩
 replace E : v9 = true := by simpa [ieq,ilt,ile] using E
 rw [if_pos E] at A
 refine zs [(4,.val (i64 s2))] ?_ ?_
 ·simp
 cases A
 have hq := F _ rfl
 subst hq
 dsimp only at h
 cases h
 refine VW.ret ?_
 simp [Post,PostM,PostC,PostC2,Nx,Bk]

theorem g_slices_ContainsFunc_LLI_LI_of_i_IsometryOf_c1_c1_ok {a0 : List (List Int)} {a1_0_0 : Int} {a1_0_1 : List Int} {a1_1_0 : List Int} {r : Bool} (h : g_slices_ContainsFunc_LLI_LI_of_i_IsometryOf_c1_c1 a0 a1_0_0 a1_0_1 a1_1_0 = some r) :
  VCall Try.prog 102 [dM a0,.fn 147 [.ptr [i64 a1_0_0,dI a1_0_1],.ptr [dI a1_1_0]]] [.sc (.bool r)] := by
 unfold g_slices_ContainsFunc_LLI_LI_of_i_IsometryOf_c1_c1 at h
 refine VCall.enter Try.call102 Try.func102 rfl 9 Try.ntmps102 (by simp) [.tmp 4] rfl ?_
 show VW _ _ _ (mk [(0,.val (dM a0)),(1,.val (.fn 147 [.ptr [i64 a1_0_0,dI a1_0_1],.ptr [dI a1_1_0]]))]) _
 refine zs [(0,.val (dM a0)),(1,.val (.fn 147 [.ptr [i64 a1_0_0,dI a1_0_1],.ptr [dI a1_1_0]]))] ?_ ?_
 ·simp
 obtain ⟨v1,I,h⟩ := bind_some h
 refine VW.ws tau_ok (Sound.none.add 7 (g_slices_IndexFunc_LLI_LI_of_i_IsometryOf_c1_c1_ok I) rfl) _ [(4,.val (.bool (ile 0 v1)))] rfl ?_ ?_
 ·simp
 cases h
 refine VW.ret ?_
 simp [Post,PostM,PostC,PostC2,Nx,Bk]

theorem g_slices_Clone_LI_I_ok {a0 r : List Int} (h : g_slices_Clone_LI_I a0 = some r) :
  VCall Try.prog 149 [dI a0] [.own true (dI r)] := by
 unfold g_slices_Clone_LI_I at h
 obtain ⟨hc,h⟩ := chk_some h
 cases h
 refine VCall.enter Try.call149 Try.func149 rfl 8 Try.ntmps149 (by simp) [.tmp 2] rfl ?_
 show VW _ _ _ (mk [(0,.val (dI a0))]) _
 refine zs [(0,.val (dI a0))] ?_ ?_
 ·simp
 refine VW.sqc fun K hK hCK => ?_
 refine VW.nilcmp tau_ok (T := 23) (e := 2) rfl rfl rfl rfl rfl (by simp) rfl rfl rfl (by simp) fun b hb => ?_
 refine VW.cond rfl (fun h1 => ?_) (fun h1 => ?_)
 ·have e := hb h1
  simp at e
  subst e
  refine zs [(2,.ref 2 [] true (.list []))] ?_ ?_
  ·simp
  refine VW.ret ?_
  simp [Post,Nx]
 ·refine VW.skip ?_
  refine hK _ ?_
  refine zs [(2,.ref 2 [] true (dI a0))] ?_ ?_
  ·simp [hc]
  refine VW.ret ?_
  simp [Post,Nx]

theorem i_IsometryOf_c1_ok {a0 : List Int} {a1_0 : Int} {a1_1 : List Int} {a2_0 : Int} {a3_0 : List (List Int)} {r : Bool × Int × (List (List Int))} (h : i_IsometryOf_c1 a0 a1_0 a1_1 a2_0 a3_0 = some r) :
  VCloR Try.prog 145 [dI a0] [.fro (.ptr [i64 a1_0,dI a1_1]),.own [i64 a2_0],.own [dM a3_0]] [.fro (.ptr [i64 a1_0,dI a1_1]),.own [i64 r.2.1],.own [dM r.2.2]] [.bool r.1] := by
 unfold i_IsometryOf_c1 at h
 refine VCloR.enter Try.call145 Try.func145 rfl 25 4 Try.ntmps145 rfl (by decide) [.tmp 5] rfl ?_
 show VW _ _ _ (mk [(0,.val (dI a0)),(1,.val (.ptr [i64 a1_0,dI a1_1])),(2,.ref 2 [] true (.ptr [i64 a2_0])),(3,.ref 3 [] true (.ptr [dM a3_0]))]) _
 refine zs [(1,.val (.ptr [i64 a1_0,dI a1_1])),(2,.ref 2 [] true (.ptr [i64 a2_0])),(3,.ref 3 [] true (.ptr [dM a3_0])),(4,.val (.ptr [dI a0]))] ?_ ?_
 ·simp
 obtain ⟨x4,G,h⟩ := bind_some h
 refine VW.cut [(2,.ref 2 [] true (.ptr [i64 a2_0])),(3,.ref 3 [] true (.ptr [dM a3_0])),(4,.val (.ptr [dI a0])),(6,.val (.bool x4))] ?_ fun hy => ?_
 rotate_left
 ·clear h
  obtain ⟨v1,I,G⟩ := bind_some G
  by_cases A9 : v1 = a2_0
  ·rw [if_pos A9] at G
   have J : ieq v1 a2_0 = true := by simpa [ieq,ilt,ile] using A9
   have L := J
   try simp at L
   obtain ⟨v3,A8,G⟩ := bind_some G
   cases G
   refine VW.wds tau_ok ((Sound.none.add 9 (i_Space_norm_ok I) rfl).add 15 (g_slices_ContainsFunc_LLI_LI_of_i_IsometryOf_c1_c1_ok A8) rfl) try_mixed _ _ 12 rfl (by kernel_rfl) (by rfl) ?_ hy
   simp [J,L]
  ·rw [if_neg A9] at G
   have J : ieq v1 a2_0 = false := by simpa [ieq,ilt,ile] using A9
   have L := J
   try simp at L
   cases G
   refine VW.wds tau_ok (Sound.none.add 9 (i_Space_norm_ok I) rfl) try_mixed _ _ 12 rfl (by kernel_rfl) (by rfl) ?_ hy
   simp [J,L]
 refine VW.sqc fun K5 hK5 hCK5 => ?_
 refine zs [(2,.ref 2 [] true (.ptr [i64 a2_0])),(3,.ref 3 [] true (.ptr [dM a3_0])),(4,.val (.ptr [dI a0])),(6,.val (.bool x4)),(18,.val (.bool x4))] ?_ ?_
 ·simp
 obtain ⟨x6,A7,h⟩ := bind_some h
 refine VW.tlE [(2,.ref 2 [] true (.ptr [i64 a2_0])),(3,.ref 3 [] true (.ptr [dM x6])),(6,.val (.bool x4))] (hCK5) ?_ ?_
 ·clear A7
  refine hK5 _ ?_
  refine zs [(2,.ref 2 [] true (.ptr [i64 a2_0])),(3,.ref 3 [] true (.ptr [dM x6])),(5,.val (.bool x4))] ?_ ?_
  ·simp
  cases h
  refine VW.ret ?_
  exact PostRx.r ⟨⟨_,rfl,rfl,rfl⟩,(by intro q hq; simp only [ownsOf,List.mem_cons,List.not_mem_nil,or_false] at hq; rcases hq with rfl | rfl <;> rfl)⟩
 refine VW.cond rfl (fun P => ?_) (fun P => ?_)
 rotate_left
 ·
  replace P : ¬ (x4 = true) := by simpa [ieq,ilt,ile] using P
  rw [if_neg P] at A7
  refine VW.skip ?_
  cases A7
  exact Fits.of rfl
 replace P : x4 = true := by simpa [ieq,ilt,ile] using P
 rw [if_pos P] at A7
 obtain ⟨v9,Ah,A7⟩ := bind_some A7
 obtain ⟨C9,A7⟩ := chk_some A7
 have Cb := C9
 try simp at Cb
 refine VW.wxr tau_ok (Sound.none.add 21 (g_slices_Clone_LI_I_ok Ah) rfl) try_mixed [some 19,some 20,some 21,some 22,some 23,none] [(2,.ref 2 [] true (.ptr [i64 a2_0])),(3,.ref 3 [] true (.ptr [dM (a3_0 ++ [v9])])),(6,.val (.bool x4))] [1,0,0,2,3,3] [[3],[4],[20],[21],[19,22],[3,23]] [21,22] rfl rfl (by kernel_rfl) (by rfl) ?_ ?_
 ·simp [C9,Cb]
 cases A7
 exact Fits.of rfl

theorem i_Space_vectors_of_i_IsometryOf_c1_ok {a0_0 : Int} {a0_1 : List Int} {a1_0 : Int} {a1_1 : List Int} {a2_0 : Int} {a3_0 : List (List Int)} {r : Bool × Int × (List (List Int))} (h : i_Space_vectors_of_i_IsometryOf_c1 a0_0 a0_1 a1_0 a1_1 a2_0 a3_0 = some r) :
  VHof Try.prog 144 145 41 [.agg [i64 a0_0,dI a0_1]] [.fro (.ptr [i64 a1_0,dI a1_1]),.own [i64 a2_0],.own [dM a3_0]] [.fro (.ptr [i64 a1_0,dI a1_1]),.own [i64 r.2.1],.own [dM r.2.2]] [.bool r.1] := by
 unfold i_Space_vectors_of_i_IsometryOf_c1 at h
 refine VHof.enter Try.call144 Try.func144 rfl 41 2 Try.ntmps144 rfl (by decide) [.tmp 4] rfl rfl ?_
 show VW _ _ _ (mk [(0,.val (.agg [i64 a0_0,dI a0_1])),(1,.clo 145 [.dat (.ptr [i64 a1_0,dI a1_1]),.tok 42,.tok 43]),(42,.gst 42 [i64 a2_0]),(43,.gst 43 [dM a3_0])]) _
 refine zs [(1,.clo 145 [.dat (.ptr [i64 a1_0,dI a1_1]),.tok 42,.tok 43]),(2,.val (.ptr [i64 a0_0,dI a0_1])),(42,.gst 42 [i64 a2_0]),(43,.gst 43 [dM a3_0])] ?_ ?_
 ·simp
 obtain ⟨v1,I,h⟩ := bind_some h
 obtain ⟨C2,h⟩ := chk_some h
 have By := C2
 try simp at By
 refine VW.ws tau_ok (Sound.none.add 8 (i_Space_dim_ok I) rfl) _ [(1,.clo 145 [.dat (.ptr [i64 a1_0,dI a1_1]),.tok 42,.tok 43]),(2,.val (.ptr [i64 a0_0,dI a0_1])),(5,.ref 5 [] true (dI (List.replicate v1.toNat 0))),(42,.gst 42 [i64 a2_0]),(43,.gst 43 [dM a3_0])] rfl ?_ ?_
 ·simp [C2,By]
 obtain ⟨x3,V,h⟩ := bind_some h
 refine VW.tlO (fun y5 => []) x3 (Cl.postH _) ?_ ?_
 ·clear V
  rintro y5 rfl
  dsimp only at h
  cases h
 refine VW.block ?_
 refine VW.loopF (i_Space_vectors_of_i_IsometryOf_c1_L0 a0_0 a1_0 a1_1) (fun s3 => [(1,.clo 145 [.dat (.ptr [i64 a1_0,dI a1_1]),.tok 42,.tok 43]),(2,.val (.ptr [i64 a0_0,dI a0_1])),(5,.ref 5 [] true (dI s3.1)),(42,.gst 42 [i64 s3.2.1]),(43,.gst 43 [dM s3.2.2])]) V (Fits.of rfl) ?_
 clear V
 intro s3 ox3 C Ba
 unfold i_Space_vectors_of_i_IsometryOf_c1_L0 at C
 refine VW.block ?_
 refine VW.sqc fun K6 hK6 hCK6 => ?_
 obtain ⟨v7,Bb,C⟩ := bind_some C
 refine VW.mid tau_ok Sound.none _ 2 [(1,.clo 145 [.dat (.ptr [i64 a1_0,dI a1_1]),.tok 42,.tok 43]),(2,.val (.ptr [i64 a0_0,dI a0_1])),(5,.ref 5 [] true (dI s3.1)),(10,.clo 145 [.dat (.ptr [i64 a1_0,dI a1_1]),.tok 42,.tok 43]),(11,.ref 5 [] true (dI s3.1)),(42,.gst 42 [i64 s3.2.1]),(43,.gst 43 [dM s3.2.2])] _ (fun _ => [(1,.clo 145 [.dat (.ptr [i64 a1_0,dI a1_1]),.tok 42,.tok 43]),(2,.val (.ptr [i64 a0_0,dI a0_1])),(5,.ref 5 [] true (dI s3.1)),(12,.val (.bool v7.1)),(42,.gst 42 [i64 v7.2.1]),(43,.gst 43 [dM v7.2.2])]) (fun _ => True) _ rfl rfl rfl ?_ (step_cloR [(42,42,1,true,[i64 v7.2.1]),(43,43,2,true,[dM v7.2.2])] [1,10] rfl  rfl (by simp) rfl rfl (i_IsometryOf_c1_ok Bb) (.cons (CapOkS.dat') (.cons (CapOkS.tok' 42 true rfl) (.cons (CapOkS.tok' 43 true rfl) (.nil)))) rfl (show List.Nodup ([42,43] : List Nat) by decide) (show ∀ t ∈ ([5] : List Nat),t ∉ ([42,43] : List Nat) by decide) (by intro q hq; simp only [List.mem_cons,List.not_mem_nil,or_false] at hq; rcases hq with rfl | rfl <;> exact ⟨rfl,rfl,_,rfl⟩) (by intro s hs; simp only [List.mem_cons,List.not_mem_nil,or_false] at hs; rcases hs with rfl | rfl <;> rfl)) (fun _ _ => ?_) (fun _ _ => ?_)
 ·simp
 ·simp
 refine VW.cond rfl (fun P => ?_) (fun P => ?_)
 ·
  replace P : v7.1 = true := by simpa [ieq,ilt,ile] using P
  rw [if_pos P] at C
  refine zs [(1,.clo 145 [.dat (.ptr [i64 a1_0,dI a1_1]),.tok 42,.tok 43]),(4,.val (.bool true)),(42,.gst 42 [i64 v7.2.1]),(43,.gst 43 [dM v7.2.2])] ?_ ?_
  ·simp
  cases C
  have hq := Ba _ rfl
  subst hq
  dsimp only at h
  cases h
  refine VW.ret ?_
  exact PostHx.r ⟨⟨_,rfl,rfl,rfl⟩,rfl,(by intro q hq; simp only [ownsOf,List.mem_cons,List.not_mem_nil,or_false] at hq; rcases hq with rfl | rfl <;> rfl)⟩
 replace P : ¬ (v7.1 = true) := by simpa [ieq,ilt,ile] using P
 rw [if_neg P] at C
 refine VW.skip ?_
 refine hK6 _ ?_
 refine zs [(1,.clo 145 [.dat (.ptr [i64 a1_0,dI a1_1]),.tok 42,.tok 43]),(2,.val (.ptr [i64 a0_0,dI a0_1])),(5,.ref 5 [] true (dI s3.1)),(6,.val (i64 (w64 ((s3.1.length : Int) - 1)))),(42,.gst 42 [i64 v7.2.1]),(43,.gst 43 [dM v7.2.2])] ?_ ?_
 ·simp
 refine VW.sqc fun K9 hK9 hCK9 => ?_
 obtain ⟨x10,Cp,C⟩ := bind_some C
 refine VW.tlE [(1,.clo 145 [.dat (.ptr [i64 a1_0,dI a1_1]),.tok 42,.tok 43]),(2,.val (.ptr [i64 a0_0,dI a0_1])),(5,.ref 5 [] true (dI x10.1)),(6,.val (i64 x10.2)),(42,.gst 42 [i64 v7.2.1]),(43,.gst 43 [dM v7.2.2])] (hCK9) ?_ ?_
 ·clear Cp
  refine hK9 _ ?_
  refine VW.sqc fun K18 hK18 hCK18 => ?_
  refine zs [(1,.clo 145 [.dat (.ptr [i64 a1_0,dI a1_1]),.tok 42,.tok 43]),(2,.val (.ptr [i64 a0_0,dI a0_1])),(5,.ref 5 [] true (dI x10.1)),(6,.val (i64 x10.2)),(34,.val (.bool (ilt x10.2 0))),(42,.gst 42 [i64 v7.2.1]),(43,.gst 43 [dM v7.2.2])] ?_ ?_
  ·simp
  refine VW.cond rfl (fun A6 => ?_) (fun A6 => ?_)
  rotate_left
  ·
   replace A6 : ¬ (x10.2 < 0) := by simpa [ieq,ilt,ile] using A6
   rw [if_neg A6] at C
   refine VW.skip ?_
   refine hK18 _ ?_
   obtain ⟨v20,Dv,C⟩ := bind_some C
   obtain ⟨Da,Db,Dc,Dd⟩ := idx_some Dv
   refine zr [(1,.clo 145 [.dat (.ptr [i64 a1_0,dI a1_1]),.tok 42,.tok 43]),(2,.val (.ptr [i64 a0_0,dI a0_1])),(5,.ref 5 [] true (dI (x10.1.set x10.2.toNat (w64 (v20 + 1))))),(42,.gst 42 [i64 v7.2.1]),(43,.gst 43 [dM v7.2.2])] ?_ ?_
   ·simp [Da,Db,Dc,Dd]
   cases C
   exact ⟨_,rfl,Fits.of rfl⟩
  replace A6 : x10.2 < 0 := by simpa [ieq,ilt,ile] using A6
  rw [if_pos A6] at C
  refine zs [(1,.clo 145 [.dat (.ptr [i64 a1_0,dI a1_1]),.tok 42,.tok 43]),(4,.val (.bool false)),(42,.gst 42 [i64 v7.2.1]),(43,.gst 43 [dM v7.2.2])] ?_ ?_
  ·simp
  cases C
  have hq := Ba _ rfl
  subst hq
  dsimp only at h
  cases h
  refine VW.ret ?_
  exact PostHx.r ⟨⟨_,rfl,rfl,rfl⟩,rfl,(by intro q hq; simp only [ownsOf,List.mem_cons,List.not_mem_nil,or_false] at hq; rcases hq with rfl | rfl <;> rfl)⟩
 refine VW.block ?_
 refine VW.loopF (i_Space_vectors_of_i_IsometryOf_c1_L1 a0_0) (fun s10 => [(1,.clo 145 [.dat (.ptr [i64 a1_0,dI a1_1]),.tok 42,.tok 43]),(2,.val (.ptr [i64 a0_0,dI a0_1])),(5,.ref 5 [] true (dI s10.1)),(6,.val (i64 s10.2)),(42,.gst 42 [i64 v7.2.1]),(43,.gst 43 [dM v7.2.2])]) Cp (Fits.of rfl) ?_
 clear Cp
 intro s10 ox10 N De
 unfold i_Space_vectors_of_i_IsometryOf_c1_L1 at N
 refine VW.sqc fun K12 hK12 hCK12 => ?_
 obtain ⟨x15,Ag,N⟩ := bind_some N
 refine VW.cut [(1,.clo 145 [.dat (.ptr [i64 a1_0,dI a1_1]),.tok 42,.tok 43]),(2,.val (.ptr [i64 a0_0,dI a0_1])),(5,.ref 5 [] true (dI s10.1)),(6,.val (i64 s10.2)),(27,.val (.bool x15)),(42,.gst 42 [i64 v7.2.1]),(43,.gst 43 [dM v7.2.2])] ?_ fun hy => ?_
 rotate_left
 ·clear N
  by_cases B2 : 0 ≤ s10.2
  ·rw [if_pos B2] at Ag
   have Aw : ile 0 s10.2 = true := by simpa [ieq,ilt,ile] using B2
   have Ax := Aw
   try simp at Ax
   obtain ⟨v14,Bz,Ag⟩ := bind_some Ag
   obtain ⟨As,At,Au,Av⟩ := idx_some Bz
   cases Ag
   refine VW.wds tau_ok Sound.none try_mixed _ _ 12 rfl (by kernel_rfl) (by rfl) ?_ hy
   simp [Aw,Ax,As,At,Au,Av]
  ·rw [if_neg B2] at Ag
   have Aw : ile 0 s10.2 = false := by simpa [ieq,ilt,ile] using B2
   have Ax := Aw
   try simp at Ax
   cases Ag
   refine VW.wds tau_ok Sound.none try_mixed _ _ 12 rfl (by kernel_rfl) (by rfl) ?_ hy
   simp [Aw,Ax]
 refine VW.cond rfl (fun S => ?_) (fun S => ?_)
 rotate_left
 ·
  replace S : ¬ (x15 = true) := by simpa [ieq,ilt,ile] using S
  rw [if_neg S] at N
  refine VW.exit ?_
  cases N
  have hq := De _ rfl
  subst hq
  exact Fits.of rfl
 replace S : x15 = true := by simpa [ieq,ilt,ile] using S
 rw [if_pos S] at N
 refine VW.skip ?_
 refine hK12 _ ?_
 refine VW.block ?_
 obtain ⟨v17,Dw,N⟩ := bind_some N
 obtain ⟨Df,Dg,Dh,Di⟩ := idx_some Dw
 refine zs [(1,.clo 145 [.dat (.ptr [i64 a1_0,dI a1_1]),.tok 42,.tok 43]),(2,.val (.ptr [i64 a0_0,dI a0_1])),(5,.ref 5 [] true (dI (s10.1.set s10.2.toNat 0))),(6,.val (i64 s10.2)),(42,.gst 42 [i64 v7.2.1]),(43,.gst 43 [dM v7.2.2])] ?_ ?_
 ·simp [Df,Dg,Dh,Di]
 refine zr [(1,.clo 145 [.dat (.ptr [i64 a1_0,dI a1_1]),.tok 42,.tok 43]),(2,.val (.ptr [i64 a0_0,dI a0_1])),(5,.ref 5 [] true (dI (s10.1.set s10.2.toNat 0))),(6,.val (i64 (w64 (s10.2 - 1)))),(42,.gst 42 [i64 v7.2.1]),(43,.gst 43 [dM v7.2.2])] ?_ ?_
 ·simp
 cases N
 exact ⟨_,rfl,Fits.of rfl⟩

theorem i_transpose_ok {a0 : List (List Int)} {r : List (List Int)} (h : i_transpose a0 = some r) :
  VCall Try.prog 100 [dM a0] [.own true (dM r)] := by
 unfold i_transpose at h
 refine VCall.enter Try.call100 Try.func100 rfl 38 Try.ntmps100 (by simp) [.tmp 2] rfl ?_
 show VW _ _ _ (mk [(0,.val (dM a0))]) _
 refine zs [(0,.val (dM a0))] ?_ ?_
 ·simp
 refine zs [(0,.val (dM a0)),(3,.ref 3 [] true (dM []))] ?_ ?_
 ·simp
 refine VW.sqc fun K1 hK1 hCK1 => ?_
 obtain ⟨v2,Bg,h⟩ := bind_some h
 obtain ⟨Ch,Bh,Bi,Bj⟩ := idx_some Bg
 replace Bh : 0 < a0.length := Bh
 replace Bi : a0[0]? = some v2 := Bi
 replace Bj : ∀ h,a0[0]'h = v2 := Bj
 refine zs [(0,.val (dM a0)),(3,.ref 3 [] true (dM [])),(11,.val (i64 (v2.length : Int))),(12,.val (i64 0))] ?_ ?_
 ·simp [Ch,Bh,Bi,Bj]
 obtain ⟨x3,V,h⟩ := bind_some h
 refine VW.tlE [(3,.ref 3 [] true (dM x3))] (hCK1) ?_ ?_
 ·clear V
  refine hK1 _ ?_
  refine zs [(2,.ref 2 [] true (dM x3))] ?_ ?_
  ·simp
  cases h
  refine VW.ret ?_
  simp [Post,PostM,PostC,PostC2,Nx,Bk]
 refine VW.block ?_
 refine VW.loopF (i_transpose_L0 a0 v2) (fun s3 => [(0,.val (dM a0)),(3,.ref 3 [] true (dM s3.1)),(11,.val (i64 (v2.length : Int))),(12,.val (i64 s3.2))]) V (Fits.of rfl) ?_
 clear V
 intro s3 ox3 C Ba
 unfold i_transpose_L0 at C
 refine zs [(0,.val (dM a0)),(3,.ref 3 [] true (dM s3.1)),(11,.val (i64 (v2.length : Int))),(12,.val (i64 s3.2)),(13,.val (.bool (ilt s3.2 (v2.length : Int))))] ?_ ?_
 ·simp
 refine VW.sqc fun K5 hK5 hCK5 => ?_
 refine VW.cond rfl (fun B => ?_) (fun B => ?_)
 rotate_left
 ·
  replace B : ¬ (s3.2 < (v2.length : Int)) := by simpa [ieq,ilt,ile] using B
  rw [if_neg B] at C
  refine VW.exit ?_
  cases C
  have hq := Ba _ rfl
  subst hq
  exact Fits.of rfl
 replace B : s3.2 < (v2.length : Int) := by simpa [ieq,ilt,ile] using B
 rw [if_pos B] at C
 refine VW.skip ?_
 refine hK5 _ ?_
 refine VW.sqc fun K7 hK7 hCK7 => ?_
 refine VW.block ?_
 refine zs [(0,.val (dM a0)),(3,.ref 3 [] true (dM s3.1)),(4,.val (i64 s3.2)),(11,.val (i64 (v2.length : Int))),(12,.val (i64 s3.2))] ?_ ?_
 ·simp
 refine zs [(0,.val (dM a0)),(3,.ref 3 [] true (dM s3.1)),(4,.val (i64 s3.2)),(5,.ref 5 [] true (dI [])),(11,.val (i64 (v2.length : Int))),(12,.val (i64 s3.2))] ?_ ?_
 ·simp
 refine VW.sqc fun K8 hK8 hCK8 => ?_
 refine zs [(0,.val (dM a0)),(3,.ref 3 [] true (dM s3.1)),(4,.val (i64 s3.2)),(5,.ref 5 [] true (dI [])),(11,.val (i64 (v2.length : Int))),(12,.val (i64 s3.2)),(17,.val (i64 (a0.length : Int))),(18,.val (i64 0))] ?_ ?_
 ·simp
 obtain ⟨x9,Dx,C⟩ := bind_some C
 refine VW.tlE [(0,.val (dM a0)),(3,.ref 3 [] true (dM s3.1)),(5,.ref 5 [] true (dI x9)),(11,.val (i64 (v2.length : Int))),(12,.val (i64 s3.2))] (hCK8) ?_ ?_
 ·clear Dx
  refine hK8 _ ?_
  obtain ⟨Br,C⟩ := chk_some C
  have Ao := Br
  try simp at Ao
  refine zr [(0,.val (dM a0)),(3,.ref 3 [] true (dM (s3.1 ++ [x9]))),(11,.val (i64 (v2.length : Int))),(12,.val (i64 s3.2))] ?_ ?_
  ·simp [Br,Ao]
  refine hK7 _ ?_
  refine zr [(0,.val (dM a0)),(3,.ref 3 [] true (dM (s3.1 ++ [x9]))),(11,.val (i64 (v2.length : Int))),(12,.val (i64 (w64 (s3.2 + 1))))] ?_ ?_
  ·simp
  cases C
  exact ⟨_,rfl,Fits.of rfl⟩
 refine VW.block ?_
 refine VW.loopF (i_transpose_L1 a0 s3) (fun s9 => [(0,.val (dM a0)),(3,.ref 3 [] true (dM s3.1)),(4,.val (i64 s3.2)),(5,.ref 5 [] true (dI s9.1)),(11,.val (i64 (v2.length : Int))),(12,.val (i64 s3.2)),(17,.val (i64 (a0.length : Int))),(18,.val (i64 s9.2))]) Dx (Fits.of rfl) ?_
 clear Dx
 intro s9 ox9 Ae Dy
 unfold i_transpose_L1 at Ae
 refine zs [(0,.val (dM a0)),(3,.ref 3 [] true (dM s3.1)),(4,.val (i64 s3.2)),(5,.ref 5 [] true (dI s9.1)),(11,.val (i64 (v2.length : Int))),(12,.val (i64 s3.2)),(17,.val (i64 (a0.length : Int))),(18,.val (i64 s9.2)),(19,.val (.bool (ilt s9.2 (a0.length : Int))))] ?_ ?_
 ·simp
 refine VW.sqc fun K11 hK11 hCK11 => ?_
 refine VW.cond rfl (fun R => ?_) (fun R => ?_)
 rotate_left
 ·
  replace R : ¬ (s9.2 < (a0.length : Int)) := by simpa [ieq,ilt,ile] using R
  rw [if_neg R] at Ae
  refine VW.exit ?_
  cases Ae
  have hq := Dy _ rfl
  subst hq
  exact Fits.of rfl
 replace R : s9.2 < (a0.length : Int) := by simpa [ieq,ilt,ile] using R
 rw [if_pos R] at Ae
 refine VW.skip ?_
 refine hK11 _ ?_
 refine VW.sqc fun K13 hK13 hCK13 => ?_
 refine VW.block ?_
 refine zs [(0,.val (dM a0)),(3,.ref 3 [] true (dM s3.1)),(4,.val (i64 s3.2)),(5,.ref 5 [] true (dI s9.1)),(6,.val (i64 s9.2)),(11,.val (i64 (v2.length : Int))),(12,.val (i64 s3.2)),(17,.val (i64 (a0.length : Int))),(18,.val (i64 s9.2))] ?_ ?_
 ·simp
 obtain ⟨v14,Bz,Ae⟩ := bind_some Ae
 obtain ⟨As,At,Au,Av⟩ := idx_some Bz
 obtain ⟨v15,Cn,Ae⟩ := bind_some Ae
 obtain ⟨Bs,Bt,Bu,Bv⟩ := idx_some Cn
 obtain ⟨Bm,Ae⟩ := chk_some Ae
 have An := Bm
 try simp at An
 refine zr [(0,.val (dM a0)),(3,.ref 3 [] true (dM s3.1)),(4,.val (i64 s3.2)),(5,.ref 5 [] true (dI (s9.1 ++ [v15]))),(11,.val (i64 (v2.length : Int))),(12,.val (i64 s3.2)),(17,.val (i64 (a0.length : Int))),(18,.val (i64 s9.2))] ?_ ?_
 ·simp [As,At,Au,Av,Bs,Bt,Bu,Bv,Bm,An]
 refine hK13 _ ?_
 refine zr [(0,.val (dM a0)),(3,.ref 3 [] true (dM s3.1)),(4,.val (i64 s3.2)),(5,.ref 5 [] true (dI (s9.1 ++ [v15]))),(11,.val (i64 (v2.length : Int))),(12,.val (i64 s3.2)),(17,.val (i64 (a0.length : Int))),(18,.val (i64 (w64 (s9.2 + 1))))] ?_ ?_
 ·simp
 cases Ae
 exact ⟨_,rfl,Fits.of rfl⟩
end Go.Vam
