import Derived.Test.YtjkknabmfdodeaaR4T
import Derived.Test.YtjkknabmfdodeaaFnH
namespace Go.Vam
open Go Go.RowKit Go.Proofs
set_option maxRecDepth 100000
set_option linter.unusedSimpArgs false
set_option linter.unusedVariables false

theorem l_big_ok {a0 : List Int} {r : Bool} (h : l_big a0 = some r) :
    VCall Try.prog 38 [.list (a0.map (D.int .u8))] [.sc (.bool r)] := by
  unfold l_big at h
  refine VCall.enter Try.call38 Try.func38 rfl 6 Try.ntmps38 (by simp) [.tmp 2] rfl ?_
  show VW _ _ _ (mk [(0, .val (.list (a0.map (D.int .u8))))]) _
  -- region 0
  refine VW.ws tau_ok Sound.none [some 2] [(0, .val (.list (a0.map (D.int .u8))))] rfl ?_ ?_
  · simp <;> simp [ieq, ilt, ile]
  -- region 1
  refine VW.ws tau_ok Sound.none [some 3, some 4, some 5, some 2] [(2, .val (.bool (ilt 4096 (a0.length : Int))))] rfl ?_ ?_
  · simp <;> simp [ieq, ilt, ile]
  cases h
  refine VW.ret ?_
  simp [Post, PostM, PostC, PostC2, Nx, Bk]

theorem s_l01From_ok {a0 : List Int} {r : (List Int) × Int × Int} (h : s_l01From a0 = some r) :
    VCall Try.prog 111 [.list (a0.map (D.int .u8))] [.own false (.ptr [.list (r.1.map (D.int .u8)), i64 r.2.1, .int .u64 r.2.2])] := by
  unfold s_l01From at h
  refine VCall.enter Try.call111 Try.func111 rfl 38 Try.ntmps111 (by simp) [.tmp 2] rfl ?_
  show VW _ _ _ (mk [(0, .val (.list (a0.map (D.int .u8))))]) _
  -- region 0
  refine VW.ws tau_ok Sound.none [some 2] [(0, .val (.list (a0.map (D.int .u8))))] rfl ?_ ?_
  · simp <;> simp [ieq, ilt, ile]
  -- region 1
  refine VW.ws tau_ok Sound.none [some 5, some 6, some 7, some 8, some 9, some 10, some 11, some 3] [(0, .val (.list (a0.map (D.int .u8)))), (3, .ref 3 [] false (.ptr [.list (a0.map (D.int .u8)), i64 0, .int .u64 (IntKind.u64.wrap (4409 + (IntKind.u64.wrap ((a0.length : Int)))))]))] rfl ?_ ?_
  · simp <;> simp [ieq, ilt, ile]
  refine VW.sqc fun K1 hK1 hCK1 => ?_
  -- region 2
  refine VW.ws tau_ok Sound.none [some 4] [(0, .val (.list (a0.map (D.int .u8)))), (3, .ref 3 [] false (.ptr [.list (a0.map (D.int .u8)), i64 0, .int .u64 (IntKind.u64.wrap (4409 + (IntKind.u64.wrap ((a0.length : Int)))))])), (4, .val (i64 0))] rfl ?_ ?_
  · simp <;> simp [ieq, ilt, ile]
  obtain ⟨x2, hx2, h⟩ := bind_some h
  refine VW.tlE [(3, .ref 3 [] false (.ptr [.list (x2.1.map (D.int .u8)), i64 x2.2.1, .int .u64 x2.2.2]))] (hCK1) ?_ ?_
  · clear hx2
    refine hK1 _ ?_
    -- region 6
    refine VW.ws tau_ok Sound.none [some 37, some 2] [(2, .ref 2 [] false (.ptr [.list (x2.1.map (D.int .u8)), i64 x2.2.1, .int .u64 x2.2.2]))] rfl ?_ ?_
    · simp <;> simp [ieq, ilt, ile]
    cases h
    refine VW.ret ?_
    simp [Post, PostM, PostC, PostC2, Nx, Bk]
  refine VW.block ?_
  refine VW.loopF (s_l01From_L0 a0) (fun s2 => [(0, .val (.list (a0.map (D.int .u8)))), (3, .ref 3 [] false (.ptr [.list (s2.1.map (D.int .u8)), i64 s2.2.1, .int .u64 s2.2.2.1])), (4, .val (i64 s2.2.2.2))]) hx2 (Fits.of rfl) ?_
  clear hx2
  intro s2 ox2 hx2o hx2b
  unfold s_l01From_L0 at hx2o
  refine VW.sqc fun K4 hK4 hCK4 => ?_
  -- region 3
  obtain ⟨x6, hx6, hx2o⟩ := bind_some hx2o
  refine VW.cut [(0, .val (.list (a0.map (D.int .u8)))), (3, .ref 3 [] false (.ptr [.list (s2.1.map (D.int .u8)), i64 s2.2.1, .int .u64 s2.2.2.1])), (4, .val (i64 s2.2.2.2)), (19, .val (.bool x6))] ?_ fun hy => ?_
  rotate_left
  · clear hx2o
    by_cases hp5 : s2.2.2.2 < (a0.length : Int)
    · rw [if_pos hp5] at hx6
      have hp5b : ilt s2.2.2.2 (a0.length : Int) = true := by simpa [ieq, ilt, ile] using hp5
      have hp5s := hp5b
      try simp at hp5s
      cases hx6
      refine VW.ws tau_ok Sound.none [some 12, some 13, some 14, some 15, some 16, some 17, some 18, some 19] _ rfl ?_ hy
      simp [hp5b, hp5s] <;> simp [ieq, ilt, ile]
    · rw [if_neg hp5] at hx6
      have hp5b : ilt s2.2.2.2 (a0.length : Int) = false := by simpa [ieq, ilt, ile] using hp5
      have hp5s := hp5b
      try simp at hp5s
      cases hx6
      refine VW.ws tau_ok Sound.none [some 12, some 13, some 14, some 15, some 16, some 17, some 18, some 19] _ rfl ?_ hy
      simp [hp5b, hp5s] <;> simp [ieq, ilt, ile]
  refine VW.cond rfl (fun hb7 => ?_) (fun hb7 => ?_)
  rotate_left
  ·
    replace hb7 : ¬ (x6 = true) := by simpa [ieq, ilt, ile] using hb7
    rw [if_neg hb7] at hx2o
    refine VW.exit ?_
    cases hx2o
    have hq := hx2b _ rfl
    subst hq
    exact Fits.of rfl
  replace hb7 : x6 = true := by simpa [ieq, ilt, ile] using hb7
  rw [if_pos hb7] at hx2o
  refine VW.skip ?_
  refine hK4 _ ?_
  refine VW.sqc fun K8 hK8 hCK8 => ?_
  refine VW.block ?_
  -- region 5
  obtain ⟨v9, hv9, hx2o⟩ := bind_some hx2o
  obtain ⟨hv9a, hv9b, hv9c, hv9d⟩ := idx_some hv9
  refine VW.wdr tau_ok Sound.none try_mixed [some 22, some 23, some 24, some 25, some 26, some 27, some 28, some 29, some 30, some 31, some 32, some 33, some 34, some 35, some 36, none] [(0, .val (.list (a0.map (D.int .u8)))), (3, .ref 3 [] false (.ptr [.list (s2.1.map (D.int .u8)), i64 s2.2.1, .int .u64 (IntKind.u64.wrap ((IntKind.u64.wrap ((IntKind.u64.wrap (s2.2.2.1 * 1099511628211)) + (IntKind.u64.wrap (v9)))) + 11))])), (4, .val (i64 s2.2.2.2))] 15 rfl (by kernel_rfl) (by rfl) ?_ ?_
  · simp [hv9a, hv9b, hv9c, hv9d] <;> simp [ieq, ilt, ile]
  refine hK8 _ ?_
  -- region 4
  refine VW.wr tau_ok Sound.none [some 20, some 21, some 4] [(0, .val (.list (a0.map (D.int .u8)))), (3, .ref 3 [] false (.ptr [.list (s2.1.map (D.int .u8)), i64 s2.2.1, .int .u64 (IntKind.u64.wrap ((IntKind.u64.wrap ((IntKind.u64.wrap (s2.2.2.1 * 1099511628211)) + (IntKind.u64.wrap (v9)))) + 11))])), (4, .val (i64 (w64 (s2.2.2.2 + 1))))] rfl ?_ ?_
  · simp <;> simp [ieq, ilt, ile]
  cases hx2o
  exact ⟨_, rfl, Fits.of rfl⟩

theorem s_l01Next_ok {a0_0 : List Int} {a0_1 : Int} {a0_2 : Int} {a1 : Int} {r : Int × ((List Int) × Int × Int)} (h : s_l01Next a0_0 a0_1 a0_2 a1 = some r) :
    VPtr Try.prog 114 [.list (a0_0.map (D.int .u8)), i64 a0_1, .int .u64 a0_2] [i64 a1] [.sc (i64 r.1)] [.list (r.2.1.map (D.int .u8)), i64 r.2.2.1, .int .u64 r.2.2.2] := by
  unfold s_l01Next at h
  refine VPtr.enter Try.call114 Try.func114 rfl 58 Try.ntmps114 (by simp) [.tmp 4] rfl ?_
  show VW _ _ _ (mk [(0, .ref 0 [] false (.ptr [.list (a0_0.map (D.int .u8)), i64 a0_1, .int .u64 a0_2])), (1, .val (i64 a1))]) _
  -- region 0
  refine VW.ws tau_ok Sound.none [some 4] [(0, .ref 0 [] false (.ptr [.list (a0_0.map (D.int .u8)), i64 a0_1, .int .u64 a0_2])), (1, .val (i64 a1))] rfl ?_ ?_
  · simp <;> simp [ieq, ilt, ile]
  refine VW.sqc fun K1 hK1 hCK1 => ?_
  -- region 1
  refine VW.ws tau_ok Sound.none [some 6, some 7] [(0, .ref 0 [] false (.ptr [.list (a0_0.map (D.int .u8)), i64 a0_1, .int .u64 a0_2])), (1, .val (i64 a1)), (7, .val (.bool (ilt a1 1)))] rfl ?_ ?_
  · simp <;> simp [ieq, ilt, ile]
  refine VW.cond rfl (fun hb2 => ?_) (fun hb2 => ?_)
  ·
    replace hb2 : a1 < 1 := by simpa [ieq, ilt, ile] using hb2
    rw [if_pos hb2] at h
    -- region 2
    refine VW.ws tau_ok Sound.none [some 4] [(0, .ref 0 [] false (.ptr [.list (a0_0.map (D.int .u8)), i64 a0_1, .int .u64 a0_2])), (4, .val (i64 0))] rfl ?_ ?_
    · simp <;> simp [ieq, ilt, ile]
    cases h
    refine VW.ret ?_
    simp [PostW, resW, Nx, Bk]
  replace hb2 : ¬ (a1 < 1) := by simpa [ieq, ilt, ile] using hb2
  rw [if_neg hb2] at h
  refine VW.skip ?_
  refine hK1 _ ?_
  -- region 3
  refine VW.ws tau_ok Sound.none [some 8, some 9, some 10, some 11, some 12, some 13, some 14, some 15, some 16, none] [(0, .ref 0 [] false (.ptr [.list (a0_0.map (D.int .u8)), i64 a0_1, .int .u64 (IntKind.u64.wrap ((IntKind.u64.wrap (a0_2 * 6364136223846793005)) + 1442695040888963407))])), (1, .val (i64 a1))] rfl ?_ ?_
  · simp <;> simp [ieq, ilt, ile]
  -- region 4
  refine VW.ws tau_ok Sound.none [some 17, some 18, some 19, some 20, some 21, some 22, some 23, some 5] [(0, .ref 0 [] false (.ptr [.list (a0_0.map (D.int .u8)), i64 a0_1, .int .u64 (IntKind.u64.wrap ((IntKind.u64.wrap (a0_2 * 6364136223846793005)) + 1442695040888963407))])), (1, .val (i64 a1)), (5, .val (i64 (w64 (band .u64 (shr .u64 (IntKind.u64.wrap ((IntKind.u64.wrap (a0_2 * 6364136223846793005)) + 1442695040888963407)) 33) 16777215))))] rfl ?_ ?_
  · simp <;> simp [ieq, ilt, ile]
  refine VW.sqc fun K3 hK3 hCK3 => ?_
  -- region 5
  refine VW.wds tau_ok Sound.none try_mixed [some 24, some 25, some 26, some 27, some 28, some 29, some 30, some 31, some 32, some 33] [(0, .ref 0 [] false (.ptr [.list (a0_0.map (D.int .u8)), i64 a0_1, .int .u64 (IntKind.u64.wrap ((IntKind.u64.wrap (a0_2 * 6364136223846793005)) + 1442695040888963407))])), (1, .val (i64 a1)), (5, .val (i64 (w64 (band .u64 (shr .u64 (IntKind.u64.wrap ((IntKind.u64.wrap (a0_2 * 6364136223846793005)) + 1442695040888963407)) 33) 16777215)))), (33, .val (.bool (ilt a0_1 (a0_0.length : Int))))] 10 rfl (by kernel_rfl) (by rfl) ?_ ?_
  · simp <;> simp [ieq, ilt, ile]
  obtain ⟨x4, hx4, h⟩ := bind_some h
  refine VW.tlE [(0, .ref 0 [] false (.ptr [.list (x4.1.map (D.int .u8)), i64 x4.2.1, .int .u64 x4.2.2.1])), (1, .val (i64 a1)), (5, .val (i64 x4.2.2.2))] (hCK3) ?_ ?_
  · clear hx4
    refine hK3 _ ?_
    -- region 8
    obtain ⟨hc8, h⟩ := chk_some h
    have hc8s := hc8
    try simp at hc8s
    refine VW.ws tau_ok Sound.none [some 55, some 56, some 57, some 4] [(0, .ref 0 [] false (.ptr [.list (x4.1.map (D.int .u8)), i64 x4.2.1, .int .u64 x4.2.2.1])), (4, .val (i64 (x4.2.2.2.tmod a1)))] rfl ?_ ?_
    · simp [hc8, hc8s] <;> simp [ieq, ilt, ile]
    cases h
    refine VW.ret ?_
    simp [PostW, resW, Nx, Bk]
  refine VW.cond rfl (fun hb6 => ?_) (fun hb6 => ?_)
  rotate_left
  ·
    replace hb6 : ¬ (a0_1 < (a0_0.length : Int)) := by simpa [ieq, ilt, ile] using hb6
    rw [if_neg hb6] at hx4
    refine VW.skip ?_
    cases hx4
    exact Fits.of rfl
  replace hb6 : a0_1 < (a0_0.length : Int) := by simpa [ieq, ilt, ile] using hb6
  rw [if_pos hb6] at hx4
  -- region 6
  obtain ⟨v7, hv7, hx4⟩ := bind_some hx4
  obtain ⟨hv7a, hv7b, hv7c, hv7d⟩ := idx_some hv7
  refine VW.wds tau_ok Sound.none try_mixed [some 34, some 35, some 36, some 37, some 38, some 39, some 40, some 41, some 42, some 43, some 44, some 45, some 46, some 5] [(0, .ref 0 [] false (.ptr [.list (a0_0.map (D.int .u8)), i64 a0_1, .int .u64 (IntKind.u64.wrap ((IntKind.u64.wrap (a0_2 * 6364136223846793005)) + 1442695040888963407))])), (1, .val (i64 a1)), (5, .val (i64 (w64 ((w64 (band .u64 (shr .u64 (IntKind.u64.wrap ((IntKind.u64.wrap (a0_2 * 6364136223846793005)) + 1442695040888963407)) 33) 16777215)) + (w64 (v7))))))] 14 rfl (by kernel_rfl) (by rfl) ?_ ?_
  · simp [hv7a, hv7b, hv7c, hv7d] <;> simp [ieq, ilt, ile]
  -- region 7
  refine VW.wr tau_ok Sound.none [some 47, some 48, some 49, some 50, some 51, some 52, some 53, some 54, none] [(0, .ref 0 [] false (.ptr [.list (a0_0.map (D.int .u8)), i64 (w64 (a0_1 + 1)), .int .u64 (IntKind.u64.wrap ((IntKind.u64.wrap (a0_2 * 6364136223846793005)) + 1442695040888963407))])), (1, .val (i64 a1)), (5, .val (i64 (w64 ((w64 (band .u64 (shr .u64 (IntKind.u64.wrap ((IntKind.u64.wrap (a0_2 * 6364136223846793005)) + 1442695040888963407)) 33) 16777215)) + (w64 (v7))))))] rfl ?_ ?_
  · simp <;> simp [ieq, ilt, ile]
  cases hx4
  exact Fits.of rfl

theorem s_l01Pick_ok {a0_0 : List Int} {a0_1 : Int} {a0_2 : Int} {a1 : List Int} {r : Int × ((List Int) × Int × Int)} (h : s_l01Pick a0_0 a0_1 a0_2 a1 = some r) :
    VPtr Try.prog 196 [.list (a0_0.map (D.int .u8)), i64 a0_1, .int .u64 a0_2] [dI a1] [.sc (i64 r.1)] [.list (r.2.1.map (D.int .u8)), i64 r.2.2.1, .int .u64 r.2.2.2] := by
  unfold s_l01Pick at h
  refine VPtr.enter Try.call196 Try.func196 rfl 12 Try.ntmps196 (by simp) [.tmp 4] rfl ?_
  show VW _ _ _ (mk [(0, .ref 0 [] false (.ptr [.list (a0_0.map (D.int .u8)), i64 a0_1, .int .u64 a0_2])), (1, .val (dI a1))]) _
  -- region 0
  refine VW.ws tau_ok Sound.none [some 4] [(0, .ref 0 [] false (.ptr [.list (a0_0.map (D.int .u8)), i64 a0_1, .int .u64 a0_2])), (1, .val (dI a1))] rfl ?_ ?_
  · simp <;> simp [ieq, ilt, ile]
  -- region 1
  obtain ⟨v1, hv1, h⟩ := bind_some h
  obtain ⟨v2, hv2, h⟩ := bind_some h
  obtain ⟨hv2a, hv2b, hv2c, hv2d⟩ := idx_some hv2
  refine VW.ws tau_ok (Sound.none.ptrc 9 (s_l01Next_ok hv1)) [some 5, some 6, some 7, some 8, some 9, some 10, some 11, some 4] [(0, .ref 0 [] false (.ptr [.list (v1.2.1.map (D.int .u8)), i64 v1.2.2.1, .int .u64 v1.2.2.2])), (4, .val (i64 v2))] rfl ?_ ?_
  · simp [hv2a, hv2b, hv2c, hv2d] <;> simp [ieq, ilt, ile]
  cases h
  refine VW.ret ?_
  simp [PostW, resW, Nx, Bk]

theorem s_l02Size_ok {a0_0 : List Int} {a0_1 : Int} {a0_2 : Int} {r : Int × ((List Int) × Int × Int)} (h : s_l02Size a0_0 a0_1 a0_2 = some r) :
    VPtr Try.prog 112 [.list (a0_0.map (D.int .u8)), i64 a0_1, .int .u64 a0_2] [] [.sc (i64 r.1)] [.list (r.2.1.map (D.int .u8)), i64 r.2.2.1, .int .u64 r.2.2.2] := by
  unfold s_l02Size at h
  refine VPtr.enter Try.call112 Try.func112 rfl 13 Try.ntmps112 (by simp) [.tmp 2] rfl ?_
  show VW _ _ _ (mk [(0, .ref 0 [] false (.ptr [.list (a0_0.map (D.int .u8)), i64 a0_1, .int .u64 a0_2]))]) _
  -- region 0
  refine VW.ws tau_ok Sound.none [some 2] [(0, .ref 0 [] false (.ptr [.list (a0_0.map (D.int .u8)), i64 a0_1, .int .u64 a0_2]))] rfl ?_ ?_
  · simp <;> simp [ieq, ilt, ile]
  -- region 1
  obtain ⟨v1, hv1, h⟩ := bind_some h
  obtain ⟨v2, hv2, h⟩ := bind_some h
  obtain ⟨v3, hv3, h⟩ := bind_some h
  obtain ⟨v4, hv4, h⟩ := bind_some h
  refine VW.ws tau_ok ((((Sound.none.ptrc 5 (s_l01Next_ok hv1)).ptrc 7 (s_l01Next_ok hv2)).ptrc 9 (s_l01Next_ok hv3)).ptrc 11 (s_l01Pick_ok hv4)) [some 3, some 4, some 5, some 6, some 7, some 8, some 9, some 10, some 11, some 12, some 2] [(0, .ref 0 [] false (.ptr [.list (v4.2.1.map (D.int .u8)), i64 v4.2.2.1, .int .u64 v4.2.2.2])), (2, .val (i64 (w64 (1 + v4.1))))] rfl ?_ ?_
  · simp <;> simp [ieq, ilt, ile]
  cases h
  refine VW.ret ?_
  simp [PostW, resW, Nx, Bk]

theorem s_l01DrawPrime_ok {a0_0 : List Int} {a0_1 : Int} {a0_2 : Int} {r : Int × ((List Int) × Int × Int)} (h : s_l01DrawPrime a0_0 a0_1 a0_2 = some r) :
    VPtr Try.prog 231 [.list (a0_0.map (D.int .u8)), i64 a0_1, .int .u64 a0_2] [] [.sc (i64 r.1)] [.list (r.2.1.map (D.int .u8)), i64 r.2.2.1, .int .u64 r.2.2.2] := by
  unfold s_l01DrawPrime at h
  refine VPtr.enter Try.call231 Try.func231 rfl 6 Try.ntmps231 (by simp) [.tmp 2] rfl ?_
  show VW _ _ _ (mk [(0, .ref 0 [] false (.ptr [.list (a0_0.map (D.int .u8)), i64 a0_1, .int .u64 a0_2]))]) _
  -- region 0
  refine VW.ws tau_ok Sound.none [some 2] [(0, .ref 0 [] false (.ptr [.list (a0_0.map (D.int .u8)), i64 a0_1, .int .u64 a0_2]))] rfl ?_ ?_
  · simp <;> simp [ieq, ilt, ile]
  -- region 1
  obtain ⟨v1, hv1, h⟩ := bind_some h
  refine VW.ws tau_ok (Sound.none.ptrc 5 (s_l01Pick_ok hv1)) [some 3, some 4, some 5, some 2] [(0, .ref 0 [] false (.ptr [.list (v1.2.1.map (D.int .u8)), i64 v1.2.2.1, .int .u64 v1.2.2.2])), (2, .val (i64 v1.1))] rfl ?_ ?_
  · simp <;> simp [ieq, ilt, ile]
  cases h
  refine VW.ret ?_
  simp [PostW, resW, Nx, Bk]

theorem s_l01Bad_ok {a0_0 : List Int} {a0_1 : Int} {a0_2 : Int} {r : Int × ((List Int) × Int × Int)} (h : s_l01Bad a0_0 a0_1 a0_2 = some r) :
    VPtr Try.prog 197 [.list (a0_0.map (D.int .u8)), i64 a0_1, .int .u64 a0_2] [] [.sc (i64 r.1)] [.list (r.2.1.map (D.int .u8)), i64 r.2.2.1, .int .u64 r.2.2.2] := by
  unfold s_l01Bad at h
  refine VPtr.enter Try.call197 Try.func197 rfl 11 Try.ntmps197 (by simp) [.tmp 2] rfl ?_
  show VW _ _ _ (mk [(0, .ref 0 [] false (.ptr [.list (a0_0.map (D.int .u8)), i64 a0_1, .int .u64 a0_2]))]) _
  -- region 0
  refine VW.ws tau_ok Sound.none [some 2] [(0, .ref 0 [] false (.ptr [.list (a0_0.map (D.int .u8)), i64 a0_1, .int .u64 a0_2]))] rfl ?_ ?_
  · simp <;> simp [ieq, ilt, ile]
  refine VW.sqc fun K1 hK1 hCK1 => ?_
  -- region 1
  obtain ⟨v2, hv2, h⟩ := bind_some h
  refine VW.ws tau_ok (Sound.none.ptrc 4 (s_l01Next_ok hv2)) [some 3, some 4, some 5] [(0, .ref 0 [] false (.ptr [.list (v2.2.1.map (D.int .u8)), i64 v2.2.2.1, .int .u64 v2.2.2.2])), (5, .val (.bool (ieq v2.1 0)))] rfl ?_ ?_
  · simp <;> simp [ieq, ilt, ile]
  refine VW.cond rfl (fun hb3 => ?_) (fun hb3 => ?_)
  ·
    replace hb3 : v2.1 = 0 := by simpa [ieq, ilt, ile] using hb3
    rw [if_pos hb3] at h
    -- region 2
    obtain ⟨v4, hv4, h⟩ := bind_some h
    refine VW.ws tau_ok (Sound.none.ptrc 8 (s_l01Pick_ok hv4)) [some 6, some 7, some 8, some 2] [(0, .ref 0 [] false (.ptr [.list (v4.2.1.map (D.int .u8)), i64 v4.2.2.1, .int .u64 v4.2.2.2])), (2, .val (i64 v4.1))] rfl ?_ ?_
    · simp <;> simp [ieq, ilt, ile]
    cases h
    refine VW.ret ?_
    simp [PostW, resW, Nx, Bk]
  replace hb3 : ¬ (v2.1 = 0) := by simpa [ieq, ilt, ile] using hb3
  rw [if_neg hb3] at h
  refine VW.skip ?_
  refine hK1 _ ?_
  -- region 3
  obtain ⟨v5, hv5, h⟩ := bind_some h
  refine VW.ws tau_ok (Sound.none.ptrc 10 (s_l01DrawPrime_ok hv5)) [some 9, some 10, some 2] [(0, .ref 0 [] false (.ptr [.list (v5.2.1.map (D.int .u8)), i64 v5.2.2.1, .int .u64 v5.2.2.2])), (2, .val (i64 v5.1))] rfl ?_ ?_
  · simp <;> simp [ieq, ilt, ile]
  cases h
  refine VW.ret ?_
  simp [PostW, resW, Nx, Bk]

theorem s_l01Prime_ok {a0 : Int} {r : Bool} (h : s_l01Prime a0 = some r) :
    VCall Try.prog 115 [i64 a0] [.sc (.bool r)] := by
  unfold s_l01Prime at h
  refine VCall.enter Try.call115 Try.func115 rfl 21 Try.ntmps115 (by simp) [.tmp 2] rfl ?_
  show VW _ _ _ (mk [(0, .val (i64 a0))]) _
  -- region 0
  refine VW.ws tau_ok Sound.none [some 2] [(0, .val (i64 a0))] rfl ?_ ?_
  · simp <;> simp [ieq, ilt, ile]
  -- region 1
  obtain ⟨x5, hx5, h⟩ := bind_some h
  refine VW.cut [(2, .val (.bool x5))] ?_ fun hy => ?_
  rotate_left
  · clear h
    by_cases hp1 : a0 = 3
    · rw [if_pos hp1] at hx5
      have hp1b : ieq a0 3 = true := by simpa [ieq, ilt, ile] using hp1
      have hp1s := hp1b
      try simp at hp1s
      cases hx5
      refine VW.ws tau_ok Sound.none [some 3, some 4, some 5, some 6, some 7, some 8, some 9, some 10, some 11, some 12, some 13, some 14, some 15, some 16, some 17, some 18, some 19, some 20, some 2] _ rfl ?_ hy
      simp [hp1b, hp1s] <;> simp [ieq, ilt, ile]
    · rw [if_neg hp1] at hx5
      have hp1b : ieq a0 3 = false := by simpa [ieq, ilt, ile] using hp1
      have hp1s := hp1b
      try simp at hp1s
      by_cases hp2 : a0 = 5
      · rw [if_pos hp2] at hx5
        have hp2b : ieq a0 5 = true := by simpa [ieq, ilt, ile] using hp2
        have hp2s := hp2b
        try simp at hp2s
        cases hx5
        refine VW.ws tau_ok Sound.none [some 3, some 4, some 5, some 6, some 7, some 8, some 9, some 10, some 11, some 12, some 13, some 14, some 15, some 16, some 17, some 18, some 19, some 20, some 2] _ rfl ?_ hy
        simp [hp1b, hp1s, hp2b, hp2s] <;> simp [ieq, ilt, ile]
      · rw [if_neg hp2] at hx5
        have hp2b : ieq a0 5 = false := by simpa [ieq, ilt, ile] using hp2
        have hp2s := hp2b
        try simp at hp2s
        by_cases hp3 : a0 = 7
        · rw [if_pos hp3] at hx5
          have hp3b : ieq a0 7 = true := by simpa [ieq, ilt, ile] using hp3
          have hp3s := hp3b
          try simp at hp3s
          cases hx5
          refine VW.ws tau_ok Sound.none [some 3, some 4, some 5, some 6, some 7, some 8, some 9, some 10, some 11, some 12, some 13, some 14, some 15, some 16, some 17, some 18, some 19, some 20, some 2] _ rfl ?_ hy
          simp [hp1b, hp1s, hp2b, hp2s, hp3b, hp3s] <;> simp [ieq, ilt, ile]
        · rw [if_neg hp3] at hx5
          have hp3b : ieq a0 7 = false := by simpa [ieq, ilt, ile] using hp3
          have hp3s := hp3b
          try simp at hp3s
          by_cases hp4 : a0 = 11
          · rw [if_pos hp4] at hx5
            have hp4b : ieq a0 11 = true := by simpa [ieq, ilt, ile] using hp4
            have hp4s := hp4b
            try simp at hp4s
            cases hx5
            refine VW.ws tau_ok Sound.none [some 3, some 4, some 5, some 6, some 7, some 8, some 9, some 10, some 11, some 12, some 13, some 14, some 15, some 16, some 17, some 18, some 19, some 20, some 2] _ rfl ?_ hy
            simp [hp1b, hp1s, hp2b, hp2s, hp3b, hp3s, hp4b, hp4s] <;> simp [ieq, ilt, ile]
          · rw [if_neg hp4] at hx5
            have hp4b : ieq a0 11 = false := by simpa [ieq, ilt, ile] using hp4
            have hp4s := hp4b
            try simp at hp4s
            cases hx5
            refine VW.ws tau_ok Sound.none [some 3, some 4, some 5, some 6, some 7, some 8, some 9, some 10, some 11, some 12, some 13, some 14, some 15, some 16, some 17, some 18, some 19, some 20, some 2] _ rfl ?_ hy
            simp [hp1b, hp1s, hp2b, hp2s, hp3b, hp3s, hp4b, hp4s] <;> simp [ieq, ilt, ile]
  cases h
  refine VW.ret ?_
  simp [Post, PostM, PostC, PostC2, Nx, Bk]

theorem s_l01List_ok {a0_0 : List Int} {a0_1 : Int} {a0_2 : Int} {a1 : Int} {a2 : Int} {r : (List Int) × ((List Int) × Int × Int)} (h : s_l01List a0_0 a0_1 a0_2 a1 a2 = some r) :
    VPtr Try.prog 149 [.list (a0_0.map (D.int .u8)), i64 a0_1, .int .u64 a0_2] [i64 a1, i64 a2] [.own true (dI r.1)] [.list (r.2.1.map (D.int .u8)), i64 r.2.2.1, .int .u64 r.2.2.2] := by
  unfold s_l01List at h
  refine VPtr.enter Try.call149 Try.func149 rfl 20 Try.ntmps149 (by simp) [.tmp 6] rfl ?_
  show VW _ _ _ (mk [(0, .ref 0 [] false (.ptr [.list (a0_0.map (D.int .u8)), i64 a0_1, .int .u64 a0_2])), (1, .val (i64 a1)), (2, .val (i64 a2))]) _
  -- region 0
  refine VW.ws tau_ok Sound.none [some 6] [(0, .ref 0 [] false (.ptr [.list (a0_0.map (D.int .u8)), i64 a0_1, .int .u64 a0_2])), (1, .val (i64 a1)), (2, .val (i64 a2))] rfl ?_ ?_
  · simp <;> simp [ieq, ilt, ile]
  -- region 1
  refine VW.ws tau_ok Sound.none [some 8, some 7] [(0, .ref 0 [] false (.ptr [.list (a0_0.map (D.int .u8)), i64 a0_1, .int .u64 a0_2])), (1, .val (i64 a1)), (2, .val (i64 a2)), (7, .ref 7 [] true (dI []))] rfl ?_ ?_
  · simp <;> simp [ieq, ilt, ile]
  refine VW.sqc fun K1 hK1 hCK1 => ?_
  obtain ⟨x2, hx2, h⟩ := bind_some h
  refine VW.tlE [(0, .ref 0 [] false (.ptr [.list (x2.1.map (D.int .u8)), i64 x2.2.1, .int .u64 x2.2.2.1])), (7, .ref 7 [] true (dI x2.2.2.2))] (hCK1) ?_ ?_
  · clear hx2
    refine hK1 _ ?_
    -- region 5
    refine VW.ws tau_ok Sound.none [some 19, some 6] [(0, .ref 0 [] false (.ptr [.list (x2.1.map (D.int .u8)), i64 x2.2.1, .int .u64 x2.2.2.1])), (6, .ref 6 [] true (dI x2.2.2.2))] rfl ?_ ?_
    · simp <;> simp [ieq, ilt, ile]
    cases h
    refine VW.ret ?_
    simp [PostW, resW, Nx, Bk]
  refine VW.block ?_
  refine VW.loopF (s_l01List_L0 a1) (fun s2 => [(0, .ref 0 [] false (.ptr [.list (s2.1.map (D.int .u8)), i64 s2.2.1, .int .u64 s2.2.2.1])), (1, .val (i64 a1)), (2, .val (i64 s2.2.2.2.1)), (7, .ref 7 [] true (dI s2.2.2.2.2))]) hx2 (Fits.of rfl) ?_
  clear hx2
  intro s2 ox2 hx2o hx2b
  unfold s_l01List_L0 at hx2o
  refine VW.sqc fun K4 hK4 hCK4 => ?_
  -- region 2
  refine VW.ws tau_ok Sound.none [some 9, some 10] [(0, .ref 0 [] false (.ptr [.list (s2.1.map (D.int .u8)), i64 s2.2.1, .int .u64 s2.2.2.1])), (1, .val (i64 a1)), (2, .val (i64 s2.2.2.2.1)), (7, .ref 7 [] true (dI s2.2.2.2.2)), (10, .val (.bool (ilt 0 s2.2.2.2.1)))] rfl ?_ ?_
  · simp <;> simp [ieq, ilt, ile]
  refine VW.cond rfl (fun hb5 => ?_) (fun hb5 => ?_)
  rotate_left
  ·
    replace hb5 : ¬ (0 < s2.2.2.2.1) := by simpa [ieq, ilt, ile] using hb5
    rw [if_neg hb5] at hx2o
    refine VW.exit ?_
    cases hx2o
    have hq := hx2b _ rfl
    subst hq
    exact Fits.of rfl
  replace hb5 : 0 < s2.2.2.2.1 := by simpa [ieq, ilt, ile] using hb5
  rw [if_pos hb5] at hx2o
  refine VW.skip ?_
  refine hK4 _ ?_
  refine VW.sqc fun K6 hK6 hCK6 => ?_
  refine VW.block ?_
  -- region 4
  obtain ⟨v7, hv7, hx2o⟩ := bind_some hx2o
  obtain ⟨hc8, hx2o⟩ := chk_some hx2o
  have hc8s := hc8
  try simp at hc8s
  refine VW.wr tau_ok (Sound.none.ptrc 16 (s_l01Next_ok hv7)) [some 13, some 14, some 15, some 16, some 17, some 18, some 7] [(0, .ref 0 [] false (.ptr [.list (v7.2.1.map (D.int .u8)), i64 v7.2.2.1, .int .u64 v7.2.2.2])), (1, .val (i64 a1)), (2, .val (i64 s2.2.2.2.1)), (7, .ref 7 [] true (dI (s2.2.2.2.2 ++ [v7.1])))] rfl ?_ ?_
  · simp [hc8, hc8s] <;> simp [ieq, ilt, ile]
  refine hK6 _ ?_
  -- region 3
  refine VW.wr tau_ok Sound.none [some 11, some 12, some 2] [(0, .ref 0 [] false (.ptr [.list (v7.2.1.map (D.int .u8)), i64 v7.2.2.1, .int .u64 v7.2.2.2])), (1, .val (i64 a1)), (2, .val (i64 (w64 (s2.2.2.2.1 - 1)))), (7, .ref 7 [] true (dI (s2.2.2.2.2 ++ [v7.1])))] rfl ?_ ?_
  · simp <;> simp [ieq, ilt, ile]
  cases hx2o
  exact ⟨_, rfl, Fits.of rfl⟩

theorem s_l02Scale_ok {a0 : Int} {a1 : List Int} {a2 : Int} {r : List Int} (h : s_l02Scale a0 a1 a2 = some r) :
    VCall Try.prog 199 [i64 a0, dI a1, i64 a2] [.own true (dI r)] := by
  unfold s_l02Scale at h
  refine VCall.enter Try.call199 Try.func199 rfl 28 Try.ntmps199 (by simp) [.tmp 6] rfl ?_
  show VW _ _ _ (mk [(0, .val (i64 a0)), (1, .val (dI a1)), (2, .val (i64 a2))]) _
  -- region 0
  refine VW.ws tau_ok Sound.none [some 6] [(0, .val (i64 a0)), (1, .val (dI a1)), (2, .val (i64 a2))] rfl ?_ ?_
  · simp <;> simp [ieq, ilt, ile]
  -- region 1
  refine VW.ws tau_ok Sound.none [some 9, some 7] [(0, .val (i64 a0)), (1, .val (dI a1)), (2, .val (i64 a2)), (7, .ref 7 [] true (dI []))] rfl ?_ ?_
  · simp <;> simp [ieq, ilt, ile]
  refine VW.sqc fun K1 hK1 hCK1 => ?_
  -- region 2
  refine VW.ws tau_ok Sound.none [some 8] [(0, .val (i64 a0)), (1, .val (dI a1)), (2, .val (i64 a2)), (7, .ref 7 [] true (dI [])), (8, .val (i64 0))] rfl ?_ ?_
  · simp <;> simp [ieq, ilt, ile]
  obtain ⟨x2, hx2, h⟩ := bind_some h
  refine VW.tlE [(7, .ref 7 [] true (dI x2))] (hCK1) ?_ ?_
  · clear hx2
    refine hK1 _ ?_
    -- region 6
    refine VW.ws tau_ok Sound.none [some 27, some 6] [(6, .ref 6 [] true (dI x2))] rfl ?_ ?_
    · simp <;> simp [ieq, ilt, ile]
    cases h
    refine VW.ret ?_
    simp [Post, PostM, PostC, PostC2, Nx, Bk]
  refine VW.block ?_
  refine VW.loopF (s_l02Scale_L0 a0 a1 a2) (fun s2 => [(0, .val (i64 a0)), (1, .val (dI a1)), (2, .val (i64 a2)), (7, .ref 7 [] true (dI s2.1)), (8, .val (i64 s2.2))]) hx2 (Fits.of rfl) ?_
  clear hx2
  intro s2 ox2 hx2o hx2b
  unfold s_l02Scale_L0 at hx2o
  refine VW.sqc fun K4 hK4 hCK4 => ?_
  -- region 3
  refine VW.ws tau_ok Sound.none [some 10, some 11, some 12, some 13] [(0, .val (i64 a0)), (1, .val (dI a1)), (2, .val (i64 a2)), (7, .ref 7 [] true (dI s2.1)), (8, .val (i64 s2.2)), (13, .val (.bool (ilt s2.2 (a1.length : Int))))] rfl ?_ ?_
  · simp <;> simp [ieq, ilt, ile]
  refine VW.cond rfl (fun hb5 => ?_) (fun hb5 => ?_)
  rotate_left
  ·
    replace hb5 : ¬ (s2.2 < (a1.length : Int)) := by simpa [ieq, ilt, ile] using hb5
    rw [if_neg hb5] at hx2o
    refine VW.exit ?_
    cases hx2o
    have hq := hx2b _ rfl
    subst hq
    exact Fits.of rfl
  replace hb5 : s2.2 < (a1.length : Int) := by simpa [ieq, ilt, ile] using hb5
  rw [if_pos hb5] at hx2o
  refine VW.skip ?_
  refine hK4 _ ?_
  refine VW.sqc fun K6 hK6 hCK6 => ?_
  refine VW.block ?_
  -- region 5
  obtain ⟨v7, hv7, hx2o⟩ := bind_some hx2o
  obtain ⟨hv7a, hv7b, hv7c, hv7d⟩ := idx_some hv7
  obtain ⟨hc8, hx2o⟩ := chk_some hx2o
  have hc8s := hc8
  try simp at hc8s
  obtain ⟨hc9, hx2o⟩ := chk_some hx2o
  have hc9s := hc9
  try simp at hc9s
  refine VW.wr tau_ok Sound.none [some 16, some 17, some 18, some 19, some 20, some 21, some 22, some 23, some 24, some 25, some 26, some 7] [(0, .val (i64 a0)), (1, .val (dI a1)), (2, .val (i64 a2)), (7, .ref 7 [] true (dI (s2.1 ++ [(w64 (v7 * a2)).tmod a0]))), (8, .val (i64 s2.2))] rfl ?_ ?_
  · simp [hv7a, hv7b, hv7c, hv7d, hc8, hc8s, hc9, hc9s] <;> simp [ieq, ilt, ile]
  refine hK6 _ ?_
  -- region 4
  refine VW.wr tau_ok Sound.none [some 14, some 15, some 8] [(0, .val (i64 a0)), (1, .val (dI a1)), (2, .val (i64 a2)), (7, .ref 7 [] true (dI (s2.1 ++ [(w64 (v7 * a2)).tmod a0]))), (8, .val (i64 (w64 (s2.2 + 1))))] rfl ?_ ?_
  · simp <;> simp [ieq, ilt, ile]
  cases hx2o
  exact ⟨_, rfl, Fits.of rfl⟩

theorem s_l02Plus_ok {a0 : Int} {a1 : List Int} {a2 : List Int} {a3 : Int} {r : List Int} (h : s_l02Plus a0 a1 a2 a3 = some r) :
    VCall Try.prog 198 [i64 a0, dI a1, dI a2, i64 a3] [.own true (dI r)] := by
  unfold s_l02Plus at h
  refine VCall.enter Try.call198 Try.func198 rfl 35 Try.ntmps198 (by simp) [.tmp 8] rfl ?_
  show VW _ _ _ (mk [(0, .val (i64 a0)), (1, .val (dI a1)), (2, .val (dI a2)), (3, .val (i64 a3))]) _
  -- region 0
  refine VW.ws tau_ok Sound.none [some 8] [(0, .val (i64 a0)), (1, .val (dI a1)), (2, .val (dI a2)), (3, .val (i64 a3))] rfl ?_ ?_
  · simp <;> simp [ieq, ilt, ile]
  -- region 1
  refine VW.ws tau_ok Sound.none [some 11, some 9] [(0, .val (i64 a0)), (1, .val (dI a1)), (2, .val (dI a2)), (3, .val (i64 a3)), (9, .ref 9 [] true (dI []))] rfl ?_ ?_
  · simp <;> simp [ieq, ilt, ile]
  refine VW.sqc fun K1 hK1 hCK1 => ?_
  -- region 2
  refine VW.ws tau_ok Sound.none [some 10] [(0, .val (i64 a0)), (1, .val (dI a1)), (2, .val (dI a2)), (3, .val (i64 a3)), (9, .ref 9 [] true (dI [])), (10, .val (i64 0))] rfl ?_ ?_
  · simp <;> simp [ieq, ilt, ile]
  obtain ⟨x2, hx2, h⟩ := bind_some h
  refine VW.tlE [(9, .ref 9 [] true (dI x2))] (hCK1) ?_ ?_
  · clear hx2
    refine hK1 _ ?_
    -- region 6
    refine VW.ws tau_ok Sound.none [some 34, some 8] [(8, .ref 8 [] true (dI x2))] rfl ?_ ?_
    · simp <;> simp [ieq, ilt, ile]
    cases h
    refine VW.ret ?_
    simp [Post, PostM, PostC, PostC2, Nx, Bk]
  refine VW.block ?_
  refine VW.loopF (s_l02Plus_L0 a0 a1 a2 a3) (fun s2 => [(0, .val (i64 a0)), (1, .val (dI a1)), (2, .val (dI a2)), (3, .val (i64 a3)), (9, .ref 9 [] true (dI s2.1)), (10, .val (i64 s2.2))]) hx2 (Fits.of rfl) ?_
  clear hx2
  intro s2 ox2 hx2o hx2b
  unfold s_l02Plus_L0 at hx2o
  refine VW.sqc fun K4 hK4 hCK4 => ?_
  -- region 3
  refine VW.ws tau_ok Sound.none [some 12, some 13, some 14, some 15] [(0, .val (i64 a0)), (1, .val (dI a1)), (2, .val (dI a2)), (3, .val (i64 a3)), (9, .ref 9 [] true (dI s2.1)), (10, .val (i64 s2.2)), (15, .val (.bool (ilt s2.2 (a1.length : Int))))] rfl ?_ ?_
  · simp <;> simp [ieq, ilt, ile]
  refine VW.cond rfl (fun hb5 => ?_) (fun hb5 => ?_)
  rotate_left
  ·
    replace hb5 : ¬ (s2.2 < (a1.length : Int)) := by simpa [ieq, ilt, ile] using hb5
    rw [if_neg hb5] at hx2o
    refine VW.exit ?_
    cases hx2o
    have hq := hx2b _ rfl
    subst hq
    exact Fits.of rfl
  replace hb5 : s2.2 < (a1.length : Int) := by simpa [ieq, ilt, ile] using hb5
  rw [if_pos hb5] at hx2o
  refine VW.skip ?_
  refine hK4 _ ?_
  refine VW.sqc fun K6 hK6 hCK6 => ?_
  refine VW.block ?_
  -- region 5
  obtain ⟨v7, hv7, hx2o⟩ := bind_some hx2o
  obtain ⟨hv7a, hv7b, hv7c, hv7d⟩ := idx_some hv7
  obtain ⟨v8, hv8, hx2o⟩ := bind_some hx2o
  obtain ⟨hv8a, hv8b, hv8c, hv8d⟩ := idx_some hv8
  obtain ⟨hc9, hx2o⟩ := chk_some hx2o
  have hc9s := hc9
  try simp at hc9s
  obtain ⟨hc10, hx2o⟩ := chk_some hx2o
  have hc10s := hc10
  try simp at hc10s
  refine VW.wdr tau_ok Sound.none try_mixed [some 18, some 19, some 20, some 21, some 22, some 23, some 24, some 25, some 26, some 27, some 28, some 29, some 30, some 31, some 32, some 33, some 9] [(0, .val (i64 a0)), (1, .val (dI a1)), (2, .val (dI a2)), (3, .val (i64 a3)), (9, .ref 9 [] true (dI (s2.1 ++ [(w64 (v7 + (w64 (a3 * v8)))).tmod a0]))), (10, .val (i64 s2.2))] 15 rfl (by kernel_rfl) (by rfl) ?_ ?_
  · simp [hv7a, hv7b, hv7c, hv7d, hv8a, hv8b, hv8c, hv8d, hc9, hc9s, hc10, hc10s] <;> simp [ieq, ilt, ile]
  refine hK6 _ ?_
  -- region 4
  refine VW.wr tau_ok Sound.none [some 16, some 17, some 10] [(0, .val (i64 a0)), (1, .val (dI a1)), (2, .val (dI a2)), (3, .val (i64 a3)), (9, .ref 9 [] true (dI (s2.1 ++ [(w64 (v7 + (w64 (a3 * v8)))).tmod a0]))), (10, .val (i64 (w64 (s2.2 + 1))))] rfl ?_ ?_
  · simp <;> simp [ieq, ilt, ile]
  cases hx2o
  exact ⟨_, rfl, Fits.of rfl⟩

theorem s_l02Draw_ok {a0_0 : List Int} {a0_1 : Int} {a0_2 : Int} {a1 : Int} {a2 : Int} {a3 : Int} {r : (List (List Int)) × ((List Int) × Int × Int)} (h : s_l02Draw a0_0 a0_1 a0_2 a1 a2 a3 = some r) :
    VPtr Try.prog 116 [.list (a0_0.map (D.int .u8)), i64 a0_1, .int .u64 a0_2] [i64 a1, i64 a2, i64 a3] [.own true (dM r.1)] [.list (r.2.1.map (D.int .u8)), i64 r.2.2.1, .int .u64 r.2.2.2] := by
  unfold s_l02Draw at h
  refine VPtr.enter Try.call116 Try.func116 rfl 56 Try.ntmps116 (by simp) [.tmp 8] rfl ?_
  show VW _ _ _ (mk [(0, .ref 0 [] false (.ptr [.list (a0_0.map (D.int .u8)), i64 a0_1, .int .u64 a0_2])), (1, .val (i64 a1)), (2, .val (i64 a2)), (3, .val (i64 a3))]) _
  -- region 0
  refine VW.ws tau_ok Sound.none [some 8] [(0, .ref 0 [] false (.ptr [.list (a0_0.map (D.int .u8)), i64 a0_1, .int .u64 a0_2])), (1, .val (i64 a1)), (2, .val (i64 a2)), (3, .val (i64 a3))] rfl ?_ ?_
  · simp <;> simp [ieq, ilt, ile]
  -- region 1
  refine VW.ws tau_ok Sound.none [some 12, some 9] [(0, .ref 0 [] false (.ptr [.list (a0_0.map (D.int .u8)), i64 a0_1, .int .u64 a0_2])), (1, .val (i64 a1)), (2, .val (i64 a2)), (3, .val (i64 a3)), (9, .ref 9 [] true (dM []))] rfl ?_ ?_
  · simp <;> simp [ieq, ilt, ile]
  refine VW.sqc fun K1 hK1 hCK1 => ?_
  -- region 2
  refine VW.ws tau_ok Sound.none [some 10] [(0, .ref 0 [] false (.ptr [.list (a0_0.map (D.int .u8)), i64 a0_1, .int .u64 a0_2])), (1, .val (i64 a1)), (2, .val (i64 a2)), (3, .val (i64 a3)), (9, .ref 9 [] true (dM [])), (10, .val (i64 0))] rfl ?_ ?_
  · simp <;> simp [ieq, ilt, ile]
  obtain ⟨x2, hx2, h⟩ := bind_some h
  refine VW.tlE [(0, .ref 0 [] false (.ptr [.list (x2.1.map (D.int .u8)), i64 x2.2.1, .int .u64 x2.2.2.1])), (9, .ref 9 [] true (dM x2.2.2.2))] (hCK1) ?_ ?_
  · clear hx2
    refine hK1 _ ?_
    -- region 9
    refine VW.ws tau_ok Sound.none [some 55, some 8] [(0, .ref 0 [] false (.ptr [.list (x2.1.map (D.int .u8)), i64 x2.2.1, .int .u64 x2.2.2.1])), (8, .ref 8 [] true (dM x2.2.2.2))] rfl ?_ ?_
    · simp <;> simp [ieq, ilt, ile]
    cases h
    refine VW.ret ?_
    simp [PostW, resW, Nx, Bk]
  refine VW.block ?_
  refine VW.loopF (s_l02Draw_L0 a1 a2 a3) (fun s2 => [(0, .ref 0 [] false (.ptr [.list (s2.1.map (D.int .u8)), i64 s2.2.1, .int .u64 s2.2.2.1])), (1, .val (i64 a1)), (2, .val (i64 a2)), (3, .val (i64 a3)), (9, .ref 9 [] true (dM s2.2.2.2.1)), (10, .val (i64 s2.2.2.2.2))]) hx2 (Fits.of rfl) ?_
  clear hx2
  intro s2 ox2 hx2o hx2b
  unfold s_l02Draw_L0 at hx2o
  refine VW.sqc fun K4 hK4 hCK4 => ?_
  -- region 3
  refine VW.ws tau_ok Sound.none [some 13, some 14, some 15] [(0, .ref 0 [] false (.ptr [.list (s2.1.map (D.int .u8)), i64 s2.2.1, .int .u64 s2.2.2.1])), (1, .val (i64 a1)), (2, .val (i64 a2)), (3, .val (i64 a3)), (9, .ref 9 [] true (dM s2.2.2.2.1)), (10, .val (i64 s2.2.2.2.2)), (15, .val (.bool (ilt s2.2.2.2.2 a2)))] rfl ?_ ?_
  · simp <;> simp [ieq, ilt, ile]
  refine VW.cond rfl (fun hb5 => ?_) (fun hb5 => ?_)
  rotate_left
  ·
    replace hb5 : ¬ (s2.2.2.2.2 < a2) := by simpa [ieq, ilt, ile] using hb5
    rw [if_neg hb5] at hx2o
    refine VW.exit ?_
    cases hx2o
    have hq := hx2b _ rfl
    subst hq
    exact Fits.of rfl
  replace hb5 : s2.2.2.2.2 < a2 := by simpa [ieq, ilt, ile] using hb5
  rw [if_pos hb5] at hx2o
  refine VW.skip ?_
  refine hK4 _ ?_
  refine VW.sqc fun K6 hK6 hCK6 => ?_
  refine VW.block ?_
  -- region 5
  obtain ⟨v7, hv7, hx2o⟩ := bind_some hx2o
  refine VW.ws tau_ok (Sound.none.ptrc 21 (s_l01List_ok hv7)) [some 18, some 19, some 20, some 21, some 11] [(0, .ref 0 [] false (.ptr [.list (v7.2.1.map (D.int .u8)), i64 v7.2.2.1, .int .u64 v7.2.2.2])), (1, .val (i64 a1)), (2, .val (i64 a2)), (3, .val (i64 a3)), (9, .ref 9 [] true (dM s2.2.2.2.1)), (10, .val (i64 s2.2.2.2.2)), (11, .ref 11 [] true (dI v7.1))] rfl ?_ ?_
  · simp <;> simp [ieq, ilt, ile]
  refine VW.sqc fun K8 hK8 hCK8 => ?_
  -- region 6
  obtain ⟨x11, hx11, hx2o⟩ := bind_some hx2o
  refine VW.cut [(0, .ref 0 [] false (.ptr [.list (x11.1.map (D.int .u8)), i64 x11.2.1, .int .u64 x11.2.2.1])), (1, .val (i64 a1)), (2, .val (i64 a2)), (3, .val (i64 a3)), (9, .ref 9 [] true (dM s2.2.2.2.1)), (10, .val (i64 s2.2.2.2.2)), (11, .ref 11 [] true (dI v7.1)), (28, .val (.bool x11.2.2.2))] ?_ fun hy => ?_
  rotate_left
  · clear hx2o
    by_cases hp9 : 0 < s2.2.2.2.2
    · rw [if_pos hp9] at hx11
      have hp9b : ilt 0 s2.2.2.2.2 = true := by simpa [ieq, ilt, ile] using hp9
      have hp9s := hp9b
      try simp at hp9s
      obtain ⟨v10, hv10, hx11⟩ := bind_some hx11
      cases hx11
      refine VW.ws tau_ok (Sound.none.ptrc 26 (s_l01Next_ok hv10)) [some 22, some 23, some 24, some 25, some 26, some 27, some 28] _ rfl ?_ hy
      simp [hp9b, hp9s] <;> simp [ieq, ilt, ile]
    · rw [if_neg hp9] at hx11
      have hp9b : ilt 0 s2.2.2.2.2 = false := by simpa [ieq, ilt, ile] using hp9
      have hp9s := hp9b
      try simp at hp9s
      cases hx11
      refine VW.ws tau_ok Sound.none [some 22, some 23, some 24, some 25, some 26, some 27, some 28] _ rfl ?_ hy
      simp [hp9b, hp9s] <;> simp [ieq, ilt, ile]
  obtain ⟨x12, hx12, hx2o⟩ := bind_some hx2o
  refine VW.tlE [(0, .ref 0 [] false (.ptr [.list (x12.1.map (D.int .u8)), i64 x12.2.1, .int .u64 x12.2.2.1])), (1, .val (i64 a1)), (2, .val (i64 a2)), (3, .val (i64 a3)), (9, .ref 9 [] true (dM s2.2.2.2.1)), (10, .val (i64 s2.2.2.2.2)), (11, .ref 11 [] true (dI x12.2.2.2))] (hCK8) ?_ ?_
  · clear hx12
    refine hK8 _ ?_
    -- region 8
    obtain ⟨hc23, hx2o⟩ := chk_some hx2o
    have hc23s := hc23
    try simp at hc23s
    refine VW.wr tau_ok Sound.none [some 51, some 52, some 53, some 54, some 9] [(0, .ref 0 [] false (.ptr [.list (x12.1.map (D.int .u8)), i64 x12.2.1, .int .u64 x12.2.2.1])), (1, .val (i64 a1)), (2, .val (i64 a2)), (3, .val (i64 a3)), (9, .ref 9 [] true (dM (s2.2.2.2.1 ++ [x12.2.2.2]))), (10, .val (i64 s2.2.2.2.2))] rfl ?_ ?_
    · simp [hc23, hc23s] <;> simp [ieq, ilt, ile]
    refine hK6 _ ?_
    -- region 4
    refine VW.wr tau_ok Sound.none [some 16, some 17, some 10] [(0, .ref 0 [] false (.ptr [.list (x12.1.map (D.int .u8)), i64 x12.2.1, .int .u64 x12.2.2.1])), (1, .val (i64 a1)), (2, .val (i64 a2)), (3, .val (i64 a3)), (9, .ref 9 [] true (dM (s2.2.2.2.1 ++ [x12.2.2.2]))), (10, .val (i64 (w64 (s2.2.2.2.2 + 1))))] rfl ?_ ?_
    · simp <;> simp [ieq, ilt, ile]
    cases hx2o
    exact ⟨_, rfl, Fits.of rfl⟩
  refine VW.cond rfl (fun hb14 => ?_) (fun hb14 => ?_)
  rotate_left
  ·
    replace hb14 : ¬ (x11.2.2.2 = true) := by simpa [ieq, ilt, ile] using hb14
    rw [if_neg hb14] at hx12
    refine VW.skip ?_
    cases hx12
    exact Fits.of rfl
  replace hb14 : x11.2.2.2 = true := by simpa [ieq, ilt, ile] using hb14
  rw [if_pos hb14] at hx12
  -- region 7
  obtain ⟨v15, hv15, hx12⟩ := bind_some hx12
  obtain ⟨v16, hv16, hx12⟩ := bind_some hx12
  obtain ⟨hv16a, hv16b, hv16c, hv16d⟩ := idx_some hv16
  obtain ⟨v17, hv17, hx12⟩ := bind_some hx12
  obtain ⟨v18, hv18, hx12⟩ := bind_some hx12
  obtain ⟨v19, hv19, hx12⟩ := bind_some hx12
  obtain ⟨v20, hv20, hx12⟩ := bind_some hx12
  obtain ⟨hv20a, hv20b, hv20c, hv20d⟩ := idx_some hv20
  obtain ⟨v21, hv21, hx12⟩ := bind_some hx12
  obtain ⟨v22, hv22, hx12⟩ := bind_some hx12
  refine VW.wxr tau_ok ((((((Sound.none.ptrc 34 (s_l01Next_ok hv15)).ptrc 39 (s_l01Next_ok hv17)).add 40 (s_l02Scale_ok hv18) rfl).ptrc 44 (s_l01Next_ok hv19)).ptrc 49 (s_l01Next_ok hv21)).add 50 (s_l02Plus_ok hv22) rfl) try_mixed [some 29, some 30, some 31, some 32, some 33, some 34, some 35, some 36, some 37, some 38, some 39, some 40, some 41, some 42, some 43, some 44, some 45, some 46, some 47, some 48, some 49, some 50, some 11] [(0, .ref 0 [] false (.ptr [.list (v21.2.1.map (D.int .u8)), i64 v21.2.2.1, .int .u64 v21.2.2.2])), (1, .val (i64 a1)), (2, .val (i64 a2)), (3, .val (i64 a3)), (9, .ref 9 [] true (dM s2.2.2.2.1)), (10, .val (i64 s2.2.2.2.2)), (11, .ref 11 [] true (dI v22))] [0, 0, 0, 0, 0, 3, 1, 1, 0, 0, 2, 3, 0, 0, 0, 3, 1, 1, 0, 0, 2, 3, 3] [[1], [1], [9], [0], [10], [32, 33], [31, 34], [35], [0], [1], [37, 38], [30, 36, 39], [9], [0], [10], [42, 43], [41, 44], [45], [0], [1], [47, 48], [29, 40, 46, 49], [50]] [0] rfl rfl (by kernel_rfl) ?_ ?_
  · simp [hv16a, hv16b, hv16c, hv16d, hv20a, hv20b, hv20c, hv20d] <;> simp [ieq, ilt, ile]
  cases hx12
  exact Fits.of rfl

theorem s_l02Spoil_ok {a0_0 : List Int} {a0_1 : Int} {a0_2 : Int} {a1 : Int} {a2 : Int} {r : (Int × (List (List Int))) × ((List Int) × Int × Int)} (h : s_l02Spoil a0_0 a0_1 a0_2 a1 a2 = some r) :
    VPtr Try.prog 113 [.list (a0_0.map (D.int .u8)), i64 a0_1, .int .u64 a0_2] [i64 a1, i64 a2] [.tup [i64 r.1.1, dM r.1.2]] [.list (r.2.1.map (D.int .u8)), i64 r.2.2.1, .int .u64 r.2.2.2] := by
  unfold s_l02Spoil at h
  refine VPtr.enter Try.call113 Try.func113 rfl 59 Try.ntmps113 (by simp) [.tmp 6, .tmp 7] rfl ?_
  show VW _ _ _ (mk [(0, .ref 0 [] false (.ptr [.list (a0_0.map (D.int .u8)), i64 a0_1, .int .u64 a0_2])), (1, .val (i64 a1)), (2, .val (i64 a2))]) _
  -- region 0
  refine VW.ws tau_ok Sound.none [some 6, some 7] [(0, .ref 0 [] false (.ptr [.list (a0_0.map (D.int .u8)), i64 a0_1, .int .u64 a0_2])), (1, .val (i64 a1)), (2, .val (i64 a2))] rfl ?_ ?_
  · simp <;> simp [ieq, ilt, ile]
  -- region 1
  obtain ⟨v1, hv1, h⟩ := bind_some h
  refine VW.ws tau_ok (Sound.none.ptrc 11 (s_l01Bad_ok hv1)) [some 10, some 11, some 8] [(0, .ref 0 [] false (.ptr [.list (v1.2.1.map (D.int .u8)), i64 v1.2.2.1, .int .u64 v1.2.2.2])), (1, .val (i64 a1)), (2, .val (i64 a2)), (8, .val (i64 v1.1))] rfl ?_ ?_
  · simp <;> simp [ieq, ilt, ile]
  refine VW.sqc fun K2 hK2 hCK2 => ?_
  -- region 2
  obtain ⟨v3, hv3, h⟩ := bind_some h
  refine VW.ws tau_ok (Sound.none.add 13 (s_l01Prime_ok hv3) rfl) [some 12, some 13, some 14] [(0, .ref 0 [] false (.ptr [.list (v1.2.1.map (D.int .u8)), i64 v1.2.2.1, .int .u64 v1.2.2.2])), (1, .val (i64 a1)), (2, .val (i64 a2)), (8, .val (i64 v1.1)), (14, .val (.bool (!v3)))] rfl ?_ ?_
  · simp <;> simp [ieq, ilt, ile]
  refine VW.cond rfl (fun hb4 => ?_) (fun hb4 => ?_)
  ·
    replace hb4 : v3 = false := by simpa [ieq, ilt, ile] using hb4
    rw [if_pos hb4] at h
    -- region 3
    refine VW.ws tau_ok Sound.none [some 15, some 16, some 17, some 6, some 7] [(0, .ref 0 [] false (.ptr [.list (v1.2.1.map (D.int .u8)), i64 v1.2.2.1, .int .u64 v1.2.2.2])), (6, .val (i64 v1.1)), (7, .ref 7 [] true (dM [[1]]))] rfl ?_ ?_
    · simp <;> simp [ieq, ilt, ile]
    have hr0 := Option.some.inj h
    subst hr0
    refine VW.fits (fl' := [(0, .ref 0 [] false (.ptr [.list (v1.2.1.map (D.int .u8)), i64 v1.2.2.1, .int .u64 v1.2.2.2])), (6, .val (i64 v1.1)), (7, .val (dM [[1]]))]) (Fits.freeze (s := 7) rfl (by simp) (Fits.of rfl)) ?_
    refine VW.ret ?_
    exact ⟨_, rfl, _, _, rfl, rfl, rfl⟩
  replace hb4 : ¬ (v3 = false) := by simpa [ieq, ilt, ile] using hb4
  rw [if_neg hb4] at h
  refine VW.skip ?_
  refine hK2 _ ?_
  -- region 4
  obtain ⟨v5, hv5, h⟩ := bind_some h
  refine VW.ws tau_ok (Sound.none.ptrc 22 (s_l02Draw_ok hv5)) [some 18, some 19, some 20, some 21, some 22, some 9] [(0, .ref 0 [] false (.ptr [.list (v5.2.1.map (D.int .u8)), i64 v5.2.2.1, .int .u64 v5.2.2.2])), (8, .val (i64 v1.1)), (9, .ref 9 [] true (dM v5.1))] rfl ?_ ?_
  · simp <;> simp [ieq, ilt, ile]
  refine VW.sqc fun K6 hK6 hCK6 => ?_
  -- region 5
  obtain ⟨v7, hv7, h⟩ := bind_some h
  refine VW.ws tau_ok (Sound.none.ptrc 24 (s_l01Next_ok hv7)) [some 23, some 24] [(0, .ref 0 [] false (.ptr [.list (v7.2.1.map (D.int .u8)), i64 v7.2.2.1, .int .u64 v7.2.2.2])), (8, .val (i64 v1.1)), (9, .ref 9 [] true (dM v5.1)), (24, .val (i64 v7.1))] rfl ?_ ?_
  · simp <;> simp [ieq, ilt, ile]
  obtain ⟨x8, hx8, h⟩ := bind_some h
  refine VW.tlE [(0, .ref 0 [] false (.ptr [.list (x8.1.map (D.int .u8)), i64 x8.2.1, .int .u64 x8.2.2.1])), (8, .val (i64 v1.1)), (9, .ref 9 [] true (dM x8.2.2.2))] (hCK6) ?_ ?_
  · clear hx8
    refine hK6 _ ?_
    -- region 16
    refine VW.ws tau_ok Sound.none [some 57, some 58, some 6, some 7] [(0, .ref 0 [] false (.ptr [.list (x8.1.map (D.int .u8)), i64 x8.2.1, .int .u64 x8.2.2.1])), (6, .val (i64 v1.1)), (7, .ref 7 [] true (dM x8.2.2.2))] rfl ?_ ?_
    · simp <;> simp [ieq, ilt, ile]
    have hr0 := Option.some.inj h
    subst hr0
    refine VW.fits (fl' := [(0, .ref 0 [] false (.ptr [.list (x8.1.map (D.int .u8)), i64 x8.2.1, .int .u64 x8.2.2.1])), (6, .val (i64 v1.1)), (7, .val (dM x8.2.2.2))]) (Fits.freeze (s := 7) rfl (by simp) (Fits.of rfl)) ?_
    refine VW.ret ?_
    exact ⟨_, rfl, _, _, rfl, rfl, rfl⟩
  refine VW.block ?_
  -- region 6
  refine VW.ws tau_ok Sound.none [some 26, some 25] [(0, .ref 0 [] false (.ptr [.list (v7.2.1.map (D.int .u8)), i64 v7.2.2.1, .int .u64 v7.2.2.2])), (8, .val (i64 v1.1)), (9, .ref 9 [] true (dM v5.1)), (24, .val (i64 v7.1)), (25, .val (.bool (ieq v7.1 0)))] rfl ?_ ?_
  · simp <;> simp [ieq, ilt, ile]
  refine VW.cond rfl (fun hb10 => ?_) (fun hb10 => ?_)
  ·
    replace hb10 : v7.1 = 0 := by simpa [ieq, ilt, ile] using hb10
    rw [if_pos hb10] at hx8
    -- region 7
    obtain ⟨v11, hv11, hx8⟩ := bind_some hx8
    obtain ⟨hv11a, hv11b, hv11c, hv11d⟩ := idx_some hv11
    replace hv11b : 0 < v5.1.length := hv11b
    replace hv11c : v5.1[0]? = some v11 := hv11c
    replace hv11d : ∀ h, v5.1[0]'h = v11 := hv11d
    obtain ⟨v12, hv12, hx8⟩ := bind_some hx8
    obtain ⟨v13, hv13, hx8⟩ := bind_some hx8
    obtain ⟨hv13a, hv13b, hv13c, hv13d⟩ := idx_some hv13
    replace hv13b : 0 < v11.length := hv13b
    replace hv13c : v11[0]? = some v13 := hv13c
    replace hv13d : ∀ h, v11[0]'h = v13 := hv13d
    refine VW.wxr tau_ok (Sound.none.ptrc 33 (s_l01Pick_ok hv12)) try_mixed [some 27, some 28, some 29, some 30, some 31, some 32, some 33, some 34, none] [(0, .ref 0 [] false (.ptr [.list (v12.2.1.map (D.int .u8)), i64 v12.2.2.1, .int .u64 v12.2.2.2])), (8, .val (i64 v1.1)), (9, .ref 9 [] true (dM (v5.1.set 0 (v11.set 0 v12.1))))] [0, 1, 1, 0, 0, 2, 2, 0, 3] [[9], [27], [28], [0], [8], [31], [30, 32], [29], [34, 33]] [0, 32] rfl rfl (by kernel_rfl) ?_ ?_
    · simp [hv11a, hv11b, hv11c, hv11d, hv13a, hv13b, hv13c, hv13d] <;> simp [ieq, ilt, ile]
    cases hx8
    exact Fits.of rfl
  replace hb10 : ¬ (v7.1 = 0) := by simpa [ieq, ilt, ile] using hb10
  rw [if_neg hb10] at hx8
  -- region 8
  refine VW.ws tau_ok Sound.none [some 36, some 35] [(0, .ref 0 [] false (.ptr [.list (v7.2.1.map (D.int .u8)), i64 v7.2.2.1, .int .u64 v7.2.2.2])), (8, .val (i64 v1.1)), (9, .ref 9 [] true (dM v5.1)), (24, .val (i64 v7.1)), (35, .val (.bool (ieq v7.1 1)))] rfl ?_ ?_
  · simp <;> simp [ieq, ilt, ile]
  refine VW.cond rfl (fun hb14 => ?_) (fun hb14 => ?_)
  ·
    replace hb14 : v7.1 = 1 := by simpa [ieq, ilt, ile] using hb14
    rw [if_pos hb14] at hx8
    -- region 9
    obtain ⟨v15, hv15, hx8⟩ := bind_some hx8
    obtain ⟨hv15a, hv15b, hv15c, hv15d⟩ := idx_some hv15
    replace hv15b : 0 < v5.1.length := hv15b
    replace hv15c : v5.1[0]? = some v15 := hv15c
    replace hv15d : ∀ h, v5.1[0]'h = v15 := hv15d
    obtain ⟨hc16, hx8⟩ := chk_some hx8
    have hc16s := hc16
    try simp at hc16s
    refine VW.wr tau_ok Sound.none [some 37, some 38, some 39, some 40, some 41, some 42, some 43, none] [(0, .ref 0 [] false (.ptr [.list (v7.2.1.map (D.int .u8)), i64 v7.2.2.1, .int .u64 v7.2.2.2])), (8, .val (i64 v1.1)), (9, .ref 9 [] true (dM (v5.1.set 0 (v15 ++ [0]))))] rfl ?_ ?_
    · simp [hv15a, hv15b, hv15c, hv15d, hc16, hc16s] <;> simp [ieq, ilt, ile]
    cases hx8
    exact Fits.of rfl
  replace hb14 : ¬ (v7.1 = 1) := by simpa [ieq, ilt, ile] using hb14
  rw [if_neg hb14] at hx8
  -- region 10
  refine VW.ws tau_ok Sound.none [some 45, some 44] [(0, .ref 0 [] false (.ptr [.list (v7.2.1.map (D.int .u8)), i64 v7.2.2.1, .int .u64 v7.2.2.2])), (8, .val (i64 v1.1)), (9, .ref 9 [] true (dM v5.1)), (24, .val (i64 v7.1)), (44, .val (.bool (ieq v7.1 2)))] rfl ?_ ?_
  · simp <;> simp [ieq, ilt, ile]
  refine VW.cond rfl (fun hb17 => ?_) (fun hb17 => ?_)
  ·
    replace hb17 : v7.1 = 2 := by simpa [ieq, ilt, ile] using hb17
    rw [if_pos hb17] at hx8
    -- region 11
    refine VW.wr tau_ok Sound.none [some 46, some 9] [(0, .ref 0 [] false (.ptr [.list (v7.2.1.map (D.int .u8)), i64 v7.2.2.1, .int .u64 v7.2.2.2])), (8, .val (i64 v1.1)), (9, .ref 9 [] true (dM []))] rfl ?_ ?_
    · simp <;> simp [ieq, ilt, ile]
    cases hx8
    exact Fits.of rfl
  replace hb17 : ¬ (v7.1 = 2) := by simpa [ieq, ilt, ile] using hb17
  rw [if_neg hb17] at hx8
  -- region 12
  refine VW.ws tau_ok Sound.none [some 48, some 47] [(0, .ref 0 [] false (.ptr [.list (v7.2.1.map (D.int .u8)), i64 v7.2.2.1, .int .u64 v7.2.2.2])), (8, .val (i64 v1.1)), (9, .ref 9 [] true (dM v5.1)), (24, .val (i64 v7.1)), (47, .val (.bool (ieq v7.1 3)))] rfl ?_ ?_
  · simp <;> simp [ieq, ilt, ile]
  refine VW.cond rfl (fun hb18 => ?_) (fun hb18 => ?_)
  ·
    replace hb18 : v7.1 = 3 := by simpa [ieq, ilt, ile] using hb18
    rw [if_pos hb18] at hx8
    -- region 13
    obtain ⟨v19, hv19, hx8⟩ := bind_some hx8
    refine VW.wr tau_ok (Sound.none.ptrc 51 (s_l02Draw_ok hv19)) [some 49, some 50, some 51, some 9] [(0, .ref 0 [] false (.ptr [.list (v19.2.1.map (D.int .u8)), i64 v19.2.2.1, .int .u64 v19.2.2.2])), (8, .val (i64 v1.1)), (9, .ref 9 [] true (dM v19.1))] rfl ?_ ?_
    · simp <;> simp [ieq, ilt, ile]
    cases hx8
    exact Fits.of rfl
  replace hb18 : ¬ (v7.1 = 3) := by simpa [ieq, ilt, ile] using hb18
  rw [if_neg hb18] at hx8
  -- region 14
  refine VW.ws tau_ok Sound.none [some 53, some 52] [(0, .ref 0 [] false (.ptr [.list (v7.2.1.map (D.int .u8)), i64 v7.2.2.1, .int .u64 v7.2.2.2])), (8, .val (i64 v1.1)), (9, .ref 9 [] true (dM v5.1)), (52, .val (.bool (ieq v7.1 4)))] rfl ?_ ?_
  · simp <;> simp [ieq, ilt, ile]
  refine VW.cond rfl (fun hb20 => ?_) (fun hb20 => ?_)
  rotate_left
  ·
    replace hb20 : ¬ (v7.1 = 4) := by simpa [ieq, ilt, ile] using hb20
    rw [if_neg hb20] at hx8
    refine VW.skip ?_
    cases hx8
    exact Fits.of rfl
  replace hb20 : v7.1 = 4 := by simpa [ieq, ilt, ile] using hb20
  rw [if_pos hb20] at hx8
  -- region 15
  obtain ⟨v21, hv21, hx8⟩ := bind_some hx8
  refine VW.wr tau_ok (Sound.none.ptrc 56 (s_l02Draw_ok hv21)) [some 54, some 55, some 56, some 9] [(0, .ref 0 [] false (.ptr [.list (v21.2.1.map (D.int .u8)), i64 v21.2.2.1, .int .u64 v21.2.2.2])), (8, .val (i64 v1.1)), (9, .ref 9 [] true (dM v21.1))] rfl ?_ ?_
  · simp <;> simp [ieq, ilt, ile]
  cases hx8
  exact Fits.of rfl

theorem s_DrawMultiplyMatrices_ok {a0 : List Int} {r : Int × (List (List Int)) × (List (List Int))} (h : s_DrawMultiplyMatrices a0 = some r) :
    VCall Try.prog 39 [.list (a0.map (D.int .u8))] [.tup [i64 r.1, dM r.2.1, dM r.2.2]] := by
  unfold s_DrawMultiplyMatrices at h
  refine VCall.enter Try.call39 Try.func39 rfl 42 Try.ntmps39 (by simp) [.tmp 2, .tmp 3, .tmp 4] rfl ?_
  show VW _ _ _ (mk [(0, .val (.list (a0.map (D.int .u8))))]) _
  -- region 0
  refine VW.ws tau_ok Sound.none [some 2, some 3, some 4] [(0, .val (.list (a0.map (D.int .u8))))] rfl ?_ ?_
  · simp <;> simp [ieq, ilt, ile]
  -- region 1
  obtain ⟨v1, hv1, h⟩ := bind_some h
  refine VW.ws tau_ok (Sound.none.add 11 (s_l01From_ok hv1) rfl) [some 10, some 11, some 5] [(5, .ref 5 [] false (.ptr [.list (v1.1.map (D.int .u8)), i64 v1.2.1, .int .u64 v1.2.2]))] rfl ?_ ?_
  · simp <;> simp [ieq, ilt, ile]
  -- region 2
  obtain ⟨v2, hv2, h⟩ := bind_some h
  obtain ⟨v3, hv3, h⟩ := bind_some h
  refine VW.ws tau_ok ((Sound.none.ptrc 13 (s_l02Size_ok hv2)).ptrc 15 (s_l02Size_ok hv3)) [some 12, some 13, some 14, some 15, some 6, some 7] [(5, .ref 5 [] false (.ptr [.list (v3.2.1.map (D.int .u8)), i64 v3.2.2.1, .int .u64 v3.2.2.2])), (6, .val (i64 v2.1)), (7, .val (i64 v3.1))] rfl ?_ ?_
  · simp <;> simp [ieq, ilt, ile]
  -- region 3
  obtain ⟨v4, hv4, h⟩ := bind_some h
  refine VW.ws tau_ok (Sound.none.ptrc 20 (s_l02Spoil_ok hv4)) [some 17, some 18, some 19, some 20, some 16, some 21, some 22, some 8, some 9] [(5, .ref 5 [] false (.ptr [.list (v4.2.1.map (D.int .u8)), i64 v4.2.2.1, .int .u64 v4.2.2.2])), (7, .val (i64 v3.1)), (8, .val (i64 v4.1.1)), (9, .val (dM v4.1.2))] rfl ?_ ?_
  · simp <;> simp [ieq, ilt, ile]
  refine VW.sqc fun K5 hK5 hCK5 => ?_
  -- region 4
  obtain ⟨v6, hv6, h⟩ := bind_some h
  refine VW.ws tau_ok (Sound.none.ptrc 24 (s_l01Next_ok hv6)) [some 23, some 24, some 25] [(5, .ref 5 [] false (.ptr [.list (v6.2.1.map (D.int .u8)), i64 v6.2.2.1, .int .u64 v6.2.2.2])), (7, .val (i64 v3.1)), (8, .val (i64 v4.1.1)), (9, .val (dM v4.1.2)), (25, .val (.bool (ieq v6.1 0)))] rfl ?_ ?_
  · simp <;> simp [ieq, ilt, ile]
  obtain ⟨x7, hx7, h⟩ := bind_some h
  refine VW.tlE [(5, .ref 5 [] false (.ptr [.list (v6.2.1.map (D.int .u8)), i64 v6.2.2.1, .int .u64 v6.2.2.2])), (7, .val (i64 x7)), (8, .val (i64 v4.1.1)), (9, .val (dM v4.1.2))] (hCK5) ?_ ?_
  · clear hx7
    refine hK5 _ ?_
    refine VW.sqc fun K10 hK10 hCK10 => ?_
    -- region 6
    obtain ⟨v11, hv11, h⟩ := bind_some h
    refine VW.ws tau_ok (Sound.none.add 29 (s_l01Prime_ok hv11) rfl) [some 28, some 29, some 30] [(5, .ref 5 [] false (.ptr [.list (v6.2.1.map (D.int .u8)), i64 v6.2.2.1, .int .u64 v6.2.2.2])), (7, .val (i64 x7)), (8, .val (i64 v4.1.1)), (9, .val (dM v4.1.2)), (30, .val (.bool (!v11)))] rfl ?_ ?_
    · simp <;> simp [ieq, ilt, ile]
    refine VW.cond rfl (fun hb12 => ?_) (fun hb12 => ?_)
    ·
      replace hb12 : v11 = false := by simpa [ieq, ilt, ile] using hb12
      rw [if_pos hb12] at h
      -- region 7
      refine VW.ws tau_ok Sound.none [some 31, some 32, some 33, some 2, some 3, some 4] [(2, .val (i64 v4.1.1)), (3, .val (dM v4.1.2)), (4, .val (dM v4.1.2))] rfl ?_ ?_
      · simp <;> simp [ieq, ilt, ile]
      cases h
      refine VW.ret ?_
      exact ⟨_, _, _, rfl, rfl, rfl, rfl⟩
    replace hb12 : ¬ (v11 = false) := by simpa [ieq, ilt, ile] using hb12
    rw [if_neg hb12] at h
    refine VW.skip ?_
    refine hK10 _ ?_
    -- region 8
    obtain ⟨v13, hv13, h⟩ := bind_some h
    obtain ⟨v14, hv14, h⟩ := bind_some h
    refine VW.ws tau_ok ((Sound.none.ptrc 40 (s_l02Size_ok hv13)).ptrc 41 (s_l02Draw_ok hv14)) [some 34, some 35, some 36, some 37, some 38, some 39, some 40, some 41, some 2, some 3, some 4] [(2, .val (i64 v4.1.1)), (3, .val (dM v4.1.2)), (4, .ref 4 [] true (dM v14.1))] rfl ?_ ?_
    · simp <;> simp [ieq, ilt, ile]
    have hr0 := Option.some.inj h
    subst hr0
    refine VW.fits (fl' := [(2, .val (i64 v4.1.1)), (3, .val (dM v4.1.2)), (4, .val (dM v14.1))]) (Fits.freeze (s := 4) rfl (by simp) (Fits.of rfl)) ?_
    refine VW.ret ?_
    exact ⟨_, _, _, rfl, rfl, rfl, rfl⟩
  refine VW.cond rfl (fun hb9 => ?_) (fun hb9 => ?_)
  rotate_left
  ·
    replace hb9 : ¬ (v6.1 = 0) := by simpa [ieq, ilt, ile] using hb9
    rw [if_neg hb9] at hx7
    refine VW.skip ?_
    cases hx7
    exact Fits.of rfl
  replace hb9 : v6.1 = 0 := by simpa [ieq, ilt, ile] using hb9
  rw [if_pos hb9] at hx7
  -- region 5
  refine VW.wr tau_ok Sound.none [some 26, some 27, some 7] [(5, .ref 5 [] false (.ptr [.list (v6.2.1.map (D.int .u8)), i64 v6.2.2.1, .int .u64 v6.2.2.2])), (7, .val (i64 (w64 (v3.1 + 1)))), (8, .val (i64 v4.1.1)), (9, .val (dM v4.1.2))] rfl ?_ ?_
  · simp <;> simp [ieq, ilt, ile]
  cases hx7
  exact Fits.of rfl

theorem i_IsPrime_ok {a0 : Int} {r : Bool} (h : i_IsPrime a0 = some r) :
    VCall Try.prog 120 [i64 a0] [.sc (.bool r)] := by
  unfold i_IsPrime at h
  refine VCall.enter Try.call120 Try.func120 rfl 10 Try.ntmps120 (by simp) [.tmp 2] rfl ?_
  show VW _ _ _ (mk [(0, .val (i64 a0))]) _
  -- region 0
  refine VW.ws tau_ok Sound.none [some 2] [(0, .val (i64 a0))] rfl ?_ ?_
  · simp <;> simp [ieq, ilt, ile]
  refine VW.sqc fun K1 hK1 hCK1 => ?_
  -- region 1
  refine VW.ws tau_ok Sound.none [some 3] [(3, .val (i64 a0))] rfl ?_ ?_
  · simp <;> simp [ieq, ilt, ile]
  refine VW.block ?_
  refine VW.sqc fun K2 hK2 hCK2 => ?_
  -- region 2
  refine VW.ws tau_ok Sound.none [some 5, some 4] [(3, .val (i64 a0)), (4, .val (.bool (ieq a0 3)))] rfl ?_ ?_
  · simp <;> simp [ieq, ilt, ile]
  obtain ⟨x3, hx3, h⟩ := bind_some h
  refine VW.tlE [(4, .val (.bool x3))] (hCK2) ?_ ?_
  · clear hx3
    refine hK2 _ ?_
    refine VW.cond rfl (fun hb9 => ?_) (fun hb9 => ?_)
    ·
      replace hb9 : x3 = true := by simpa [ieq, ilt, ile] using hb9
      rw [if_pos hb9] at h
      -- region 7
      refine VW.ws tau_ok Sound.none [some 2] [(2, .val (.bool true))] rfl ?_ ?_
      · simp <;> simp [ieq, ilt, ile]
      cases h
      refine VW.ret ?_
      simp [Post, PostM, PostC, PostC2, Nx, Bk]
    replace hb9 : ¬ (x3 = true) := by simpa [ieq, ilt, ile] using hb9
    rw [if_neg hb9] at h
    refine VW.skip ?_
    refine hK1 _ ?_
    -- region 8
    refine VW.ws tau_ok Sound.none [some 2] [(2, .val (.bool false))] rfl ?_ ?_
    · simp <;> simp [ieq, ilt, ile]
    cases h
    refine VW.ret ?_
    simp [Post, PostM, PostC, PostC2, Nx, Bk]
  refine VW.cond rfl (fun hb5 => ?_) (fun hb5 => ?_)
  ·
    replace hb5 : a0 = 3 := by simpa [ieq, ilt, ile] using hb5
    rw [if_pos hb5] at hx3
    refine VW.skip ?_
    cases hx3
    exact Fits.of rfl
  replace hb5 : ¬ (a0 = 3) := by simpa [ieq, ilt, ile] using hb5
  rw [if_neg hb5] at hx3
  -- region 3
  refine VW.ws tau_ok Sound.none [some 6, some 4] [(3, .val (i64 a0)), (4, .val (.bool (ieq a0 5)))] rfl ?_ ?_
  · simp <;> simp [ieq, ilt, ile]
  refine VW.cond rfl (fun hb6 => ?_) (fun hb6 => ?_)
  ·
    replace hb6 : a0 = 5 := by simpa [ieq, ilt, ile] using hb6
    rw [if_pos hb6] at hx3
    refine VW.skip ?_
    cases hx3
    exact Fits.of rfl
  replace hb6 : ¬ (a0 = 5) := by simpa [ieq, ilt, ile] using hb6
  rw [if_neg hb6] at hx3
  -- region 4
  refine VW.ws tau_ok Sound.none [some 7, some 4] [(3, .val (i64 a0)), (4, .val (.bool (ieq a0 7)))] rfl ?_ ?_
  · simp <;> simp [ieq, ilt, ile]
  refine VW.cond rfl (fun hb7 => ?_) (fun hb7 => ?_)
  ·
    replace hb7 : a0 = 7 := by simpa [ieq, ilt, ile] using hb7
    rw [if_pos hb7] at hx3
    refine VW.skip ?_
    cases hx3
    exact Fits.of rfl
  replace hb7 : ¬ (a0 = 7) := by simpa [ieq, ilt, ile] using hb7
  rw [if_neg hb7] at hx3
  -- region 5
  refine VW.ws tau_ok Sound.none [some 8, some 4] [(3, .val (i64 a0)), (4, .val (.bool (ieq a0 11)))] rfl ?_ ?_
  · simp <;> simp [ieq, ilt, ile]
  refine VW.cond rfl (fun hb8 => ?_) (fun hb8 => ?_)
  ·
    replace hb8 : a0 = 11 := by simpa [ieq, ilt, ile] using hb8
    rw [if_pos hb8] at hx3
    refine VW.skip ?_
    cases hx3
    exact Fits.of rfl
  replace hb8 : ¬ (a0 = 11) := by simpa [ieq, ilt, ile] using hb8
  rw [if_neg hb8] at hx3
  -- region 6
  refine VW.wr tau_ok Sound.none [some 9, some 4] [(4, .val (.bool (ieq a0 13)))] rfl ?_ ?_
  · simp <;> simp [ieq, ilt, ile]
  cases hx3
  exact Fits.of rfl

theorem i_inRange_ok {a0 : Int} {a1 : Int} {a2 : Int} {r : Bool} (h : i_inRange a0 a1 a2 = some r) :
    VCall Try.prog 175 [i64 a0, i64 a1, i64 a2] [.sc (.bool r)] := by
  unfold i_inRange at h
  refine VCall.enter Try.call175 Try.func175 rfl 15 Try.ntmps175 (by simp) [.tmp 6] rfl ?_
  show VW _ _ _ (mk [(0, .val (i64 a0)), (1, .val (i64 a1)), (2, .val (i64 a2))]) _
  -- region 0
  refine VW.ws tau_ok Sound.none [some 6] [(0, .val (i64 a0)), (1, .val (i64 a1)), (2, .val (i64 a2))] rfl ?_ ?_
  · simp <;> simp [ieq, ilt, ile]
  -- region 1
  obtain ⟨x2, hx2, h⟩ := bind_some h
  refine VW.cut [(6, .val (.bool x2))] ?_ fun hy => ?_
  rotate_left
  · clear h
    by_cases hp1 : a1 ≤ a0
    · rw [if_pos hp1] at hx2
      have hp1b : ile a1 a0 = true := by simpa [ieq, ilt, ile] using hp1
      have hp1s := hp1b
      try simp at hp1s
      cases hx2
      refine VW.ws tau_ok Sound.none [some 7, some 8, some 9, some 10, some 11, some 12, some 13, some 14, some 6] _ rfl ?_ hy
      simp [hp1b, hp1s] <;> simp [ieq, ilt, ile]
    · rw [if_neg hp1] at hx2
      have hp1b : ile a1 a0 = false := by simpa [ieq, ilt, ile] using hp1
      have hp1s := hp1b
      try simp at hp1s
      cases hx2
      refine VW.ws tau_ok Sound.none [some 7, some 8, some 9, some 10, some 11, some 12, some 13, some 14, some 6] _ rfl ?_ hy
      simp [hp1b, hp1s] <;> simp [ieq, ilt, ile]
  cases h
  refine VW.ret ?_
  simp [Post, PostM, PostC, PostC2, Nx, Bk]

theorem i_field_is_ok {a0 : Int} {a1 : List Int} {r : Bool} (h : i_field_is a0 a1 = some r) :
    VCall Try.prog 145 [i64 a0, dI a1] [.sc (.bool r)] := by
  unfold i_field_is at h
  refine VCall.enter Try.call145 Try.func145 rfl 19 Try.ntmps145 (by simp) [.tmp 4] rfl ?_
  show VW _ _ _ (mk [(0, .val (i64 a0)), (1, .val (dI a1))]) _
  -- region 0
  refine VW.ws tau_ok Sound.none [some 4] [(0, .val (i64 a0)), (1, .val (dI a1))] rfl ?_ ?_
  · simp <;> simp [ieq, ilt, ile]
  refine VW.sqc fun K1 hK1 hCK1 => ?_
  -- region 1
  refine VW.ws tau_ok Sound.none [some 7, some 8, some 9] [(0, .val (i64 a0)), (7, .val (dI a1)), (8, .val (i64 (a1.length : Int))), (9, .val (i64 0))] rfl ?_ ?_
  · simp <;> simp [ieq, ilt, ile]
  obtain ⟨x2, hx2, h⟩ := bind_some h
  refine VW.tlO (fun y4 => []) x2 (hCK1) ?_ ?_
  · clear hx2
    rintro y4 rfl
    dsimp only at h
    refine hK1 _ ?_
    -- region 7
    refine VW.ws tau_ok Sound.none [some 4] [(4, .val (.bool true))] rfl ?_ ?_
    · simp <;> simp [ieq, ilt, ile]
    cases h
    refine VW.ret ?_
    simp [Post, PostM, PostC, PostC2, Nx, Bk]
  refine VW.block ?_
  refine VW.loopF (i_field_is_L0 a0 a1) (fun s2 => [(0, .val (i64 a0)), (7, .val (dI a1)), (8, .val (i64 (a1.length : Int))), (9, .val (i64 s2))]) hx2 (Fits.of rfl) ?_
  clear hx2
  intro s2 ox2 hx2o hx2b
  unfold i_field_is_L0 at hx2o
  -- region 2
  refine VW.ws tau_ok Sound.none [some 10] [(0, .val (i64 a0)), (7, .val (dI a1)), (8, .val (i64 (a1.length : Int))), (9, .val (i64 s2)), (10, .val (.bool (ilt s2 (a1.length : Int))))] rfl ?_ ?_
  · simp <;> simp [ieq, ilt, ile]
  refine VW.sqc fun K5 hK5 hCK5 => ?_
  refine VW.cond rfl (fun hb6 => ?_) (fun hb6 => ?_)
  rotate_left
  ·
    replace hb6 : ¬ (s2 < (a1.length : Int)) := by simpa [ieq, ilt, ile] using hb6
    rw [if_neg hb6] at hx2o
    refine VW.exit ?_
    cases hx2o
    have hq := hx2b _ rfl
    subst hq
    exact ⟨_, rfl, Fits.of rfl⟩
  replace hb6 : s2 < (a1.length : Int) := by simpa [ieq, ilt, ile] using hb6
  rw [if_pos hb6] at hx2o
  refine VW.skip ?_
  refine hK5 _ ?_
  refine VW.sqc fun K7 hK7 hCK7 => ?_
  refine VW.block ?_
  -- region 3
  obtain ⟨v8, hv8, hx2o⟩ := bind_some hx2o
  obtain ⟨hv8a, hv8b, hv8c, hv8d⟩ := idx_some hv8
  refine VW.ws tau_ok Sound.none [some 11, some 12, some 6] [(0, .val (i64 a0)), (6, .val (i64 v8)), (7, .val (dI a1)), (8, .val (i64 (a1.length : Int))), (9, .val (i64 s2))] rfl ?_ ?_
  · simp [hv8a, hv8b, hv8c, hv8d] <;> simp [ieq, ilt, ile]
  -- region 4
  obtain ⟨v9, hv9, hx2o⟩ := bind_some hx2o
  refine VW.ws tau_ok (Sound.none.add 16 (i_inRange_ok hv9) rfl) [some 13, some 14, some 15, some 16, some 17] [(0, .val (i64 a0)), (7, .val (dI a1)), (8, .val (i64 (a1.length : Int))), (9, .val (i64 s2)), (17, .val (.bool (!v9)))] rfl ?_ ?_
  · simp <;> simp [ieq, ilt, ile]
  refine VW.cond rfl (fun hb10 => ?_) (fun hb10 => ?_)
  rotate_left
  ·
    replace hb10 : ¬ (v9 = false) := by simpa [ieq, ilt, ile] using hb10
    rw [if_neg hb10] at hx2o
    refine VW.skip ?_
    refine hK7 _ ?_
    -- region 6
    refine VW.wr tau_ok Sound.none [some 18, some 9] [(0, .val (i64 a0)), (7, .val (dI a1)), (8, .val (i64 (a1.length : Int))), (9, .val (i64 (w64 (s2 + 1))))] rfl ?_ ?_
    · simp <;> simp [ieq, ilt, ile]
    cases hx2o
    exact ⟨_, rfl, Fits.of rfl⟩
  replace hb10 : v9 = false := by simpa [ieq, ilt, ile] using hb10
  rw [if_pos hb10] at hx2o
  -- region 5
  refine VW.ws tau_ok Sound.none [some 4] [(4, .val (.bool false))] rfl ?_ ?_
  · simp <;> simp [ieq, ilt, ile]
  cases hx2o
  have hq := hx2b _ rfl
  subst hq
  dsimp only at h
  cases h
  refine VW.ret ?_
  simp [Post, PostM, PostC, PostC2, Nx, Bk]

theorem i_field_isTable_ok {a0 : Int} {a1 : List (List Int)} {r : Bool} (h : i_field_isTable a0 a1 = some r) :
    VCall Try.prog 141 [i64 a0, dM a1] [.sc (.bool r)] := by
  unfold i_field_isTable at h
  refine VCall.enter Try.call141 Try.func141 rfl 40 Try.ntmps141 (by simp) [.tmp 4] rfl ?_
  show VW _ _ _ (mk [(0, .val (i64 a0)), (1, .val (dM a1))]) _
  -- region 0
  refine VW.ws tau_ok Sound.none [some 4] [(0, .val (i64 a0)), (1, .val (dM a1))] rfl ?_ ?_
  · simp <;> simp [ieq, ilt, ile]
  refine VW.sqc fun K1 hK1 hCK1 => ?_
  -- region 1
  refine VW.ws tau_ok Sound.none [some 7, some 8, some 9] [(0, .val (i64 a0)), (1, .val (dM a1)), (9, .val (.bool (ilt 16 (a1.length : Int))))] rfl ?_ ?_
  · simp <;> simp [ieq, ilt, ile]
  refine VW.cond rfl (fun hb2 => ?_) (fun hb2 => ?_)
  ·
    replace hb2 : 16 < (a1.length : Int) := by simpa [ieq, ilt, ile] using hb2
    rw [if_pos hb2] at h
    -- region 2
    refine VW.ws tau_ok Sound.none [some 4] [(4, .val (.bool false))] rfl ?_ ?_
    · simp <;> simp [ieq, ilt, ile]
    cases h
    refine VW.ret ?_
    simp [Post, PostM, PostC, PostC2, Nx, Bk]
  replace hb2 : ¬ (16 < (a1.length : Int)) := by simpa [ieq, ilt, ile] using hb2
  rw [if_neg hb2] at h
  refine VW.skip ?_
  refine hK1 _ ?_
  refine VW.sqc fun K3 hK3 hCK3 => ?_
  -- region 3
  refine VW.ws tau_ok Sound.none [some 10, some 11, some 12] [(0, .val (i64 a0)), (1, .val (dM a1)), (10, .val (dM a1)), (11, .val (i64 (a1.length : Int))), (12, .val (i64 0))] rfl ?_ ?_
  · simp <;> simp [ieq, ilt, ile]
  obtain ⟨x4, hx4, h⟩ := bind_some h
  refine VW.tlO (fun y6 => []) x4 (hCK3) ?_ ?_
  · clear hx4
    rintro y6 rfl
    dsimp only at h
    refine hK3 _ ?_
    -- region 9
    refine VW.ws tau_ok Sound.none [some 4] [(4, .val (.bool true))] rfl ?_ ?_
    · simp <;> simp [ieq, ilt, ile]
    cases h
    refine VW.ret ?_
    simp [Post, PostM, PostC, PostC2, Nx, Bk]
  refine VW.block ?_
  refine VW.loopF (i_field_isTable_L0 a0 a1) (fun s4 => [(0, .val (i64 a0)), (1, .val (dM a1)), (10, .val (dM a1)), (11, .val (i64 (a1.length : Int))), (12, .val (i64 s4))]) hx4 (Fits.of rfl) ?_
  clear hx4
  intro s4 ox4 hx4o hx4b
  unfold i_field_isTable_L0 at hx4o
  -- region 4
  refine VW.ws tau_ok Sound.none [some 13] [(0, .val (i64 a0)), (1, .val (dM a1)), (10, .val (dM a1)), (11, .val (i64 (a1.length : Int))), (12, .val (i64 s4)), (13, .val (.bool (ilt s4 (a1.length : Int))))] rfl ?_ ?_
  · simp <;> simp [ieq, ilt, ile]
  refine VW.sqc fun K7 hK7 hCK7 => ?_
  refine VW.cond rfl (fun hb8 => ?_) (fun hb8 => ?_)
  rotate_left
  ·
    replace hb8 : ¬ (s4 < (a1.length : Int)) := by simpa [ieq, ilt, ile] using hb8
    rw [if_neg hb8] at hx4o
    refine VW.exit ?_
    cases hx4o
    have hq := hx4b _ rfl
    subst hq
    exact ⟨_, rfl, Fits.of rfl⟩
  replace hb8 : s4 < (a1.length : Int) := by simpa [ieq, ilt, ile] using hb8
  rw [if_pos hb8] at hx4o
  refine VW.skip ?_
  refine hK7 _ ?_
  refine VW.sqc fun K9 hK9 hCK9 => ?_
  refine VW.block ?_
  -- region 5
  obtain ⟨v10, hv10, hx4o⟩ := bind_some hx4o
  obtain ⟨hv10a, hv10b, hv10c, hv10d⟩ := idx_some hv10
  refine VW.ws tau_ok Sound.none [some 14, some 15, some 6] [(0, .val (i64 a0)), (1, .val (dM a1)), (6, .val (dI v10)), (10, .val (dM a1)), (11, .val (i64 (a1.length : Int))), (12, .val (i64 s4))] rfl ?_ ?_
  · simp [hv10a, hv10b, hv10c, hv10d] <;> simp [ieq, ilt, ile]
  -- region 6
  obtain ⟨x16, hx16, hx4o⟩ := bind_some hx4o
  refine VW.cut [(0, .val (i64 a0)), (1, .val (dM a1)), (10, .val (dM a1)), (11, .val (i64 (a1.length : Int))), (12, .val (i64 s4)), (38, .val (.bool x16))] ?_ fun hy => ?_
  rotate_left
  · clear hx4o
    obtain ⟨v11, hv11, hx16⟩ := bind_some hx16
    obtain ⟨hv11a, hv11b, hv11c, hv11d⟩ := idx_some hv11
    replace hv11b : 0 < a1.length := hv11b
    replace hv11c : a1[0]? = some v11 := hv11c
    replace hv11d : ∀ h, a1[0]'h = v11 := hv11d
    by_cases hp12 : ¬ (v10.length : Int) = (v11.length : Int)
    · rw [if_pos hp12] at hx16
      have hp12b : ieq (v10.length : Int) (v11.length : Int) = false := by simpa [ieq, ilt, ile] using hp12
      have hp12s := hp12b
      try simp at hp12s
      cases hx16
      refine VW.ws tau_ok Sound.none [some 16, some 17, some 18, some 19, some 20, some 21, some 22, some 23, some 24, some 25, some 26, some 27, some 28, some 29, some 30, some 31, some 32, some 33, some 34, some 35, some 36, some 37, some 38] _ rfl ?_ hy
      simp [hv11a, hv11b, hv11c, hv11d, hp12b, hp12s] <;> simp [ieq, ilt, ile]
    · rw [if_neg hp12] at hx16
      have hp12b : ieq (v10.length : Int) (v11.length : Int) = true := by simpa [ieq, ilt, ile] using hp12
      have hp12s := hp12b
      try simp at hp12s
      by_cases hp13 : (v10.length : Int) < 1
      · rw [if_pos hp13] at hx16
        have hp13b : ilt (v10.length : Int) 1 = true := by simpa [ieq, ilt, ile] using hp13
        have hp13s := hp13b
        try simp at hp13s
        cases hx16
        refine VW.ws tau_ok Sound.none [some 16, some 17, some 18, some 19, some 20, some 21, some 22, some 23, some 24, some 25, some 26, some 27, some 28, some 29, some 30, some 31, some 32, some 33, some 34, some 35, some 36, some 37, some 38] _ rfl ?_ hy
        simp [hv11a, hv11b, hv11c, hv11d, hp12b, hp12s, hp13b, hp13s] <;> simp [ieq, ilt, ile]
      · rw [if_neg hp13] at hx16
        have hp13b : ilt (v10.length : Int) 1 = false := by simpa [ieq, ilt, ile] using hp13
        have hp13s := hp13b
        try simp at hp13s
        by_cases hp14 : 16 < (v10.length : Int)
        · rw [if_pos hp14] at hx16
          have hp14b : ilt 16 (v10.length : Int) = true := by simpa [ieq, ilt, ile] using hp14
          have hp14s := hp14b
          try simp at hp14s
          cases hx16
          refine VW.ws tau_ok Sound.none [some 16, some 17, some 18, some 19, some 20, some 21, some 22, some 23, some 24, some 25, some 26, some 27, some 28, some 29, some 30, some 31, some 32, some 33, some 34, some 35, some 36, some 37, some 38] _ rfl ?_ hy
          simp [hv11a, hv11b, hv11c, hv11d, hp12b, hp12s, hp13b, hp13s, hp14b, hp14s] <;> simp [ieq, ilt, ile]
        · rw [if_neg hp14] at hx16
          have hp14b : ilt 16 (v10.length : Int) = false := by simpa [ieq, ilt, ile] using hp14
          have hp14s := hp14b
          try simp at hp14s
          obtain ⟨v15, hv15, hx16⟩ := bind_some hx16
          cases hx16
          refine VW.ws tau_ok (Sound.none.add 36 (i_field_is_ok hv15) rfl) [some 16, some 17, some 18, some 19, some 20, some 21, some 22, some 23, some 24, some 25, some 26, some 27, some 28, some 29, some 30, some 31, some 32, some 33, some 34, some 35, some 36, some 37, some 38] _ rfl ?_ hy
          simp [hv11a, hv11b, hv11c, hv11d, hp12b, hp12s, hp13b, hp13s, hp14b, hp14s] <;> simp [ieq, ilt, ile]
  refine VW.cond rfl (fun hb17 => ?_) (fun hb17 => ?_)
  rotate_left
  ·
    replace hb17 : ¬ (x16 = true) := by simpa [ieq, ilt, ile] using hb17
    rw [if_neg hb17] at hx4o
    refine VW.skip ?_
    refine hK9 _ ?_
    -- region 8
    refine VW.wr tau_ok Sound.none [some 39, some 12] [(0, .val (i64 a0)), (1, .val (dM a1)), (10, .val (dM a1)), (11, .val (i64 (a1.length : Int))), (12, .val (i64 (w64 (s4 + 1))))] rfl ?_ ?_
    · simp <;> simp [ieq, ilt, ile]
    cases hx4o
    exact ⟨_, rfl, Fits.of rfl⟩
  replace hb17 : x16 = true := by simpa [ieq, ilt, ile] using hb17
  rw [if_pos hb17] at hx4o
  -- region 7
  refine VW.ws tau_ok Sound.none [some 4] [(4, .val (.bool false))] rfl ?_ ?_
  · simp <;> simp [ieq, ilt, ile]
  cases hx4o
  have hq := hx4b _ rfl
  subst hq
  dsimp only at h
  cases h
  refine VW.ret ?_
  simp [Post, PostM, PostC, PostC2, Nx, Bk]

theorem i_field_isMatrix_ok {a0 : Int} {a1 : List (List Int)} {r : Bool} (h : i_field_isMatrix a0 a1 = some r) :
    VCall Try.prog 121 [i64 a0, dM a1] [.sc (.bool r)] := by
  unfold i_field_isMatrix at h
  refine VCall.enter Try.call121 Try.func121 rfl 13 Try.ntmps121 (by simp) [.tmp 4] rfl ?_
  show VW _ _ _ (mk [(0, .val (i64 a0)), (1, .val (dM a1))]) _
  -- region 0
  refine VW.ws tau_ok Sound.none [some 4] [(0, .val (i64 a0)), (1, .val (dM a1))] rfl ?_ ?_
  · simp <;> simp [ieq, ilt, ile]
  -- region 1
  obtain ⟨x3, hx3, h⟩ := bind_some h
  refine VW.cut [(4, .val (.bool x3))] ?_ fun hy => ?_
  rotate_left
  · clear h
    by_cases hp1 : 0 < (a1.length : Int)
    · rw [if_pos hp1] at hx3
      have hp1b : ilt 0 (a1.length : Int) = true := by simpa [ieq, ilt, ile] using hp1
      have hp1s := hp1b
      try simp at hp1s
      obtain ⟨v2, hv2, hx3⟩ := bind_some hx3
      cases hx3
      refine VW.ws tau_ok (Sound.none.add 11 (i_field_isTable_ok hv2) rfl) [some 5, some 6, some 7, some 8, some 9, some 10, some 11, some 12, some 4] _ rfl ?_ hy
      simp [hp1b, hp1s] <;> simp [ieq, ilt, ile]
    · rw [if_neg hp1] at hx3
      have hp1b : ilt 0 (a1.length : Int) = false := by simpa [ieq, ilt, ile] using hp1
      have hp1s := hp1b
      try simp at hp1s
      cases hx3
      refine VW.ws tau_ok Sound.none [some 5, some 6, some 7, some 8, some 9, some 10, some 11, some 12, some 4] _ rfl ?_ hy
      simp [hp1b, hp1s] <;> simp [ieq, ilt, ile]
  cases h
  refine VW.ret ?_
  simp [Post, PostM, PostC, PostC2, Nx, Bk]

theorem i_checkMatrices_c1_ok {a0 : List (List Int)} {a1_0 : Int} {r : Bool} (h : i_checkMatrices_c1 a0 a1_0 = some r) :
    VCall Try.prog 200 [dM a0, .ptr [i64 a1_0]] [.sc (.bool r)] := by
  unfold i_checkMatrices_c1 at h
  refine VCall.enter Try.call200 Try.func200 rfl 8 Try.ntmps200 (by simp) [.tmp 3] rfl ?_
  show VW _ _ _ (mk [(0, .val (dM a0)), (1, .val (.ptr [i64 a1_0]))]) _
  -- region 0
  refine VW.ws tau_ok Sound.none [some 3] [(0, .val (dM a0)), (1, .val (.ptr [i64 a1_0]))] rfl ?_ ?_
  · simp <;> simp [ieq, ilt, ile]
  -- region 1
  obtain ⟨v1, hv1, h⟩ := bind_some h
  refine VW.ws tau_ok (Sound.none.add 6 (i_field_isMatrix_ok hv1) rfl) [some 4, some 5, some 6, some 7, some 3] [(3, .val (.bool (!v1)))] rfl ?_ ?_
  · simp <;> simp [ieq, ilt, ile]
  cases h
  refine VW.ret ?_
  simp [Post, PostM, PostC, PostC2, Nx, Bk]

theorem g_slices_IndexFunc_LLLI_LLI_of_i_checkMatrices_c1_ok {a0 : List (List (List Int))} {a1_0_0 : Int} {r : Int} (h : g_slices_IndexFunc_LLLI_LLI_of_i_checkMatrices_c1 a0 a1_0_0 = some r) :
    VCall Try.prog 228 [dC a0, .fn 200 [.ptr [i64 a1_0_0]]] [.sc (i64 r)] := by
  unfold g_slices_IndexFunc_LLLI_LLI_of_i_checkMatrices_c1 at h
  refine VCall.enter Try.call228 Try.func228 rfl 19 Try.ntmps228 (by simp) [.tmp 4] rfl ?_
  show VW _ _ _ (mk [(0, .val (dC a0)), (1, .val (.fn 200 [.ptr [i64 a1_0_0]]))]) _
  -- region 0
  refine VW.ws tau_ok Sound.none [some 4] [(0, .val (dC a0)), (1, .val (.fn 200 [.ptr [i64 a1_0_0]]))] rfl ?_ ?_
  · simp <;> simp [ieq, ilt, ile]
  refine VW.sqc fun K1 hK1 hCK1 => ?_
  -- region 1
  refine VW.ws tau_ok Sound.none [some 6, some 7, some 8] [(0, .val (dC a0)), (1, .val (.fn 200 [.ptr [i64 a1_0_0]])), (7, .val (i64 (a0.length : Int))), (8, .val (i64 0))] rfl ?_ ?_
  · simp <;> simp [ieq, ilt, ile]
  obtain ⟨x2, hx2, h⟩ := bind_some h
  refine VW.tlO (fun y4 => []) x2 (hCK1) ?_ ?_
  · clear hx2
    rintro y4 rfl
    dsimp only at h
    refine hK1 _ ?_
    -- region 7
    refine VW.ws tau_ok Sound.none [some 4] [(4, .val (i64 (-1)))] rfl ?_ ?_
    · simp <;> simp [ieq, ilt, ile]
    cases h
    refine VW.ret ?_
    simp [Post, PostM, PostC, PostC2, Nx, Bk]
  refine VW.block ?_
  refine VW.loopF (g_slices_IndexFunc_LLLI_LLI_of_i_checkMatrices_c1_L0 a0 a1_0_0) (fun s2 => [(0, .val (dC a0)), (1, .val (.fn 200 [.ptr [i64 a1_0_0]])), (7, .val (i64 (a0.length : Int))), (8, .val (i64 s2))]) hx2 (Fits.of rfl) ?_
  clear hx2
  intro s2 ox2 hx2o hx2b
  unfold g_slices_IndexFunc_LLLI_LLI_of_i_checkMatrices_c1_L0 at hx2o
  -- region 2
  refine VW.ws tau_ok Sound.none [some 9] [(0, .val (dC a0)), (1, .val (.fn 200 [.ptr [i64 a1_0_0]])), (7, .val (i64 (a0.length : Int))), (8, .val (i64 s2)), (9, .val (.bool (ilt s2 (a0.length : Int))))] rfl ?_ ?_
  · simp <;> simp [ieq, ilt, ile]
  refine VW.sqc fun K5 hK5 hCK5 => ?_
  refine VW.cond rfl (fun hb6 => ?_) (fun hb6 => ?_)
  rotate_left
  ·
    replace hb6 : ¬ (s2 < (a0.length : Int)) := by simpa [ieq, ilt, ile] using hb6
    rw [if_neg hb6] at hx2o
    refine VW.exit ?_
    cases hx2o
    have hq := hx2b _ rfl
    subst hq
    exact ⟨_, rfl, Fits.of rfl⟩
  replace hb6 : s2 < (a0.length : Int) := by simpa [ieq, ilt, ile] using hb6
  rw [if_pos hb6] at hx2o
  refine VW.skip ?_
  refine hK5 _ ?_
  refine VW.sqc fun K7 hK7 hCK7 => ?_
  refine VW.block ?_
  -- region 3
  refine VW.ws tau_ok Sound.none [some 10, some 5] [(0, .val (dC a0)), (1, .val (.fn 200 [.ptr [i64 a1_0_0]])), (5, .val (i64 s2)), (7, .val (i64 (a0.length : Int))), (8, .val (i64 s2))] rfl ?_ ?_
  · simp <;> simp [ieq, ilt, ile]
  -- region 4
  obtain ⟨v8, hv8, hx2o⟩ := bind_some hx2o
  obtain ⟨hv8a, hv8b, hv8c, hv8d⟩ := idx_some hv8
  obtain ⟨v9, hv9, hx2o⟩ := bind_some hx2o
  refine VW.ws tau_ok (Sound.none.add 16 (i_checkMatrices_c1_ok hv9) rfl) [some 11, some 12, some 13, some 14, some 15, some 16] [(0, .val (dC a0)), (1, .val (.fn 200 [.ptr [i64 a1_0_0]])), (5, .val (i64 s2)), (7, .val (i64 (a0.length : Int))), (8, .val (i64 s2)), (16, .val (.bool v9))] rfl ?_ ?_
  · simp [hv8a, hv8b, hv8c, hv8d] <;> simp [ieq, ilt, ile]
  refine VW.cond rfl (fun hb10 => ?_) (fun hb10 => ?_)
  rotate_left
  ·
    replace hb10 : ¬ (v9 = true) := by simpa [ieq, ilt, ile] using hb10
    rw [if_neg hb10] at hx2o
    refine VW.skip ?_
    refine hK7 _ ?_
    -- region 6
    refine VW.wr tau_ok Sound.none [some 18, some 8] [(0, .val (dC a0)), (1, .val (.fn 200 [.ptr [i64 a1_0_0]])), (7, .val (i64 (a0.length : Int))), (8, .val (i64 (w64 (s2 + 1))))] rfl ?_ ?_
    · simp <;> simp [ieq, ilt, ile]
    cases hx2o
    exact ⟨_, rfl, Fits.of rfl⟩
  replace hb10 : v9 = true := by simpa [ieq, ilt, ile] using hb10
  rw [if_pos hb10] at hx2o
  -- region 5
  refine VW.ws tau_ok Sound.none [some 17, some 4] [(4, .val (i64 s2))] rfl ?_ ?_
  · simp <;> simp [ieq, ilt, ile]
  cases hx2o
  have hq := hx2b _ rfl
  subst hq
  dsimp only at h
  cases h
  refine VW.ret ?_
  simp [Post, PostM, PostC, PostC2, Nx, Bk]

theorem g_slices_ContainsFunc_LLLI_LLI_of_i_checkMatrices_c1_ok {a0 : List (List (List Int))} {a1_0_0 : Int} {r : Bool} (h : g_slices_ContainsFunc_LLLI_LLI_of_i_checkMatrices_c1 a0 a1_0_0 = some r) :
    VCall Try.prog 182 [dC a0, .fn 200 [.ptr [i64 a1_0_0]]] [.sc (.bool r)] := by
  unfold g_slices_ContainsFunc_LLLI_LLI_of_i_checkMatrices_c1 at h
  refine VCall.enter Try.call182 Try.func182 rfl 9 Try.ntmps182 (by simp) [.tmp 4] rfl ?_
  show VW _ _ _ (mk [(0, .val (dC a0)), (1, .val (.fn 200 [.ptr [i64 a1_0_0]]))]) _
  -- region 0
  refine VW.ws tau_ok Sound.none [some 4] [(0, .val (dC a0)), (1, .val (.fn 200 [.ptr [i64 a1_0_0]]))] rfl ?_ ?_
  · simp <;> simp [ieq, ilt, ile]
  -- region 1
  obtain ⟨v1, hv1, h⟩ := bind_some h
  refine VW.ws tau_ok (Sound.none.add 7 (g_slices_IndexFunc_LLLI_LLI_of_i_checkMatrices_c1_ok hv1) rfl) [some 5, some 6, some 7, some 8, some 4] [(4, .val (.bool (ile 0 v1)))] rfl ?_ ?_
  · simp <;> simp [ieq, ilt, ile]
  cases h
  refine VW.ret ?_
  simp [Post, PostM, PostC, PostC2, Nx, Bk]

theorem i_checkMatrices_ok {a0 : Int} {a1 : List (List (List Int))} {r : Int} (h : i_checkMatrices a0 a1 = some r) :
    VCall Try.prog 117 [i64 a0, dC a1] [.sc (i64 r)] := by
  unfold i_checkMatrices at h
  refine VCall.enter Try.call117 Try.func117 rfl 13 Try.ntmps117 (by simp) [.tmp 4] rfl ?_
  show VW _ _ _ (mk [(0, .val (i64 a0)), (1, .val (dC a1))]) _
  -- region 0
  refine VW.ws tau_ok Sound.none [some 2, some 4] [(1, .val (dC a1)), (2, .val (.ptr [i64 a0]))] rfl ?_ ?_
  · simp <;> simp [ieq, ilt, ile]
  refine VW.sqc fun K1 hK1 hCK1 => ?_
  -- region 1
  obtain ⟨x5, hx5, h⟩ := bind_some h
  refine VW.cut [(12, .val (.bool x5))] ?_ fun hy => ?_
  rotate_left
  · clear h
    obtain ⟨v2, hv2, hx5⟩ := bind_some hx5
    by_cases hp3 : v2 = false
    · rw [if_pos hp3] at hx5
      have hp3b : v2 = false := by simpa [ieq, ilt, ile] using hp3
      have hp3s := hp3b
      try simp at hp3s
      cases hx5
      refine VW.ws tau_ok (Sound.none.add 6 (i_IsPrime_ok hv2) rfl) [some 5, some 6, some 7, some 8, some 9, some 10, some 11, some 12] _ rfl ?_ hy
      simp [hp3b, hp3s] <;> simp [ieq, ilt, ile]
    · rw [if_neg hp3] at hx5
      have hp3b : v2 = true := by simpa [ieq, ilt, ile] using hp3
      have hp3s := hp3b
      try simp at hp3s
      obtain ⟨v4, hv4, hx5⟩ := bind_some hx5
      cases hx5
      refine VW.ws tau_ok ((Sound.none.add 6 (i_IsPrime_ok hv2) rfl).add 11 (g_slices_ContainsFunc_LLLI_LLI_of_i_checkMatrices_c1_ok hv4) rfl) [some 5, some 6, some 7, some 8, some 9, some 10, some 11, some 12] _ rfl ?_ hy
      simp [hp3b, hp3s] <;> simp [ieq, ilt, ile]
  refine VW.cond rfl (fun hb6 => ?_) (fun hb6 => ?_)
  ·
    replace hb6 : x5 = true := by simpa [ieq, ilt, ile] using hb6
    rw [if_pos hb6] at h
    -- region 2
    refine VW.ws tau_ok Sound.none [some 4] [(4, .val (i64 1))] rfl ?_ ?_
    · simp <;> simp [ieq, ilt, ile]
    cases h
    refine VW.ret ?_
    simp [Post, PostM, PostC, PostC2, Nx, Bk]
  replace hb6 : ¬ (x5 = true) := by simpa [ieq, ilt, ile] using hb6
  rw [if_neg hb6] at h
  refine VW.skip ?_
  refine hK1 _ ?_
  -- region 3
  refine VW.ws tau_ok Sound.none [some 4] [(4, .val (i64 0))] rfl ?_ ?_
  · simp <;> simp [ieq, ilt, ile]
  cases h
  refine VW.ret ?_
  simp [Post, PostM, PostC, PostC2, Nx, Bk]

theorem i_transpose_ok {a0 : List (List Int)} {r : List (List Int)} (h : i_transpose a0 = some r) :
    VCall Try.prog 123 [dM a0] [.own true (dM r)] := by
  unfold i_transpose at h
  refine VCall.enter Try.call123 Try.func123 rfl 38 Try.ntmps123 (by simp) [.tmp 2] rfl ?_
  show VW _ _ _ (mk [(0, .val (dM a0))]) _
  -- region 0
  refine VW.ws tau_ok Sound.none [some 2] [(0, .val (dM a0))] rfl ?_ ?_
  · simp <;> simp [ieq, ilt, ile]
  -- region 1
  refine VW.ws tau_ok Sound.none [some 7, some 3] [(0, .val (dM a0)), (3, .ref 3 [] true (dM []))] rfl ?_ ?_
  · simp <;> simp [ieq, ilt, ile]
  refine VW.sqc fun K1 hK1 hCK1 => ?_
  -- region 2
  obtain ⟨v2, hv2, h⟩ := bind_some h
  obtain ⟨hv2a, hv2b, hv2c, hv2d⟩ := idx_some hv2
  replace hv2b : 0 < a0.length := hv2b
  replace hv2c : a0[0]? = some v2 := hv2c
  replace hv2d : ∀ h, a0[0]'h = v2 := hv2d
  refine VW.ws tau_ok Sound.none [some 8, some 9, some 10, some 11, some 12] [(0, .val (dM a0)), (3, .ref 3 [] true (dM [])), (11, .val (i64 (v2.length : Int))), (12, .val (i64 0))] rfl ?_ ?_
  · simp [hv2a, hv2b, hv2c, hv2d] <;> simp [ieq, ilt, ile]
  obtain ⟨x3, hx3, h⟩ := bind_some h
  refine VW.tlE [(3, .ref 3 [] true (dM x3))] (hCK1) ?_ ?_
  · clear hx3
    refine hK1 _ ?_
    -- region 13
    refine VW.ws tau_ok Sound.none [some 37, some 2] [(2, .ref 2 [] true (dM x3))] rfl ?_ ?_
    · simp <;> simp [ieq, ilt, ile]
    cases h
    refine VW.ret ?_
    simp [Post, PostM, PostC, PostC2, Nx, Bk]
  refine VW.block ?_
  refine VW.loopF (i_transpose_L0 a0 v2) (fun s3 => [(0, .val (dM a0)), (3, .ref 3 [] true (dM s3.1)), (11, .val (i64 (v2.length : Int))), (12, .val (i64 s3.2))]) hx3 (Fits.of rfl) ?_
  clear hx3
  intro s3 ox3 hx3o hx3b
  unfold i_transpose_L0 at hx3o
  -- region 3
  refine VW.ws tau_ok Sound.none [some 13] [(0, .val (dM a0)), (3, .ref 3 [] true (dM s3.1)), (11, .val (i64 (v2.length : Int))), (12, .val (i64 s3.2)), (13, .val (.bool (ilt s3.2 (v2.length : Int))))] rfl ?_ ?_
  · simp <;> simp [ieq, ilt, ile]
  refine VW.sqc fun K5 hK5 hCK5 => ?_
  refine VW.cond rfl (fun hb6 => ?_) (fun hb6 => ?_)
  rotate_left
  ·
    replace hb6 : ¬ (s3.2 < (v2.length : Int)) := by simpa [ieq, ilt, ile] using hb6
    rw [if_neg hb6] at hx3o
    refine VW.exit ?_
    cases hx3o
    have hq := hx3b _ rfl
    subst hq
    exact Fits.of rfl
  replace hb6 : s3.2 < (v2.length : Int) := by simpa [ieq, ilt, ile] using hb6
  rw [if_pos hb6] at hx3o
  refine VW.skip ?_
  refine hK5 _ ?_
  refine VW.sqc fun K7 hK7 hCK7 => ?_
  refine VW.block ?_
  -- region 4
  refine VW.ws tau_ok Sound.none [some 14, some 4] [(0, .val (dM a0)), (3, .ref 3 [] true (dM s3.1)), (4, .val (i64 s3.2)), (11, .val (i64 (v2.length : Int))), (12, .val (i64 s3.2))] rfl ?_ ?_
  · simp <;> simp [ieq, ilt, ile]
  -- region 5
  refine VW.ws tau_ok Sound.none [some 15, some 5] [(0, .val (dM a0)), (3, .ref 3 [] true (dM s3.1)), (4, .val (i64 s3.2)), (5, .ref 5 [] true (dI [])), (11, .val (i64 (v2.length : Int))), (12, .val (i64 s3.2))] rfl ?_ ?_
  · simp <;> simp [ieq, ilt, ile]
  refine VW.sqc fun K8 hK8 hCK8 => ?_
  -- region 6
  refine VW.ws tau_ok Sound.none [some 16, some 17, some 18] [(0, .val (dM a0)), (3, .ref 3 [] true (dM s3.1)), (4, .val (i64 s3.2)), (5, .ref 5 [] true (dI [])), (11, .val (i64 (v2.length : Int))), (12, .val (i64 s3.2)), (17, .val (i64 (a0.length : Int))), (18, .val (i64 0))] rfl ?_ ?_
  · simp <;> simp [ieq, ilt, ile]
  obtain ⟨x9, hx9, hx3o⟩ := bind_some hx3o
  refine VW.tlE [(0, .val (dM a0)), (3, .ref 3 [] true (dM s3.1)), (5, .ref 5 [] true (dI x9)), (11, .val (i64 (v2.length : Int))), (12, .val (i64 s3.2))] (hCK8) ?_ ?_
  · clear hx9
    refine hK8 _ ?_
    -- region 11
    obtain ⟨hc17, hx3o⟩ := chk_some hx3o
    have hc17s := hc17
    try simp at hc17s
    refine VW.wr tau_ok Sound.none [some 32, some 33, some 34, some 35, some 3] [(0, .val (dM a0)), (3, .ref 3 [] true (dM (s3.1 ++ [x9]))), (11, .val (i64 (v2.length : Int))), (12, .val (i64 s3.2))] rfl ?_ ?_
    · simp [hc17, hc17s] <;> simp [ieq, ilt, ile]
    refine hK7 _ ?_
    -- region 12
    refine VW.wr tau_ok Sound.none [some 36, some 12] [(0, .val (dM a0)), (3, .ref 3 [] true (dM (s3.1 ++ [x9]))), (11, .val (i64 (v2.length : Int))), (12, .val (i64 (w64 (s3.2 + 1))))] rfl ?_ ?_
    · simp <;> simp [ieq, ilt, ile]
    cases hx3o
    exact ⟨_, rfl, Fits.of rfl⟩
  refine VW.block ?_
  refine VW.loopF (i_transpose_L1 a0 s3) (fun s9 => [(0, .val (dM a0)), (3, .ref 3 [] true (dM s3.1)), (4, .val (i64 s3.2)), (5, .ref 5 [] true (dI s9.1)), (11, .val (i64 (v2.length : Int))), (12, .val (i64 s3.2)), (17, .val (i64 (a0.length : Int))), (18, .val (i64 s9.2))]) hx9 (Fits.of rfl) ?_
  clear hx9
  intro s9 ox9 hx9o hx9b
  unfold i_transpose_L1 at hx9o
  -- region 7
  refine VW.ws tau_ok Sound.none [some 19] [(0, .val (dM a0)), (3, .ref 3 [] true (dM s3.1)), (4, .val (i64 s3.2)), (5, .ref 5 [] true (dI s9.1)), (11, .val (i64 (v2.length : Int))), (12, .val (i64 s3.2)), (17, .val (i64 (a0.length : Int))), (18, .val (i64 s9.2)), (19, .val (.bool (ilt s9.2 (a0.length : Int))))] rfl ?_ ?_
  · simp <;> simp [ieq, ilt, ile]
  refine VW.sqc fun K11 hK11 hCK11 => ?_
  refine VW.cond rfl (fun hb12 => ?_) (fun hb12 => ?_)
  rotate_left
  ·
    replace hb12 : ¬ (s9.2 < (a0.length : Int)) := by simpa [ieq, ilt, ile] using hb12
    rw [if_neg hb12] at hx9o
    refine VW.exit ?_
    cases hx9o
    have hq := hx9b _ rfl
    subst hq
    exact Fits.of rfl
  replace hb12 : s9.2 < (a0.length : Int) := by simpa [ieq, ilt, ile] using hb12
  rw [if_pos hb12] at hx9o
  refine VW.skip ?_
  refine hK11 _ ?_
  refine VW.sqc fun K13 hK13 hCK13 => ?_
  refine VW.block ?_
  -- region 8
  refine VW.ws tau_ok Sound.none [some 20, some 6] [(0, .val (dM a0)), (3, .ref 3 [] true (dM s3.1)), (4, .val (i64 s3.2)), (5, .ref 5 [] true (dI s9.1)), (6, .val (i64 s9.2)), (11, .val (i64 (v2.length : Int))), (12, .val (i64 s3.2)), (17, .val (i64 (a0.length : Int))), (18, .val (i64 s9.2))] rfl ?_ ?_
  · simp <;> simp [ieq, ilt, ile]
  -- region 9
  obtain ⟨v14, hv14, hx9o⟩ := bind_some hx9o
  obtain ⟨hv14a, hv14b, hv14c, hv14d⟩ := idx_some hv14
  obtain ⟨v15, hv15, hx9o⟩ := bind_some hx9o
  obtain ⟨hv15a, hv15b, hv15c, hv15d⟩ := idx_some hv15
  obtain ⟨hc16, hx9o⟩ := chk_some hx9o
  have hc16s := hc16
  try simp at hc16s
  refine VW.wr tau_ok Sound.none [some 21, some 22, some 23, some 24, some 25, some 26, some 27, some 28, some 29, some 30, some 5] [(0, .val (dM a0)), (3, .ref 3 [] true (dM s3.1)), (4, .val (i64 s3.2)), (5, .ref 5 [] true (dI (s9.1 ++ [v15]))), (11, .val (i64 (v2.length : Int))), (12, .val (i64 s3.2)), (17, .val (i64 (a0.length : Int))), (18, .val (i64 s9.2))] rfl ?_ ?_
  · simp [hv14a, hv14b, hv14c, hv14d, hv15a, hv15b, hv15c, hv15d, hc16, hc16s] <;> simp [ieq, ilt, ile]
  refine hK13 _ ?_
  -- region 10
  refine VW.wr tau_ok Sound.none [some 31, some 18] [(0, .val (dM a0)), (3, .ref 3 [] true (dM s3.1)), (4, .val (i64 s3.2)), (5, .ref 5 [] true (dI (s9.1 ++ [v15]))), (11, .val (i64 (v2.length : Int))), (12, .val (i64 s3.2)), (17, .val (i64 (a0.length : Int))), (18, .val (i64 (w64 (s9.2 + 1))))] rfl ?_ ?_
  · simp <;> simp [ieq, ilt, ile]
  cases hx9o
  exact ⟨_, rfl, Fits.of rfl⟩

theorem i_field_num_ok {a0 : Int} {a1 : Int} {r : Int} (h : i_field_num a0 a1 = some r) :
    VCall Try.prog 201 [i64 a0, i64 a1] [.sc (i64 r)] := by
  unfold i_field_num at h
  refine VCall.enter Try.call201 Try.func201 rfl 14 Try.ntmps201 (by simp) [.tmp 4] rfl ?_
  show VW _ _ _ (mk [(0, .val (i64 a0)), (1, .val (i64 a1))]) _
  -- region 0
  refine VW.ws tau_ok Sound.none [some 4] [(0, .val (i64 a0)), (1, .val (i64 a1))] rfl ?_ ?_
  · simp <;> simp [ieq, ilt, ile]
  -- region 1
  refine VW.ws tau_ok Sound.none [some 6, some 5] [(1, .val (i64 a1)), (5, .val (i64 a0))] rfl ?_ ?_
  · simp <;> simp [ieq, ilt, ile]
  -- region 2
  obtain ⟨hc1, h⟩ := chk_some h
  have hc1s := hc1
  try simp at hc1s
  obtain ⟨hc2, h⟩ := chk_some h
  have hc2s := hc2
  try simp at hc2s
  refine VW.ws tau_ok Sound.none [some 7, some 8, some 9, some 10, some 11, some 12, some 13, some 4] [(4, .val (i64 ((w64 ((a1.tmod a0) + a0)).tmod a0)))] rfl ?_ ?_
  · simp [hc1, hc1s, hc2, hc2s] <;> simp [ieq, ilt, ile]
  cases h
  refine VW.ret ?_
  simp [Post, PostM, PostC, PostC2, Nx, Bk]

theorem i_field_dot_ok {a0 : Int} {a1 : List Int} {a2 : List Int} {r : Int} (h : i_field_dot a0 a1 a2 = some r) :
    VCall Try.prog 215 [i64 a0, dI a1, dI a2] [.sc (i64 r)] := by
  unfold i_field_dot at h
  refine VCall.enter Try.call215 Try.func215 rfl 29 Try.ntmps215 (by simp) [.tmp 6] rfl ?_
  show VW _ _ _ (mk [(0, .val (i64 a0)), (1, .val (dI a1)), (2, .val (dI a2))]) _
  -- region 0
  refine VW.ws tau_ok Sound.none [some 6] [(0, .val (i64 a0)), (1, .val (dI a1)), (2, .val (dI a2))] rfl ?_ ?_
  · simp <;> simp [ieq, ilt, ile]
  -- region 1
  refine VW.ws tau_ok Sound.none [some 7] [(0, .val (i64 a0)), (1, .val (dI a1)), (2, .val (dI a2)), (7, .val (i64 0))] rfl ?_ ?_
  · simp <;> simp [ieq, ilt, ile]
  refine VW.sqc fun K1 hK1 hCK1 => ?_
  -- region 2
  refine VW.ws tau_ok Sound.none [some 10, some 11, some 12] [(0, .val (i64 a0)), (2, .val (dI a2)), (7, .val (i64 0)), (10, .val (dI a1)), (11, .val (i64 (a1.length : Int))), (12, .val (i64 0))] rfl ?_ ?_
  · simp <;> simp [ieq, ilt, ile]
  obtain ⟨x2, hx2, h⟩ := bind_some h
  refine VW.tlE [(0, .val (i64 a0)), (7, .val (i64 x2))] (hCK1) ?_ ?_
  · clear hx2
    refine hK1 _ ?_
    -- region 7
    obtain ⟨v9, hv9, h⟩ := bind_some h
    refine VW.ws tau_ok (Sound.none.add 28 (i_field_num_ok hv9) rfl) [some 26, some 27, some 28, some 6] [(6, .val (i64 v9))] rfl ?_ ?_
    · simp <;> simp [ieq, ilt, ile]
    cases h
    refine VW.ret ?_
    simp [Post, PostM, PostC, PostC2, Nx, Bk]
  refine VW.block ?_
  refine VW.loopF (i_field_dot_L0 a1 a2) (fun s2 => [(0, .val (i64 a0)), (2, .val (dI a2)), (7, .val (i64 s2.1)), (10, .val (dI a1)), (11, .val (i64 (a1.length : Int))), (12, .val (i64 s2.2))]) hx2 (Fits.of rfl) ?_
  clear hx2
  intro s2 ox2 hx2o hx2b
  unfold i_field_dot_L0 at hx2o
  -- region 3
  refine VW.ws tau_ok Sound.none [some 13] [(0, .val (i64 a0)), (2, .val (dI a2)), (7, .val (i64 s2.1)), (10, .val (dI a1)), (11, .val (i64 (a1.length : Int))), (12, .val (i64 s2.2)), (13, .val (.bool (ilt s2.2 (a1.length : Int))))] rfl ?_ ?_
  · simp <;> simp [ieq, ilt, ile]
  refine VW.sqc fun K4 hK4 hCK4 => ?_
  refine VW.cond rfl (fun hb5 => ?_) (fun hb5 => ?_)
  rotate_left
  ·
    replace hb5 : ¬ (s2.2 < (a1.length : Int)) := by simpa [ieq, ilt, ile] using hb5
    rw [if_neg hb5] at hx2o
    refine VW.exit ?_
    cases hx2o
    have hq := hx2b _ rfl
    subst hq
    exact Fits.of rfl
  replace hb5 : s2.2 < (a1.length : Int) := by simpa [ieq, ilt, ile] using hb5
  rw [if_pos hb5] at hx2o
  refine VW.skip ?_
  refine hK4 _ ?_
  refine VW.sqc fun K6 hK6 hCK6 => ?_
  refine VW.block ?_
  -- region 4
  obtain ⟨v7, hv7, hx2o⟩ := bind_some hx2o
  obtain ⟨hv7a, hv7b, hv7c, hv7d⟩ := idx_some hv7
  refine VW.ws tau_ok Sound.none [some 14, some 15, some 16, some 8, some 9] [(0, .val (i64 a0)), (2, .val (dI a2)), (7, .val (i64 s2.1)), (8, .val (i64 s2.2)), (9, .val (i64 v7)), (10, .val (dI a1)), (11, .val (i64 (a1.length : Int))), (12, .val (i64 s2.2))] rfl ?_ ?_
  · simp [hv7a, hv7b, hv7c, hv7d] <;> simp [ieq, ilt, ile]
  -- region 5
  obtain ⟨v8, hv8, hx2o⟩ := bind_some hx2o
  obtain ⟨hv8a, hv8b, hv8c, hv8d⟩ := idx_some hv8
  refine VW.wr tau_ok Sound.none [some 17, some 18, some 19, some 20, some 21, some 22, some 23, some 24, some 7] [(0, .val (i64 a0)), (2, .val (dI a2)), (7, .val (i64 (w64 (s2.1 + (w64 (v7 * v8)))))), (10, .val (dI a1)), (11, .val (i64 (a1.length : Int))), (12, .val (i64 s2.2))] rfl ?_ ?_
  · simp [hv8a, hv8b, hv8c, hv8d] <;> simp [ieq, ilt, ile]
  refine hK6 _ ?_
  -- region 6
  refine VW.wr tau_ok Sound.none [some 25, some 12] [(0, .val (i64 a0)), (2, .val (dI a2)), (7, .val (i64 (w64 (s2.1 + (w64 (v7 * v8)))))), (10, .val (dI a1)), (11, .val (i64 (a1.length : Int))), (12, .val (i64 (w64 (s2.2 + 1))))] rfl ?_ ?_
  · simp <;> simp [ieq, ilt, ile]
  cases hx2o
  exact ⟨_, rfl, Fits.of rfl⟩

theorem i_field_apply_ok {a0 : Int} {a1 : List (List Int)} {a2 : List Int} {r : List Int} (h : i_field_apply a0 a1 a2 = some r) :
    VCall Try.prog 146 [i64 a0, dM a1, dI a2] [.own true (dI r)] := by
  unfold i_field_apply at h
  refine VCall.enter Try.call146 Try.func146 rfl 26 Try.ntmps146 (by simp) [.tmp 6] rfl ?_
  show VW _ _ _ (mk [(0, .val (i64 a0)), (1, .val (dM a1)), (2, .val (dI a2))]) _
  -- region 0
  refine VW.ws tau_ok Sound.none [some 6] [(0, .val (i64 a0)), (1, .val (dM a1)), (2, .val (dI a2))] rfl ?_ ?_
  · simp <;> simp [ieq, ilt, ile]
  -- region 1
  refine VW.ws tau_ok Sound.none [some 10, some 7] [(0, .val (i64 a0)), (1, .val (dM a1)), (2, .val (dI a2)), (7, .ref 7 [] true (dI []))] rfl ?_ ?_
  · simp <;> simp [ieq, ilt, ile]
  refine VW.sqc fun K1 hK1 hCK1 => ?_
  -- region 2
  refine VW.ws tau_ok Sound.none [some 11, some 12, some 13] [(0, .val (i64 a0)), (2, .val (dI a2)), (7, .ref 7 [] true (dI [])), (11, .val (dM a1)), (12, .val (i64 (a1.length : Int))), (13, .val (i64 0))] rfl ?_ ?_
  · simp <;> simp [ieq, ilt, ile]
  obtain ⟨x2, hx2, h⟩ := bind_some h
  refine VW.tlE [(7, .ref 7 [] true (dI x2))] (hCK1) ?_ ?_
  · clear hx2
    refine hK1 _ ?_
    -- region 7
    refine VW.ws tau_ok Sound.none [some 25, some 6] [(6, .ref 6 [] true (dI x2))] rfl ?_ ?_
    · simp <;> simp [ieq, ilt, ile]
    cases h
    refine VW.ret ?_
    simp [Post, PostM, PostC, PostC2, Nx, Bk]
  refine VW.block ?_
  refine VW.loopF (i_field_apply_L0 a0 a1 a2) (fun s2 => [(0, .val (i64 a0)), (2, .val (dI a2)), (7, .ref 7 [] true (dI s2.1)), (11, .val (dM a1)), (12, .val (i64 (a1.length : Int))), (13, .val (i64 s2.2))]) hx2 (Fits.of rfl) ?_
  clear hx2
  intro s2 ox2 hx2o hx2b
  unfold i_field_apply_L0 at hx2o
  -- region 3
  refine VW.ws tau_ok Sound.none [some 14] [(0, .val (i64 a0)), (2, .val (dI a2)), (7, .ref 7 [] true (dI s2.1)), (11, .val (dM a1)), (12, .val (i64 (a1.length : Int))), (13, .val (i64 s2.2)), (14, .val (.bool (ilt s2.2 (a1.length : Int))))] rfl ?_ ?_
  · simp <;> simp [ieq, ilt, ile]
  refine VW.sqc fun K4 hK4 hCK4 => ?_
  refine VW.cond rfl (fun hb5 => ?_) (fun hb5 => ?_)
  rotate_left
  ·
    replace hb5 : ¬ (s2.2 < (a1.length : Int)) := by simpa [ieq, ilt, ile] using hb5
    rw [if_neg hb5] at hx2o
    refine VW.exit ?_
    cases hx2o
    have hq := hx2b _ rfl
    subst hq
    exact Fits.of rfl
  replace hb5 : s2.2 < (a1.length : Int) := by simpa [ieq, ilt, ile] using hb5
  rw [if_pos hb5] at hx2o
  refine VW.skip ?_
  refine hK4 _ ?_
  refine VW.sqc fun K6 hK6 hCK6 => ?_
  refine VW.block ?_
  -- region 4
  obtain ⟨v7, hv7, hx2o⟩ := bind_some hx2o
  obtain ⟨hv7a, hv7b, hv7c, hv7d⟩ := idx_some hv7
  refine VW.ws tau_ok Sound.none [some 15, some 16, some 9] [(0, .val (i64 a0)), (2, .val (dI a2)), (7, .ref 7 [] true (dI s2.1)), (9, .val (dI v7)), (11, .val (dM a1)), (12, .val (i64 (a1.length : Int))), (13, .val (i64 s2.2))] rfl ?_ ?_
  · simp [hv7a, hv7b, hv7c, hv7d] <;> simp [ieq, ilt, ile]
  -- region 5
  obtain ⟨v8, hv8, hx2o⟩ := bind_some hx2o
  obtain ⟨hc9, hx2o⟩ := chk_some hx2o
  have hc9s := hc9
  try simp at hc9s
  refine VW.wr tau_ok (Sound.none.add 21 (i_field_dot_ok hv8) rfl) [some 17, some 18, some 19, some 20, some 21, some 22, some 23, some 7] [(0, .val (i64 a0)), (2, .val (dI a2)), (7, .ref 7 [] true (dI (s2.1 ++ [v8]))), (11, .val (dM a1)), (12, .val (i64 (a1.length : Int))), (13, .val (i64 s2.2))] rfl ?_ ?_
  · simp [hc9, hc9s] <;> simp [ieq, ilt, ile]
  refine hK6 _ ?_
  -- region 6
  refine VW.wr tau_ok Sound.none [some 24, some 13] [(0, .val (i64 a0)), (2, .val (dI a2)), (7, .ref 7 [] true (dI (s2.1 ++ [v8]))), (11, .val (dM a1)), (12, .val (i64 (a1.length : Int))), (13, .val (i64 (w64 (s2.2 + 1))))] rfl ?_ ?_
  · simp <;> simp [ieq, ilt, ile]
  cases hx2o
  exact ⟨_, rfl, Fits.of rfl⟩

theorem i_field_times_ok {a0 : Int} {a1 : List (List Int)} {a2 : List (List Int)} {r : List (List Int)} (h : i_field_times a0 a1 a2 = some r) :
    VCall Try.prog 96 [i64 a0, dM a1, dM a2] [.own true (dM r)] := by
  unfold i_field_times at h
  refine VCall.enter Try.call96 Try.func96 rfl 29 Try.ntmps96 (by simp) [.tmp 6] rfl ?_
  show VW _ _ _ (mk [(0, .val (i64 a0)), (1, .val (dM a1)), (2, .val (dM a2))]) _
  -- region 0
  refine VW.ws tau_ok Sound.none [some 6] [(0, .val (i64 a0)), (1, .val (dM a1)), (2, .val (dM a2))] rfl ?_ ?_
  · simp <;> simp [ieq, ilt, ile]
  -- region 1
  obtain ⟨v1, hv1, h⟩ := bind_some h
  refine VW.ws tau_ok (Sound.none.add 12 (i_transpose_ok hv1) rfl) [some 11, some 12, some 13, some 7, some 8] [(0, .val (i64 a0)), (1, .val (dM a1)), (7, .ref 7 [] true (dM v1)), (8, .ref 8 [] true (dM []))] rfl ?_ ?_
  · simp <;> simp [ieq, ilt, ile]
  refine VW.sqc fun K2 hK2 hCK2 => ?_
  -- region 2
  refine VW.ws tau_ok Sound.none [some 14, some 15, some 16] [(0, .val (i64 a0)), (7, .ref 7 [] true (dM v1)), (8, .ref 8 [] true (dM [])), (14, .val (dM a1)), (15, .val (i64 (a1.length : Int))), (16, .val (i64 0))] rfl ?_ ?_
  · simp <;> simp [ieq, ilt, ile]
  obtain ⟨x3, hx3, h⟩ := bind_some h
  refine VW.tlE [(8, .ref 8 [] true (dM x3))] (hCK2) ?_ ?_
  · clear hx3
    refine hK2 _ ?_
    -- region 7
    refine VW.ws tau_ok Sound.none [some 28, some 6] [(6, .ref 6 [] true (dM x3))] rfl ?_ ?_
    · simp <;> simp [ieq, ilt, ile]
    cases h
    refine VW.ret ?_
    simp [Post, PostM, PostC, PostC2, Nx, Bk]
  refine VW.block ?_
  refine VW.loopF (i_field_times_L0 a0 a1 v1) (fun s3 => [(0, .val (i64 a0)), (7, .ref 7 [] true (dM v1)), (8, .ref 8 [] true (dM s3.1)), (14, .val (dM a1)), (15, .val (i64 (a1.length : Int))), (16, .val (i64 s3.2))]) hx3 (Fits.of rfl) ?_
  clear hx3
  intro s3 ox3 hx3o hx3b
  unfold i_field_times_L0 at hx3o
  -- region 3
  refine VW.ws tau_ok Sound.none [some 17] [(0, .val (i64 a0)), (7, .ref 7 [] true (dM v1)), (8, .ref 8 [] true (dM s3.1)), (14, .val (dM a1)), (15, .val (i64 (a1.length : Int))), (16, .val (i64 s3.2)), (17, .val (.bool (ilt s3.2 (a1.length : Int))))] rfl ?_ ?_
  · simp <;> simp [ieq, ilt, ile]
  refine VW.sqc fun K5 hK5 hCK5 => ?_
  refine VW.cond rfl (fun hb6 => ?_) (fun hb6 => ?_)
  rotate_left
  ·
    replace hb6 : ¬ (s3.2 < (a1.length : Int)) := by simpa [ieq, ilt, ile] using hb6
    rw [if_neg hb6] at hx3o
    refine VW.exit ?_
    cases hx3o
    have hq := hx3b _ rfl
    subst hq
    exact Fits.of rfl
  replace hb6 : s3.2 < (a1.length : Int) := by simpa [ieq, ilt, ile] using hb6
  rw [if_pos hb6] at hx3o
  refine VW.skip ?_
  refine hK5 _ ?_
  refine VW.sqc fun K7 hK7 hCK7 => ?_
  refine VW.block ?_
  -- region 4
  obtain ⟨v8, hv8, hx3o⟩ := bind_some hx3o
  obtain ⟨hv8a, hv8b, hv8c, hv8d⟩ := idx_some hv8
  refine VW.ws tau_ok Sound.none [some 18, some 19, some 10] [(0, .val (i64 a0)), (7, .ref 7 [] true (dM v1)), (8, .ref 8 [] true (dM s3.1)), (10, .val (dI v8)), (14, .val (dM a1)), (15, .val (i64 (a1.length : Int))), (16, .val (i64 s3.2))] rfl ?_ ?_
  · simp [hv8a, hv8b, hv8c, hv8d] <;> simp [ieq, ilt, ile]
  -- region 5
  obtain ⟨v9, hv9, hx3o⟩ := bind_some hx3o
  obtain ⟨hc10, hx3o⟩ := chk_some hx3o
  have hc10s := hc10
  try simp at hc10s
  refine VW.wr tau_ok (Sound.none.add 24 (i_field_apply_ok hv9) rfl) [some 20, some 21, some 22, some 23, some 24, some 25, some 26, some 8] [(0, .val (i64 a0)), (7, .ref 7 [] true (dM v1)), (8, .ref 8 [] true (dM (s3.1 ++ [v9]))), (14, .val (dM a1)), (15, .val (i64 (a1.length : Int))), (16, .val (i64 s3.2))] rfl ?_ ?_
  · simp [hc10, hc10s] <;> simp [ieq, ilt, ile]
  refine hK7 _ ?_
  -- region 6
  refine VW.wr tau_ok Sound.none [some 27, some 16] [(0, .val (i64 a0)), (7, .ref 7 [] true (dM v1)), (8, .ref 8 [] true (dM (s3.1 ++ [v9]))), (14, .val (dM a1)), (15, .val (i64 (a1.length : Int))), (16, .val (i64 (w64 (s3.2 + 1))))] rfl ?_ ?_
  · simp <;> simp [ieq, ilt, ile]
  cases hx3o
  exact ⟨_, rfl, Fits.of rfl⟩

theorem i_MultiplyMatrices_ok {a0 : Int} {a1 : List (List Int)} {a2 : List (List Int)} {r : (List (List Int)) × Int} (h : i_MultiplyMatrices a0 a1 a2 = some r) :
    VCall Try.prog 40 [i64 a0, dM a1, dM a2] [.own true (dM r.1), .sc (i64 r.2)] := by
  unfold i_MultiplyMatrices at h
  refine VCall.enter Try.call40 Try.func40 rfl 28 Try.ntmps40 (by simp) [.tmp 6, .tmp 7] rfl ?_
  show VW _ _ _ (mk [(0, .val (i64 a0)), (1, .val (dM a1)), (2, .val (dM a2))]) _
  -- region 0
  refine VW.ws tau_ok Sound.none [some 6, some 7] [(0, .val (i64 a0)), (1, .val (dM a1)), (2, .val (dM a2))] rfl ?_ ?_
  · simp <;> simp [ieq, ilt, ile]
  refine VW.sqc fun K1 hK1 hCK1 => ?_
  -- region 1
  obtain ⟨v2, hv2, h⟩ := bind_some h
  refine VW.ws tau_ok (Sound.none.add 13 (i_checkMatrices_ok hv2) rfl) [some 9, some 10, some 11, some 12, some 13, some 8] [(0, .val (i64 a0)), (1, .val (dM a1)), (2, .val (dM a2)), (8, .val (i64 v2))] rfl ?_ ?_
  · simp <;> simp [ieq, ilt, ile]
  -- region 2
  refine VW.ws tau_ok Sound.none [some 14, some 15] [(0, .val (i64 a0)), (1, .val (dM a1)), (2, .val (dM a2)), (8, .val (i64 v2)), (15, .val (.bool (!(ieq v2 0))))] rfl ?_ ?_
  · simp <;> simp [ieq, ilt, ile]
  refine VW.cond rfl (fun hb3 => ?_) (fun hb3 => ?_)
  ·
    replace hb3 : ¬ v2 = 0 := by simpa [ieq, ilt, ile] using hb3
    rw [if_pos hb3] at h
    -- region 3
    refine VW.ws tau_ok Sound.none [some 16, some 6, some 7] [(6, .ref 6 [] true (.list [])), (7, .val (i64 v2))] rfl ?_ ?_
    · simp <;> simp [ieq, ilt, ile]
    cases h
    refine VW.ret ?_
    simp [Post, PostM, PostC, PostC2, Nx, Bk]
  replace hb3 : ¬ (¬ v2 = 0) := by simpa [ieq, ilt, ile] using hb3
  rw [if_neg hb3] at h
  refine VW.skip ?_
  refine hK1 _ ?_
  refine VW.sqc fun K4 hK4 hCK4 => ?_
  -- region 4
  obtain ⟨v5, hv5, h⟩ := bind_some h
  obtain ⟨hv5a, hv5b, hv5c, hv5d⟩ := idx_some hv5
  replace hv5b : 0 < a1.length := hv5b
  replace hv5c : a1[0]? = some v5 := hv5c
  replace hv5d : ∀ h, a1[0]'h = v5 := hv5d
  refine VW.ws tau_ok Sound.none [some 17, some 18, some 19, some 20, some 21, some 22, some 23] [(0, .val (i64 a0)), (1, .val (dM a1)), (2, .val (dM a2)), (23, .val (.bool (!(ieq (v5.length : Int) (a2.length : Int)))))] rfl ?_ ?_
  · simp [hv5a, hv5b, hv5c, hv5d] <;> simp [ieq, ilt, ile]
  refine VW.cond rfl (fun hb6 => ?_) (fun hb6 => ?_)
  ·
    replace hb6 : ¬ (v5.length : Int) = (a2.length : Int) := by simpa [ieq, ilt, ile] using hb6
    rw [if_pos hb6] at h
    -- region 5
    refine VW.ws tau_ok Sound.none [some 6, some 7] [(6, .ref 6 [] true (.list [])), (7, .val (i64 2))] rfl ?_ ?_
    · simp <;> simp [ieq, ilt, ile]
    cases h
    refine VW.ret ?_
    simp [Post, PostM, PostC, PostC2, Nx, Bk]
  replace hb6 : ¬ (¬ (v5.length : Int) = (a2.length : Int)) := by simpa [ieq, ilt, ile] using hb6
  rw [if_neg hb6] at h
  refine VW.skip ?_
  refine hK4 _ ?_
  -- region 6
  obtain ⟨v7, hv7, h⟩ := bind_some h
  refine VW.ws tau_ok (Sound.none.add 27 (i_field_times_ok hv7) rfl) [some 24, some 25, some 26, some 27, some 6, some 7] [(6, .ref 6 [] true (dM v7)), (7, .val (i64 0))] rfl ?_ ?_
  · simp <;> simp [ieq, ilt, ile]
  cases h
  refine VW.ret ?_
  simp [Post, PostM, PostC, PostC2, Nx, Bk]

theorem s_l01In_ok {a0 : Int} {a1 : Int} {a2 : Int} {r : Bool} (h : s_l01In a0 a1 a2 = some r) :
    VCall Try.prog 217 [i64 a0, i64 a1, i64 a2] [.sc (.bool r)] := by
  unfold s_l01In at h
  refine VCall.enter Try.call217 Try.func217 rfl 15 Try.ntmps217 (by simp) [.tmp 6] rfl ?_
  show VW _ _ _ (mk [(0, .val (i64 a0)), (1, .val (i64 a1)), (2, .val (i64 a2))]) _
  -- region 0
  refine VW.ws tau_ok Sound.none [some 6] [(0, .val (i64 a0)), (1, .val (i64 a1)), (2, .val (i64 a2))] rfl ?_ ?_
  · simp <;> simp [ieq, ilt, ile]
  -- region 1
  obtain ⟨x2, hx2, h⟩ := bind_some h
  refine VW.cut [(6, .val (.bool x2))] ?_ fun hy => ?_
  rotate_left
  · clear h
    by_cases hp1 : a1 ≤ a0
    · rw [if_pos hp1] at hx2
      have hp1b : ile a1 a0 = true := by simpa [ieq, ilt, ile] using hp1
      have hp1s := hp1b
      try simp at hp1s
      cases hx2
      refine VW.ws tau_ok Sound.none [some 7, some 8, some 9, some 10, some 11, some 12, some 13, some 14, some 6] _ rfl ?_ hy
      simp [hp1b, hp1s] <;> simp [ieq, ilt, ile]
    · rw [if_neg hp1] at hx2
      have hp1b : ile a1 a0 = false := by simpa [ieq, ilt, ile] using hp1
      have hp1s := hp1b
      try simp at hp1s
      cases hx2
      refine VW.ws tau_ok Sound.none [some 7, some 8, some 9, some 10, some 11, some 12, some 13, some 14, some 6] _ rfl ?_ hy
      simp [hp1b, hp1s] <;> simp [ieq, ilt, ile]
  cases h
  refine VW.ret ?_
  simp [Post, PostM, PostC, PostC2, Nx, Bk]

theorem s_l01Numbers_ok {a0 : Int} {a1 : List Int} {r : Bool} (h : s_l01Numbers a0 a1 = some r) :
    VCall Try.prog 152 [i64 a0, dI a1] [.sc (.bool r)] := by
  unfold s_l01Numbers at h
  refine VCall.enter Try.call152 Try.func152 rfl 20 Try.ntmps152 (by simp) [.tmp 4] rfl ?_
  show VW _ _ _ (mk [(0, .val (i64 a0)), (1, .val (dI a1))]) _
  -- region 0
  refine VW.ws tau_ok Sound.none [some 4] [(0, .val (i64 a0)), (1, .val (dI a1))] rfl ?_ ?_
  · simp <;> simp [ieq, ilt, ile]
  refine VW.sqc fun K1 hK1 hCK1 => ?_
  -- region 1
  refine VW.ws tau_ok Sound.none [some 5] [(0, .val (i64 a0)), (1, .val (dI a1)), (5, .val (i64 0))] rfl ?_ ?_
  · simp <;> simp [ieq, ilt, ile]
  obtain ⟨x2, hx2, h⟩ := bind_some h
  refine VW.tlO (fun y4 => []) x2 (hCK1) ?_ ?_
  · clear hx2
    rintro y4 rfl
    dsimp only at h
    refine hK1 _ ?_
    -- region 6
    refine VW.ws tau_ok Sound.none [some 4] [(4, .val (.bool true))] rfl ?_ ?_
    · simp <;> simp [ieq, ilt, ile]
    cases h
    refine VW.ret ?_
    simp [Post, PostM, PostC, PostC2, Nx, Bk]
  refine VW.block ?_
  refine VW.loopF (s_l01Numbers_L0 a0 a1) (fun s2 => [(0, .val (i64 a0)), (1, .val (dI a1)), (5, .val (i64 s2))]) hx2 (Fits.of rfl) ?_
  clear hx2
  intro s2 ox2 hx2o hx2b
  unfold s_l01Numbers_L0 at hx2o
  refine VW.sqc fun K5 hK5 hCK5 => ?_
  -- region 2
  refine VW.ws tau_ok Sound.none [some 6, some 7, some 8, some 9] [(0, .val (i64 a0)), (1, .val (dI a1)), (5, .val (i64 s2)), (9, .val (.bool (ilt s2 (a1.length : Int))))] rfl ?_ ?_
  · simp <;> simp [ieq, ilt, ile]
  refine VW.cond rfl (fun hb6 => ?_) (fun hb6 => ?_)
  rotate_left
  ·
    replace hb6 : ¬ (s2 < (a1.length : Int)) := by simpa [ieq, ilt, ile] using hb6
    rw [if_neg hb6] at hx2o
    refine VW.exit ?_
    cases hx2o
    have hq := hx2b _ rfl
    subst hq
    exact ⟨_, rfl, Fits.of rfl⟩
  replace hb6 : s2 < (a1.length : Int) := by simpa [ieq, ilt, ile] using hb6
  rw [if_pos hb6] at hx2o
  refine VW.skip ?_
  refine hK5 _ ?_
  refine VW.sqc fun K7 hK7 hCK7 => ?_
  refine VW.block ?_
  -- region 4
  obtain ⟨v8, hv8, hx2o⟩ := bind_some hx2o
  obtain ⟨hv8a, hv8b, hv8c, hv8d⟩ := idx_some hv8
  obtain ⟨v9, hv9, hx2o⟩ := bind_some hx2o
  refine VW.ws tau_ok (Sound.none.add 18 (s_l01In_ok hv9) rfl) [some 12, some 13, some 14, some 15, some 16, some 17, some 18, some 19] [(0, .val (i64 a0)), (1, .val (dI a1)), (5, .val (i64 s2)), (19, .val (.bool (!v9)))] rfl ?_ ?_
  · simp [hv8a, hv8b, hv8c, hv8d] <;> simp [ieq, ilt, ile]
  refine VW.cond rfl (fun hb10 => ?_) (fun hb10 => ?_)
  rotate_left
  ·
    replace hb10 : ¬ (v9 = false) := by simpa [ieq, ilt, ile] using hb10
    rw [if_neg hb10] at hx2o
    refine VW.skip ?_
    refine hK7 _ ?_
    -- region 3
    refine VW.wr tau_ok Sound.none [some 10, some 11, some 5] [(0, .val (i64 a0)), (1, .val (dI a1)), (5, .val (i64 (w64 (s2 + 1))))] rfl ?_ ?_
    · simp <;> simp [ieq, ilt, ile]
    cases hx2o
    exact ⟨_, rfl, Fits.of rfl⟩
  replace hb10 : v9 = false := by simpa [ieq, ilt, ile] using hb10
  rw [if_pos hb10] at hx2o
  -- region 5
  refine VW.ws tau_ok Sound.none [some 4] [(4, .val (.bool false))] rfl ?_ ?_
  · simp <;> simp [ieq, ilt, ile]
  cases hx2o
  have hq := hx2b _ rfl
  subst hq
  dsimp only at h
  cases h
  refine VW.ret ?_
  simp [Post, PostM, PostC, PostC2, Nx, Bk]

theorem s_l02Is_ok {a0 : Int} {a1 : List (List Int)} {r : Bool} (h : s_l02Is a0 a1 = some r) :
    VCall Try.prog 118 [i64 a0, dM a1] [.sc (.bool r)] := by
  unfold s_l02Is at h
  refine VCall.enter Try.call118 Try.func118 rfl 58 Try.ntmps118 (by simp) [.tmp 4] rfl ?_
  show VW _ _ _ (mk [(0, .val (i64 a0)), (1, .val (dM a1))]) _
  -- region 0
  refine VW.ws tau_ok Sound.none [some 4] [(0, .val (i64 a0)), (1, .val (dM a1))] rfl ?_ ?_
  · simp <;> simp [ieq, ilt, ile]
  refine VW.sqc fun K1 hK1 hCK1 => ?_
  -- region 1
  obtain ⟨x8, hx8, h⟩ := bind_some h
  refine VW.cut [(0, .val (i64 a0)), (1, .val (dM a1)), (32, .val (.bool x8))] ?_ fun hy => ?_
  rotate_left
  · clear h
    obtain ⟨v2, hv2, hx8⟩ := bind_some hx8
    by_cases hp3 : v2 = false
    · rw [if_pos hp3] at hx8
      have hp3b : v2 = false := by simpa [ieq, ilt, ile] using hp3
      have hp3s := hp3b
      try simp at hp3s
      cases hx8
      refine VW.ws tau_ok (Sound.none.add 7 (s_l01Prime_ok hv2) rfl) [some 6, some 7, some 8, some 9, some 10, some 11, some 12, some 13, some 14, some 15, some 16, some 17, some 18, some 19, some 20, some 21, some 22, some 23, some 24, some 25, some 26, some 27, some 28, some 29, some 30, some 31, some 32] _ rfl ?_ hy
      simp [hp3b, hp3s] <;> simp [ieq, ilt, ile]
    · rw [if_neg hp3] at hx8
      have hp3b : v2 = true := by simpa [ieq, ilt, ile] using hp3
      have hp3s := hp3b
      try simp at hp3s
      by_cases hp4 : (a1.length : Int) < 1
      · rw [if_pos hp4] at hx8
        have hp4b : ilt (a1.length : Int) 1 = true := by simpa [ieq, ilt, ile] using hp4
        have hp4s := hp4b
        try simp at hp4s
        cases hx8
        refine VW.ws tau_ok (Sound.none.add 7 (s_l01Prime_ok hv2) rfl) [some 6, some 7, some 8, some 9, some 10, some 11, some 12, some 13, some 14, some 15, some 16, some 17, some 18, some 19, some 20, some 21, some 22, some 23, some 24, some 25, some 26, some 27, some 28, some 29, some 30, some 31, some 32] _ rfl ?_ hy
        simp [hp3b, hp3s, hp4b, hp4s] <;> simp [ieq, ilt, ile]
      · rw [if_neg hp4] at hx8
        have hp4b : ilt (a1.length : Int) 1 = false := by simpa [ieq, ilt, ile] using hp4
        have hp4s := hp4b
        try simp at hp4s
        by_cases hp5 : 16 < (a1.length : Int)
        · rw [if_pos hp5] at hx8
          have hp5b : ilt 16 (a1.length : Int) = true := by simpa [ieq, ilt, ile] using hp5
          have hp5s := hp5b
          try simp at hp5s
          cases hx8
          refine VW.ws tau_ok (Sound.none.add 7 (s_l01Prime_ok hv2) rfl) [some 6, some 7, some 8, some 9, some 10, some 11, some 12, some 13, some 14, some 15, some 16, some 17, some 18, some 19, some 20, some 21, some 22, some 23, some 24, some 25, some 26, some 27, some 28, some 29, some 30, some 31, some 32] _ rfl ?_ hy
          simp [hp3b, hp3s, hp4b, hp4s, hp5b, hp5s] <;> simp [ieq, ilt, ile]
        · rw [if_neg hp5] at hx8
          have hp5b : ilt 16 (a1.length : Int) = false := by simpa [ieq, ilt, ile] using hp5
          have hp5s := hp5b
          try simp at hp5s
          obtain ⟨v6, hv6, hx8⟩ := bind_some hx8
          obtain ⟨hv6a, hv6b, hv6c, hv6d⟩ := idx_some hv6
          replace hv6b : 0 < a1.length := hv6b
          replace hv6c : a1[0]? = some v6 := hv6c
          replace hv6d : ∀ h, a1[0]'h = v6 := hv6d
          by_cases hp7 : (v6.length : Int) < 1
          · rw [if_pos hp7] at hx8
            have hp7b : ilt (v6.length : Int) 1 = true := by simpa [ieq, ilt, ile] using hp7
            have hp7s := hp7b
            try simp at hp7s
            cases hx8
            refine VW.ws tau_ok (Sound.none.add 7 (s_l01Prime_ok hv2) rfl) [some 6, some 7, some 8, some 9, some 10, some 11, some 12, some 13, some 14, some 15, some 16, some 17, some 18, some 19, some 20, some 21, some 22, some 23, some 24, some 25, some 26, some 27, some 28, some 29, some 30, some 31, some 32] _ rfl ?_ hy
            simp [hp3b, hp3s, hp4b, hp4s, hp5b, hp5s, hv6a, hv6b, hv6c, hv6d, hp7b, hp7s] <;> simp [ieq, ilt, ile]
          · rw [if_neg hp7] at hx8
            have hp7b : ilt (v6.length : Int) 1 = false := by simpa [ieq, ilt, ile] using hp7
            have hp7s := hp7b
            try simp at hp7s
            cases hx8
            refine VW.ws tau_ok (Sound.none.add 7 (s_l01Prime_ok hv2) rfl) [some 6, some 7, some 8, some 9, some 10, some 11, some 12, some 13, some 14, some 15, some 16, some 17, some 18, some 19, some 20, some 21, some 22, some 23, some 24, some 25, some 26, some 27, some 28, some 29, some 30, some 31, some 32] _ rfl ?_ hy
            simp [hp3b, hp3s, hp4b, hp4s, hp5b, hp5s, hv6a, hv6b, hv6c, hv6d, hp7b, hp7s] <;> simp [ieq, ilt, ile]
  refine VW.cond rfl (fun hb9 => ?_) (fun hb9 => ?_)
  ·
    replace hb9 : x8 = true := by simpa [ieq, ilt, ile] using hb9
    rw [if_pos hb9] at h
    -- region 2
    refine VW.ws tau_ok Sound.none [some 4] [(4, .val (.bool false))] rfl ?_ ?_
    · simp <;> simp [ieq, ilt, ile]
    cases h
    refine VW.ret ?_
    simp [Post, PostM, PostC, PostC2, Nx, Bk]
  replace hb9 : ¬ (x8 = true) := by simpa [ieq, ilt, ile] using hb9
  rw [if_neg hb9] at h
  refine VW.skip ?_
  refine hK1 _ ?_
  refine VW.sqc fun K10 hK10 hCK10 => ?_
  -- region 3
  refine VW.ws tau_ok Sound.none [some 5] [(0, .val (i64 a0)), (1, .val (dM a1)), (5, .val (i64 0))] rfl ?_ ?_
  · simp <;> simp [ieq, ilt, ile]
  obtain ⟨x11, hx11, h⟩ := bind_some h
  refine VW.tlO (fun y13 => []) x11 (hCK10) ?_ ?_
  · clear hx11
    rintro y13 rfl
    dsimp only at h
    refine hK10 _ ?_
    -- region 8
    refine VW.ws tau_ok Sound.none [some 4] [(4, .val (.bool true))] rfl ?_ ?_
    · simp <;> simp [ieq, ilt, ile]
    cases h
    refine VW.ret ?_
    simp [Post, PostM, PostC, PostC2, Nx, Bk]
  refine VW.block ?_
  refine VW.loopF (s_l02Is_L0 a0 a1) (fun s11 => [(0, .val (i64 a0)), (1, .val (dM a1)), (5, .val (i64 s11))]) hx11 (Fits.of rfl) ?_
  clear hx11
  intro s11 ox11 hx11o hx11b
  unfold s_l02Is_L0 at hx11o
  refine VW.sqc fun K14 hK14 hCK14 => ?_
  -- region 4
  refine VW.ws tau_ok Sound.none [some 33, some 34, some 35, some 36] [(0, .val (i64 a0)), (1, .val (dM a1)), (5, .val (i64 s11)), (36, .val (.bool (ilt s11 (a1.length : Int))))] rfl ?_ ?_
  · simp <;> simp [ieq, ilt, ile]
  refine VW.cond rfl (fun hb15 => ?_) (fun hb15 => ?_)
  rotate_left
  ·
    replace hb15 : ¬ (s11 < (a1.length : Int)) := by simpa [ieq, ilt, ile] using hb15
    rw [if_neg hb15] at hx11o
    refine VW.exit ?_
    cases hx11o
    have hq := hx11b _ rfl
    subst hq
    exact ⟨_, rfl, Fits.of rfl⟩
  replace hb15 : s11 < (a1.length : Int) := by simpa [ieq, ilt, ile] using hb15
  rw [if_pos hb15] at hx11o
  refine VW.skip ?_
  refine hK14 _ ?_
  refine VW.sqc fun K16 hK16 hCK16 => ?_
  refine VW.block ?_
  -- region 6
  obtain ⟨x21, hx21, hx11o⟩ := bind_some hx11o
  refine VW.cut [(0, .val (i64 a0)), (1, .val (dM a1)), (5, .val (i64 s11)), (57, .val (.bool x21))] ?_ fun hy => ?_
  rotate_left
  · clear hx11o
    obtain ⟨v17, hv17, hx21⟩ := bind_some hx21
    obtain ⟨hv17a, hv17b, hv17c, hv17d⟩ := idx_some hv17
    obtain ⟨v18, hv18, hx21⟩ := bind_some hx21
    obtain ⟨hv18a, hv18b, hv18c, hv18d⟩ := idx_some hv18
    replace hv18b : 0 < a1.length := hv18b
    replace hv18c : a1[0]? = some v18 := hv18c
    replace hv18d : ∀ h, a1[0]'h = v18 := hv18d
    by_cases hp19 : ¬ (v17.length : Int) = (v18.length : Int)
    · rw [if_pos hp19] at hx21
      have hp19b : ieq (v17.length : Int) (v18.length : Int) = false := by simpa [ieq, ilt, ile] using hp19
      have hp19s := hp19b
      try simp at hp19s
      cases hx21
      refine VW.wds tau_ok Sound.none try_mixed [some 39, some 40, some 41, some 42, some 43, some 44, some 45, some 46, some 47, some 48, some 49, some 50, some 51, some 52, some 53, some 54, some 55, some 56, some 57] _ 19 rfl (by kernel_rfl) (by rfl) ?_ hy
      simp [hv17a, hv17b, hv17c, hv17d, hv18a, hv18b, hv18c, hv18d, hp19b, hp19s] <;> simp [ieq, ilt, ile]
    · rw [if_neg hp19] at hx21
      have hp19b : ieq (v17.length : Int) (v18.length : Int) = true := by simpa [ieq, ilt, ile] using hp19
      have hp19s := hp19b
      try simp at hp19s
      obtain ⟨v20, hv20, hx21⟩ := bind_some hx21
      cases hx21
      refine VW.wds tau_ok (Sound.none.add 55 (s_l01Numbers_ok hv20) rfl) try_mixed [some 39, some 40, some 41, some 42, some 43, some 44, some 45, some 46, some 47, some 48, some 49, some 50, some 51, some 52, some 53, some 54, some 55, some 56, some 57] _ 19 rfl (by kernel_rfl) (by rfl) ?_ hy
      simp [hv17a, hv17b, hv17c, hv17d, hv18a, hv18b, hv18c, hv18d, hp19b, hp19s] <;> simp [ieq, ilt, ile]
  refine VW.cond rfl (fun hb22 => ?_) (fun hb22 => ?_)
  rotate_left
  ·
    replace hb22 : ¬ (x21 = true) := by simpa [ieq, ilt, ile] using hb22
    rw [if_neg hb22] at hx11o
    refine VW.skip ?_
    refine hK16 _ ?_
    -- region 5
    refine VW.wr tau_ok Sound.none [some 37, some 38, some 5] [(0, .val (i64 a0)), (1, .val (dM a1)), (5, .val (i64 (w64 (s11 + 1))))] rfl ?_ ?_
    · simp <;> simp [ieq, ilt, ile]
    cases hx11o
    exact ⟨_, rfl, Fits.of rfl⟩
  replace hb22 : x21 = true := by simpa [ieq, ilt, ile] using hb22
  rw [if_pos hb22] at hx11o
  -- region 7
  refine VW.ws tau_ok Sound.none [some 4] [(4, .val (.bool false))] rfl ?_ ?_
  · simp <;> simp [ieq, ilt, ile]
  cases hx11o
  have hq := hx11b _ rfl
  subst hq
  dsimp only at h
  cases h
  refine VW.ret ?_
  simp [Post, PostM, PostC, PostC2, Nx, Bk]

theorem s_l02Times_ok {a0 : Int} {a1 : List (List Int)} {a2 : List (List Int)} {r : List (List Int)} (h : s_l02Times a0 a1 a2 = some r) :
    VCall Try.prog 119 [i64 a0, dM a1, dM a2] [.own true (dM r)] := by
  unfold s_l02Times at h
  refine VCall.enter Try.call119 Try.func119 rfl 63 Try.ntmps119 (by simp) [.tmp 6] rfl ?_
  show VW _ _ _ (mk [(0, .val (i64 a0)), (1, .val (dM a1)), (2, .val (dM a2))]) _
  -- region 0
  refine VW.ws tau_ok Sound.none [some 6] [(0, .val (i64 a0)), (1, .val (dM a1)), (2, .val (dM a2))] rfl ?_ ?_
  · simp <;> simp [ieq, ilt, ile]
  -- region 1
  refine VW.ws tau_ok Sound.none [some 13, some 7] [(0, .val (i64 a0)), (1, .val (dM a1)), (2, .val (dM a2)), (7, .ref 7 [] true (dM []))] rfl ?_ ?_
  · simp <;> simp [ieq, ilt, ile]
  refine VW.sqc fun K1 hK1 hCK1 => ?_
  -- region 2
  refine VW.ws tau_ok Sound.none [some 8] [(0, .val (i64 a0)), (1, .val (dM a1)), (2, .val (dM a2)), (7, .ref 7 [] true (dM [])), (8, .val (i64 0))] rfl ?_ ?_
  · simp <;> simp [ieq, ilt, ile]
  obtain ⟨x2, hx2, h⟩ := bind_some h
  refine VW.tlE [(7, .ref 7 [] true (dM x2))] (hCK1) ?_ ?_
  · clear hx2
    refine hK1 _ ?_
    -- region 16
    refine VW.ws tau_ok Sound.none [some 62, some 6] [(6, .ref 6 [] true (dM x2))] rfl ?_ ?_
    · simp <;> simp [ieq, ilt, ile]
    cases h
    refine VW.ret ?_
    simp [Post, PostM, PostC, PostC2, Nx, Bk]
  refine VW.block ?_
  refine VW.loopF (s_l02Times_L0 a0 a1 a2) (fun s2 => [(0, .val (i64 a0)), (1, .val (dM a1)), (2, .val (dM a2)), (7, .ref 7 [] true (dM s2.1)), (8, .val (i64 s2.2))]) hx2 (Fits.of rfl) ?_
  clear hx2
  intro s2 ox2 hx2o hx2b
  unfold s_l02Times_L0 at hx2o
  refine VW.sqc fun K4 hK4 hCK4 => ?_
  -- region 3
  refine VW.ws tau_ok Sound.none [some 14, some 15, some 16, some 17] [(0, .val (i64 a0)), (1, .val (dM a1)), (2, .val (dM a2)), (7, .ref 7 [] true (dM s2.1)), (8, .val (i64 s2.2)), (17, .val (.bool (ilt s2.2 (a1.length : Int))))] rfl ?_ ?_
  · simp <;> simp [ieq, ilt, ile]
  refine VW.cond rfl (fun hb5 => ?_) (fun hb5 => ?_)
  rotate_left
  ·
    replace hb5 : ¬ (s2.2 < (a1.length : Int)) := by simpa [ieq, ilt, ile] using hb5
    rw [if_neg hb5] at hx2o
    refine VW.exit ?_
    cases hx2o
    have hq := hx2b _ rfl
    subst hq
    exact Fits.of rfl
  replace hb5 : s2.2 < (a1.length : Int) := by simpa [ieq, ilt, ile] using hb5
  rw [if_pos hb5] at hx2o
  refine VW.skip ?_
  refine hK4 _ ?_
  refine VW.sqc fun K6 hK6 hCK6 => ?_
  refine VW.block ?_
  -- region 5
  refine VW.ws tau_ok Sound.none [some 20, some 9] [(0, .val (i64 a0)), (1, .val (dM a1)), (2, .val (dM a2)), (7, .ref 7 [] true (dM s2.1)), (8, .val (i64 s2.2)), (9, .ref 9 [] true (dI []))] rfl ?_ ?_
  · simp <;> simp [ieq, ilt, ile]
  refine VW.sqc fun K7 hK7 hCK7 => ?_
  -- region 6
  refine VW.ws tau_ok Sound.none [some 10] [(0, .val (i64 a0)), (1, .val (dM a1)), (2, .val (dM a2)), (7, .ref 7 [] true (dM s2.1)), (8, .val (i64 s2.2)), (9, .ref 9 [] true (dI [])), (10, .val (i64 0))] rfl ?_ ?_
  · simp <;> simp [ieq, ilt, ile]
  obtain ⟨x8, hx8, hx2o⟩ := bind_some hx2o
  refine VW.tlE [(0, .val (i64 a0)), (1, .val (dM a1)), (2, .val (dM a2)), (7, .ref 7 [] true (dM s2.1)), (8, .val (i64 s2.2)), (9, .ref 9 [] true (dI x8))] (hCK7) ?_ ?_
  · clear hx8
    refine hK7 _ ?_
    -- region 15
    obtain ⟨hc26, hx2o⟩ := chk_some hx2o
    have hc26s := hc26
    try simp at hc26s
    refine VW.wr tau_ok Sound.none [some 58, some 59, some 60, some 61, some 7] [(0, .val (i64 a0)), (1, .val (dM a1)), (2, .val (dM a2)), (7, .ref 7 [] true (dM (s2.1 ++ [x8]))), (8, .val (i64 s2.2))] rfl ?_ ?_
    · simp [hc26, hc26s] <;> simp [ieq, ilt, ile]
    refine hK6 _ ?_
    -- region 4
    refine VW.wr tau_ok Sound.none [some 18, some 19, some 8] [(0, .val (i64 a0)), (1, .val (dM a1)), (2, .val (dM a2)), (7, .ref 7 [] true (dM (s2.1 ++ [x8]))), (8, .val (i64 (w64 (s2.2 + 1))))] rfl ?_ ?_
    · simp <;> simp [ieq, ilt, ile]
    cases hx2o
    exact ⟨_, rfl, Fits.of rfl⟩
  refine VW.block ?_
  refine VW.loopF (s_l02Times_L1 a0 a1 a2 s2) (fun s8 => [(0, .val (i64 a0)), (1, .val (dM a1)), (2, .val (dM a2)), (7, .ref 7 [] true (dM s2.1)), (8, .val (i64 s2.2)), (9, .ref 9 [] true (dI s8.1)), (10, .val (i64 s8.2))]) hx8 (Fits.of rfl) ?_
  clear hx8
  intro s8 ox8 hx8o hx8b
  unfold s_l02Times_L1 at hx8o
  refine VW.sqc fun K10 hK10 hCK10 => ?_
  -- region 7
  obtain ⟨v11, hv11, hx8o⟩ := bind_some hx8o
  obtain ⟨hv11a, hv11b, hv11c, hv11d⟩ := idx_some hv11
  replace hv11b : 0 < a2.length := hv11b
  replace hv11c : a2[0]? = some v11 := hv11c
  replace hv11d : ∀ h, a2[0]'h = v11 := hv11d
  refine VW.ws tau_ok Sound.none [some 21, some 22, some 23, some 24, some 25, some 26] [(0, .val (i64 a0)), (1, .val (dM a1)), (2, .val (dM a2)), (7, .ref 7 [] true (dM s2.1)), (8, .val (i64 s2.2)), (9, .ref 9 [] true (dI s8.1)), (10, .val (i64 s8.2)), (26, .val (.bool (ilt s8.2 (v11.length : Int))))] rfl ?_ ?_
  · simp [hv11a, hv11b, hv11c, hv11d] <;> simp [ieq, ilt, ile]
  refine VW.cond rfl (fun hb12 => ?_) (fun hb12 => ?_)
  rotate_left
  ·
    replace hb12 : ¬ (s8.2 < (v11.length : Int)) := by simpa [ieq, ilt, ile] using hb12
    rw [if_neg hb12] at hx8o
    refine VW.exit ?_
    cases hx8o
    have hq := hx8b _ rfl
    subst hq
    exact Fits.of rfl
  replace hb12 : s8.2 < (v11.length : Int) := by simpa [ieq, ilt, ile] using hb12
  rw [if_pos hb12] at hx8o
  refine VW.skip ?_
  refine hK10 _ ?_
  refine VW.sqc fun K13 hK13 hCK13 => ?_
  refine VW.block ?_
  -- region 9
  refine VW.ws tau_ok Sound.none [some 11] [(0, .val (i64 a0)), (1, .val (dM a1)), (2, .val (dM a2)), (7, .ref 7 [] true (dM s2.1)), (8, .val (i64 s2.2)), (9, .ref 9 [] true (dI s8.1)), (10, .val (i64 s8.2)), (11, .val (i64 0))] rfl ?_ ?_
  · simp <;> simp [ieq, ilt, ile]
  refine VW.sqc fun K14 hK14 hCK14 => ?_
  -- region 10
  refine VW.ws tau_ok Sound.none [some 12] [(0, .val (i64 a0)), (1, .val (dM a1)), (2, .val (dM a2)), (7, .ref 7 [] true (dM s2.1)), (8, .val (i64 s2.2)), (9, .ref 9 [] true (dI s8.1)), (10, .val (i64 s8.2)), (11, .val (i64 0)), (12, .val (i64 0))] rfl ?_ ?_
  · simp <;> simp [ieq, ilt, ile]
  obtain ⟨x15, hx15, hx8o⟩ := bind_some hx8o
  refine VW.tlE [(0, .val (i64 a0)), (1, .val (dM a1)), (2, .val (dM a2)), (7, .ref 7 [] true (dM s2.1)), (8, .val (i64 s2.2)), (9, .ref 9 [] true (dI s8.1)), (10, .val (i64 s8.2)), (11, .val (i64 x15))] (hCK14) ?_ ?_
  · clear hx15
    refine hK14 _ ?_
    -- region 14
    obtain ⟨hc25, hx8o⟩ := chk_some hx8o
    have hc25s := hc25
    try simp at hc25s
    refine VW.wr tau_ok Sound.none [some 54, some 55, some 56, some 57, some 9] [(0, .val (i64 a0)), (1, .val (dM a1)), (2, .val (dM a2)), (7, .ref 7 [] true (dM s2.1)), (8, .val (i64 s2.2)), (9, .ref 9 [] true (dI (s8.1 ++ [x15]))), (10, .val (i64 s8.2))] rfl ?_ ?_
    · simp [hc25, hc25s] <;> simp [ieq, ilt, ile]
    refine hK13 _ ?_
    -- region 8
    refine VW.wr tau_ok Sound.none [some 27, some 28, some 10] [(0, .val (i64 a0)), (1, .val (dM a1)), (2, .val (dM a2)), (7, .ref 7 [] true (dM s2.1)), (8, .val (i64 s2.2)), (9, .ref 9 [] true (dI (s8.1 ++ [x15]))), (10, .val (i64 (w64 (s8.2 + 1))))] rfl ?_ ?_
    · simp <;> simp [ieq, ilt, ile]
    cases hx8o
    exact ⟨_, rfl, Fits.of rfl⟩
  refine VW.block ?_
  refine VW.loopF (s_l02Times_L2 a0 a1 a2 s2 s8) (fun s15 => [(0, .val (i64 a0)), (1, .val (dM a1)), (2, .val (dM a2)), (7, .ref 7 [] true (dM s2.1)), (8, .val (i64 s2.2)), (9, .ref 9 [] true (dI s8.1)), (10, .val (i64 s8.2)), (11, .val (i64 s15.1)), (12, .val (i64 s15.2))]) hx15 (Fits.of rfl) ?_
  clear hx15
  intro s15 ox15 hx15o hx15b
  unfold s_l02Times_L2 at hx15o
  refine VW.sqc fun K17 hK17 hCK17 => ?_
  -- region 11
  refine VW.ws tau_ok Sound.none [some 29, some 30, some 31, some 32] [(0, .val (i64 a0)), (1, .val (dM a1)), (2, .val (dM a2)), (7, .ref 7 [] true (dM s2.1)), (8, .val (i64 s2.2)), (9, .ref 9 [] true (dI s8.1)), (10, .val (i64 s8.2)), (11, .val (i64 s15.1)), (12, .val (i64 s15.2)), (32, .val (.bool (ilt s15.2 (a2.length : Int))))] rfl ?_ ?_
  · simp <;> simp [ieq, ilt, ile]
  refine VW.cond rfl (fun hb18 => ?_) (fun hb18 => ?_)
  rotate_left
  ·
    replace hb18 : ¬ (s15.2 < (a2.length : Int)) := by simpa [ieq, ilt, ile] using hb18
    rw [if_neg hb18] at hx15o
    refine VW.exit ?_
    cases hx15o
    have hq := hx15b _ rfl
    subst hq
    exact Fits.of rfl
  replace hb18 : s15.2 < (a2.length : Int) := by simpa [ieq, ilt, ile] using hb18
  rw [if_pos hb18] at hx15o
  refine VW.skip ?_
  refine hK17 _ ?_
  refine VW.sqc fun K19 hK19 hCK19 => ?_
  refine VW.block ?_
  -- region 13
  obtain ⟨v20, hv20, hx15o⟩ := bind_some hx15o
  obtain ⟨hv20a, hv20b, hv20c, hv20d⟩ := idx_some hv20
  obtain ⟨v21, hv21, hx15o⟩ := bind_some hx15o
  obtain ⟨hv21a, hv21b, hv21c, hv21d⟩ := idx_some hv21
  obtain ⟨v22, hv22, hx15o⟩ := bind_some hx15o
  obtain ⟨hv22a, hv22b, hv22c, hv22d⟩ := idx_some hv22
  obtain ⟨v23, hv23, hx15o⟩ := bind_some hx15o
  obtain ⟨hv23a, hv23b, hv23c, hv23d⟩ := idx_some hv23
  obtain ⟨hc24, hx15o⟩ := chk_some hx15o
  have hc24s := hc24
  try simp at hc24s
  refine VW.wdr tau_ok Sound.none try_mixed [some 35, some 36, some 37, some 38, some 39, some 40, some 41, some 42, some 43, some 44, some 45, some 46, some 47, some 48, some 49, some 50, some 51, some 52, some 53, some 11] [(0, .val (i64 a0)), (1, .val (dM a1)), (2, .val (dM a2)), (7, .ref 7 [] true (dM s2.1)), (8, .val (i64 s2.2)), (9, .ref 9 [] true (dI s8.1)), (10, .val (i64 s8.2)), (11, .val (i64 ((w64 (s15.1 + (w64 (v21 * v23)))).tmod a0))), (12, .val (i64 s15.2))] 20 rfl (by kernel_rfl) (by rfl) ?_ ?_
  · simp [hv20a, hv20b, hv20c, hv20d, hv21a, hv21b, hv21c, hv21d, hv22a, hv22b, hv22c, hv22d, hv23a, hv23b, hv23c, hv23d, hc24, hc24s] <;> simp [ieq, ilt, ile]
  refine hK19 _ ?_
  -- region 12
  refine VW.wr tau_ok Sound.none [some 33, some 34, some 12] [(0, .val (i64 a0)), (1, .val (dM a1)), (2, .val (dM a2)), (7, .ref 7 [] true (dM s2.1)), (8, .val (i64 s2.2)), (9, .ref 9 [] true (dI s8.1)), (10, .val (i64 s8.2)), (11, .val (i64 ((w64 (s15.1 + (w64 (v21 * v23)))).tmod a0))), (12, .val (i64 (w64 (s15.2 + 1))))] rfl ?_ ?_
  · simp <;> simp [ieq, ilt, ile]
  cases hx15o
  exact ⟨_, rfl, Fits.of rfl⟩

theorem s_MultiplyMatrices_ok {a0 : Int} {a1 : List (List Int)} {a2 : List (List Int)} {r : (List (List Int)) × Int} (h : s_MultiplyMatrices a0 a1 a2 = some r) :
    VCall Try.prog 41 [i64 a0, dM a1, dM a2] [.own true (dM r.1), .sc (i64 r.2)] := by
  unfold s_MultiplyMatrices at h
  refine VCall.enter Try.call41 Try.func41 rfl 29 Try.ntmps41 (by simp) [.tmp 6, .tmp 7] rfl ?_
  show VW _ _ _ (mk [(0, .val (i64 a0)), (1, .val (dM a1)), (2, .val (dM a2))]) _
  -- region 0
  refine VW.ws tau_ok Sound.none [some 6, some 7] [(0, .val (i64 a0)), (1, .val (dM a1)), (2, .val (dM a2))] rfl ?_ ?_
  · simp <;> simp [ieq, ilt, ile]
  refine VW.sqc fun K1 hK1 hCK1 => ?_
  -- region 1
  obtain ⟨x5, hx5, h⟩ := bind_some h
  refine VW.cut [(0, .val (i64 a0)), (1, .val (dM a1)), (2, .val (dM a2)), (17, .val (.bool x5))] ?_ fun hy => ?_
  rotate_left
  · clear h
    obtain ⟨v2, hv2, hx5⟩ := bind_some hx5
    by_cases hp3 : v2 = false
    · rw [if_pos hp3] at hx5
      have hp3b : v2 = false := by simpa [ieq, ilt, ile] using hp3
      have hp3s := hp3b
      try simp at hp3s
      cases hx5
      refine VW.ws tau_ok (Sound.none.add 10 (s_l02Is_ok hv2) rfl) [some 8, some 9, some 10, some 11, some 12, some 13, some 14, some 15, some 16, some 17] _ rfl ?_ hy
      simp [hp3b, hp3s] <;> simp [ieq, ilt, ile]
    · rw [if_neg hp3] at hx5
      have hp3b : v2 = true := by simpa [ieq, ilt, ile] using hp3
      have hp3s := hp3b
      try simp at hp3s
      obtain ⟨v4, hv4, hx5⟩ := bind_some hx5
      cases hx5
      refine VW.ws tau_ok ((Sound.none.add 10 (s_l02Is_ok hv2) rfl).add 15 (s_l02Is_ok hv4) rfl) [some 8, some 9, some 10, some 11, some 12, some 13, some 14, some 15, some 16, some 17] _ rfl ?_ hy
      simp [hp3b, hp3s] <;> simp [ieq, ilt, ile]
  refine VW.cond rfl (fun hb6 => ?_) (fun hb6 => ?_)
  ·
    replace hb6 : x5 = true := by simpa [ieq, ilt, ile] using hb6
    rw [if_pos hb6] at h
    -- region 2
    refine VW.ws tau_ok Sound.none [some 6, some 7] [(6, .ref 6 [] true (.list [])), (7, .val (i64 1))] rfl ?_ ?_
    · simp <;> simp [ieq, ilt, ile]
    cases h
    refine VW.ret ?_
    simp [Post, PostM, PostC, PostC2, Nx, Bk]
  replace hb6 : ¬ (x5 = true) := by simpa [ieq, ilt, ile] using hb6
  rw [if_neg hb6] at h
  refine VW.skip ?_
  refine hK1 _ ?_
  refine VW.sqc fun K7 hK7 hCK7 => ?_
  -- region 3
  obtain ⟨v8, hv8, h⟩ := bind_some h
  obtain ⟨hv8a, hv8b, hv8c, hv8d⟩ := idx_some hv8
  replace hv8b : 0 < a1.length := hv8b
  replace hv8c : a1[0]? = some v8 := hv8c
  replace hv8d : ∀ h, a1[0]'h = v8 := hv8d
  refine VW.ws tau_ok Sound.none [some 18, some 19, some 20, some 21, some 22, some 23, some 24] [(0, .val (i64 a0)), (1, .val (dM a1)), (2, .val (dM a2)), (24, .val (.bool (!(ieq (v8.length : Int) (a2.length : Int)))))] rfl ?_ ?_
  · simp [hv8a, hv8b, hv8c, hv8d] <;> simp [ieq, ilt, ile]
  refine VW.cond rfl (fun hb9 => ?_) (fun hb9 => ?_)
  ·
    replace hb9 : ¬ (v8.length : Int) = (a2.length : Int) := by simpa [ieq, ilt, ile] using hb9
    rw [if_pos hb9] at h
    -- region 4
    refine VW.ws tau_ok Sound.none [some 6, some 7] [(6, .ref 6 [] true (.list [])), (7, .val (i64 2))] rfl ?_ ?_
    · simp <;> simp [ieq, ilt, ile]
    cases h
    refine VW.ret ?_
    simp [Post, PostM, PostC, PostC2, Nx, Bk]
  replace hb9 : ¬ (¬ (v8.length : Int) = (a2.length : Int)) := by simpa [ieq, ilt, ile] using hb9
  rw [if_neg hb9] at h
  refine VW.skip ?_
  refine hK7 _ ?_
  -- region 5
  obtain ⟨v10, hv10, h⟩ := bind_some h
  refine VW.ws tau_ok (Sound.none.add 28 (s_l02Times_ok hv10) rfl) [some 25, some 26, some 27, some 28, some 6, some 7] [(6, .ref 6 [] true (dM v10)), (7, .val (i64 0))] rfl ?_ ?_
  · simp <;> simp [ieq, ilt, ile]
  cases h
  refine VW.ret ?_
  simp [Post, PostM, PostC, PostC2, Nx, Bk]

theorem l_likeInts_ok {a0 : List Int} {a1 : List Int} {r : Bool} (h : l_likeInts a0 a1 = some r) :
    VCall Try.prog 67 [dI a0, dI a1] [.sc (.bool r)] := by
  unfold l_likeInts at h
  refine VCall.enter Try.call67 Try.func67 rfl 26 Try.ntmps67 (by simp) [.tmp 4] rfl ?_
  show VW _ _ _ (mk [(0, .val (dI a0)), (1, .val (dI a1))]) _
  -- region 0
  refine VW.ws tau_ok Sound.none [some 4] [(0, .val (dI a0)), (1, .val (dI a1))] rfl ?_ ?_
  · simp <;> simp [ieq, ilt, ile]
  refine VW.sqc fun K1 hK1 hCK1 => ?_
  -- region 1
  refine VW.ws tau_ok Sound.none [some 6, some 7, some 8, some 9, some 10] [(0, .val (dI a0)), (1, .val (dI a1)), (10, .val (.bool (!(ieq (a0.length : Int) (a1.length : Int)))))] rfl ?_ ?_
  · simp <;> simp [ieq, ilt, ile]
  refine VW.cond rfl (fun hb2 => ?_) (fun hb2 => ?_)
  ·
    replace hb2 : ¬ (a0.length : Int) = (a1.length : Int) := by simpa [ieq, ilt, ile] using hb2
    rw [if_pos hb2] at h
    -- region 2
    refine VW.ws tau_ok Sound.none [some 4] [(4, .val (.bool false))] rfl ?_ ?_
    · simp <;> simp [ieq, ilt, ile]
    cases h
    refine VW.ret ?_
    simp [Post, PostM, PostC, PostC2, Nx, Bk]
  replace hb2 : ¬ (¬ (a0.length : Int) = (a1.length : Int)) := by simpa [ieq, ilt, ile] using hb2
  rw [if_neg hb2] at h
  refine VW.skip ?_
  refine hK1 _ ?_
  refine VW.sqc fun K3 hK3 hCK3 => ?_
  -- region 3
  refine VW.ws tau_ok Sound.none [some 5] [(0, .val (dI a0)), (1, .val (dI a1)), (5, .val (i64 0))] rfl ?_ ?_
  · simp <;> simp [ieq, ilt, ile]
  obtain ⟨x4, hx4, h⟩ := bind_some h
  refine VW.tlO (fun y6 => []) x4 (hCK3) ?_ ?_
  · clear hx4
    rintro y6 rfl
    dsimp only at h
    refine hK3 _ ?_
    -- region 8
    refine VW.ws tau_ok Sound.none [some 4] [(4, .val (.bool true))] rfl ?_ ?_
    · simp <;> simp [ieq, ilt, ile]
    cases h
    refine VW.ret ?_
    simp [Post, PostM, PostC, PostC2, Nx, Bk]
  refine VW.block ?_
  refine VW.loopF (l_likeInts_L0 a0 a1) (fun s4 => [(0, .val (dI a0)), (1, .val (dI a1)), (5, .val (i64 s4))]) hx4 (Fits.of rfl) ?_
  clear hx4
  intro s4 ox4 hx4o hx4b
  unfold l_likeInts_L0 at hx4o
  refine VW.sqc fun K7 hK7 hCK7 => ?_
  -- region 4
  refine VW.ws tau_ok Sound.none [some 11, some 12, some 13, some 14] [(0, .val (dI a0)), (1, .val (dI a1)), (5, .val (i64 s4)), (14, .val (.bool (ilt s4 (a0.length : Int))))] rfl ?_ ?_
  · simp <;> simp [ieq, ilt, ile]
  refine VW.cond rfl (fun hb8 => ?_) (fun hb8 => ?_)
  rotate_left
  ·
    replace hb8 : ¬ (s4 < (a0.length : Int)) := by simpa [ieq, ilt, ile] using hb8
    rw [if_neg hb8] at hx4o
    refine VW.exit ?_
    cases hx4o
    have hq := hx4b _ rfl
    subst hq
    exact ⟨_, rfl, Fits.of rfl⟩
  replace hb8 : s4 < (a0.length : Int) := by simpa [ieq, ilt, ile] using hb8
  rw [if_pos hb8] at hx4o
  refine VW.skip ?_
  refine hK7 _ ?_
  refine VW.sqc fun K9 hK9 hCK9 => ?_
  refine VW.block ?_
  -- region 6
  obtain ⟨v10, hv10, hx4o⟩ := bind_some hx4o
  obtain ⟨hv10a, hv10b, hv10c, hv10d⟩ := idx_some hv10
  obtain ⟨v11, hv11, hx4o⟩ := bind_some hx4o
  obtain ⟨hv11a, hv11b, hv11c, hv11d⟩ := idx_some hv11
  refine VW.wds tau_ok Sound.none try_mixed [some 17, some 18, some 19, some 20, some 21, some 22, some 23, some 24, some 25] [(0, .val (dI a0)), (1, .val (dI a1)), (5, .val (i64 s4)), (25, .val (.bool (!(ieq v10 v11))))] 9 rfl (by kernel_rfl) (by rfl) ?_ ?_
  · simp [hv10a, hv10b, hv10c, hv10d, hv11a, hv11b, hv11c, hv11d] <;> simp [ieq, ilt, ile]
  refine VW.cond rfl (fun hb12 => ?_) (fun hb12 => ?_)
  rotate_left
  ·
    replace hb12 : ¬ (¬ v10 = v11) := by simpa [ieq, ilt, ile] using hb12
    rw [if_neg hb12] at hx4o
    refine VW.skip ?_
    refine hK9 _ ?_
    -- region 5
    refine VW.wr tau_ok Sound.none [some 15, some 16, some 5] [(0, .val (dI a0)), (1, .val (dI a1)), (5, .val (i64 (w64 (s4 + 1))))] rfl ?_ ?_
    · simp <;> simp [ieq, ilt, ile]
    cases hx4o
    exact ⟨_, rfl, Fits.of rfl⟩
  replace hb12 : ¬ v10 = v11 := by simpa [ieq, ilt, ile] using hb12
  rw [if_pos hb12] at hx4o
  -- region 7
  refine VW.ws tau_ok Sound.none [some 4] [(4, .val (.bool false))] rfl ?_ ?_
  · simp <;> simp [ieq, ilt, ile]
  cases hx4o
  have hq := hx4b _ rfl
  subst hq
  dsimp only at h
  cases h
  refine VW.ret ?_
  simp [Post, PostM, PostC, PostC2, Nx, Bk]

theorem l_likeRows5_ok {a0 : List (List Int)} {a1 : List (List Int)} {r : Bool} (h : l_likeRows5 a0 a1 = some r) :
    VCall Try.prog 42 [dM a0, dM a1] [.sc (.bool r)] := by
  unfold l_likeRows5 at h
  refine VCall.enter Try.call42 Try.func42 rfl 27 Try.ntmps42 (by simp) [.tmp 4] rfl ?_
  show VW _ _ _ (mk [(0, .val (dM a0)), (1, .val (dM a1))]) _
  -- region 0
  refine VW.ws tau_ok Sound.none [some 4] [(0, .val (dM a0)), (1, .val (dM a1))] rfl ?_ ?_
  · simp <;> simp [ieq, ilt, ile]
  refine VW.sqc fun K1 hK1 hCK1 => ?_
  -- region 1
  refine VW.ws tau_ok Sound.none [some 6, some 7, some 8, some 9, some 10] [(0, .val (dM a0)), (1, .val (dM a1)), (10, .val (.bool (!(ieq (a0.length : Int) (a1.length : Int)))))] rfl ?_ ?_
  · simp <;> simp [ieq, ilt, ile]
  refine VW.cond rfl (fun hb2 => ?_) (fun hb2 => ?_)
  ·
    replace hb2 : ¬ (a0.length : Int) = (a1.length : Int) := by simpa [ieq, ilt, ile] using hb2
    rw [if_pos hb2] at h
    -- region 2
    refine VW.ws tau_ok Sound.none [some 4] [(4, .val (.bool false))] rfl ?_ ?_
    · simp <;> simp [ieq, ilt, ile]
    cases h
    refine VW.ret ?_
    simp [Post, PostM, PostC, PostC2, Nx, Bk]
  replace hb2 : ¬ (¬ (a0.length : Int) = (a1.length : Int)) := by simpa [ieq, ilt, ile] using hb2
  rw [if_neg hb2] at h
  refine VW.skip ?_
  refine hK1 _ ?_
  refine VW.sqc fun K3 hK3 hCK3 => ?_
  -- region 3
  refine VW.ws tau_ok Sound.none [some 5] [(0, .val (dM a0)), (1, .val (dM a1)), (5, .val (i64 0))] rfl ?_ ?_
  · simp <;> simp [ieq, ilt, ile]
  obtain ⟨x4, hx4, h⟩ := bind_some h
  refine VW.tlO (fun y6 => []) x4 (hCK3) ?_ ?_
  · clear hx4
    rintro y6 rfl
    dsimp only at h
    refine hK3 _ ?_
    -- region 8
    refine VW.ws tau_ok Sound.none [some 4] [(4, .val (.bool true))] rfl ?_ ?_
    · simp <;> simp [ieq, ilt, ile]
    cases h
    refine VW.ret ?_
    simp [Post, PostM, PostC, PostC2, Nx, Bk]
  refine VW.block ?_
  refine VW.loopF (l_likeRows5_L0 a0 a1) (fun s4 => [(0, .val (dM a0)), (1, .val (dM a1)), (5, .val (i64 s4))]) hx4 (Fits.of rfl) ?_
  clear hx4
  intro s4 ox4 hx4o hx4b
  unfold l_likeRows5_L0 at hx4o
  refine VW.sqc fun K7 hK7 hCK7 => ?_
  -- region 4
  refine VW.ws tau_ok Sound.none [some 11, some 12, some 13, some 14] [(0, .val (dM a0)), (1, .val (dM a1)), (5, .val (i64 s4)), (14, .val (.bool (ilt s4 (a0.length : Int))))] rfl ?_ ?_
  · simp <;> simp [ieq, ilt, ile]
  refine VW.cond rfl (fun hb8 => ?_) (fun hb8 => ?_)
  rotate_left
  ·
    replace hb8 : ¬ (s4 < (a0.length : Int)) := by simpa [ieq, ilt, ile] using hb8
    rw [if_neg hb8] at hx4o
    refine VW.exit ?_
    cases hx4o
    have hq := hx4b _ rfl
    subst hq
    exact ⟨_, rfl, Fits.of rfl⟩
  replace hb8 : s4 < (a0.length : Int) := by simpa [ieq, ilt, ile] using hb8
  rw [if_pos hb8] at hx4o
  refine VW.skip ?_
  refine hK7 _ ?_
  refine VW.sqc fun K9 hK9 hCK9 => ?_
  refine VW.block ?_
  -- region 6
  obtain ⟨v10, hv10, hx4o⟩ := bind_some hx4o
  obtain ⟨hv10a, hv10b, hv10c, hv10d⟩ := idx_some hv10
  obtain ⟨v11, hv11, hx4o⟩ := bind_some hx4o
  obtain ⟨hv11a, hv11b, hv11c, hv11d⟩ := idx_some hv11
  obtain ⟨v12, hv12, hx4o⟩ := bind_some hx4o
  refine VW.wds tau_ok (Sound.none.add 25 (l_likeInts_ok hv12) rfl) try_mixed [some 17, some 18, some 19, some 20, some 21, some 22, some 23, some 24, some 25, some 26] [(0, .val (dM a0)), (1, .val (dM a1)), (5, .val (i64 s4)), (26, .val (.bool (!v12)))] 10 rfl (by kernel_rfl) (by rfl) ?_ ?_
  · simp [hv10a, hv10b, hv10c, hv10d, hv11a, hv11b, hv11c, hv11d] <;> simp [ieq, ilt, ile]
  refine VW.cond rfl (fun hb13 => ?_) (fun hb13 => ?_)
  rotate_left
  ·
    replace hb13 : ¬ (v12 = false) := by simpa [ieq, ilt, ile] using hb13
    rw [if_neg hb13] at hx4o
    refine VW.skip ?_
    refine hK9 _ ?_
    -- region 5
    refine VW.wr tau_ok Sound.none [some 15, some 16, some 5] [(0, .val (dM a0)), (1, .val (dM a1)), (5, .val (i64 (w64 (s4 + 1))))] rfl ?_ ?_
    · simp <;> simp [ieq, ilt, ile]
    cases hx4o
    exact ⟨_, rfl, Fits.of rfl⟩
  replace hb13 : v12 = false := by simpa [ieq, ilt, ile] using hb13
  rw [if_pos hb13] at hx4o
  -- region 7
  refine VW.ws tau_ok Sound.none [some 4] [(4, .val (.bool false))] rfl ?_ ?_
  · simp <;> simp [ieq, ilt, ile]
  cases hx4o
  have hq := hx4b _ rfl
  subst hq
  dsimp only at h
  cases h
  refine VW.ret ?_
  simp [Post, PostM, PostC, PostC2, Nx, Bk]
end Go.Vam
