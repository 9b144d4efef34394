import Derived.Test.YtcijfjeeggfgmaaR8T
import Derived.Test.YtcijfjeeggfgmaaFmG0
namespace Go.Vam
open Go Go.RowKit Go.Proofs
set_option maxRecDepth 100000
set_option linter.unusedSimpArgs false
set_option linter.unusedVariables false

theorem l_big_ok {a0 : List Int} {r : Bool} (h : l_big a0 = some r) :
    VCall Try.prog 34 [.list (a0.map (D.int .u8))] [.sc (.bool r)] := by
  unfold l_big at h
  refine VCall.enter Try.call34 Try.func34 rfl 6 Try.ntmps34 (by simp) [.tmp 2] rfl ?_
  show VW _ _ _ (mk [(0, .val (.list (a0.map (D.int .u8))))]) _
  -- region 0
  refine VW.ws tau_ok Sound.none [some 2] [(0, .val (.list (a0.map (D.int .u8))))] rfl ?_ ?_
  · simp <;> simp [ieq, ilt, ile]
  -- region 1
  refine VW.ws tau_ok Sound.none [some 3, some 4, some 5, some 2] [(2, .val (.bool (ilt 4096 (a0.length : Int))))] rfl ?_ ?_
  · simp <;> simp [ieq, ilt, ile]
  cases h
  refine VW.ret ?_
  simp [Post, PostM, PostC, PostC2, Nx, Bk]

theorem s_l01From_ok {a0 : List Int} {r : (List Int) × Int × Int} (h : s_l01From a0 = some r) :
    VCall Try.prog 101 [.list (a0.map (D.int .u8))] [.own false (.ptr [.list (r.1.map (D.int .u8)), i64 r.2.1, .int .u64 r.2.2])] := by
  unfold s_l01From at h
  refine VCall.enter Try.call101 Try.func101 rfl 38 Try.ntmps101 (by simp) [.tmp 2] rfl ?_
  show VW _ _ _ (mk [(0, .val (.list (a0.map (D.int .u8))))]) _
  -- region 0
  refine VW.ws tau_ok Sound.none [some 2] [(0, .val (.list (a0.map (D.int .u8))))] rfl ?_ ?_
  · simp <;> simp [ieq, ilt, ile]
  -- region 1
  refine VW.ws tau_ok Sound.none [some 5, some 6, some 7, some 8, some 9, some 10, some 11, some 3] [(0, .val (.list (a0.map (D.int .u8)))), (3, .ref 3 [] false (.ptr [.list (a0.map (D.int .u8)), i64 0, .int .u64 (IntKind.u64.wrap (4409 + (IntKind.u64.wrap ((a0.length : Int)))))]))] rfl ?_ ?_
  · simp <;> simp [ieq, ilt, ile]
  refine VW.sqc fun K1 hK1 hCK1 => ?_
  -- region 2
  refine VW.ws tau_ok Sound.none [some 4] [(0, .val (.list (a0.map (D.int .u8)))), (3, .ref 3 [] false (.ptr [.list (a0.map (D.int .u8)), i64 0, .int .u64 (IntKind.u64.wrap (4409 + (IntKind.u64.wrap ((a0.length : Int)))))])), (4, .val (i64 0))] rfl ?_ ?_
  · simp <;> simp [ieq, ilt, ile]
  obtain ⟨x2, hx2, h⟩ := bind_some h
  refine VW.tlE [(3, .ref 3 [] false (.ptr [.list (x2.1.map (D.int .u8)), i64 x2.2.1, .int .u64 x2.2.2]))] (hCK1) ?_ ?_
  · clear hx2
    refine hK1 _ ?_
    -- region 6
    refine VW.ws tau_ok Sound.none [some 37, some 2] [(2, .ref 2 [] false (.ptr [.list (x2.1.map (D.int .u8)), i64 x2.2.1, .int .u64 x2.2.2]))] rfl ?_ ?_
    · simp <;> simp [ieq, ilt, ile]
    cases h
    refine VW.ret ?_
    simp [Post, PostM, PostC, PostC2, Nx, Bk]
  refine VW.block ?_
  refine VW.loopF (s_l01From_L0 a0) (fun s2 => [(0, .val (.list (a0.map (D.int .u8)))), (3, .ref 3 [] false (.ptr [.list (s2.1.map (D.int .u8)), i64 s2.2.1, .int .u64 s2.2.2.1])), (4, .val (i64 s2.2.2.2))]) hx2 (Fits.of rfl) ?_
  clear hx2
  intro s2 ox2 hx2o hx2b
  unfold s_l01From_L0 at hx2o
  refine VW.sqc fun K4 hK4 hCK4 => ?_
  -- region 3
  obtain ⟨x6, hx6, hx2o⟩ := bind_some hx2o
  refine VW.cut [(0, .val (.list (a0.map (D.int .u8)))), (3, .ref 3 [] false (.ptr [.list (s2.1.map (D.int .u8)), i64 s2.2.1, .int .u64 s2.2.2.1])), (4, .val (i64 s2.2.2.2)), (19, .val (.bool x6))] ?_ fun hy => ?_
  rotate_left
  · clear hx2o
    by_cases hp5 : s2.2.2.2 < (a0.length : Int)
    · rw [if_pos hp5] at hx6
      have hp5b : ilt s2.2.2.2 (a0.length : Int) = true := by simpa [ieq, ilt, ile] using hp5
      have hp5s := hp5b
      try simp at hp5s
      cases hx6
      refine VW.ws tau_ok Sound.none [some 12, some 13, some 14, some 15, some 16, some 17, some 18, some 19] _ rfl ?_ hy
      simp [hp5b, hp5s] <;> simp [ieq, ilt, ile]
    · rw [if_neg hp5] at hx6
      have hp5b : ilt s2.2.2.2 (a0.length : Int) = false := by simpa [ieq, ilt, ile] using hp5
      have hp5s := hp5b
      try simp at hp5s
      cases hx6
      refine VW.ws tau_ok Sound.none [some 12, some 13, some 14, some 15, some 16, some 17, some 18, some 19] _ rfl ?_ hy
      simp [hp5b, hp5s] <;> simp [ieq, ilt, ile]
  refine VW.cond rfl (fun hb7 => ?_) (fun hb7 => ?_)
  rotate_left
  ·
    replace hb7 : ¬ (x6 = true) := by simpa [ieq, ilt, ile] using hb7
    rw [if_neg hb7] at hx2o
    refine VW.exit ?_
    cases hx2o
    have hq := hx2b _ rfl
    subst hq
    exact Fits.of rfl
  replace hb7 : x6 = true := by simpa [ieq, ilt, ile] using hb7
  rw [if_pos hb7] at hx2o
  refine VW.skip ?_
  refine hK4 _ ?_
  refine VW.sqc fun K8 hK8 hCK8 => ?_
  refine VW.block ?_
  -- region 5
  obtain ⟨v9, hv9, hx2o⟩ := bind_some hx2o
  obtain ⟨hv9a, hv9b, hv9c, hv9d⟩ := idx_some hv9
  refine VW.wdr tau_ok Sound.none try_mixed [some 22, some 23, some 24, some 25, some 26, some 27, some 28, some 29, some 30, some 31, some 32, some 33, some 34, some 35, some 36, none] [(0, .val (.list (a0.map (D.int .u8)))), (3, .ref 3 [] false (.ptr [.list (s2.1.map (D.int .u8)), i64 s2.2.1, .int .u64 (IntKind.u64.wrap ((IntKind.u64.wrap ((IntKind.u64.wrap (s2.2.2.1 * 1099511628211)) + (IntKind.u64.wrap (v9)))) + 11))])), (4, .val (i64 s2.2.2.2))] 15 rfl (by kernel_rfl) (by rfl) ?_ ?_
  · simp [hv9a, hv9b, hv9c, hv9d] <;> simp [ieq, ilt, ile]
  refine hK8 _ ?_
  -- region 4
  refine VW.wr tau_ok Sound.none [some 20, some 21, some 4] [(0, .val (.list (a0.map (D.int .u8)))), (3, .ref 3 [] false (.ptr [.list (s2.1.map (D.int .u8)), i64 s2.2.1, .int .u64 (IntKind.u64.wrap ((IntKind.u64.wrap ((IntKind.u64.wrap (s2.2.2.1 * 1099511628211)) + (IntKind.u64.wrap (v9)))) + 11))])), (4, .val (i64 (w64 (s2.2.2.2 + 1))))] rfl ?_ ?_
  · simp <;> simp [ieq, ilt, ile]
  cases hx2o
  exact ⟨_, rfl, Fits.of rfl⟩

theorem s_l01Next_ok {a0_0 : List Int} {a0_1 : Int} {a0_2 : Int} {a1 : Int} {r : Int × ((List Int) × Int × Int)} (h : s_l01Next a0_0 a0_1 a0_2 a1 = some r) :
    VPtr Try.prog 102 [.list (a0_0.map (D.int .u8)), i64 a0_1, .int .u64 a0_2] [i64 a1] [.sc (i64 r.1)] [.list (r.2.1.map (D.int .u8)), i64 r.2.2.1, .int .u64 r.2.2.2] := by
  unfold s_l01Next at h
  refine VPtr.enter Try.call102 Try.func102 rfl 58 Try.ntmps102 (by simp) [.tmp 4] rfl ?_
  show VW _ _ _ (mk [(0, .ref 0 [] false (.ptr [.list (a0_0.map (D.int .u8)), i64 a0_1, .int .u64 a0_2])), (1, .val (i64 a1))]) _
  -- region 0
  refine VW.ws tau_ok Sound.none [some 4] [(0, .ref 0 [] false (.ptr [.list (a0_0.map (D.int .u8)), i64 a0_1, .int .u64 a0_2])), (1, .val (i64 a1))] rfl ?_ ?_
  · simp <;> simp [ieq, ilt, ile]
  refine VW.sqc fun K1 hK1 hCK1 => ?_
  -- region 1
  refine VW.ws tau_ok Sound.none [some 6, some 7] [(0, .ref 0 [] false (.ptr [.list (a0_0.map (D.int .u8)), i64 a0_1, .int .u64 a0_2])), (1, .val (i64 a1)), (7, .val (.bool (ilt a1 1)))] rfl ?_ ?_
  · simp <;> simp [ieq, ilt, ile]
  refine VW.cond rfl (fun hb2 => ?_) (fun hb2 => ?_)
  ·
    replace hb2 : a1 < 1 := by simpa [ieq, ilt, ile] using hb2
    rw [if_pos hb2] at h
    -- region 2
    refine VW.ws tau_ok Sound.none [some 4] [(0, .ref 0 [] false (.ptr [.list (a0_0.map (D.int .u8)), i64 a0_1, .int .u64 a0_2])), (4, .val (i64 0))] rfl ?_ ?_
    · simp <;> simp [ieq, ilt, ile]
    cases h
    refine VW.ret ?_
    simp [PostW, resW, PostWC, resWC, Nx, Bk]
  replace hb2 : ¬ (a1 < 1) := by simpa [ieq, ilt, ile] using hb2
  rw [if_neg hb2] at h
  refine VW.skip ?_
  refine hK1 _ ?_
  -- region 3
  refine VW.ws tau_ok Sound.none [some 8, some 9, some 10, some 11, some 12, some 13, some 14, some 15, some 16, none] [(0, .ref 0 [] false (.ptr [.list (a0_0.map (D.int .u8)), i64 a0_1, .int .u64 (IntKind.u64.wrap ((IntKind.u64.wrap (a0_2 * 6364136223846793005)) + 1442695040888963407))])), (1, .val (i64 a1))] rfl ?_ ?_
  · simp <;> simp [ieq, ilt, ile]
  -- region 4
  refine VW.ws tau_ok Sound.none [some 17, some 18, some 19, some 20, some 21, some 22, some 23, some 5] [(0, .ref 0 [] false (.ptr [.list (a0_0.map (D.int .u8)), i64 a0_1, .int .u64 (IntKind.u64.wrap ((IntKind.u64.wrap (a0_2 * 6364136223846793005)) + 1442695040888963407))])), (1, .val (i64 a1)), (5, .val (i64 (w64 (band .u64 (shr .u64 (IntKind.u64.wrap ((IntKind.u64.wrap (a0_2 * 6364136223846793005)) + 1442695040888963407)) 33) 16777215))))] rfl ?_ ?_
  · simp <;> simp [ieq, ilt, ile]
  refine VW.sqc fun K3 hK3 hCK3 => ?_
  -- region 5
  refine VW.wds tau_ok Sound.none try_mixed [some 24, some 25, some 26, some 27, some 28, some 29, some 30, some 31, some 32, some 33] [(0, .ref 0 [] false (.ptr [.list (a0_0.map (D.int .u8)), i64 a0_1, .int .u64 (IntKind.u64.wrap ((IntKind.u64.wrap (a0_2 * 6364136223846793005)) + 1442695040888963407))])), (1, .val (i64 a1)), (5, .val (i64 (w64 (band .u64 (shr .u64 (IntKind.u64.wrap ((IntKind.u64.wrap (a0_2 * 6364136223846793005)) + 1442695040888963407)) 33) 16777215)))), (33, .val (.bool (ilt a0_1 (a0_0.length : Int))))] 10 rfl (by kernel_rfl) (by rfl) ?_ ?_
  · simp <;> simp [ieq, ilt, ile]
  obtain ⟨x4, hx4, h⟩ := bind_some h
  refine VW.tlE [(0, .ref 0 [] false (.ptr [.list (x4.1.map (D.int .u8)), i64 x4.2.1, .int .u64 x4.2.2.1])), (1, .val (i64 a1)), (5, .val (i64 x4.2.2.2))] (hCK3) ?_ ?_
  · clear hx4
    refine hK3 _ ?_
    -- region 8
    obtain ⟨hc8, h⟩ := chk_some h
    have hc8s := hc8
    try simp at hc8s
    refine VW.ws tau_ok Sound.none [some 55, some 56, some 57, some 4] [(0, .ref 0 [] false (.ptr [.list (x4.1.map (D.int .u8)), i64 x4.2.1, .int .u64 x4.2.2.1])), (4, .val (i64 (x4.2.2.2.tmod a1)))] rfl ?_ ?_
    · simp [hc8, hc8s] <;> simp [ieq, ilt, ile]
    cases h
    refine VW.ret ?_
    simp [PostW, resW, PostWC, resWC, Nx, Bk]
  refine VW.cond rfl (fun hb6 => ?_) (fun hb6 => ?_)
  rotate_left
  ·
    replace hb6 : ¬ (a0_1 < (a0_0.length : Int)) := by simpa [ieq, ilt, ile] using hb6
    rw [if_neg hb6] at hx4
    refine VW.skip ?_
    cases hx4
    exact Fits.of rfl
  replace hb6 : a0_1 < (a0_0.length : Int) := by simpa [ieq, ilt, ile] using hb6
  rw [if_pos hb6] at hx4
  -- region 6
  obtain ⟨v7, hv7, hx4⟩ := bind_some hx4
  obtain ⟨hv7a, hv7b, hv7c, hv7d⟩ := idx_some hv7
  refine VW.wds tau_ok Sound.none try_mixed [some 34, some 35, some 36, some 37, some 38, some 39, some 40, some 41, some 42, some 43, some 44, some 45, some 46, some 5] [(0, .ref 0 [] false (.ptr [.list (a0_0.map (D.int .u8)), i64 a0_1, .int .u64 (IntKind.u64.wrap ((IntKind.u64.wrap (a0_2 * 6364136223846793005)) + 1442695040888963407))])), (1, .val (i64 a1)), (5, .val (i64 (w64 ((w64 (band .u64 (shr .u64 (IntKind.u64.wrap ((IntKind.u64.wrap (a0_2 * 6364136223846793005)) + 1442695040888963407)) 33) 16777215)) + (w64 (v7))))))] 14 rfl (by kernel_rfl) (by rfl) ?_ ?_
  · simp [hv7a, hv7b, hv7c, hv7d] <;> simp [ieq, ilt, ile]
  -- region 7
  refine VW.wr tau_ok Sound.none [some 47, some 48, some 49, some 50, some 51, some 52, some 53, some 54, none] [(0, .ref 0 [] false (.ptr [.list (a0_0.map (D.int .u8)), i64 (w64 (a0_1 + 1)), .int .u64 (IntKind.u64.wrap ((IntKind.u64.wrap (a0_2 * 6364136223846793005)) + 1442695040888963407))])), (1, .val (i64 a1)), (5, .val (i64 (w64 ((w64 (band .u64 (shr .u64 (IntKind.u64.wrap ((IntKind.u64.wrap (a0_2 * 6364136223846793005)) + 1442695040888963407)) 33) 16777215)) + (w64 (v7))))))] rfl ?_ ?_
  · simp <;> simp [ieq, ilt, ile]
  cases hx4
  exact Fits.of rfl

theorem s_l01Pick_ok {a0_0 : List Int} {a0_1 : Int} {a0_2 : Int} {a1 : List Int} {r : Int × ((List Int) × Int × Int)} (h : s_l01Pick a0_0 a0_1 a0_2 a1 = some r) :
    VPtr Try.prog 104 [.list (a0_0.map (D.int .u8)), i64 a0_1, .int .u64 a0_2] [dI a1] [.sc (i64 r.1)] [.list (r.2.1.map (D.int .u8)), i64 r.2.2.1, .int .u64 r.2.2.2] := by
  unfold s_l01Pick at h
  refine VPtr.enter Try.call104 Try.func104 rfl 12 Try.ntmps104 (by simp) [.tmp 4] rfl ?_
  show VW _ _ _ (mk [(0, .ref 0 [] false (.ptr [.list (a0_0.map (D.int .u8)), i64 a0_1, .int .u64 a0_2])), (1, .val (dI a1))]) _
  -- region 0
  refine VW.ws tau_ok Sound.none [some 4] [(0, .ref 0 [] false (.ptr [.list (a0_0.map (D.int .u8)), i64 a0_1, .int .u64 a0_2])), (1, .val (dI a1))] rfl ?_ ?_
  · simp <;> simp [ieq, ilt, ile]
  -- region 1
  obtain ⟨v1, hv1, h⟩ := bind_some h
  obtain ⟨v2, hv2, h⟩ := bind_some h
  obtain ⟨hv2a, hv2b, hv2c, hv2d⟩ := idx_some hv2
  refine VW.ws tau_ok (Sound.none.ptrc 9 (s_l01Next_ok hv1)) [some 5, some 6, some 7, some 8, some 9, some 10, some 11, some 4] [(0, .ref 0 [] false (.ptr [.list (v1.2.1.map (D.int .u8)), i64 v1.2.2.1, .int .u64 v1.2.2.2])), (4, .val (i64 v2))] rfl ?_ ?_
  · simp [hv2a, hv2b, hv2c, hv2d] <;> simp [ieq, ilt, ile]
  cases h
  refine VW.ret ?_
  simp [PostW, resW, PostWC, resWC, Nx, Bk]

theorem s_l02Size_ok {a0_0 : List Int} {a0_1 : Int} {a0_2 : Int} {r : Int × ((List Int) × Int × Int)} (h : s_l02Size a0_0 a0_1 a0_2 = some r) :
    VPtr Try.prog 211 [.list (a0_0.map (D.int .u8)), i64 a0_1, .int .u64 a0_2] [] [.sc (i64 r.1)] [.list (r.2.1.map (D.int .u8)), i64 r.2.2.1, .int .u64 r.2.2.2] := by
  unfold s_l02Size at h
  refine VPtr.enter Try.call211 Try.func211 rfl 13 Try.ntmps211 (by simp) [.tmp 2] rfl ?_
  show VW _ _ _ (mk [(0, .ref 0 [] false (.ptr [.list (a0_0.map (D.int .u8)), i64 a0_1, .int .u64 a0_2]))]) _
  -- region 0
  refine VW.ws tau_ok Sound.none [some 2] [(0, .ref 0 [] false (.ptr [.list (a0_0.map (D.int .u8)), i64 a0_1, .int .u64 a0_2]))] rfl ?_ ?_
  · simp <;> simp [ieq, ilt, ile]
  -- region 1
  obtain ⟨v1, hv1, h⟩ := bind_some h
  obtain ⟨v2, hv2, h⟩ := bind_some h
  obtain ⟨v3, hv3, h⟩ := bind_some h
  obtain ⟨v4, hv4, h⟩ := bind_some h
  refine VW.ws tau_ok ((((Sound.none.ptrc 5 (s_l01Next_ok hv1)).ptrc 7 (s_l01Next_ok hv2)).ptrc 9 (s_l01Next_ok hv3)).ptrc 11 (s_l01Pick_ok hv4)) [some 3, some 4, some 5, some 6, some 7, some 8, some 9, some 10, some 11, some 12, some 2] [(0, .ref 0 [] false (.ptr [.list (v4.2.1.map (D.int .u8)), i64 v4.2.2.1, .int .u64 v4.2.2.2])), (2, .val (i64 (w64 (1 + v4.1))))] rfl ?_ ?_
  · simp <;> simp [ieq, ilt, ile]
  cases h
  refine VW.ret ?_
  simp [PostW, resW, PostWC, resWC, Nx, Bk]

theorem s_l01DrawPrime_ok {a0_0 : List Int} {a0_1 : Int} {a0_2 : Int} {r : Int × ((List Int) × Int × Int)} (h : s_l01DrawPrime a0_0 a0_1 a0_2 = some r) :
    VPtr Try.prog 219 [.list (a0_0.map (D.int .u8)), i64 a0_1, .int .u64 a0_2] [] [.sc (i64 r.1)] [.list (r.2.1.map (D.int .u8)), i64 r.2.2.1, .int .u64 r.2.2.2] := by
  unfold s_l01DrawPrime at h
  refine VPtr.enter Try.call219 Try.func219 rfl 6 Try.ntmps219 (by simp) [.tmp 2] rfl ?_
  show VW _ _ _ (mk [(0, .ref 0 [] false (.ptr [.list (a0_0.map (D.int .u8)), i64 a0_1, .int .u64 a0_2]))]) _
  -- region 0
  refine VW.ws tau_ok Sound.none [some 2] [(0, .ref 0 [] false (.ptr [.list (a0_0.map (D.int .u8)), i64 a0_1, .int .u64 a0_2]))] rfl ?_ ?_
  · simp <;> simp [ieq, ilt, ile]
  -- region 1
  obtain ⟨v1, hv1, h⟩ := bind_some h
  refine VW.ws tau_ok (Sound.none.ptrc 5 (s_l01Pick_ok hv1)) [some 3, some 4, some 5, some 2] [(0, .ref 0 [] false (.ptr [.list (v1.2.1.map (D.int .u8)), i64 v1.2.2.1, .int .u64 v1.2.2.2])), (2, .val (i64 v1.1))] rfl ?_ ?_
  · simp <;> simp [ieq, ilt, ile]
  cases h
  refine VW.ret ?_
  simp [PostW, resW, PostWC, resWC, Nx, Bk]

theorem s_l01Bad_ok {a0_0 : List Int} {a0_1 : Int} {a0_2 : Int} {r : Int × ((List Int) × Int × Int)} (h : s_l01Bad a0_0 a0_1 a0_2 = some r) :
    VPtr Try.prog 249 [.list (a0_0.map (D.int .u8)), i64 a0_1, .int .u64 a0_2] [] [.sc (i64 r.1)] [.list (r.2.1.map (D.int .u8)), i64 r.2.2.1, .int .u64 r.2.2.2] := by
  unfold s_l01Bad at h
  refine VPtr.enter Try.call249 Try.func249 rfl 11 Try.ntmps249 (by simp) [.tmp 2] rfl ?_
  show VW _ _ _ (mk [(0, .ref 0 [] false (.ptr [.list (a0_0.map (D.int .u8)), i64 a0_1, .int .u64 a0_2]))]) _
  -- region 0
  refine VW.ws tau_ok Sound.none [some 2] [(0, .ref 0 [] false (.ptr [.list (a0_0.map (D.int .u8)), i64 a0_1, .int .u64 a0_2]))] rfl ?_ ?_
  · simp <;> simp [ieq, ilt, ile]
  refine VW.sqc fun K1 hK1 hCK1 => ?_
  -- region 1
  obtain ⟨v2, hv2, h⟩ := bind_some h
  refine VW.ws tau_ok (Sound.none.ptrc 4 (s_l01Next_ok hv2)) [some 3, some 4, some 5] [(0, .ref 0 [] false (.ptr [.list (v2.2.1.map (D.int .u8)), i64 v2.2.2.1, .int .u64 v2.2.2.2])), (5, .val (.bool (ieq v2.1 0)))] rfl ?_ ?_
  · simp <;> simp [ieq, ilt, ile]
  refine VW.cond rfl (fun hb3 => ?_) (fun hb3 => ?_)
  ·
    replace hb3 : v2.1 = 0 := by simpa [ieq, ilt, ile] using hb3
    rw [if_pos hb3] at h
    -- region 2
    obtain ⟨v4, hv4, h⟩ := bind_some h
    refine VW.ws tau_ok (Sound.none.ptrc 8 (s_l01Pick_ok hv4)) [some 6, some 7, some 8, some 2] [(0, .ref 0 [] false (.ptr [.list (v4.2.1.map (D.int .u8)), i64 v4.2.2.1, .int .u64 v4.2.2.2])), (2, .val (i64 v4.1))] rfl ?_ ?_
    · simp <;> simp [ieq, ilt, ile]
    cases h
    refine VW.ret ?_
    simp [PostW, resW, PostWC, resWC, Nx, Bk]
  replace hb3 : ¬ (v2.1 = 0) := by simpa [ieq, ilt, ile] using hb3
  rw [if_neg hb3] at h
  refine VW.skip ?_
  refine hK1 _ ?_
  -- region 3
  obtain ⟨v5, hv5, h⟩ := bind_some h
  refine VW.ws tau_ok (Sound.none.ptrc 10 (s_l01DrawPrime_ok hv5)) [some 9, some 10, some 2] [(0, .ref 0 [] false (.ptr [.list (v5.2.1.map (D.int .u8)), i64 v5.2.2.1, .int .u64 v5.2.2.2])), (2, .val (i64 v5.1))] rfl ?_ ?_
  · simp <;> simp [ieq, ilt, ile]
  cases h
  refine VW.ret ?_
  simp [PostW, resW, PostWC, resWC, Nx, Bk]

theorem s_l01Prime_ok {a0 : Int} {r : Bool} (h : s_l01Prime a0 = some r) :
    VCall Try.prog 200 [i64 a0] [.sc (.bool r)] := by
  unfold s_l01Prime at h
  refine VCall.enter Try.call200 Try.func200 rfl 21 Try.ntmps200 (by simp) [.tmp 2] rfl ?_
  show VW _ _ _ (mk [(0, .val (i64 a0))]) _
  -- region 0
  refine VW.ws tau_ok Sound.none [some 2] [(0, .val (i64 a0))] rfl ?_ ?_
  · simp <;> simp [ieq, ilt, ile]
  -- region 1
  obtain ⟨x5, hx5, h⟩ := bind_some h
  refine VW.cut [(2, .val (.bool x5))] ?_ fun hy => ?_
  rotate_left
  · clear h
    by_cases hp1 : a0 = 3
    · rw [if_pos hp1] at hx5
      have hp1b : ieq a0 3 = true := by simpa [ieq, ilt, ile] using hp1
      have hp1s := hp1b
      try simp at hp1s
      cases hx5
      refine VW.ws tau_ok Sound.none [some 3, some 4, some 5, some 6, some 7, some 8, some 9, some 10, some 11, some 12, some 13, some 14, some 15, some 16, some 17, some 18, some 19, some 20, some 2] _ rfl ?_ hy
      simp [hp1b, hp1s] <;> simp [ieq, ilt, ile]
    · rw [if_neg hp1] at hx5
      have hp1b : ieq a0 3 = false := by simpa [ieq, ilt, ile] using hp1
      have hp1s := hp1b
      try simp at hp1s
      by_cases hp2 : a0 = 5
      · rw [if_pos hp2] at hx5
        have hp2b : ieq a0 5 = true := by simpa [ieq, ilt, ile] using hp2
        have hp2s := hp2b
        try simp at hp2s
        cases hx5
        refine VW.ws tau_ok Sound.none [some 3, some 4, some 5, some 6, some 7, some 8, some 9, some 10, some 11, some 12, some 13, some 14, some 15, some 16, some 17, some 18, some 19, some 20, some 2] _ rfl ?_ hy
        simp [hp1b, hp1s, hp2b, hp2s] <;> simp [ieq, ilt, ile]
      · rw [if_neg hp2] at hx5
        have hp2b : ieq a0 5 = false := by simpa [ieq, ilt, ile] using hp2
        have hp2s := hp2b
        try simp at hp2s
        by_cases hp3 : a0 = 7
        · rw [if_pos hp3] at hx5
          have hp3b : ieq a0 7 = true := by simpa [ieq, ilt, ile] using hp3
          have hp3s := hp3b
          try simp at hp3s
          cases hx5
          refine VW.ws tau_ok Sound.none [some 3, some 4, some 5, some 6, some 7, some 8, some 9, some 10, some 11, some 12, some 13, some 14, some 15, some 16, some 17, some 18, some 19, some 20, some 2] _ rfl ?_ hy
          simp [hp1b, hp1s, hp2b, hp2s, hp3b, hp3s] <;> simp [ieq, ilt, ile]
        · rw [if_neg hp3] at hx5
          have hp3b : ieq a0 7 = false := by simpa [ieq, ilt, ile] using hp3
          have hp3s := hp3b
          try simp at hp3s
          by_cases hp4 : a0 = 11
          · rw [if_pos hp4] at hx5
            have hp4b : ieq a0 11 = true := by simpa [ieq, ilt, ile] using hp4
            have hp4s := hp4b
            try simp at hp4s
            cases hx5
            refine VW.ws tau_ok Sound.none [some 3, some 4, some 5, some 6, some 7, some 8, some 9, some 10, some 11, some 12, some 13, some 14, some 15, some 16, some 17, some 18, some 19, some 20, some 2] _ rfl ?_ hy
            simp [hp1b, hp1s, hp2b, hp2s, hp3b, hp3s, hp4b, hp4s] <;> simp [ieq, ilt, ile]
          · rw [if_neg hp4] at hx5
            have hp4b : ieq a0 11 = false := by simpa [ieq, ilt, ile] using hp4
            have hp4s := hp4b
            try simp at hp4s
            cases hx5
            refine VW.ws tau_ok Sound.none [some 3, some 4, some 5, some 6, some 7, some 8, some 9, some 10, some 11, some 12, some 13, some 14, some 15, some 16, some 17, some 18, some 19, some 20, some 2] _ rfl ?_ hy
            simp [hp1b, hp1s, hp2b, hp2s, hp3b, hp3s, hp4b, hp4s] <;> simp [ieq, ilt, ile]
  cases h
  refine VW.ret ?_
  simp [Post, PostM, PostC, PostC2, Nx, Bk]

theorem s_l01List_ok {a0_0 : List Int} {a0_1 : Int} {a0_2 : Int} {a1 : Int} {a2 : Int} {r : (List Int) × ((List Int) × Int × Int)} (h : s_l01List a0_0 a0_1 a0_2 a1 a2 = some r) :
    VPtr Try.prog 273 [.list (a0_0.map (D.int .u8)), i64 a0_1, .int .u64 a0_2] [i64 a1, i64 a2] [.own true (dI r.1)] [.list (r.2.1.map (D.int .u8)), i64 r.2.2.1, .int .u64 r.2.2.2] := by
  unfold s_l01List at h
  refine VPtr.enter Try.call273 Try.func273 rfl 20 Try.ntmps273 (by simp) [.tmp 6] rfl ?_
  show VW _ _ _ (mk [(0, .ref 0 [] false (.ptr [.list (a0_0.map (D.int .u8)), i64 a0_1, .int .u64 a0_2])), (1, .val (i64 a1)), (2, .val (i64 a2))]) _
  -- region 0
  refine VW.ws tau_ok Sound.none [some 6] [(0, .ref 0 [] false (.ptr [.list (a0_0.map (D.int .u8)), i64 a0_1, .int .u64 a0_2])), (1, .val (i64 a1)), (2, .val (i64 a2))] rfl ?_ ?_
  · simp <;> simp [ieq, ilt, ile]
  -- region 1
  refine VW.ws tau_ok Sound.none [some 8, some 7] [(0, .ref 0 [] false (.ptr [.list (a0_0.map (D.int .u8)), i64 a0_1, .int .u64 a0_2])), (1, .val (i64 a1)), (2, .val (i64 a2)), (7, .ref 7 [] true (dI []))] rfl ?_ ?_
  · simp <;> simp [ieq, ilt, ile]
  refine VW.sqc fun K1 hK1 hCK1 => ?_
  obtain ⟨x2, hx2, h⟩ := bind_some h
  refine VW.tlE [(0, .ref 0 [] false (.ptr [.list (x2.1.map (D.int .u8)), i64 x2.2.1, .int .u64 x2.2.2.1])), (7, .ref 7 [] true (dI x2.2.2.2))] (hCK1) ?_ ?_
  · clear hx2
    refine hK1 _ ?_
    -- region 5
    refine VW.ws tau_ok Sound.none [some 19, some 6] [(0, .ref 0 [] false (.ptr [.list (x2.1.map (D.int .u8)), i64 x2.2.1, .int .u64 x2.2.2.1])), (6, .ref 6 [] true (dI x2.2.2.2))] rfl ?_ ?_
    · simp <;> simp [ieq, ilt, ile]
    cases h
    refine VW.ret ?_
    simp [PostW, resW, PostWC, resWC, Nx, Bk]
  refine VW.block ?_
  refine VW.loopF (s_l01List_L0 a1) (fun s2 => [(0, .ref 0 [] false (.ptr [.list (s2.1.map (D.int .u8)), i64 s2.2.1, .int .u64 s2.2.2.1])), (1, .val (i64 a1)), (2, .val (i64 s2.2.2.2.1)), (7, .ref 7 [] true (dI s2.2.2.2.2))]) hx2 (Fits.of rfl) ?_
  clear hx2
  intro s2 ox2 hx2o hx2b
  unfold s_l01List_L0 at hx2o
  refine VW.sqc fun K4 hK4 hCK4 => ?_
  -- region 2
  refine VW.ws tau_ok Sound.none [some 9, some 10] [(0, .ref 0 [] false (.ptr [.list (s2.1.map (D.int .u8)), i64 s2.2.1, .int .u64 s2.2.2.1])), (1, .val (i64 a1)), (2, .val (i64 s2.2.2.2.1)), (7, .ref 7 [] true (dI s2.2.2.2.2)), (10, .val (.bool (ilt 0 s2.2.2.2.1)))] rfl ?_ ?_
  · simp <;> simp [ieq, ilt, ile]
  refine VW.cond rfl (fun hb5 => ?_) (fun hb5 => ?_)
  rotate_left
  ·
    replace hb5 : ¬ (0 < s2.2.2.2.1) := by simpa [ieq, ilt, ile] using hb5
    rw [if_neg hb5] at hx2o
    refine VW.exit ?_
    cases hx2o
    have hq := hx2b _ rfl
    subst hq
    exact Fits.of rfl
  replace hb5 : 0 < s2.2.2.2.1 := by simpa [ieq, ilt, ile] using hb5
  rw [if_pos hb5] at hx2o
  refine VW.skip ?_
  refine hK4 _ ?_
  refine VW.sqc fun K6 hK6 hCK6 => ?_
  refine VW.block ?_
  -- region 4
  obtain ⟨v7, hv7, hx2o⟩ := bind_some hx2o
  obtain ⟨hc8, hx2o⟩ := chk_some hx2o
  have hc8s := hc8
  try simp at hc8s
  refine VW.wr tau_ok (Sound.none.ptrc 16 (s_l01Next_ok hv7)) [some 13, some 14, some 15, some 16, some 17, some 18, some 7] [(0, .ref 0 [] false (.ptr [.list (v7.2.1.map (D.int .u8)), i64 v7.2.2.1, .int .u64 v7.2.2.2])), (1, .val (i64 a1)), (2, .val (i64 s2.2.2.2.1)), (7, .ref 7 [] true (dI (s2.2.2.2.2 ++ [v7.1])))] rfl ?_ ?_
  · simp [hc8, hc8s] <;> simp [ieq, ilt, ile]
  refine hK6 _ ?_
  -- region 3
  refine VW.wr tau_ok Sound.none [some 11, some 12, some 2] [(0, .ref 0 [] false (.ptr [.list (v7.2.1.map (D.int .u8)), i64 v7.2.2.1, .int .u64 v7.2.2.2])), (1, .val (i64 a1)), (2, .val (i64 (w64 (s2.2.2.2.1 - 1)))), (7, .ref 7 [] true (dI (s2.2.2.2.2 ++ [v7.1])))] rfl ?_ ?_
  · simp <;> simp [ieq, ilt, ile]
  cases hx2o
  exact ⟨_, rfl, Fits.of rfl⟩

theorem s_l02Scale_ok {a0 : Int} {a1 : List Int} {a2 : Int} {r : List Int} (h : s_l02Scale a0 a1 a2 = some r) :
    VCall Try.prog 274 [i64 a0, dI a1, i64 a2] [.own true (dI r)] := by
  unfold s_l02Scale at h
  refine VCall.enter Try.call274 Try.func274 rfl 28 Try.ntmps274 (by simp) [.tmp 6] rfl ?_
  show VW _ _ _ (mk [(0, .val (i64 a0)), (1, .val (dI a1)), (2, .val (i64 a2))]) _
  -- region 0
  refine VW.ws tau_ok Sound.none [some 6] [(0, .val (i64 a0)), (1, .val (dI a1)), (2, .val (i64 a2))] rfl ?_ ?_
  · simp <;> simp [ieq, ilt, ile]
  -- region 1
  refine VW.ws tau_ok Sound.none [some 9, some 7] [(0, .val (i64 a0)), (1, .val (dI a1)), (2, .val (i64 a2)), (7, .ref 7 [] true (dI []))] rfl ?_ ?_
  · simp <;> simp [ieq, ilt, ile]
  refine VW.sqc fun K1 hK1 hCK1 => ?_
  -- region 2
  refine VW.ws tau_ok Sound.none [some 8] [(0, .val (i64 a0)), (1, .val (dI a1)), (2, .val (i64 a2)), (7, .ref 7 [] true (dI [])), (8, .val (i64 0))] rfl ?_ ?_
  · simp <;> simp [ieq, ilt, ile]
  obtain ⟨x2, hx2, h⟩ := bind_some h
  refine VW.tlE [(7, .ref 7 [] true (dI x2))] (hCK1) ?_ ?_
  · clear hx2
    refine hK1 _ ?_
    -- region 6
    refine VW.ws tau_ok Sound.none [some 27, some 6] [(6, .ref 6 [] true (dI x2))] rfl ?_ ?_
    · simp <;> simp [ieq, ilt, ile]
    cases h
    refine VW.ret ?_
    simp [Post, PostM, PostC, PostC2, Nx, Bk]
  refine VW.block ?_
  refine VW.loopF (s_l02Scale_L0 a0 a1 a2) (fun s2 => [(0, .val (i64 a0)), (1, .val (dI a1)), (2, .val (i64 a2)), (7, .ref 7 [] true (dI s2.1)), (8, .val (i64 s2.2))]) hx2 (Fits.of rfl) ?_
  clear hx2
  intro s2 ox2 hx2o hx2b
  unfold s_l02Scale_L0 at hx2o
  refine VW.sqc fun K4 hK4 hCK4 => ?_
  -- region 3
  refine VW.ws tau_ok Sound.none [some 10, some 11, some 12, some 13] [(0, .val (i64 a0)), (1, .val (dI a1)), (2, .val (i64 a2)), (7, .ref 7 [] true (dI s2.1)), (8, .val (i64 s2.2)), (13, .val (.bool (ilt s2.2 (a1.length : Int))))] rfl ?_ ?_
  · simp <;> simp [ieq, ilt, ile]
  refine VW.cond rfl (fun hb5 => ?_) (fun hb5 => ?_)
  rotate_left
  ·
    replace hb5 : ¬ (s2.2 < (a1.length : Int)) := by simpa [ieq, ilt, ile] using hb5
    rw [if_neg hb5] at hx2o
    refine VW.exit ?_
    cases hx2o
    have hq := hx2b _ rfl
    subst hq
    exact Fits.of rfl
  replace hb5 : s2.2 < (a1.length : Int) := by simpa [ieq, ilt, ile] using hb5
  rw [if_pos hb5] at hx2o
  refine VW.skip ?_
  refine hK4 _ ?_
  refine VW.sqc fun K6 hK6 hCK6 => ?_
  refine VW.block ?_
  -- region 5
  obtain ⟨v7, hv7, hx2o⟩ := bind_some hx2o
  obtain ⟨hv7a, hv7b, hv7c, hv7d⟩ := idx_some hv7
  obtain ⟨hc8, hx2o⟩ := chk_some hx2o
  have hc8s := hc8
  try simp at hc8s
  obtain ⟨hc9, hx2o⟩ := chk_some hx2o
  have hc9s := hc9
  try simp at hc9s
  refine VW.wr tau_ok Sound.none [some 16, some 17, some 18, some 19, some 20, some 21, some 22, some 23, some 24, some 25, some 26, some 7] [(0, .val (i64 a0)), (1, .val (dI a1)), (2, .val (i64 a2)), (7, .ref 7 [] true (dI (s2.1 ++ [(w64 (v7 * a2)).tmod a0]))), (8, .val (i64 s2.2))] rfl ?_ ?_
  · simp [hv7a, hv7b, hv7c, hv7d, hc8, hc8s, hc9, hc9s] <;> simp [ieq, ilt, ile]
  refine hK6 _ ?_
  -- region 4
  refine VW.wr tau_ok Sound.none [some 14, some 15, some 8] [(0, .val (i64 a0)), (1, .val (dI a1)), (2, .val (i64 a2)), (7, .ref 7 [] true (dI (s2.1 ++ [(w64 (v7 * a2)).tmod a0]))), (8, .val (i64 (w64 (s2.2 + 1))))] rfl ?_ ?_
  · simp <;> simp [ieq, ilt, ile]
  cases hx2o
  exact ⟨_, rfl, Fits.of rfl⟩

theorem s_l02Plus_ok {a0 : Int} {a1 : List Int} {a2 : List Int} {a3 : Int} {r : List Int} (h : s_l02Plus a0 a1 a2 a3 = some r) :
    VCall Try.prog 170 [i64 a0, dI a1, dI a2, i64 a3] [.own true (dI r)] := by
  unfold s_l02Plus at h
  refine VCall.enter Try.call170 Try.func170 rfl 35 Try.ntmps170 (by simp) [.tmp 8] rfl ?_
  show VW _ _ _ (mk [(0, .val (i64 a0)), (1, .val (dI a1)), (2, .val (dI a2)), (3, .val (i64 a3))]) _
  -- region 0
  refine VW.ws tau_ok Sound.none [some 8] [(0, .val (i64 a0)), (1, .val (dI a1)), (2, .val (dI a2)), (3, .val (i64 a3))] rfl ?_ ?_
  · simp <;> simp [ieq, ilt, ile]
  -- region 1
  refine VW.ws tau_ok Sound.none [some 11, some 9] [(0, .val (i64 a0)), (1, .val (dI a1)), (2, .val (dI a2)), (3, .val (i64 a3)), (9, .ref 9 [] true (dI []))] rfl ?_ ?_
  · simp <;> simp [ieq, ilt, ile]
  refine VW.sqc fun K1 hK1 hCK1 => ?_
  -- region 2
  refine VW.ws tau_ok Sound.none [some 10] [(0, .val (i64 a0)), (1, .val (dI a1)), (2, .val (dI a2)), (3, .val (i64 a3)), (9, .ref 9 [] true (dI [])), (10, .val (i64 0))] rfl ?_ ?_
  · simp <;> simp [ieq, ilt, ile]
  obtain ⟨x2, hx2, h⟩ := bind_some h
  refine VW.tlE [(9, .ref 9 [] true (dI x2))] (hCK1) ?_ ?_
  · clear hx2
    refine hK1 _ ?_
    -- region 6
    refine VW.ws tau_ok Sound.none [some 34, some 8] [(8, .ref 8 [] true (dI x2))] rfl ?_ ?_
    · simp <;> simp [ieq, ilt, ile]
    cases h
    refine VW.ret ?_
    simp [Post, PostM, PostC, PostC2, Nx, Bk]
  refine VW.block ?_
  refine VW.loopF (s_l02Plus_L0 a0 a1 a2 a3) (fun s2 => [(0, .val (i64 a0)), (1, .val (dI a1)), (2, .val (dI a2)), (3, .val (i64 a3)), (9, .ref 9 [] true (dI s2.1)), (10, .val (i64 s2.2))]) hx2 (Fits.of rfl) ?_
  clear hx2
  intro s2 ox2 hx2o hx2b
  unfold s_l02Plus_L0 at hx2o
  refine VW.sqc fun K4 hK4 hCK4 => ?_
  -- region 3
  refine VW.ws tau_ok Sound.none [some 12, some 13, some 14, some 15] [(0, .val (i64 a0)), (1, .val (dI a1)), (2, .val (dI a2)), (3, .val (i64 a3)), (9, .ref 9 [] true (dI s2.1)), (10, .val (i64 s2.2)), (15, .val (.bool (ilt s2.2 (a1.length : Int))))] rfl ?_ ?_
  · simp <;> simp [ieq, ilt, ile]
  refine VW.cond rfl (fun hb5 => ?_) (fun hb5 => ?_)
  rotate_left
  ·
    replace hb5 : ¬ (s2.2 < (a1.length : Int)) := by simpa [ieq, ilt, ile] using hb5
    rw [if_neg hb5] at hx2o
    refine VW.exit ?_
    cases hx2o
    have hq := hx2b _ rfl
    subst hq
    exact Fits.of rfl
  replace hb5 : s2.2 < (a1.length : Int) := by simpa [ieq, ilt, ile] using hb5
  rw [if_pos hb5] at hx2o
  refine VW.skip ?_
  refine hK4 _ ?_
  refine VW.sqc fun K6 hK6 hCK6 => ?_
  refine VW.block ?_
  -- region 5
  obtain ⟨v7, hv7, hx2o⟩ := bind_some hx2o
  obtain ⟨hv7a, hv7b, hv7c, hv7d⟩ := idx_some hv7
  obtain ⟨v8, hv8, hx2o⟩ := bind_some hx2o
  obtain ⟨hv8a, hv8b, hv8c, hv8d⟩ := idx_some hv8
  obtain ⟨hc9, hx2o⟩ := chk_some hx2o
  have hc9s := hc9
  try simp at hc9s
  obtain ⟨hc10, hx2o⟩ := chk_some hx2o
  have hc10s := hc10
  try simp at hc10s
  refine VW.wdr tau_ok Sound.none try_mixed [some 18, some 19, some 20, some 21, some 22, some 23, some 24, some 25, some 26, some 27, some 28, some 29, some 30, some 31, some 32, some 33, some 9] [(0, .val (i64 a0)), (1, .val (dI a1)), (2, .val (dI a2)), (3, .val (i64 a3)), (9, .ref 9 [] true (dI (s2.1 ++ [(w64 (v7 + (w64 (a3 * v8)))).tmod a0]))), (10, .val (i64 s2.2))] 15 rfl (by kernel_rfl) (by rfl) ?_ ?_
  · simp [hv7a, hv7b, hv7c, hv7d, hv8a, hv8b, hv8c, hv8d, hc9, hc9s, hc10, hc10s] <;> simp [ieq, ilt, ile]
  refine hK6 _ ?_
  -- region 4
  refine VW.wr tau_ok Sound.none [some 16, some 17, some 10] [(0, .val (i64 a0)), (1, .val (dI a1)), (2, .val (dI a2)), (3, .val (i64 a3)), (9, .ref 9 [] true (dI (s2.1 ++ [(w64 (v7 + (w64 (a3 * v8)))).tmod a0]))), (10, .val (i64 (w64 (s2.2 + 1))))] rfl ?_ ?_
  · simp <;> simp [ieq, ilt, ile]
  cases hx2o
  exact ⟨_, rfl, Fits.of rfl⟩

theorem s_l02Draw_ok {a0_0 : List Int} {a0_1 : Int} {a0_2 : Int} {a1 : Int} {a2 : Int} {a3 : Int} {r : (List (List Int)) × ((List Int) × Int × Int)} (h : s_l02Draw a0_0 a0_1 a0_2 a1 a2 a3 = some r) :
    VPtr Try.prog 250 [.list (a0_0.map (D.int .u8)), i64 a0_1, .int .u64 a0_2] [i64 a1, i64 a2, i64 a3] [.own true (dM r.1)] [.list (r.2.1.map (D.int .u8)), i64 r.2.2.1, .int .u64 r.2.2.2] := by
  unfold s_l02Draw at h
  refine VPtr.enter Try.call250 Try.func250 rfl 56 Try.ntmps250 (by simp) [.tmp 8] rfl ?_
  show VW _ _ _ (mk [(0, .ref 0 [] false (.ptr [.list (a0_0.map (D.int .u8)), i64 a0_1, .int .u64 a0_2])), (1, .val (i64 a1)), (2, .val (i64 a2)), (3, .val (i64 a3))]) _
  -- region 0
  refine VW.ws tau_ok Sound.none [some 8] [(0, .ref 0 [] false (.ptr [.list (a0_0.map (D.int .u8)), i64 a0_1, .int .u64 a0_2])), (1, .val (i64 a1)), (2, .val (i64 a2)), (3, .val (i64 a3))] rfl ?_ ?_
  · simp <;> simp [ieq, ilt, ile]
  -- region 1
  refine VW.ws tau_ok Sound.none [some 12, some 9] [(0, .ref 0 [] false (.ptr [.list (a0_0.map (D.int .u8)), i64 a0_1, .int .u64 a0_2])), (1, .val (i64 a1)), (2, .val (i64 a2)), (3, .val (i64 a3)), (9, .ref 9 [] true (dM []))] rfl ?_ ?_
  · simp <;> simp [ieq, ilt, ile]
  refine VW.sqc fun K1 hK1 hCK1 => ?_
  -- region 2
  refine VW.ws tau_ok Sound.none [some 10] [(0, .ref 0 [] false (.ptr [.list (a0_0.map (D.int .u8)), i64 a0_1, .int .u64 a0_2])), (1, .val (i64 a1)), (2, .val (i64 a2)), (3, .val (i64 a3)), (9, .ref 9 [] true (dM [])), (10, .val (i64 0))] rfl ?_ ?_
  · simp <;> simp [ieq, ilt, ile]
  obtain ⟨x2, hx2, h⟩ := bind_some h
  refine VW.tlE [(0, .ref 0 [] false (.ptr [.list (x2.1.map (D.int .u8)), i64 x2.2.1, .int .u64 x2.2.2.1])), (9, .ref 9 [] true (dM x2.2.2.2))] (hCK1) ?_ ?_
  · clear hx2
    refine hK1 _ ?_
    -- region 9
    refine VW.ws tau_ok Sound.none [some 55, some 8] [(0, .ref 0 [] false (.ptr [.list (x2.1.map (D.int .u8)), i64 x2.2.1, .int .u64 x2.2.2.1])), (8, .ref 8 [] true (dM x2.2.2.2))] rfl ?_ ?_
    · simp <;> simp [ieq, ilt, ile]
    cases h
    refine VW.ret ?_
    simp [PostW, resW, PostWC, resWC, Nx, Bk]
  refine VW.block ?_
  refine VW.loopF (s_l02Draw_L0 a1 a2 a3) (fun s2 => [(0, .ref 0 [] false (.ptr [.list (s2.1.map (D.int .u8)), i64 s2.2.1, .int .u64 s2.2.2.1])), (1, .val (i64 a1)), (2, .val (i64 a2)), (3, .val (i64 a3)), (9, .ref 9 [] true (dM s2.2.2.2.1)), (10, .val (i64 s2.2.2.2.2))]) hx2 (Fits.of rfl) ?_
  clear hx2
  intro s2 ox2 hx2o hx2b
  unfold s_l02Draw_L0 at hx2o
  refine VW.sqc fun K4 hK4 hCK4 => ?_
  -- region 3
  refine VW.ws tau_ok Sound.none [some 13, some 14, some 15] [(0, .ref 0 [] false (.ptr [.list (s2.1.map (D.int .u8)), i64 s2.2.1, .int .u64 s2.2.2.1])), (1, .val (i64 a1)), (2, .val (i64 a2)), (3, .val (i64 a3)), (9, .ref 9 [] true (dM s2.2.2.2.1)), (10, .val (i64 s2.2.2.2.2)), (15, .val (.bool (ilt s2.2.2.2.2 a2)))] rfl ?_ ?_
  · simp <;> simp [ieq, ilt, ile]
  refine VW.cond rfl (fun hb5 => ?_) (fun hb5 => ?_)
  rotate_left
  ·
    replace hb5 : ¬ (s2.2.2.2.2 < a2) := by simpa [ieq, ilt, ile] using hb5
    rw [if_neg hb5] at hx2o
    refine VW.exit ?_
    cases hx2o
    have hq := hx2b _ rfl
    subst hq
    exact Fits.of rfl
  replace hb5 : s2.2.2.2.2 < a2 := by simpa [ieq, ilt, ile] using hb5
  rw [if_pos hb5] at hx2o
  refine VW.skip ?_
  refine hK4 _ ?_
  refine VW.sqc fun K6 hK6 hCK6 => ?_
  refine VW.block ?_
  -- region 5
  obtain ⟨v7, hv7, hx2o⟩ := bind_some hx2o
  refine VW.ws tau_ok (Sound.none.ptrc 21 (s_l01List_ok hv7)) [some 18, some 19, some 20, some 21, some 11] [(0, .ref 0 [] false (.ptr [.list (v7.2.1.map (D.int .u8)), i64 v7.2.2.1, .int .u64 v7.2.2.2])), (1, .val (i64 a1)), (2, .val (i64 a2)), (3, .val (i64 a3)), (9, .ref 9 [] true (dM s2.2.2.2.1)), (10, .val (i64 s2.2.2.2.2)), (11, .ref 11 [] true (dI v7.1))] rfl ?_ ?_
  · simp <;> simp [ieq, ilt, ile]
  refine VW.sqc fun K8 hK8 hCK8 => ?_
  -- region 6
  obtain ⟨x11, hx11, hx2o⟩ := bind_some hx2o
  refine VW.cut [(0, .ref 0 [] false (.ptr [.list (x11.1.map (D.int .u8)), i64 x11.2.1, .int .u64 x11.2.2.1])), (1, .val (i64 a1)), (2, .val (i64 a2)), (3, .val (i64 a3)), (9, .ref 9 [] true (dM s2.2.2.2.1)), (10, .val (i64 s2.2.2.2.2)), (11, .ref 11 [] true (dI v7.1)), (28, .val (.bool x11.2.2.2))] ?_ fun hy => ?_
  rotate_left
  · clear hx2o
    by_cases hp9 : 0 < s2.2.2.2.2
    · rw [if_pos hp9] at hx11
      have hp9b : ilt 0 s2.2.2.2.2 = true := by simpa [ieq, ilt, ile] using hp9
      have hp9s := hp9b
      try simp at hp9s
      obtain ⟨v10, hv10, hx11⟩ := bind_some hx11
      cases hx11
      refine VW.ws tau_ok (Sound.none.ptrc 26 (s_l01Next_ok hv10)) [some 22, some 23, some 24, some 25, some 26, some 27, some 28] _ rfl ?_ hy
      simp [hp9b, hp9s] <;> simp [ieq, ilt, ile]
    · rw [if_neg hp9] at hx11
      have hp9b : ilt 0 s2.2.2.2.2 = false := by simpa [ieq, ilt, ile] using hp9
      have hp9s := hp9b
      try simp at hp9s
      cases hx11
      refine VW.ws tau_ok Sound.none [some 22, some 23, some 24, some 25, some 26, some 27, some 28] _ rfl ?_ hy
      simp [hp9b, hp9s] <;> simp [ieq, ilt, ile]
  obtain ⟨x12, hx12, hx2o⟩ := bind_some hx2o
  refine VW.tlE [(0, .ref 0 [] false (.ptr [.list (x12.1.map (D.int .u8)), i64 x12.2.1, .int .u64 x12.2.2.1])), (1, .val (i64 a1)), (2, .val (i64 a2)), (3, .val (i64 a3)), (9, .ref 9 [] true (dM s2.2.2.2.1)), (10, .val (i64 s2.2.2.2.2)), (11, .ref 11 [] true (dI x12.2.2.2))] (hCK8) ?_ ?_
  · clear hx12
    refine hK8 _ ?_
    -- region 8
    obtain ⟨hc23, hx2o⟩ := chk_some hx2o
    have hc23s := hc23
    try simp at hc23s
    refine VW.wr tau_ok Sound.none [some 51, some 52, some 53, some 54, some 9] [(0, .ref 0 [] false (.ptr [.list (x12.1.map (D.int .u8)), i64 x12.2.1, .int .u64 x12.2.2.1])), (1, .val (i64 a1)), (2, .val (i64 a2)), (3, .val (i64 a3)), (9, .ref 9 [] true (dM (s2.2.2.2.1 ++ [x12.2.2.2]))), (10, .val (i64 s2.2.2.2.2))] rfl ?_ ?_
    · simp [hc23, hc23s] <;> simp [ieq, ilt, ile]
    refine hK6 _ ?_
    -- region 4
    refine VW.wr tau_ok Sound.none [some 16, some 17, some 10] [(0, .ref 0 [] false (.ptr [.list (x12.1.map (D.int .u8)), i64 x12.2.1, .int .u64 x12.2.2.1])), (1, .val (i64 a1)), (2, .val (i64 a2)), (3, .val (i64 a3)), (9, .ref 9 [] true (dM (s2.2.2.2.1 ++ [x12.2.2.2]))), (10, .val (i64 (w64 (s2.2.2.2.2 + 1))))] rfl ?_ ?_
    · simp <;> simp [ieq, ilt, ile]
    cases hx2o
    exact ⟨_, rfl, Fits.of rfl⟩
  refine VW.cond rfl (fun hb14 => ?_) (fun hb14 => ?_)
  rotate_left
  ·
    replace hb14 : ¬ (x11.2.2.2 = true) := by simpa [ieq, ilt, ile] using hb14
    rw [if_neg hb14] at hx12
    refine VW.skip ?_
    cases hx12
    exact Fits.of rfl
  replace hb14 : x11.2.2.2 = true := by simpa [ieq, ilt, ile] using hb14
  rw [if_pos hb14] at hx12
  -- region 7
  obtain ⟨v15, hv15, hx12⟩ := bind_some hx12
  obtain ⟨v16, hv16, hx12⟩ := bind_some hx12
  obtain ⟨hv16a, hv16b, hv16c, hv16d⟩ := idx_some hv16
  obtain ⟨v17, hv17, hx12⟩ := bind_some hx12
  obtain ⟨v18, hv18, hx12⟩ := bind_some hx12
  obtain ⟨v19, hv19, hx12⟩ := bind_some hx12
  obtain ⟨v20, hv20, hx12⟩ := bind_some hx12
  obtain ⟨hv20a, hv20b, hv20c, hv20d⟩ := idx_some hv20
  obtain ⟨v21, hv21, hx12⟩ := bind_some hx12
  obtain ⟨v22, hv22, hx12⟩ := bind_some hx12
  refine VW.wxr tau_ok ((((((Sound.none.ptrc 34 (s_l01Next_ok hv15)).ptrc 39 (s_l01Next_ok hv17)).add 40 (s_l02Scale_ok hv18) rfl).ptrc 44 (s_l01Next_ok hv19)).ptrc 49 (s_l01Next_ok hv21)).add 50 (s_l02Plus_ok hv22) rfl) try_mixed [some 29, some 30, some 31, some 32, some 33, some 34, some 35, some 36, some 37, some 38, some 39, some 40, some 41, some 42, some 43, some 44, some 45, some 46, some 47, some 48, some 49, some 50, some 11] [(0, .ref 0 [] false (.ptr [.list (v21.2.1.map (D.int .u8)), i64 v21.2.2.1, .int .u64 v21.2.2.2])), (1, .val (i64 a1)), (2, .val (i64 a2)), (3, .val (i64 a3)), (9, .ref 9 [] true (dM s2.2.2.2.1)), (10, .val (i64 s2.2.2.2.2)), (11, .ref 11 [] true (dI v22))] [0, 0, 0, 0, 0, 3, 1, 1, 0, 0, 2, 3, 0, 0, 0, 3, 1, 1, 0, 0, 2, 3, 3] [[1], [1], [9], [0], [10], [32, 33], [31, 34], [35], [0], [1], [37, 38], [30, 36, 39], [9], [0], [10], [42, 43], [41, 44], [45], [0], [1], [47, 48], [29, 40, 46, 49], [50]] [0] rfl rfl (by kernel_rfl) (by rfl) ?_ ?_
  · simp [hv16a, hv16b, hv16c, hv16d, hv20a, hv20b, hv20c, hv20d] <;> simp [ieq, ilt, ile]
  cases hx12
  exact Fits.of rfl

theorem s_l02Spoil_ok {a0_0 : List Int} {a0_1 : Int} {a0_2 : Int} {a1 : Int} {a2 : Int} {r : (Int × (List (List Int))) × ((List Int) × Int × Int)} (h : s_l02Spoil a0_0 a0_1 a0_2 a1 a2 = some r) :
    VPtr Try.prog 212 [.list (a0_0.map (D.int .u8)), i64 a0_1, .int .u64 a0_2] [i64 a1, i64 a2] [.tup [i64 r.1.1, dM r.1.2]] [.list (r.2.1.map (D.int .u8)), i64 r.2.2.1, .int .u64 r.2.2.2] := by
  unfold s_l02Spoil at h
  refine VPtr.enter Try.call212 Try.func212 rfl 59 Try.ntmps212 (by simp) [.tmp 6, .tmp 7] rfl ?_
  show VW _ _ _ (mk [(0, .ref 0 [] false (.ptr [.list (a0_0.map (D.int .u8)), i64 a0_1, .int .u64 a0_2])), (1, .val (i64 a1)), (2, .val (i64 a2))]) _
  -- region 0
  refine VW.ws tau_ok Sound.none [some 6, some 7] [(0, .ref 0 [] false (.ptr [.list (a0_0.map (D.int .u8)), i64 a0_1, .int .u64 a0_2])), (1, .val (i64 a1)), (2, .val (i64 a2))] rfl ?_ ?_
  · simp <;> simp [ieq, ilt, ile]
  -- region 1
  obtain ⟨v1, hv1, h⟩ := bind_some h
  refine VW.ws tau_ok (Sound.none.ptrc 11 (s_l01Bad_ok hv1)) [some 10, some 11, some 8] [(0, .ref 0 [] false (.ptr [.list (v1.2.1.map (D.int .u8)), i64 v1.2.2.1, .int .u64 v1.2.2.2])), (1, .val (i64 a1)), (2, .val (i64 a2)), (8, .val (i64 v1.1))] rfl ?_ ?_
  · simp <;> simp [ieq, ilt, ile]
  refine VW.sqc fun K2 hK2 hCK2 => ?_
  -- region 2
  obtain ⟨v3, hv3, h⟩ := bind_some h
  refine VW.ws tau_ok (Sound.none.add 13 (s_l01Prime_ok hv3) rfl) [some 12, some 13, some 14] [(0, .ref 0 [] false (.ptr [.list (v1.2.1.map (D.int .u8)), i64 v1.2.2.1, .int .u64 v1.2.2.2])), (1, .val (i64 a1)), (2, .val (i64 a2)), (8, .val (i64 v1.1)), (14, .val (.bool (!v3)))] rfl ?_ ?_
  · simp <;> simp [ieq, ilt, ile]
  refine VW.cond rfl (fun hb4 => ?_) (fun hb4 => ?_)
  ·
    replace hb4 : v3 = false := by simpa [ieq, ilt, ile] using hb4
    rw [if_pos hb4] at h
    -- region 3
    refine VW.ws tau_ok Sound.none [some 15, some 16, some 17, some 6, some 7] [(0, .ref 0 [] false (.ptr [.list (v1.2.1.map (D.int .u8)), i64 v1.2.2.1, .int .u64 v1.2.2.2])), (6, .val (i64 v1.1)), (7, .ref 7 [] true (dM [[1]]))] rfl ?_ ?_
    · simp <;> simp [ieq, ilt, ile]
    have hr0 := Option.some.inj h
    subst hr0
    refine VW.fits (fl' := [(0, .ref 0 [] false (.ptr [.list (v1.2.1.map (D.int .u8)), i64 v1.2.2.1, .int .u64 v1.2.2.2])), (6, .val (i64 v1.1)), (7, .val (dM [[1]]))]) (Fits.freeze (s := 7) rfl (by simp) (Fits.of rfl)) ?_
    refine VW.ret ?_
    exact ⟨_, rfl, _, _, rfl, rfl, rfl⟩
  replace hb4 : ¬ (v3 = false) := by simpa [ieq, ilt, ile] using hb4
  rw [if_neg hb4] at h
  refine VW.skip ?_
  refine hK2 _ ?_
  -- region 4
  obtain ⟨v5, hv5, h⟩ := bind_some h
  refine VW.ws tau_ok (Sound.none.ptrc 22 (s_l02Draw_ok hv5)) [some 18, some 19, some 20, some 21, some 22, some 9] [(0, .ref 0 [] false (.ptr [.list (v5.2.1.map (D.int .u8)), i64 v5.2.2.1, .int .u64 v5.2.2.2])), (8, .val (i64 v1.1)), (9, .ref 9 [] true (dM v5.1))] rfl ?_ ?_
  · simp <;> simp [ieq, ilt, ile]
  refine VW.sqc fun K6 hK6 hCK6 => ?_
  -- region 5
  obtain ⟨v7, hv7, h⟩ := bind_some h
  refine VW.ws tau_ok (Sound.none.ptrc 24 (s_l01Next_ok hv7)) [some 23, some 24] [(0, .ref 0 [] false (.ptr [.list (v7.2.1.map (D.int .u8)), i64 v7.2.2.1, .int .u64 v7.2.2.2])), (8, .val (i64 v1.1)), (9, .ref 9 [] true (dM v5.1)), (24, .val (i64 v7.1))] rfl ?_ ?_
  · simp <;> simp [ieq, ilt, ile]
  obtain ⟨x8, hx8, h⟩ := bind_some h
  refine VW.tlE [(0, .ref 0 [] false (.ptr [.list (x8.1.map (D.int .u8)), i64 x8.2.1, .int .u64 x8.2.2.1])), (8, .val (i64 v1.1)), (9, .ref 9 [] true (dM x8.2.2.2))] (hCK6) ?_ ?_
  · clear hx8
    refine hK6 _ ?_
    -- region 16
    refine VW.ws tau_ok Sound.none [some 57, some 58, some 6, some 7] [(0, .ref 0 [] false (.ptr [.list (x8.1.map (D.int .u8)), i64 x8.2.1, .int .u64 x8.2.2.1])), (6, .val (i64 v1.1)), (7, .ref 7 [] true (dM x8.2.2.2))] rfl ?_ ?_
    · simp <;> simp [ieq, ilt, ile]
    have hr0 := Option.some.inj h
    subst hr0
    refine VW.fits (fl' := [(0, .ref 0 [] false (.ptr [.list (x8.1.map (D.int .u8)), i64 x8.2.1, .int .u64 x8.2.2.1])), (6, .val (i64 v1.1)), (7, .val (dM x8.2.2.2))]) (Fits.freeze (s := 7) rfl (by simp) (Fits.of rfl)) ?_
    refine VW.ret ?_
    exact ⟨_, rfl, _, _, rfl, rfl, rfl⟩
  refine VW.block ?_
  -- region 6
  refine VW.ws tau_ok Sound.none [some 26, some 25] [(0, .ref 0 [] false (.ptr [.list (v7.2.1.map (D.int .u8)), i64 v7.2.2.1, .int .u64 v7.2.2.2])), (8, .val (i64 v1.1)), (9, .ref 9 [] true (dM v5.1)), (24, .val (i64 v7.1)), (25, .val (.bool (ieq v7.1 0)))] rfl ?_ ?_
  · simp <;> simp [ieq, ilt, ile]
  refine VW.cond rfl (fun hb10 => ?_) (fun hb10 => ?_)
  ·
    replace hb10 : v7.1 = 0 := by simpa [ieq, ilt, ile] using hb10
    rw [if_pos hb10] at hx8
    -- region 7
    obtain ⟨v11, hv11, hx8⟩ := bind_some hx8
    obtain ⟨hv11a, hv11b, hv11c, hv11d⟩ := idx_some hv11
    replace hv11b : 0 < v5.1.length := hv11b
    replace hv11c : v5.1[0]? = some v11 := hv11c
    replace hv11d : ∀ h, v5.1[0]'h = v11 := hv11d
    obtain ⟨v12, hv12, hx8⟩ := bind_some hx8
    obtain ⟨v13, hv13, hx8⟩ := bind_some hx8
    obtain ⟨hv13a, hv13b, hv13c, hv13d⟩ := idx_some hv13
    replace hv13b : 0 < v11.length := hv13b
    replace hv13c : v11[0]? = some v13 := hv13c
    replace hv13d : ∀ h, v11[0]'h = v13 := hv13d
    refine VW.wxr tau_ok (Sound.none.ptrc 33 (s_l01Pick_ok hv12)) try_mixed [some 27, some 28, some 29, some 30, some 31, some 32, some 33, some 34, none] [(0, .ref 0 [] false (.ptr [.list (v12.2.1.map (D.int .u8)), i64 v12.2.2.1, .int .u64 v12.2.2.2])), (8, .val (i64 v1.1)), (9, .ref 9 [] true (dM (v5.1.set 0 (v11.set 0 v12.1))))] [0, 1, 1, 0, 0, 0, 2, 0, 3] [[9], [27], [28], [0], [8], [31], [30, 32], [29], [34, 33]] [0, 32] rfl rfl (by kernel_rfl) (by rfl) ?_ ?_
    · simp [hv11a, hv11b, hv11c, hv11d, hv13a, hv13b, hv13c, hv13d] <;> simp [ieq, ilt, ile]
    cases hx8
    exact Fits.of rfl
  replace hb10 : ¬ (v7.1 = 0) := by simpa [ieq, ilt, ile] using hb10
  rw [if_neg hb10] at hx8
  -- region 8
  refine VW.ws tau_ok Sound.none [some 36, some 35] [(0, .ref 0 [] false (.ptr [.list (v7.2.1.map (D.int .u8)), i64 v7.2.2.1, .int .u64 v7.2.2.2])), (8, .val (i64 v1.1)), (9, .ref 9 [] true (dM v5.1)), (24, .val (i64 v7.1)), (35, .val (.bool (ieq v7.1 1)))] rfl ?_ ?_
  · simp <;> simp [ieq, ilt, ile]
  refine VW.cond rfl (fun hb14 => ?_) (fun hb14 => ?_)
  ·
    replace hb14 : v7.1 = 1 := by simpa [ieq, ilt, ile] using hb14
    rw [if_pos hb14] at hx8
    -- region 9
    obtain ⟨v15, hv15, hx8⟩ := bind_some hx8
    obtain ⟨hv15a, hv15b, hv15c, hv15d⟩ := idx_some hv15
    replace hv15b : 0 < v5.1.length := hv15b
    replace hv15c : v5.1[0]? = some v15 := hv15c
    replace hv15d : ∀ h, v5.1[0]'h = v15 := hv15d
    obtain ⟨hc16, hx8⟩ := chk_some hx8
    have hc16s := hc16
    try simp at hc16s
    refine VW.wr tau_ok Sound.none [some 37, some 38, some 39, some 40, some 41, some 42, some 43, none] [(0, .ref 0 [] false (.ptr [.list (v7.2.1.map (D.int .u8)), i64 v7.2.2.1, .int .u64 v7.2.2.2])), (8, .val (i64 v1.1)), (9, .ref 9 [] true (dM (v5.1.set 0 (v15 ++ [0]))))] rfl ?_ ?_
    · simp [hv15a, hv15b, hv15c, hv15d, hc16, hc16s] <;> simp [ieq, ilt, ile]
    cases hx8
    exact Fits.of rfl
  replace hb14 : ¬ (v7.1 = 1) := by simpa [ieq, ilt, ile] using hb14
  rw [if_neg hb14] at hx8
  -- region 10
  refine VW.ws tau_ok Sound.none [some 45, some 44] [(0, .ref 0 [] false (.ptr [.list (v7.2.1.map (D.int .u8)), i64 v7.2.2.1, .int .u64 v7.2.2.2])), (8, .val (i64 v1.1)), (9, .ref 9 [] true (dM v5.1)), (24, .val (i64 v7.1)), (44, .val (.bool (ieq v7.1 2)))] rfl ?_ ?_
  · simp <;> simp [ieq, ilt, ile]
  refine VW.cond rfl (fun hb17 => ?_) (fun hb17 => ?_)
  ·
    replace hb17 : v7.1 = 2 := by simpa [ieq, ilt, ile] using hb17
    rw [if_pos hb17] at hx8
    -- region 11
    refine VW.wr tau_ok Sound.none [some 46, some 9] [(0, .ref 0 [] false (.ptr [.list (v7.2.1.map (D.int .u8)), i64 v7.2.2.1, .int .u64 v7.2.2.2])), (8, .val (i64 v1.1)), (9, .ref 9 [] true (dM []))] rfl ?_ ?_
    · simp <;> simp [ieq, ilt, ile]
    cases hx8
    exact Fits.of rfl
  replace hb17 : ¬ (v7.1 = 2) := by simpa [ieq, ilt, ile] using hb17
  rw [if_neg hb17] at hx8
  -- region 12
  refine VW.ws tau_ok Sound.none [some 48, some 47] [(0, .ref 0 [] false (.ptr [.list (v7.2.1.map (D.int .u8)), i64 v7.2.2.1, .int .u64 v7.2.2.2])), (8, .val (i64 v1.1)), (9, .ref 9 [] true (dM v5.1)), (24, .val (i64 v7.1)), (47, .val (.bool (ieq v7.1 3)))] rfl ?_ ?_
  · simp <;> simp [ieq, ilt, ile]
  refine VW.cond rfl (fun hb18 => ?_) (fun hb18 => ?_)
  ·
    replace hb18 : v7.1 = 3 := by simpa [ieq, ilt, ile] using hb18
    rw [if_pos hb18] at hx8
    -- region 13
    obtain ⟨v19, hv19, hx8⟩ := bind_some hx8
    refine VW.wr tau_ok (Sound.none.ptrc 51 (s_l02Draw_ok hv19)) [some 49, some 50, some 51, some 9] [(0, .ref 0 [] false (.ptr [.list (v19.2.1.map (D.int .u8)), i64 v19.2.2.1, .int .u64 v19.2.2.2])), (8, .val (i64 v1.1)), (9, .ref 9 [] true (dM v19.1))] rfl ?_ ?_
    · simp <;> simp [ieq, ilt, ile]
    cases hx8
    exact Fits.of rfl
  replace hb18 : ¬ (v7.1 = 3) := by simpa [ieq, ilt, ile] using hb18
  rw [if_neg hb18] at hx8
  -- region 14
  refine VW.ws tau_ok Sound.none [some 53, some 52] [(0, .ref 0 [] false (.ptr [.list (v7.2.1.map (D.int .u8)), i64 v7.2.2.1, .int .u64 v7.2.2.2])), (8, .val (i64 v1.1)), (9, .ref 9 [] true (dM v5.1)), (52, .val (.bool (ieq v7.1 4)))] rfl ?_ ?_
  · simp <;> simp [ieq, ilt, ile]
  refine VW.cond rfl (fun hb20 => ?_) (fun hb20 => ?_)
  rotate_left
  ·
    replace hb20 : ¬ (v7.1 = 4) := by simpa [ieq, ilt, ile] using hb20
    rw [if_neg hb20] at hx8
    refine VW.skip ?_
    cases hx8
    exact Fits.of rfl
  replace hb20 : v7.1 = 4 := by simpa [ieq, ilt, ile] using hb20
  rw [if_pos hb20] at hx8
  -- region 15
  obtain ⟨v21, hv21, hx8⟩ := bind_some hx8
  refine VW.wr tau_ok (Sound.none.ptrc 56 (s_l02Draw_ok hv21)) [some 54, some 55, some 56, some 9] [(0, .ref 0 [] false (.ptr [.list (v21.2.1.map (D.int .u8)), i64 v21.2.2.1, .int .u64 v21.2.2.2])), (8, .val (i64 v1.1)), (9, .ref 9 [] true (dM v21.1))] rfl ?_ ?_
  · simp <;> simp [ieq, ilt, ile]
  cases hx8
  exact Fits.of rfl

theorem s_l02DrawSquare_ok {a0 : List Int} {r : Int × (List (List Int))} (h : s_l02DrawSquare a0 = some r) :
    VCall Try.prog 147 [.list (a0.map (D.int .u8))] [.tup [i64 r.1, dM r.2]] := by
  unfold s_l02DrawSquare at h
  refine VCall.enter Try.call147 Try.func147 rfl 28 Try.ntmps147 (by simp) [.tmp 2, .tmp 3] rfl ?_
  show VW _ _ _ (mk [(0, .val (.list (a0.map (D.int .u8))))]) _
  -- region 0
  refine VW.ws tau_ok Sound.none [some 2, some 3] [(0, .val (.list (a0.map (D.int .u8))))] rfl ?_ ?_
  · simp <;> simp [ieq, ilt, ile]
  -- region 1
  obtain ⟨v1, hv1, h⟩ := bind_some h
  refine VW.ws tau_ok (Sound.none.add 10 (s_l01From_ok hv1) rfl) [some 9, some 10, some 4] [(4, .ref 4 [] false (.ptr [.list (v1.1.map (D.int .u8)), i64 v1.2.1, .int .u64 v1.2.2]))] rfl ?_ ?_
  · simp <;> simp [ieq, ilt, ile]
  -- region 2
  obtain ⟨v2, hv2, h⟩ := bind_some h
  refine VW.ws tau_ok (Sound.none.ptrc 12 (s_l02Size_ok hv2)) [some 11, some 12, some 5] [(4, .ref 4 [] false (.ptr [.list (v2.2.1.map (D.int .u8)), i64 v2.2.2.1, .int .u64 v2.2.2.2])), (5, .val (i64 v2.1))] rfl ?_ ?_
  · simp <;> simp [ieq, ilt, ile]
  -- region 3
  refine VW.ws tau_ok Sound.none [some 13, some 6] [(4, .ref 4 [] false (.ptr [.list (v2.2.1.map (D.int .u8)), i64 v2.2.2.1, .int .u64 v2.2.2.2])), (5, .val (i64 v2.1)), (6, .val (i64 v2.1))] rfl ?_ ?_
  · simp <;> simp [ieq, ilt, ile]
  refine VW.sqc fun K3 hK3 hCK3 => ?_
  -- region 4
  obtain ⟨v4, hv4, h⟩ := bind_some h
  refine VW.ws tau_ok (Sound.none.ptrc 15 (s_l01Next_ok hv4)) [some 14, some 15, some 16] [(4, .ref 4 [] false (.ptr [.list (v4.2.1.map (D.int .u8)), i64 v4.2.2.1, .int .u64 v4.2.2.2])), (5, .val (i64 v2.1)), (6, .val (i64 v2.1)), (16, .val (.bool (ieq v4.1 0)))] rfl ?_ ?_
  · simp <;> simp [ieq, ilt, ile]
  obtain ⟨x5, hx5, h⟩ := bind_some h
  refine VW.tlE [(4, .ref 4 [] false (.ptr [.list (v4.2.1.map (D.int .u8)), i64 v4.2.2.1, .int .u64 v4.2.2.2])), (5, .val (i64 v2.1)), (6, .val (i64 x5))] (hCK3) ?_ ?_
  · clear hx5
    refine hK3 _ ?_
    -- region 6
    obtain ⟨v8, hv8, h⟩ := bind_some h
    refine VW.ws tau_ok (Sound.none.ptrc 23 (s_l02Spoil_ok hv8)) [some 20, some 21, some 22, some 23, some 19, some 24, some 25, some 7, some 8] [(7, .val (i64 v8.1.1)), (8, .val (dM v8.1.2))] rfl ?_ ?_
    · simp <;> simp [ieq, ilt, ile]
    -- region 7
    refine VW.ws tau_ok Sound.none [some 26, some 27, some 2, some 3] [(2, .val (i64 v8.1.1)), (3, .val (dM v8.1.2))] rfl ?_ ?_
    · simp <;> simp [ieq, ilt, ile]
    cases h
    refine VW.ret ?_
    exact ⟨_, _, rfl, rfl, rfl⟩
  refine VW.cond rfl (fun hb7 => ?_) (fun hb7 => ?_)
  rotate_left
  ·
    replace hb7 : ¬ (v4.1 = 0) := by simpa [ieq, ilt, ile] using hb7
    rw [if_neg hb7] at hx5
    refine VW.skip ?_
    cases hx5
    exact Fits.of rfl
  replace hb7 : v4.1 = 0 := by simpa [ieq, ilt, ile] using hb7
  rw [if_pos hb7] at hx5
  -- region 5
  refine VW.wr tau_ok Sound.none [some 17, some 18, some 6] [(4, .ref 4 [] false (.ptr [.list (v4.2.1.map (D.int .u8)), i64 v4.2.2.1, .int .u64 v4.2.2.2])), (5, .val (i64 v2.1)), (6, .val (i64 (w64 (v2.1 + 1))))] rfl ?_ ?_
  · simp <;> simp [ieq, ilt, ile]
  cases hx5
  exact Fits.of rfl

theorem s_DrawCharacteristicPolynomial_ok {a0 : List Int} {r : Int × (List (List Int))} (h : s_DrawCharacteristicPolynomial a0 = some r) :
    VCall Try.prog 71 [.list (a0.map (D.int .u8))] [.tup [i64 r.1, dM r.2]] := by
  unfold s_DrawCharacteristicPolynomial at h
  refine VCall.enter Try.call71 Try.func71 rfl 13 Try.ntmps71 (by simp) [.tmp 2, .tmp 3] rfl ?_
  show VW _ _ _ (mk [(0, .val (.list (a0.map (D.int .u8))))]) _
  -- region 0
  refine VW.ws tau_ok Sound.none [some 2, some 3] [(0, .val (.list (a0.map (D.int .u8))))] rfl ?_ ?_
  · simp <;> simp [ieq, ilt, ile]
  -- region 1
  obtain ⟨v1, hv1, h⟩ := bind_some h
  refine VW.ws tau_ok (Sound.none.add 8 (s_l02DrawSquare_ok hv1) rfl) [some 7, some 8, some 6, some 9, some 10, some 4, some 5] [(4, .val (i64 v1.1)), (5, .val (dM v1.2))] rfl ?_ ?_
  · simp <;> simp [ieq, ilt, ile]
  -- region 2
  refine VW.ws tau_ok Sound.none [some 11, some 12, some 2, some 3] [(2, .val (i64 v1.1)), (3, .val (dM v1.2))] rfl ?_ ?_
  · simp <;> simp [ieq, ilt, ile]
  cases h
  refine VW.ret ?_
  exact ⟨_, _, rfl, rfl, rfl⟩

theorem i_IsPrime_ok {a0 : Int} {r : Bool} (h : i_IsPrime a0 = some r) :
    VCall Try.prog 192 [i64 a0] [.sc (.bool r)] := by
  unfold i_IsPrime at h
  refine VCall.enter Try.call192 Try.func192 rfl 10 Try.ntmps192 (by simp) [.tmp 2] rfl ?_
  show VW _ _ _ (mk [(0, .val (i64 a0))]) _
  -- region 0
  refine VW.ws tau_ok Sound.none [some 2] [(0, .val (i64 a0))] rfl ?_ ?_
  · simp <;> simp [ieq, ilt, ile]
  refine VW.sqc fun K1 hK1 hCK1 => ?_
  -- region 1
  refine VW.ws tau_ok Sound.none [some 3] [(3, .val (i64 a0))] rfl ?_ ?_
  · simp <;> simp [ieq, ilt, ile]
  refine VW.block ?_
  refine VW.sqc fun K2 hK2 hCK2 => ?_
  -- region 2
  refine VW.ws tau_ok Sound.none [some 5, some 4] [(3, .val (i64 a0)), (4, .val (.bool (ieq a0 3)))] rfl ?_ ?_
  · simp <;> simp [ieq, ilt, ile]
  obtain ⟨x3, hx3, h⟩ := bind_some h
  refine VW.tlE [(4, .val (.bool x3))] (hCK2) ?_ ?_
  · clear hx3
    refine hK2 _ ?_
    refine VW.cond rfl (fun hb9 => ?_) (fun hb9 => ?_)
    ·
      replace hb9 : x3 = true := by simpa [ieq, ilt, ile] using hb9
      rw [if_pos hb9] at h
      -- region 7
      refine VW.ws tau_ok Sound.none [some 2] [(2, .val (.bool true))] rfl ?_ ?_
      · simp <;> simp [ieq, ilt, ile]
      cases h
      refine VW.ret ?_
      simp [Post, PostM, PostC, PostC2, Nx, Bk]
    replace hb9 : ¬ (x3 = true) := by simpa [ieq, ilt, ile] using hb9
    rw [if_neg hb9] at h
    refine VW.skip ?_
    refine hK1 _ ?_
    -- region 8
    refine VW.ws tau_ok Sound.none [some 2] [(2, .val (.bool false))] rfl ?_ ?_
    · simp <;> simp [ieq, ilt, ile]
    cases h
    refine VW.ret ?_
    simp [Post, PostM, PostC, PostC2, Nx, Bk]
  refine VW.cond rfl (fun hb5 => ?_) (fun hb5 => ?_)
  ·
    replace hb5 : a0 = 3 := by simpa [ieq, ilt, ile] using hb5
    rw [if_pos hb5] at hx3
    refine VW.skip ?_
    cases hx3
    exact Fits.of rfl
  replace hb5 : ¬ (a0 = 3) := by simpa [ieq, ilt, ile] using hb5
  rw [if_neg hb5] at hx3
  -- region 3
  refine VW.ws tau_ok Sound.none [some 6, some 4] [(3, .val (i64 a0)), (4, .val (.bool (ieq a0 5)))] rfl ?_ ?_
  · simp <;> simp [ieq, ilt, ile]
  refine VW.cond rfl (fun hb6 => ?_) (fun hb6 => ?_)
  ·
    replace hb6 : a0 = 5 := by simpa [ieq, ilt, ile] using hb6
    rw [if_pos hb6] at hx3
    refine VW.skip ?_
    cases hx3
    exact Fits.of rfl
  replace hb6 : ¬ (a0 = 5) := by simpa [ieq, ilt, ile] using hb6
  rw [if_neg hb6] at hx3
  -- region 4
  refine VW.ws tau_ok Sound.none [some 7, some 4] [(3, .val (i64 a0)), (4, .val (.bool (ieq a0 7)))] rfl ?_ ?_
  · simp <;> simp [ieq, ilt, ile]
  refine VW.cond rfl (fun hb7 => ?_) (fun hb7 => ?_)
  ·
    replace hb7 : a0 = 7 := by simpa [ieq, ilt, ile] using hb7
    rw [if_pos hb7] at hx3
    refine VW.skip ?_
    cases hx3
    exact Fits.of rfl
  replace hb7 : ¬ (a0 = 7) := by simpa [ieq, ilt, ile] using hb7
  rw [if_neg hb7] at hx3
  -- region 5
  refine VW.ws tau_ok Sound.none [some 8, some 4] [(3, .val (i64 a0)), (4, .val (.bool (ieq a0 11)))] rfl ?_ ?_
  · simp <;> simp [ieq, ilt, ile]
  refine VW.cond rfl (fun hb8 => ?_) (fun hb8 => ?_)
  ·
    replace hb8 : a0 = 11 := by simpa [ieq, ilt, ile] using hb8
    rw [if_pos hb8] at hx3
    refine VW.skip ?_
    cases hx3
    exact Fits.of rfl
  replace hb8 : ¬ (a0 = 11) := by simpa [ieq, ilt, ile] using hb8
  rw [if_neg hb8] at hx3
  -- region 6
  refine VW.wr tau_ok Sound.none [some 9, some 4] [(4, .val (.bool (ieq a0 13)))] rfl ?_ ?_
  · simp <;> simp [ieq, ilt, ile]
  cases hx3
  exact Fits.of rfl

theorem i_inRange_ok {a0 : Int} {a1 : Int} {a2 : Int} {r : Bool} (h : i_inRange a0 a1 a2 = some r) :
    VCall Try.prog 150 [i64 a0, i64 a1, i64 a2] [.sc (.bool r)] := by
  unfold i_inRange at h
  refine VCall.enter Try.call150 Try.func150 rfl 15 Try.ntmps150 (by simp) [.tmp 6] rfl ?_
  show VW _ _ _ (mk [(0, .val (i64 a0)), (1, .val (i64 a1)), (2, .val (i64 a2))]) _
  -- region 0
  refine VW.ws tau_ok Sound.none [some 6] [(0, .val (i64 a0)), (1, .val (i64 a1)), (2, .val (i64 a2))] rfl ?_ ?_
  · simp <;> simp [ieq, ilt, ile]
  -- region 1
  obtain ⟨x2, hx2, h⟩ := bind_some h
  refine VW.cut [(6, .val (.bool x2))] ?_ fun hy => ?_
  rotate_left
  · clear h
    by_cases hp1 : a1 ≤ a0
    · rw [if_pos hp1] at hx2
      have hp1b : ile a1 a0 = true := by simpa [ieq, ilt, ile] using hp1
      have hp1s := hp1b
      try simp at hp1s
      cases hx2
      refine VW.ws tau_ok Sound.none [some 7, some 8, some 9, some 10, some 11, some 12, some 13, some 14, some 6] _ rfl ?_ hy
      simp [hp1b, hp1s] <;> simp [ieq, ilt, ile]
    · rw [if_neg hp1] at hx2
      have hp1b : ile a1 a0 = false := by simpa [ieq, ilt, ile] using hp1
      have hp1s := hp1b
      try simp at hp1s
      cases hx2
      refine VW.ws tau_ok Sound.none [some 7, some 8, some 9, some 10, some 11, some 12, some 13, some 14, some 6] _ rfl ?_ hy
      simp [hp1b, hp1s] <;> simp [ieq, ilt, ile]
  cases h
  refine VW.ret ?_
  simp [Post, PostM, PostC, PostC2, Nx, Bk]

theorem i_field_is_ok {a0 : Int} {a1 : List Int} {r : Bool} (h : i_field_is a0 a1 = some r) :
    VCall Try.prog 191 [i64 a0, dI a1] [.sc (.bool r)] := by
  unfold i_field_is at h
  refine VCall.enter Try.call191 Try.func191 rfl 19 Try.ntmps191 (by simp) [.tmp 4] rfl ?_
  show VW _ _ _ (mk [(0, .val (i64 a0)), (1, .val (dI a1))]) _
  -- region 0
  refine VW.ws tau_ok Sound.none [some 4] [(0, .val (i64 a0)), (1, .val (dI a1))] rfl ?_ ?_
  · simp <;> simp [ieq, ilt, ile]
  refine VW.sqc fun K1 hK1 hCK1 => ?_
  -- region 1
  refine VW.ws tau_ok Sound.none [some 7, some 8, some 9] [(0, .val (i64 a0)), (7, .val (dI a1)), (8, .val (i64 (a1.length : Int))), (9, .val (i64 0))] rfl ?_ ?_
  · simp <;> simp [ieq, ilt, ile]
  obtain ⟨x2, hx2, h⟩ := bind_some h
  refine VW.tlO (fun y4 => []) x2 (hCK1) ?_ ?_
  · clear hx2
    rintro y4 rfl
    dsimp only at h
    refine hK1 _ ?_
    -- region 7
    refine VW.ws tau_ok Sound.none [some 4] [(4, .val (.bool true))] rfl ?_ ?_
    · simp <;> simp [ieq, ilt, ile]
    cases h
    refine VW.ret ?_
    simp [Post, PostM, PostC, PostC2, Nx, Bk]
  refine VW.block ?_
  refine VW.loopF (i_field_is_L0 a0 a1) (fun s2 => [(0, .val (i64 a0)), (7, .val (dI a1)), (8, .val (i64 (a1.length : Int))), (9, .val (i64 s2))]) hx2 (Fits.of rfl) ?_
  clear hx2
  intro s2 ox2 hx2o hx2b
  unfold i_field_is_L0 at hx2o
  -- region 2
  refine VW.ws tau_ok Sound.none [some 10] [(0, .val (i64 a0)), (7, .val (dI a1)), (8, .val (i64 (a1.length : Int))), (9, .val (i64 s2)), (10, .val (.bool (ilt s2 (a1.length : Int))))] rfl ?_ ?_
  · simp <;> simp [ieq, ilt, ile]
  refine VW.sqc fun K5 hK5 hCK5 => ?_
  refine VW.cond rfl (fun hb6 => ?_) (fun hb6 => ?_)
  rotate_left
  ·
    replace hb6 : ¬ (s2 < (a1.length : Int)) := by simpa [ieq, ilt, ile] using hb6
    rw [if_neg hb6] at hx2o
    refine VW.exit ?_
    cases hx2o
    have hq := hx2b _ rfl
    subst hq
    exact ⟨_, rfl, Fits.of rfl⟩
  replace hb6 : s2 < (a1.length : Int) := by simpa [ieq, ilt, ile] using hb6
  rw [if_pos hb6] at hx2o
  refine VW.skip ?_
  refine hK5 _ ?_
  refine VW.sqc fun K7 hK7 hCK7 => ?_
  refine VW.block ?_
  -- region 3
  obtain ⟨v8, hv8, hx2o⟩ := bind_some hx2o
  obtain ⟨hv8a, hv8b, hv8c, hv8d⟩ := idx_some hv8
  refine VW.ws tau_ok Sound.none [some 11, some 12, some 6] [(0, .val (i64 a0)), (6, .val (i64 v8)), (7, .val (dI a1)), (8, .val (i64 (a1.length : Int))), (9, .val (i64 s2))] rfl ?_ ?_
  · simp [hv8a, hv8b, hv8c, hv8d] <;> simp [ieq, ilt, ile]
  -- region 4
  obtain ⟨v9, hv9, hx2o⟩ := bind_some hx2o
  refine VW.ws tau_ok (Sound.none.add 16 (i_inRange_ok hv9) rfl) [some 13, some 14, some 15, some 16, some 17] [(0, .val (i64 a0)), (7, .val (dI a1)), (8, .val (i64 (a1.length : Int))), (9, .val (i64 s2)), (17, .val (.bool (!v9)))] rfl ?_ ?_
  · simp <;> simp [ieq, ilt, ile]
  refine VW.cond rfl (fun hb10 => ?_) (fun hb10 => ?_)
  rotate_left
  ·
    replace hb10 : ¬ (v9 = false) := by simpa [ieq, ilt, ile] using hb10
    rw [if_neg hb10] at hx2o
    refine VW.skip ?_
    refine hK7 _ ?_
    -- region 6
    refine VW.wr tau_ok Sound.none [some 18, some 9] [(0, .val (i64 a0)), (7, .val (dI a1)), (8, .val (i64 (a1.length : Int))), (9, .val (i64 (w64 (s2 + 1))))] rfl ?_ ?_
    · simp <;> simp [ieq, ilt, ile]
    cases hx2o
    exact ⟨_, rfl, Fits.of rfl⟩
  replace hb10 : v9 = false := by simpa [ieq, ilt, ile] using hb10
  rw [if_pos hb10] at hx2o
  -- region 5
  refine VW.ws tau_ok Sound.none [some 4] [(4, .val (.bool false))] rfl ?_ ?_
  · simp <;> simp [ieq, ilt, ile]
  cases hx2o
  have hq := hx2b _ rfl
  subst hq
  dsimp only at h
  cases h
  refine VW.ret ?_
  simp [Post, PostM, PostC, PostC2, Nx, Bk]

theorem i_field_isTable_ok {a0 : Int} {a1 : List (List Int)} {r : Bool} (h : i_field_isTable a0 a1 = some r) :
    VCall Try.prog 260 [i64 a0, dM a1] [.sc (.bool r)] := by
  unfold i_field_isTable at h
  refine VCall.enter Try.call260 Try.func260 rfl 40 Try.ntmps260 (by simp) [.tmp 4] rfl ?_
  show VW _ _ _ (mk [(0, .val (i64 a0)), (1, .val (dM a1))]) _
  -- region 0
  refine VW.ws tau_ok Sound.none [some 4] [(0, .val (i64 a0)), (1, .val (dM a1))] rfl ?_ ?_
  · simp <;> simp [ieq, ilt, ile]
  refine VW.sqc fun K1 hK1 hCK1 => ?_
  -- region 1
  refine VW.ws tau_ok Sound.none [some 7, some 8, some 9] [(0, .val (i64 a0)), (1, .val (dM a1)), (9, .val (.bool (ilt 16 (a1.length : Int))))] rfl ?_ ?_
  · simp <;> simp [ieq, ilt, ile]
  refine VW.cond rfl (fun hb2 => ?_) (fun hb2 => ?_)
  ·
    replace hb2 : 16 < (a1.length : Int) := by simpa [ieq, ilt, ile] using hb2
    rw [if_pos hb2] at h
    -- region 2
    refine VW.ws tau_ok Sound.none [some 4] [(4, .val (.bool false))] rfl ?_ ?_
    · simp <;> simp [ieq, ilt, ile]
    cases h
    refine VW.ret ?_
    simp [Post, PostM, PostC, PostC2, Nx, Bk]
  replace hb2 : ¬ (16 < (a1.length : Int)) := by simpa [ieq, ilt, ile] using hb2
  rw [if_neg hb2] at h
  refine VW.skip ?_
  refine hK1 _ ?_
  refine VW.sqc fun K3 hK3 hCK3 => ?_
  -- region 3
  refine VW.ws tau_ok Sound.none [some 10, some 11, some 12] [(0, .val (i64 a0)), (1, .val (dM a1)), (10, .val (dM a1)), (11, .val (i64 (a1.length : Int))), (12, .val (i64 0))] rfl ?_ ?_
  · simp <;> simp [ieq, ilt, ile]
  obtain ⟨x4, hx4, h⟩ := bind_some h
  refine VW.tlO (fun y6 => []) x4 (hCK3) ?_ ?_
  · clear hx4
    rintro y6 rfl
    dsimp only at h
    refine hK3 _ ?_
    -- region 9
    refine VW.ws tau_ok Sound.none [some 4] [(4, .val (.bool true))] rfl ?_ ?_
    · simp <;> simp [ieq, ilt, ile]
    cases h
    refine VW.ret ?_
    simp [Post, PostM, PostC, PostC2, Nx, Bk]
  refine VW.block ?_
  refine VW.loopF (i_field_isTable_L0 a0 a1) (fun s4 => [(0, .val (i64 a0)), (1, .val (dM a1)), (10, .val (dM a1)), (11, .val (i64 (a1.length : Int))), (12, .val (i64 s4))]) hx4 (Fits.of rfl) ?_
  clear hx4
  intro s4 ox4 hx4o hx4b
  unfold i_field_isTable_L0 at hx4o
  -- region 4
  refine VW.ws tau_ok Sound.none [some 13] [(0, .val (i64 a0)), (1, .val (dM a1)), (10, .val (dM a1)), (11, .val (i64 (a1.length : Int))), (12, .val (i64 s4)), (13, .val (.bool (ilt s4 (a1.length : Int))))] rfl ?_ ?_
  · simp <;> simp [ieq, ilt, ile]
  refine VW.sqc fun K7 hK7 hCK7 => ?_
  refine VW.cond rfl (fun hb8 => ?_) (fun hb8 => ?_)
  rotate_left
  ·
    replace hb8 : ¬ (s4 < (a1.length : Int)) := by simpa [ieq, ilt, ile] using hb8
    rw [if_neg hb8] at hx4o
    refine VW.exit ?_
    cases hx4o
    have hq := hx4b _ rfl
    subst hq
    exact ⟨_, rfl, Fits.of rfl⟩
  replace hb8 : s4 < (a1.length : Int) := by simpa [ieq, ilt, ile] using hb8
  rw [if_pos hb8] at hx4o
  refine VW.skip ?_
  refine hK7 _ ?_
  refine VW.sqc fun K9 hK9 hCK9 => ?_
  refine VW.block ?_
  -- region 5
  obtain ⟨v10, hv10, hx4o⟩ := bind_some hx4o
  obtain ⟨hv10a, hv10b, hv10c, hv10d⟩ := idx_some hv10
  refine VW.ws tau_ok Sound.none [some 14, some 15, some 6] [(0, .val (i64 a0)), (1, .val (dM a1)), (6, .val (dI v10)), (10, .val (dM a1)), (11, .val (i64 (a1.length : Int))), (12, .val (i64 s4))] rfl ?_ ?_
  · simp [hv10a, hv10b, hv10c, hv10d] <;> simp [ieq, ilt, ile]
  -- region 6
  obtain ⟨x16, hx16, hx4o⟩ := bind_some hx4o
  refine VW.cut [(0, .val (i64 a0)), (1, .val (dM a1)), (10, .val (dM a1)), (11, .val (i64 (a1.length : Int))), (12, .val (i64 s4)), (38, .val (.bool x16))] ?_ fun hy => ?_
  rotate_left
  · clear hx4o
    obtain ⟨v11, hv11, hx16⟩ := bind_some hx16
    obtain ⟨hv11a, hv11b, hv11c, hv11d⟩ := idx_some hv11
    replace hv11b : 0 < a1.length := hv11b
    replace hv11c : a1[0]? = some v11 := hv11c
    replace hv11d : ∀ h, a1[0]'h = v11 := hv11d
    by_cases hp12 : ¬ (v10.length : Int) = (v11.length : Int)
    · rw [if_pos hp12] at hx16
      have hp12b : ieq (v10.length : Int) (v11.length : Int) = false := by simpa [ieq, ilt, ile] using hp12
      have hp12s := hp12b
      try simp at hp12s
      cases hx16
      refine VW.ws tau_ok Sound.none [some 16, some 17, some 18, some 19, some 20, some 21, some 22, some 23, some 24, some 25, some 26, some 27, some 28, some 29, some 30, some 31, some 32, some 33, some 34, some 35, some 36, some 37, some 38] _ rfl ?_ hy
      simp [hv11a, hv11b, hv11c, hv11d, hp12b, hp12s] <;> simp [ieq, ilt, ile]
    · rw [if_neg hp12] at hx16
      have hp12b : ieq (v10.length : Int) (v11.length : Int) = true := by simpa [ieq, ilt, ile] using hp12
      have hp12s := hp12b
      try simp at hp12s
      by_cases hp13 : (v10.length : Int) < 1
      · rw [if_pos hp13] at hx16
        have hp13b : ilt (v10.length : Int) 1 = true := by simpa [ieq, ilt, ile] using hp13
        have hp13s := hp13b
        try simp at hp13s
        cases hx16
        refine VW.ws tau_ok Sound.none [some 16, some 17, some 18, some 19, some 20, some 21, some 22, some 23, some 24, some 25, some 26, some 27, some 28, some 29, some 30, some 31, some 32, some 33, some 34, some 35, some 36, some 37, some 38] _ rfl ?_ hy
        simp [hv11a, hv11b, hv11c, hv11d, hp12b, hp12s, hp13b, hp13s] <;> simp [ieq, ilt, ile]
      · rw [if_neg hp13] at hx16
        have hp13b : ilt (v10.length : Int) 1 = false := by simpa [ieq, ilt, ile] using hp13
        have hp13s := hp13b
        try simp at hp13s
        by_cases hp14 : 16 < (v10.length : Int)
        · rw [if_pos hp14] at hx16
          have hp14b : ilt 16 (v10.length : Int) = true := by simpa [ieq, ilt, ile] using hp14
          have hp14s := hp14b
          try simp at hp14s
          cases hx16
          refine VW.ws tau_ok Sound.none [some 16, some 17, some 18, some 19, some 20, some 21, some 22, some 23, some 24, some 25, some 26, some 27, some 28, some 29, some 30, some 31, some 32, some 33, some 34, some 35, some 36, some 37, some 38] _ rfl ?_ hy
          simp [hv11a, hv11b, hv11c, hv11d, hp12b, hp12s, hp13b, hp13s, hp14b, hp14s] <;> simp [ieq, ilt, ile]
        · rw [if_neg hp14] at hx16
          have hp14b : ilt 16 (v10.length : Int) = false := by simpa [ieq, ilt, ile] using hp14
          have hp14s := hp14b
          try simp at hp14s
          obtain ⟨v15, hv15, hx16⟩ := bind_some hx16
          cases hx16
          refine VW.ws tau_ok (Sound.none.add 36 (i_field_is_ok hv15) rfl) [some 16, some 17, some 18, some 19, some 20, some 21, some 22, some 23, some 24, some 25, some 26, some 27, some 28, some 29, some 30, some 31, some 32, some 33, some 34, some 35, some 36, some 37, some 38] _ rfl ?_ hy
          simp [hv11a, hv11b, hv11c, hv11d, hp12b, hp12s, hp13b, hp13s, hp14b, hp14s] <;> simp [ieq, ilt, ile]
  refine VW.cond rfl (fun hb17 => ?_) (fun hb17 => ?_)
  rotate_left
  ·
    replace hb17 : ¬ (x16 = true) := by simpa [ieq, ilt, ile] using hb17
    rw [if_neg hb17] at hx4o
    refine VW.skip ?_
    refine hK9 _ ?_
    -- region 8
    refine VW.wr tau_ok Sound.none [some 39, some 12] [(0, .val (i64 a0)), (1, .val (dM a1)), (10, .val (dM a1)), (11, .val (i64 (a1.length : Int))), (12, .val (i64 (w64 (s4 + 1))))] rfl ?_ ?_
    · simp <;> simp [ieq, ilt, ile]
    cases hx4o
    exact ⟨_, rfl, Fits.of rfl⟩
  replace hb17 : x16 = true := by simpa [ieq, ilt, ile] using hb17
  rw [if_pos hb17] at hx4o
  -- region 7
  refine VW.ws tau_ok Sound.none [some 4] [(4, .val (.bool false))] rfl ?_ ?_
  · simp <;> simp [ieq, ilt, ile]
  cases hx4o
  have hq := hx4b _ rfl
  subst hq
  dsimp only at h
  cases h
  refine VW.ret ?_
  simp [Post, PostM, PostC, PostC2, Nx, Bk]

theorem i_field_isMatrix_ok {a0 : Int} {a1 : List (List Int)} {r : Bool} (h : i_field_isMatrix a0 a1 = some r) :
    VCall Try.prog 232 [i64 a0, dM a1] [.sc (.bool r)] := by
  unfold i_field_isMatrix at h
  refine VCall.enter Try.call232 Try.func232 rfl 13 Try.ntmps232 (by simp) [.tmp 4] rfl ?_
  show VW _ _ _ (mk [(0, .val (i64 a0)), (1, .val (dM a1))]) _
  -- region 0
  refine VW.ws tau_ok Sound.none [some 4] [(0, .val (i64 a0)), (1, .val (dM a1))] rfl ?_ ?_
  · simp <;> simp [ieq, ilt, ile]
  -- region 1
  obtain ⟨x3, hx3, h⟩ := bind_some h
  refine VW.cut [(4, .val (.bool x3))] ?_ fun hy => ?_
  rotate_left
  · clear h
    by_cases hp1 : 0 < (a1.length : Int)
    · rw [if_pos hp1] at hx3
      have hp1b : ilt 0 (a1.length : Int) = true := by simpa [ieq, ilt, ile] using hp1
      have hp1s := hp1b
      try simp at hp1s
      obtain ⟨v2, hv2, hx3⟩ := bind_some hx3
      cases hx3
      refine VW.ws tau_ok (Sound.none.add 11 (i_field_isTable_ok hv2) rfl) [some 5, some 6, some 7, some 8, some 9, some 10, some 11, some 12, some 4] _ rfl ?_ hy
      simp [hp1b, hp1s] <;> simp [ieq, ilt, ile]
    · rw [if_neg hp1] at hx3
      have hp1b : ilt 0 (a1.length : Int) = false := by simpa [ieq, ilt, ile] using hp1
      have hp1s := hp1b
      try simp at hp1s
      cases hx3
      refine VW.ws tau_ok Sound.none [some 5, some 6, some 7, some 8, some 9, some 10, some 11, some 12, some 4] _ rfl ?_ hy
      simp [hp1b, hp1s] <;> simp [ieq, ilt, ile]
  cases h
  refine VW.ret ?_
  simp [Post, PostM, PostC, PostC2, Nx, Bk]

theorem i_checkMatrices_c1_ok {a0 : List (List Int)} {a1_0 : Int} {r : Bool} (h : i_checkMatrices_c1 a0 a1_0 = some r) :
    VCall Try.prog 231 [dM a0, .ptr [i64 a1_0]] [.sc (.bool r)] := by
  unfold i_checkMatrices_c1 at h
  refine VCall.enter Try.call231 Try.func231 rfl 8 Try.ntmps231 (by simp) [.tmp 3] rfl ?_
  show VW _ _ _ (mk [(0, .val (dM a0)), (1, .val (.ptr [i64 a1_0]))]) _
  -- region 0
  refine VW.ws tau_ok Sound.none [some 3] [(0, .val (dM a0)), (1, .val (.ptr [i64 a1_0]))] rfl ?_ ?_
  · simp <;> simp [ieq, ilt, ile]
  -- region 1
  obtain ⟨v1, hv1, h⟩ := bind_some h
  refine VW.ws tau_ok (Sound.none.add 6 (i_field_isMatrix_ok hv1) rfl) [some 4, some 5, some 6, some 7, some 3] [(3, .val (.bool (!v1)))] rfl ?_ ?_
  · simp <;> simp [ieq, ilt, ile]
  cases h
  refine VW.ret ?_
  simp [Post, PostM, PostC, PostC2, Nx, Bk]

theorem g_slices_IndexFunc_LLLI_LLI_of_i_checkMatrices_c1_ok {a0 : List (List (List Int))} {a1_0_0 : Int} {r : Int} (h : g_slices_IndexFunc_LLLI_LLI_of_i_checkMatrices_c1 a0 a1_0_0 = some r) :
    VCall Try.prog 255 [dC a0, .fn 231 [.ptr [i64 a1_0_0]]] [.sc (i64 r)] := by
  unfold g_slices_IndexFunc_LLLI_LLI_of_i_checkMatrices_c1 at h
  refine VCall.enter Try.call255 Try.func255 rfl 19 Try.ntmps255 (by simp) [.tmp 4] rfl ?_
  show VW _ _ _ (mk [(0, .val (dC a0)), (1, .val (.fn 231 [.ptr [i64 a1_0_0]]))]) _
  -- region 0
  refine VW.ws tau_ok Sound.none [some 4] [(0, .val (dC a0)), (1, .val (.fn 231 [.ptr [i64 a1_0_0]]))] rfl ?_ ?_
  · simp <;> simp [ieq, ilt, ile]
  refine VW.sqc fun K1 hK1 hCK1 => ?_
  -- region 1
  refine VW.ws tau_ok Sound.none [some 6, some 7, some 8] [(0, .val (dC a0)), (1, .val (.fn 231 [.ptr [i64 a1_0_0]])), (7, .val (i64 (a0.length : Int))), (8, .val (i64 0))] rfl ?_ ?_
  · simp <;> simp [ieq, ilt, ile]
  obtain ⟨x2, hx2, h⟩ := bind_some h
  refine VW.tlO (fun y4 => []) x2 (hCK1) ?_ ?_
  · clear hx2
    rintro y4 rfl
    dsimp only at h
    refine hK1 _ ?_
    -- region 7
    refine VW.ws tau_ok Sound.none [some 4] [(4, .val (i64 (-1)))] rfl ?_ ?_
    · simp <;> simp [ieq, ilt, ile]
    cases h
    refine VW.ret ?_
    simp [Post, PostM, PostC, PostC2, Nx, Bk]
  refine VW.block ?_
  refine VW.loopF (g_slices_IndexFunc_LLLI_LLI_of_i_checkMatrices_c1_L0 a0 a1_0_0) (fun s2 => [(0, .val (dC a0)), (1, .val (.fn 231 [.ptr [i64 a1_0_0]])), (7, .val (i64 (a0.length : Int))), (8, .val (i64 s2))]) hx2 (Fits.of rfl) ?_
  clear hx2
  intro s2 ox2 hx2o hx2b
  unfold g_slices_IndexFunc_LLLI_LLI_of_i_checkMatrices_c1_L0 at hx2o
  -- region 2
  refine VW.ws tau_ok Sound.none [some 9] [(0, .val (dC a0)), (1, .val (.fn 231 [.ptr [i64 a1_0_0]])), (7, .val (i64 (a0.length : Int))), (8, .val (i64 s2)), (9, .val (.bool (ilt s2 (a0.length : Int))))] rfl ?_ ?_
  · simp <;> simp [ieq, ilt, ile]
  refine VW.sqc fun K5 hK5 hCK5 => ?_
  refine VW.cond rfl (fun hb6 => ?_) (fun hb6 => ?_)
  rotate_left
  ·
    replace hb6 : ¬ (s2 < (a0.length : Int)) := by simpa [ieq, ilt, ile] using hb6
    rw [if_neg hb6] at hx2o
    refine VW.exit ?_
    cases hx2o
    have hq := hx2b _ rfl
    subst hq
    exact ⟨_, rfl, Fits.of rfl⟩
  replace hb6 : s2 < (a0.length : Int) := by simpa [ieq, ilt, ile] using hb6
  rw [if_pos hb6] at hx2o
  refine VW.skip ?_
  refine hK5 _ ?_
  refine VW.sqc fun K7 hK7 hCK7 => ?_
  refine VW.block ?_
  -- region 3
  refine VW.ws tau_ok Sound.none [some 10, some 5] [(0, .val (dC a0)), (1, .val (.fn 231 [.ptr [i64 a1_0_0]])), (5, .val (i64 s2)), (7, .val (i64 (a0.length : Int))), (8, .val (i64 s2))] rfl ?_ ?_
  · simp <;> simp [ieq, ilt, ile]
  -- region 4
  obtain ⟨v8, hv8, hx2o⟩ := bind_some hx2o
  obtain ⟨hv8a, hv8b, hv8c, hv8d⟩ := idx_some hv8
  obtain ⟨v9, hv9, hx2o⟩ := bind_some hx2o
  refine VW.ws tau_ok (Sound.none.add 16 (i_checkMatrices_c1_ok hv9) rfl) [some 11, some 12, some 13, some 14, some 15, some 16] [(0, .val (dC a0)), (1, .val (.fn 231 [.ptr [i64 a1_0_0]])), (5, .val (i64 s2)), (7, .val (i64 (a0.length : Int))), (8, .val (i64 s2)), (16, .val (.bool v9))] rfl ?_ ?_
  · simp [hv8a, hv8b, hv8c, hv8d] <;> simp [ieq, ilt, ile]
  refine VW.cond rfl (fun hb10 => ?_) (fun hb10 => ?_)
  rotate_left
  ·
    replace hb10 : ¬ (v9 = true) := by simpa [ieq, ilt, ile] using hb10
    rw [if_neg hb10] at hx2o
    refine VW.skip ?_
    refine hK7 _ ?_
    -- region 6
    refine VW.wr tau_ok Sound.none [some 18, some 8] [(0, .val (dC a0)), (1, .val (.fn 231 [.ptr [i64 a1_0_0]])), (7, .val (i64 (a0.length : Int))), (8, .val (i64 (w64 (s2 + 1))))] rfl ?_ ?_
    · simp <;> simp [ieq, ilt, ile]
    cases hx2o
    exact ⟨_, rfl, Fits.of rfl⟩
  replace hb10 : v9 = true := by simpa [ieq, ilt, ile] using hb10
  rw [if_pos hb10] at hx2o
  -- region 5
  refine VW.ws tau_ok Sound.none [some 17, some 4] [(4, .val (i64 s2))] rfl ?_ ?_
  · simp <;> simp [ieq, ilt, ile]
  cases hx2o
  have hq := hx2b _ rfl
  subst hq
  dsimp only at h
  cases h
  refine VW.ret ?_
  simp [Post, PostM, PostC, PostC2, Nx, Bk]

theorem g_slices_ContainsFunc_LLLI_LLI_of_i_checkMatrices_c1_ok {a0 : List (List (List Int))} {a1_0_0 : Int} {r : Bool} (h : g_slices_ContainsFunc_LLLI_LLI_of_i_checkMatrices_c1 a0 a1_0_0 = some r) :
    VCall Try.prog 216 [dC a0, .fn 231 [.ptr [i64 a1_0_0]]] [.sc (.bool r)] := by
  unfold g_slices_ContainsFunc_LLLI_LLI_of_i_checkMatrices_c1 at h
  refine VCall.enter Try.call216 Try.func216 rfl 9 Try.ntmps216 (by simp) [.tmp 4] rfl ?_
  show VW _ _ _ (mk [(0, .val (dC a0)), (1, .val (.fn 231 [.ptr [i64 a1_0_0]]))]) _
  -- region 0
  refine VW.ws tau_ok Sound.none [some 4] [(0, .val (dC a0)), (1, .val (.fn 231 [.ptr [i64 a1_0_0]]))] rfl ?_ ?_
  · simp <;> simp [ieq, ilt, ile]
  -- region 1
  obtain ⟨v1, hv1, h⟩ := bind_some h
  refine VW.ws tau_ok (Sound.none.add 7 (g_slices_IndexFunc_LLLI_LLI_of_i_checkMatrices_c1_ok hv1) rfl) [some 5, some 6, some 7, some 8, some 4] [(4, .val (.bool (ile 0 v1)))] rfl ?_ ?_
  · simp <;> simp [ieq, ilt, ile]
  cases h
  refine VW.ret ?_
  simp [Post, PostM, PostC, PostC2, Nx, Bk]

theorem i_checkMatrices_ok {a0 : Int} {a1 : List (List (List Int))} {r : Int} (h : i_checkMatrices a0 a1 = some r) :
    VCall Try.prog 167 [i64 a0, dC a1] [.sc (i64 r)] := by
  unfold i_checkMatrices at h
  refine VCall.enter Try.call167 Try.func167 rfl 13 Try.ntmps167 (by simp) [.tmp 4] rfl ?_
  show VW _ _ _ (mk [(0, .val (i64 a0)), (1, .val (dC a1))]) _
  -- region 0
  refine VW.ws tau_ok Sound.none [some 2, some 4] [(1, .val (dC a1)), (2, .val (.ptr [i64 a0]))] rfl ?_ ?_
  · simp <;> simp [ieq, ilt, ile]
  refine VW.sqc fun K1 hK1 hCK1 => ?_
  -- region 1
  obtain ⟨x5, hx5, h⟩ := bind_some h
  refine VW.cut [(12, .val (.bool x5))] ?_ fun hy => ?_
  rotate_left
  · clear h
    obtain ⟨v2, hv2, hx5⟩ := bind_some hx5
    by_cases hp3 : v2 = false
    · rw [if_pos hp3] at hx5
      have hp3b : v2 = false := by simpa [ieq, ilt, ile] using hp3
      have hp3s := hp3b
      try simp at hp3s
      cases hx5
      refine VW.ws tau_ok (Sound.none.add 6 (i_IsPrime_ok hv2) rfl) [some 5, some 6, some 7, some 8, some 9, some 10, some 11, some 12] _ rfl ?_ hy
      simp [hp3b, hp3s] <;> simp [ieq, ilt, ile]
    · rw [if_neg hp3] at hx5
      have hp3b : v2 = true := by simpa [ieq, ilt, ile] using hp3
      have hp3s := hp3b
      try simp at hp3s
      obtain ⟨v4, hv4, hx5⟩ := bind_some hx5
      cases hx5
      refine VW.ws tau_ok ((Sound.none.add 6 (i_IsPrime_ok hv2) rfl).add 11 (g_slices_ContainsFunc_LLLI_LLI_of_i_checkMatrices_c1_ok hv4) rfl) [some 5, some 6, some 7, some 8, some 9, some 10, some 11, some 12] _ rfl ?_ hy
      simp [hp3b, hp3s] <;> simp [ieq, ilt, ile]
  refine VW.cond rfl (fun hb6 => ?_) (fun hb6 => ?_)
  ·
    replace hb6 : x5 = true := by simpa [ieq, ilt, ile] using hb6
    rw [if_pos hb6] at h
    -- region 2
    refine VW.ws tau_ok Sound.none [some 4] [(4, .val (i64 1))] rfl ?_ ?_
    · simp <;> simp [ieq, ilt, ile]
    cases h
    refine VW.ret ?_
    simp [Post, PostM, PostC, PostC2, Nx, Bk]
  replace hb6 : ¬ (x5 = true) := by simpa [ieq, ilt, ile] using hb6
  rw [if_neg hb6] at h
  refine VW.skip ?_
  refine hK1 _ ?_
  -- region 3
  refine VW.ws tau_ok Sound.none [some 4] [(4, .val (i64 0))] rfl ?_ ?_
  · simp <;> simp [ieq, ilt, ile]
  cases h
  refine VW.ret ?_
  simp [Post, PostM, PostC, PostC2, Nx, Bk]

theorem i_checkSquare_ok {a0 : Int} {a1 : List (List Int)} {r : Int} (h : i_checkSquare a0 a1 = some r) :
    VCall Try.prog 145 [i64 a0, dM a1] [.sc (i64 r)] := by
  unfold i_checkSquare at h
  refine VCall.enter Try.call145 Try.func145 rfl 20 Try.ntmps145 (by simp) [.tmp 4] rfl ?_
  show VW _ _ _ (mk [(0, .val (i64 a0)), (1, .val (dM a1))]) _
  -- region 0
  refine VW.ws tau_ok Sound.none [some 4] [(0, .val (i64 a0)), (1, .val (dM a1))] rfl ?_ ?_
  · simp <;> simp [ieq, ilt, ile]
  refine VW.sqc fun K1 hK1 hCK1 => ?_
  -- region 1
  obtain ⟨v2, hv2, h⟩ := bind_some h
  refine VW.ws tau_ok (Sound.none.add 9 (i_checkMatrices_ok hv2) rfl) [some 6, some 7, some 8, some 9, some 5] [(1, .val (dM a1)), (5, .val (i64 v2))] rfl ?_ ?_
  · simp <;> simp [ieq, ilt, ile]
  -- region 2
  refine VW.ws tau_ok Sound.none [some 10, some 11] [(1, .val (dM a1)), (5, .val (i64 v2)), (11, .val (.bool (!(ieq v2 0))))] rfl ?_ ?_
  · simp <;> simp [ieq, ilt, ile]
  refine VW.cond rfl (fun hb3 => ?_) (fun hb3 => ?_)
  ·
    replace hb3 : ¬ v2 = 0 := by simpa [ieq, ilt, ile] using hb3
    rw [if_pos hb3] at h
    -- region 3
    refine VW.ws tau_ok Sound.none [some 12, some 4] [(4, .val (i64 v2))] rfl ?_ ?_
    · simp <;> simp [ieq, ilt, ile]
    cases h
    refine VW.ret ?_
    simp [Post, PostM, PostC, PostC2, Nx, Bk]
  replace hb3 : ¬ (¬ v2 = 0) := by simpa [ieq, ilt, ile] using hb3
  rw [if_neg hb3] at h
  refine VW.skip ?_
  refine hK1 _ ?_
  refine VW.sqc fun K4 hK4 hCK4 => ?_
  -- region 4
  obtain ⟨v5, hv5, h⟩ := bind_some h
  obtain ⟨hv5a, hv5b, hv5c, hv5d⟩ := idx_some hv5
  replace hv5b : 0 < a1.length := hv5b
  replace hv5c : a1[0]? = some v5 := hv5c
  replace hv5d : ∀ h, a1[0]'h = v5 := hv5d
  refine VW.ws tau_ok Sound.none [some 13, some 14, some 15, some 16, some 17, some 18, some 19] [(19, .val (.bool (!(ieq (a1.length : Int) (v5.length : Int)))))] rfl ?_ ?_
  · simp [hv5a, hv5b, hv5c, hv5d] <;> simp [ieq, ilt, ile]
  refine VW.cond rfl (fun hb6 => ?_) (fun hb6 => ?_)
  ·
    replace hb6 : ¬ (a1.length : Int) = (v5.length : Int) := by simpa [ieq, ilt, ile] using hb6
    rw [if_pos hb6] at h
    -- region 5
    refine VW.ws tau_ok Sound.none [some 4] [(4, .val (i64 2))] rfl ?_ ?_
    · simp <;> simp [ieq, ilt, ile]
    cases h
    refine VW.ret ?_
    simp [Post, PostM, PostC, PostC2, Nx, Bk]
  replace hb6 : ¬ (¬ (a1.length : Int) = (v5.length : Int)) := by simpa [ieq, ilt, ile] using hb6
  rw [if_neg hb6] at h
  refine VW.skip ?_
  refine hK4 _ ?_
  -- region 6
  refine VW.ws tau_ok Sound.none [some 4] [(4, .val (i64 0))] rfl ?_ ?_
  · simp <;> simp [ieq, ilt, ile]
  cases h
  refine VW.ret ?_
  simp [Post, PostM, PostC, PostC2, Nx, Bk]

theorem g_slices_Clone_LI_I_ok {a0 r : List Int} (h : g_slices_Clone_LI_I a0 = some r) :
    VCall Try.prog 185 [dI a0] [.own true (dI r)] := by
  unfold g_slices_Clone_LI_I at h
  obtain ⟨hc, h⟩ := chk_some h
  cases h
  refine VCall.enter Try.call185 Try.func185 rfl 8 Try.ntmps185 (by simp) [.tmp 2] rfl ?_
  show VW _ _ _ (mk [(0, .val (dI a0))]) _
  refine VW.ws tau_ok Sound.none [some 2] [(0, .val (dI a0))] rfl ?_ ?_
  · simp
  refine VW.sqc fun K hK hCK => ?_
  refine VW.nilcmp tau_ok (T := 22) (e := 2) rfl rfl rfl rfl rfl (by simp) rfl rfl rfl (by simp) fun b hb => ?_
  refine VW.cond rfl (fun h1 => ?_) (fun h1 => ?_)
  · have e := hb h1
    simp at e
    subst e
    refine VW.ws tau_ok Sound.none [some 2] [(2, .ref 2 [] true (.list []))] rfl ?_ ?_
    · simp
    refine VW.ret ?_
    simp [Post, Nx]
  · refine VW.skip ?_
    refine hK _ ?_
    refine VW.ws tau_ok Sound.none [some 5, some 6, some 7, some 2] [(2, .ref 2 [] true (dI a0))] rfl ?_ ?_
    · simp [hc]
    refine VW.ret ?_
    simp [Post, Nx]

theorem i_cloneRows_ok {a0 : List (List Int)} {r : List (List Int)} (h : i_cloneRows a0 = some r) :
    VCall Try.prog 152 [dM a0] [.own true (dM r)] := by
  unfold i_cloneRows at h
  refine VCall.enter Try.call152 Try.func152 rfl 20 Try.ntmps152 (by simp) [.tmp 2] rfl ?_
  show VW _ _ _ (mk [(0, .val (dM a0))]) _
  -- region 0
  refine VW.ws tau_ok Sound.none [some 2] [(0, .val (dM a0))] rfl ?_ ?_
  · simp <;> simp [ieq, ilt, ile]
  -- region 1
  refine VW.ws tau_ok Sound.none [some 6, some 3] [(0, .val (dM a0)), (3, .ref 3 [] true (dM []))] rfl ?_ ?_
  · simp <;> simp [ieq, ilt, ile]
  refine VW.sqc fun K1 hK1 hCK1 => ?_
  -- region 2
  refine VW.ws tau_ok Sound.none [some 7, some 8, some 9] [(3, .ref 3 [] true (dM [])), (7, .val (dM a0)), (8, .val (i64 (a0.length : Int))), (9, .val (i64 0))] rfl ?_ ?_
  · simp <;> simp [ieq, ilt, ile]
  obtain ⟨x2, hx2, h⟩ := bind_some h
  refine VW.tlE [(3, .ref 3 [] true (dM x2))] (hCK1) ?_ ?_
  · clear hx2
    refine hK1 _ ?_
    -- region 7
    refine VW.ws tau_ok Sound.none [some 19, some 2] [(2, .ref 2 [] true (dM x2))] rfl ?_ ?_
    · simp <;> simp [ieq, ilt, ile]
    cases h
    refine VW.ret ?_
    simp [Post, PostM, PostC, PostC2, Nx, Bk]
  refine VW.block ?_
  refine VW.loopF (i_cloneRows_L0 a0) (fun s2 => [(3, .ref 3 [] true (dM s2.1)), (7, .val (dM a0)), (8, .val (i64 (a0.length : Int))), (9, .val (i64 s2.2))]) hx2 (Fits.of rfl) ?_
  clear hx2
  intro s2 ox2 hx2o hx2b
  unfold i_cloneRows_L0 at hx2o
  -- region 3
  refine VW.ws tau_ok Sound.none [some 10] [(3, .ref 3 [] true (dM s2.1)), (7, .val (dM a0)), (8, .val (i64 (a0.length : Int))), (9, .val (i64 s2.2)), (10, .val (.bool (ilt s2.2 (a0.length : Int))))] rfl ?_ ?_
  · simp <;> simp [ieq, ilt, ile]
  refine VW.sqc fun K4 hK4 hCK4 => ?_
  refine VW.cond rfl (fun hb5 => ?_) (fun hb5 => ?_)
  rotate_left
  ·
    replace hb5 : ¬ (s2.2 < (a0.length : Int)) := by simpa [ieq, ilt, ile] using hb5
    rw [if_neg hb5] at hx2o
    refine VW.exit ?_
    cases hx2o
    have hq := hx2b _ rfl
    subst hq
    exact Fits.of rfl
  replace hb5 : s2.2 < (a0.length : Int) := by simpa [ieq, ilt, ile] using hb5
  rw [if_pos hb5] at hx2o
  refine VW.skip ?_
  refine hK4 _ ?_
  refine VW.sqc fun K6 hK6 hCK6 => ?_
  refine VW.block ?_
  -- region 4
  obtain ⟨v7, hv7, hx2o⟩ := bind_some hx2o
  obtain ⟨hv7a, hv7b, hv7c, hv7d⟩ := idx_some hv7
  refine VW.ws tau_ok Sound.none [some 11, some 12, some 5] [(3, .ref 3 [] true (dM s2.1)), (5, .val (dI v7)), (7, .val (dM a0)), (8, .val (i64 (a0.length : Int))), (9, .val (i64 s2.2))] rfl ?_ ?_
  · simp [hv7a, hv7b, hv7c, hv7d] <;> simp [ieq, ilt, ile]
  -- region 5
  obtain ⟨v8, hv8, hx2o⟩ := bind_some hx2o
  obtain ⟨hc9, hx2o⟩ := chk_some hx2o
  have hc9s := hc9
  try simp at hc9s
  refine VW.wr tau_ok (Sound.none.add 15 (g_slices_Clone_LI_I_ok hv8) rfl) [some 13, some 14, some 15, some 16, some 17, some 3] [(3, .ref 3 [] true (dM (s2.1 ++ [v8]))), (7, .val (dM a0)), (8, .val (i64 (a0.length : Int))), (9, .val (i64 s2.2))] rfl ?_ ?_
  · simp [hc9, hc9s] <;> simp [ieq, ilt, ile]
  refine hK6 _ ?_
  -- region 6
  refine VW.wr tau_ok Sound.none [some 18, some 9] [(3, .ref 3 [] true (dM (s2.1 ++ [v8]))), (7, .val (dM a0)), (8, .val (i64 (a0.length : Int))), (9, .val (i64 (w64 (s2.2 + 1))))] rfl ?_ ?_
  · simp <;> simp [ieq, ilt, ile]
  cases hx2o
  exact ⟨_, rfl, Fits.of rfl⟩

theorem i_field_num_ok {a0 : Int} {a1 : Int} {r : Int} (h : i_field_num a0 a1 = some r) :
    VCall Try.prog 187 [i64 a0, i64 a1] [.sc (i64 r)] := by
  unfold i_field_num at h
  refine VCall.enter Try.call187 Try.func187 rfl 14 Try.ntmps187 (by simp) [.tmp 4] rfl ?_
  show VW _ _ _ (mk [(0, .val (i64 a0)), (1, .val (i64 a1))]) _
  -- region 0
  refine VW.ws tau_ok Sound.none [some 4] [(0, .val (i64 a0)), (1, .val (i64 a1))] rfl ?_ ?_
  · simp <;> simp [ieq, ilt, ile]
  -- region 1
  refine VW.ws tau_ok Sound.none [some 6, some 5] [(1, .val (i64 a1)), (5, .val (i64 a0))] rfl ?_ ?_
  · simp <;> simp [ieq, ilt, ile]
  -- region 2
  obtain ⟨hc1, h⟩ := chk_some h
  have hc1s := hc1
  try simp at hc1s
  obtain ⟨hc2, h⟩ := chk_some h
  have hc2s := hc2
  try simp at hc2s
  refine VW.ws tau_ok Sound.none [some 7, some 8, some 9, some 10, some 11, some 12, some 13, some 4] [(4, .val (i64 ((w64 ((a1.tmod a0) + a0)).tmod a0)))] rfl ?_ ?_
  · simp [hc1, hc1s, hc2, hc2s] <;> simp [ieq, ilt, ile]
  cases h
  refine VW.ret ?_
  simp [Post, PostM, PostC, PostC2, Nx, Bk]

theorem i_field_pow_ok {a0 : Int} {a1 : Int} {a2 : Int} {r : Int} (h : i_field_pow a0 a1 a2 = some r) :
    VCall Try.prog 248 [i64 a0, i64 a1, i64 a2] [.sc (i64 r)] := by
  unfold i_field_pow at h
  refine VCall.enter Try.call248 Try.func248 rfl 18 Try.ntmps248 (by simp) [.tmp 6] rfl ?_
  show VW _ _ _ (mk [(0, .val (i64 a0)), (1, .val (i64 a1)), (2, .val (i64 a2))]) _
  -- region 0
  refine VW.ws tau_ok Sound.none [some 6] [(0, .val (i64 a0)), (1, .val (i64 a1)), (2, .val (i64 a2))] rfl ?_ ?_
  · simp <;> simp [ieq, ilt, ile]
  -- region 1
  refine VW.ws tau_ok Sound.none [some 7] [(0, .val (i64 a0)), (1, .val (i64 a1)), (2, .val (i64 a2)), (7, .val (i64 1))] rfl ?_ ?_
  · simp <;> simp [ieq, ilt, ile]
  refine VW.sqc fun K1 hK1 hCK1 => ?_
  -- region 2
  refine VW.ws tau_ok Sound.none [some 8, some 9] [(0, .val (i64 a0)), (1, .val (i64 a1)), (7, .val (i64 1)), (8, .val (i64 a2)), (9, .val (i64 0))] rfl ?_ ?_
  · simp <;> simp [ieq, ilt, ile]
  obtain ⟨x2, hx2, h⟩ := bind_some h
  refine VW.tlE [(7, .val (i64 x2))] (hCK1) ?_ ?_
  · clear hx2
    refine hK1 _ ?_
    -- region 6
    refine VW.ws tau_ok Sound.none [some 17, some 6] [(6, .val (i64 x2))] rfl ?_ ?_
    · simp <;> simp [ieq, ilt, ile]
    cases h
    refine VW.ret ?_
    simp [Post, PostM, PostC, PostC2, Nx, Bk]
  refine VW.block ?_
  refine VW.loopF (i_field_pow_L0 a0 a1 a2) (fun s2 => [(0, .val (i64 a0)), (1, .val (i64 a1)), (7, .val (i64 s2.1)), (8, .val (i64 a2)), (9, .val (i64 s2.2))]) hx2 (Fits.of rfl) ?_
  clear hx2
  intro s2 ox2 hx2o hx2b
  unfold i_field_pow_L0 at hx2o
  -- region 3
  refine VW.ws tau_ok Sound.none [some 10] [(0, .val (i64 a0)), (1, .val (i64 a1)), (7, .val (i64 s2.1)), (8, .val (i64 a2)), (9, .val (i64 s2.2)), (10, .val (.bool (ilt s2.2 a2)))] rfl ?_ ?_
  · simp <;> simp [ieq, ilt, ile]
  refine VW.sqc fun K4 hK4 hCK4 => ?_
  refine VW.cond rfl (fun hb5 => ?_) (fun hb5 => ?_)
  rotate_left
  ·
    replace hb5 : ¬ (s2.2 < a2) := by simpa [ieq, ilt, ile] using hb5
    rw [if_neg hb5] at hx2o
    refine VW.exit ?_
    cases hx2o
    have hq := hx2b _ rfl
    subst hq
    exact Fits.of rfl
  replace hb5 : s2.2 < a2 := by simpa [ieq, ilt, ile] using hb5
  rw [if_pos hb5] at hx2o
  refine VW.skip ?_
  refine hK4 _ ?_
  refine VW.sqc fun K6 hK6 hCK6 => ?_
  refine VW.block ?_
  -- region 4
  obtain ⟨v7, hv7, hx2o⟩ := bind_some hx2o
  refine VW.wr tau_ok (Sound.none.add 15 (i_field_num_ok hv7) rfl) [some 11, some 12, some 13, some 14, some 15, some 7] [(0, .val (i64 a0)), (1, .val (i64 a1)), (7, .val (i64 v7)), (8, .val (i64 a2)), (9, .val (i64 s2.2))] rfl ?_ ?_
  · simp <;> simp [ieq, ilt, ile]
  refine hK6 _ ?_
  -- region 5
  refine VW.wr tau_ok Sound.none [some 16, some 9] [(0, .val (i64 a0)), (1, .val (i64 a1)), (7, .val (i64 v7)), (8, .val (i64 a2)), (9, .val (i64 (w64 (s2.2 + 1))))] rfl ?_ ?_
  · simp <;> simp [ieq, ilt, ile]
  cases hx2o
  exact ⟨_, rfl, Fits.of rfl⟩

theorem i_field_inv_ok {a0 : Int} {a1 : Int} {r : Int} (h : i_field_inv a0 a1 = some r) :
    VCall Try.prog 209 [i64 a0, i64 a1] [.sc (i64 r)] := by
  unfold i_field_inv at h
  refine VCall.enter Try.call209 Try.func209 rfl 10 Try.ntmps209 (by simp) [.tmp 4] rfl ?_
  show VW _ _ _ (mk [(0, .val (i64 a0)), (1, .val (i64 a1))]) _
  -- region 0
  refine VW.ws tau_ok Sound.none [some 4] [(0, .val (i64 a0)), (1, .val (i64 a1))] rfl ?_ ?_
  · simp <;> simp [ieq, ilt, ile]
  -- region 1
  obtain ⟨v1, hv1, h⟩ := bind_some h
  refine VW.ws tau_ok (Sound.none.add 9 (i_field_pow_ok hv1) rfl) [some 5, some 6, some 7, some 8, some 9, some 4] [(4, .val (i64 v1))] rfl ?_ ?_
  · simp <;> simp [ieq, ilt, ile]
  cases h
  refine VW.ret ?_
  simp [Post, PostM, PostC, PostC2, Nx, Bk]

theorem i_field_plus_ok {a0 : Int} {a1 : List Int} {a2 : List Int} {a3 : Int} {r : List Int} (h : i_field_plus a0 a1 a2 a3 = some r) :
    VCall Try.prog 176 [i64 a0, dI a1, dI a2, i64 a3] [.own true (dI r)] := by
  unfold i_field_plus at h
  refine VCall.enter Try.call176 Try.func176 rfl 35 Try.ntmps176 (by simp) [.tmp 8] rfl ?_
  show VW _ _ _ (mk [(0, .val (i64 a0)), (1, .val (dI a1)), (2, .val (dI a2)), (3, .val (i64 a3))]) _
  -- region 0
  refine VW.ws tau_ok Sound.none [some 8] [(0, .val (i64 a0)), (1, .val (dI a1)), (2, .val (dI a2)), (3, .val (i64 a3))] rfl ?_ ?_
  · simp <;> simp [ieq, ilt, ile]
  -- region 1
  refine VW.ws tau_ok Sound.none [some 12, some 9] [(0, .val (i64 a0)), (1, .val (dI a1)), (2, .val (dI a2)), (3, .val (i64 a3)), (9, .ref 9 [] true (dI []))] rfl ?_ ?_
  · simp <;> simp [ieq, ilt, ile]
  refine VW.sqc fun K1 hK1 hCK1 => ?_
  -- region 2
  refine VW.ws tau_ok Sound.none [some 13, some 14, some 15] [(0, .val (i64 a0)), (2, .val (dI a2)), (3, .val (i64 a3)), (9, .ref 9 [] true (dI [])), (13, .val (dI a1)), (14, .val (i64 (a1.length : Int))), (15, .val (i64 0))] rfl ?_ ?_
  · simp <;> simp [ieq, ilt, ile]
  obtain ⟨x2, hx2, h⟩ := bind_some h
  refine VW.tlE [(9, .ref 9 [] true (dI x2))] (hCK1) ?_ ?_
  · clear hx2
    refine hK1 _ ?_
    -- region 7
    refine VW.ws tau_ok Sound.none [some 34, some 8] [(8, .ref 8 [] true (dI x2))] rfl ?_ ?_
    · simp <;> simp [ieq, ilt, ile]
    cases h
    refine VW.ret ?_
    simp [Post, PostM, PostC, PostC2, Nx, Bk]
  refine VW.block ?_
  refine VW.loopF (i_field_plus_L0 a0 a1 a2 a3) (fun s2 => [(0, .val (i64 a0)), (2, .val (dI a2)), (3, .val (i64 a3)), (9, .ref 9 [] true (dI s2.1)), (13, .val (dI a1)), (14, .val (i64 (a1.length : Int))), (15, .val (i64 s2.2))]) hx2 (Fits.of rfl) ?_
  clear hx2
  intro s2 ox2 hx2o hx2b
  unfold i_field_plus_L0 at hx2o
  -- region 3
  refine VW.ws tau_ok Sound.none [some 16] [(0, .val (i64 a0)), (2, .val (dI a2)), (3, .val (i64 a3)), (9, .ref 9 [] true (dI s2.1)), (13, .val (dI a1)), (14, .val (i64 (a1.length : Int))), (15, .val (i64 s2.2)), (16, .val (.bool (ilt s2.2 (a1.length : Int))))] rfl ?_ ?_
  · simp <;> simp [ieq, ilt, ile]
  refine VW.sqc fun K4 hK4 hCK4 => ?_
  refine VW.cond rfl (fun hb5 => ?_) (fun hb5 => ?_)
  rotate_left
  ·
    replace hb5 : ¬ (s2.2 < (a1.length : Int)) := by simpa [ieq, ilt, ile] using hb5
    rw [if_neg hb5] at hx2o
    refine VW.exit ?_
    cases hx2o
    have hq := hx2b _ rfl
    subst hq
    exact Fits.of rfl
  replace hb5 : s2.2 < (a1.length : Int) := by simpa [ieq, ilt, ile] using hb5
  rw [if_pos hb5] at hx2o
  refine VW.skip ?_
  refine hK4 _ ?_
  refine VW.sqc fun K6 hK6 hCK6 => ?_
  refine VW.block ?_
  -- region 4
  obtain ⟨v7, hv7, hx2o⟩ := bind_some hx2o
  obtain ⟨hv7a, hv7b, hv7c, hv7d⟩ := idx_some hv7
  refine VW.ws tau_ok Sound.none [some 17, some 18, some 19, some 10, some 11] [(0, .val (i64 a0)), (2, .val (dI a2)), (3, .val (i64 a3)), (9, .ref 9 [] true (dI s2.1)), (10, .val (i64 s2.2)), (11, .val (i64 v7)), (13, .val (dI a1)), (14, .val (i64 (a1.length : Int))), (15, .val (i64 s2.2))] rfl ?_ ?_
  · simp [hv7a, hv7b, hv7c, hv7d] <;> simp [ieq, ilt, ile]
  -- region 5
  obtain ⟨v8, hv8, hx2o⟩ := bind_some hx2o
  obtain ⟨hv8a, hv8b, hv8c, hv8d⟩ := idx_some hv8
  obtain ⟨v9, hv9, hx2o⟩ := bind_some hx2o
  obtain ⟨hc10, hx2o⟩ := chk_some hx2o
  have hc10s := hc10
  try simp at hc10s
  refine VW.wr tau_ok (Sound.none.add 30 (i_field_num_ok hv9) rfl) [some 20, some 21, some 22, some 23, some 24, some 25, some 26, some 27, some 28, some 29, some 30, some 31, some 32, some 9] [(0, .val (i64 a0)), (2, .val (dI a2)), (3, .val (i64 a3)), (9, .ref 9 [] true (dI (s2.1 ++ [v9]))), (13, .val (dI a1)), (14, .val (i64 (a1.length : Int))), (15, .val (i64 s2.2))] rfl ?_ ?_
  · simp [hv8a, hv8b, hv8c, hv8d, hc10, hc10s] <;> simp [ieq, ilt, ile]
  refine hK6 _ ?_
  -- region 6
  refine VW.wr tau_ok Sound.none [some 33, some 15] [(0, .val (i64 a0)), (2, .val (dI a2)), (3, .val (i64 a3)), (9, .ref 9 [] true (dI (s2.1 ++ [v9]))), (13, .val (dI a1)), (14, .val (i64 (a1.length : Int))), (15, .val (i64 (w64 (s2.2 + 1))))] rfl ?_ ?_
  · simp <;> simp [ieq, ilt, ile]
  cases hx2o
  exact ⟨_, rfl, Fits.of rfl⟩

theorem i_field_added_ok {a0 : Int} {a1 : List Int} {a2 : List Int} {a3 : Int} {r : List Int} (h : i_field_added a0 a1 a2 a3 = some r) :
    VCall Try.prog 210 [i64 a0, dI a1, dI a2, i64 a3] [.own true (dI r)] := by
  unfold i_field_added at h
  refine VCall.enter Try.call210 Try.func210 rfl 36 Try.ntmps210 (by simp) [.tmp 8] rfl ?_
  show VW _ _ _ (mk [(0, .val (i64 a0)), (1, .val (dI a1)), (2, .val (dI a2)), (3, .val (i64 a3))]) _
  -- region 0
  refine VW.ws tau_ok Sound.none [some 8] [(0, .val (i64 a0)), (1, .val (dI a1)), (2, .val (dI a2)), (3, .val (i64 a3))] rfl ?_ ?_
  · simp <;> simp [ieq, ilt, ile]
  -- region 1
  obtain ⟨v1, hv1, h⟩ := bind_some h
  refine VW.ws tau_ok (Sound.none.add 13 (g_slices_Clone_LI_I_ok hv1) rfl) [some 12, some 13, some 9] [(0, .val (i64 a0)), (2, .val (dI a2)), (3, .val (i64 a3)), (9, .ref 9 [] true (dI v1))] rfl ?_ ?_
  · simp <;> simp [ieq, ilt, ile]
  refine VW.sqc fun K2 hK2 hCK2 => ?_
  -- region 2
  refine VW.ws tau_ok Sound.none [some 14, some 15, some 16] [(0, .val (i64 a0)), (3, .val (i64 a3)), (9, .ref 9 [] true (dI v1)), (14, .val (dI a2)), (15, .val (i64 (a2.length : Int))), (16, .val (i64 0))] rfl ?_ ?_
  · simp <;> simp [ieq, ilt, ile]
  obtain ⟨x3, hx3, h⟩ := bind_some h
  refine VW.tlE [(9, .ref 9 [] true (dI x3))] (hCK2) ?_ ?_
  · clear hx3
    refine hK2 _ ?_
    -- region 7
    refine VW.ws tau_ok Sound.none [some 35, some 8] [(8, .ref 8 [] true (dI x3))] rfl ?_ ?_
    · simp <;> simp [ieq, ilt, ile]
    cases h
    refine VW.ret ?_
    simp [Post, PostM, PostC, PostC2, Nx, Bk]
  refine VW.block ?_
  refine VW.loopF (i_field_added_L0 a0 a2 a3) (fun s3 => [(0, .val (i64 a0)), (3, .val (i64 a3)), (9, .ref 9 [] true (dI s3.1)), (14, .val (dI a2)), (15, .val (i64 (a2.length : Int))), (16, .val (i64 s3.2))]) hx3 (Fits.of rfl) ?_
  clear hx3
  intro s3 ox3 hx3o hx3b
  unfold i_field_added_L0 at hx3o
  -- region 3
  refine VW.ws tau_ok Sound.none [some 17] [(0, .val (i64 a0)), (3, .val (i64 a3)), (9, .ref 9 [] true (dI s3.1)), (14, .val (dI a2)), (15, .val (i64 (a2.length : Int))), (16, .val (i64 s3.2)), (17, .val (.bool (ilt s3.2 (a2.length : Int))))] rfl ?_ ?_
  · simp <;> simp [ieq, ilt, ile]
  refine VW.sqc fun K5 hK5 hCK5 => ?_
  refine VW.cond rfl (fun hb6 => ?_) (fun hb6 => ?_)
  rotate_left
  ·
    replace hb6 : ¬ (s3.2 < (a2.length : Int)) := by simpa [ieq, ilt, ile] using hb6
    rw [if_neg hb6] at hx3o
    refine VW.exit ?_
    cases hx3o
    have hq := hx3b _ rfl
    subst hq
    exact Fits.of rfl
  replace hb6 : s3.2 < (a2.length : Int) := by simpa [ieq, ilt, ile] using hb6
  rw [if_pos hb6] at hx3o
  refine VW.skip ?_
  refine hK5 _ ?_
  refine VW.sqc fun K7 hK7 hCK7 => ?_
  refine VW.block ?_
  -- region 4
  obtain ⟨v8, hv8, hx3o⟩ := bind_some hx3o
  obtain ⟨hv8a, hv8b, hv8c, hv8d⟩ := idx_some hv8
  refine VW.ws tau_ok Sound.none [some 18, some 19, some 20, some 10, some 11] [(0, .val (i64 a0)), (3, .val (i64 a3)), (9, .ref 9 [] true (dI s3.1)), (10, .val (i64 s3.2)), (11, .val (i64 v8)), (14, .val (dI a2)), (15, .val (i64 (a2.length : Int))), (16, .val (i64 s3.2))] rfl ?_ ?_
  · simp [hv8a, hv8b, hv8c, hv8d] <;> simp [ieq, ilt, ile]
  -- region 5
  obtain ⟨v9, hv9, hx3o⟩ := bind_some hx3o
  obtain ⟨hv9a, hv9b, hv9c, hv9d⟩ := idx_some hv9
  obtain ⟨v10, hv10, hx3o⟩ := bind_some hx3o
  refine VW.wr tau_ok (Sound.none.add 32 (i_field_num_ok hv10) rfl) [some 21, some 22, some 23, some 24, some 25, some 26, some 27, some 28, some 29, some 30, some 31, some 32, some 33, none] [(0, .val (i64 a0)), (3, .val (i64 a3)), (9, .ref 9 [] true (dI (s3.1.set s3.2.toNat v10))), (14, .val (dI a2)), (15, .val (i64 (a2.length : Int))), (16, .val (i64 s3.2))] rfl ?_ ?_
  · simp [hv9a, hv9b, hv9c, hv9d] <;> simp [ieq, ilt, ile]
  refine hK7 _ ?_
  -- region 6
  refine VW.wr tau_ok Sound.none [some 34, some 16] [(0, .val (i64 a0)), (3, .val (i64 a3)), (9, .ref 9 [] true (dI (s3.1.set s3.2.toNat v10))), (14, .val (dI a2)), (15, .val (i64 (a2.length : Int))), (16, .val (i64 (w64 (s3.2 + 1))))] rfl ?_ ?_
  · simp <;> simp [ieq, ilt, ile]
  cases hx3o
  exact ⟨_, rfl, Fits.of rfl⟩

set_option maxHeartbeats 4000000 in
theorem i_field_characteristic_ok {a0 : Int} {a1 : List (List Int)} {r : List Int} (h : i_field_characteristic a0 a1 = some r) :
    VCall Try.prog 146 [i64 a0, dM a1] [.own true (dI r)] := by
  unfold i_field_characteristic at h
  refine VCall.enter Try.call146 Try.func146 rfl 260 Try.ntmps146 (by simp) [.tmp 4] rfl ?_
  show VW _ _ _ (mk [(0, .val (i64 a0)), (1, .val (dM a1))]) _
  -- region 0
  refine VW.ws tau_ok Sound.none [some 4] [(0, .val (i64 a0)), (1, .val (dM a1))] rfl ?_ ?_
  · simp <;> simp [ieq, ilt, ile]
  -- region 1
  refine VW.ws tau_ok Sound.none [some 19, some 20, some 5] [(0, .val (i64 a0)), (1, .val (dM a1)), (5, .val (i64 (a1.length : Int)))] rfl ?_ ?_
  · simp <;> simp [ieq, ilt, ile]
  -- region 2
  obtain ⟨hc1, h⟩ := chk_some h
  have hc1s := hc1
  try simp at hc1s
  refine VW.ws tau_ok Sound.none [some 21, some 22, some 23, some 6] [(0, .val (i64 a0)), (1, .val (dM a1)), (5, .val (i64 (a1.length : Int))), (6, .ref 6 [] true (dI (List.replicate (w64 ((a1.length : Int) + 1)).toNat 0)))] rfl ?_ ?_
  · simp [hc1, hc1s] <;> simp [ieq, ilt, ile]
  -- region 3
  obtain ⟨v2, hv2, h⟩ := bind_some h
  refine VW.ws tau_ok (Sound.none.add 25 (i_cloneRows_ok hv2) rfl) [some 24, some 25, some 7] [(0, .val (i64 a0)), (5, .val (i64 (a1.length : Int))), (6, .ref 6 [] true (dI (List.replicate (w64 ((a1.length : Int) + 1)).toNat 0))), (7, .ref 7 [] true (dM v2))] rfl ?_ ?_
  · simp <;> simp [ieq, ilt, ile]
  refine VW.sqc fun K3 hK3 hCK3 => ?_
  -- region 4
  refine VW.ws tau_ok Sound.none [some 8] [(0, .val (i64 a0)), (5, .val (i64 (a1.length : Int))), (6, .ref 6 [] true (dI (List.replicate (w64 ((a1.length : Int) + 1)).toNat 0))), (7, .ref 7 [] true (dM v2)), (8, .val (i64 1))] rfl ?_ ?_
  · simp <;> simp [ieq, ilt, ile]
  obtain ⟨x4, hx4, h⟩ := bind_some h
  refine VW.tlE [(0, .val (i64 a0)), (5, .val (i64 (a1.length : Int))), (6, .ref 6 [] true (dI (List.replicate (w64 ((a1.length : Int) + 1)).toNat 0))), (7, .ref 7 [] true (dM x4))] (hCK3) ?_ ?_
  · clear hx4
    refine hK3 _ ?_
    -- region 27
    refine VW.ws tau_ok Sound.none [some 172, some 173, some 14] [(0, .val (i64 a0)), (5, .val (i64 (a1.length : Int))), (6, .ref 6 [] true (dI (List.replicate (w64 ((a1.length : Int) + 1)).toNat 0))), (7, .ref 7 [] true (dM x4)), (14, .ref 14 [] true (dM [[1]]))] rfl ?_ ?_
    · simp <;> simp [ieq, ilt, ile]
    refine VW.sqc fun K56 hK56 hCK56 => ?_
    -- region 28
    refine VW.ws tau_ok Sound.none [some 15] [(0, .val (i64 a0)), (5, .val (i64 (a1.length : Int))), (6, .ref 6 [] true (dI (List.replicate (w64 ((a1.length : Int) + 1)).toNat 0))), (7, .ref 7 [] true (dM x4)), (14, .ref 14 [] true (dM [[1]])), (15, .val (i64 1))] rfl ?_ ?_
    · simp <;> simp [ieq, ilt, ile]
    obtain ⟨x57, hx57, h⟩ := bind_some h
    refine VW.tlE [(5, .val (i64 (a1.length : Int))), (6, .ref 6 [] true (dI (List.replicate (w64 ((a1.length : Int) + 1)).toNat 0))), (14, .ref 14 [] true (dM x57))] (hCK56) ?_ ?_
    · clear hx57
      refine hK56 _ ?_
      -- region 40
      obtain ⟨v81, hv81, h⟩ := bind_some h
      obtain ⟨hv81a, hv81b, hv81c, hv81d⟩ := idx_some hv81
      replace hv81b : a1.length < x57.length := hv81b
      replace hv81c : x57[a1.length]? = some v81 := hv81c
      replace hv81d : ∀ h, x57[a1.length]'h = v81 := hv81d
      refine VW.mid tau_ok Sound.none [some 253, some 254, some 255, some 256, some 257, some 258] 5 [(6, .ref 6 [] true (dI (List.replicate (w64 ((a1.length : Int) + 1)).toNat 0))), (253, .ref 6 [] true (dI (List.replicate (w64 ((a1.length : Int) + 1)).toNat 0))), (257, .ref 14 [(a1.length : Int).toNat] true (dI v81))] _ (fun _ => [(6, .ref 6 [] true (dI (v81.take (List.replicate (w64 ((a1.length : Int) + 1)).toNat 0).length ++ (List.replicate (w64 ((a1.length : Int) + 1)).toNat 0).drop v81.length)))]) (fun _ => True) _ rfl rfl rfl ?_ (step_copy tau_ok rfl rfl (by simp) (sz := 6) (by simp) rfl rfl rfl (by simp) rfl rfl (by simp [D.sc]) (by simp [D.sc])) (fun _ _ => ?_) (fun _ _ => ?_)
      · simp [hv81a, hv81b, hv81c, hv81d] <;> simp [ieq, ilt, ile]
      · simp [hv81a, hv81b, hv81c, hv81d] <;> simp [ieq, ilt, ile]
      -- region 41
      refine VW.ws tau_ok Sound.none [some 259, some 4] [(4, .ref 4 [] true (dI (v81.take (List.replicate (w64 ((a1.length : Int) + 1)).toNat 0).length ++ (List.replicate (w64 ((a1.length : Int) + 1)).toNat 0).drop v81.length)))] rfl ?_ ?_
      · simp <;> simp [ieq, ilt, ile]
      cases h
      refine VW.ret ?_
      simp [Post, PostM, PostC, PostC2, Nx, Bk]
    refine VW.block ?_
    refine VW.loopF (i_field_characteristic_L5 a0 a1 x4) (fun s57 => [(0, .val (i64 a0)), (5, .val (i64 (a1.length : Int))), (6, .ref 6 [] true (dI (List.replicate (w64 ((a1.length : Int) + 1)).toNat 0))), (7, .ref 7 [] true (dM x4)), (14, .ref 14 [] true (dM s57.1)), (15, .val (i64 s57.2))]) hx57 (Fits.of rfl) ?_
    clear hx57
    intro s57 ox57 hx57o hx57b
    unfold i_field_characteristic_L5 at hx57o
    refine VW.sqc fun K59 hK59 hCK59 => ?_
    -- region 29
    refine VW.ws tau_ok Sound.none [some 174, some 175, some 176] [(0, .val (i64 a0)), (5, .val (i64 (a1.length : Int))), (6, .ref 6 [] true (dI (List.replicate (w64 ((a1.length : Int) + 1)).toNat 0))), (7, .ref 7 [] true (dM x4)), (14, .ref 14 [] true (dM s57.1)), (15, .val (i64 s57.2)), (176, .val (.bool (ile s57.2 (a1.length : Int))))] rfl ?_ ?_
    · simp <;> simp [ieq, ilt, ile]
    refine VW.cond rfl (fun hb60 => ?_) (fun hb60 => ?_)
    rotate_left
    ·
      replace hb60 : ¬ (s57.2 ≤ (a1.length : Int)) := by simpa [ieq, ilt, ile] using hb60
      rw [if_neg hb60] at hx57o
      refine VW.exit ?_
      cases hx57o
      have hq := hx57b _ rfl
      subst hq
      exact Fits.of rfl
    replace hb60 : s57.2 ≤ (a1.length : Int) := by simpa [ieq, ilt, ile] using hb60
    rw [if_pos hb60] at hx57o
    refine VW.skip ?_
    refine hK59 _ ?_
    refine VW.sqc fun K61 hK61 hCK61 => ?_
    refine VW.block ?_
    -- region 31
    obtain ⟨v62, hv62, hx57o⟩ := bind_some hx57o
    obtain ⟨hv62a, hv62b, hv62c, hv62d⟩ := idx_some hv62
    obtain ⟨hc63, hx57o⟩ := chk_some hx57o
    have hc63s := hc63
    try simp at hc63s
    refine VW.ws tau_ok Sound.none [some 179, some 180, some 181, some 182, some 183, some 184, some 185, some 16] [(0, .val (i64 a0)), (5, .val (i64 (a1.length : Int))), (6, .ref 6 [] true (dI (List.replicate (w64 ((a1.length : Int) + 1)).toNat 0))), (7, .ref 7 [] true (dM x4)), (14, .ref 14 [] true (dM s57.1)), (15, .val (i64 s57.2)), (16, .ref 16 [] true (dI ([0] ++ v62)))] rfl ?_ ?_
    · simp [hv62a, hv62b, hv62c, hv62d, hc63, hc63s] <;> simp [ieq, ilt, ile]
    -- region 32
    obtain ⟨v64, hv64, hx57o⟩ := bind_some hx57o
    obtain ⟨hv64a, hv64b, hv64c, hv64d⟩ := idx_some hv64
    obtain ⟨v65, hv65, hx57o⟩ := bind_some hx57o
    obtain ⟨hv65a, hv65b, hv65c, hv65d⟩ := idx_some hv65
    obtain ⟨v66, hv66, hx57o⟩ := bind_some hx57o
    refine VW.wds tau_ok (Sound.none.add 203 (i_field_added_ok hv66) rfl) try_mixed [some 186, some 187, some 188, some 189, some 190, some 191, some 192, some 193, some 194, some 195, some 196, some 197, some 198, some 199, some 200, some 201, some 202, some 203, some 16] [(0, .val (i64 a0)), (5, .val (i64 (a1.length : Int))), (6, .ref 6 [] true (dI (List.replicate (w64 ((a1.length : Int) + 1)).toNat 0))), (7, .ref 7 [] true (dM x4)), (14, .ref 14 [] true (dM s57.1)), (15, .val (i64 s57.2)), (16, .ref 16 [] true (dI v66))] 18 rfl (by kernel_rfl) (by rfl) ?_ ?_
    · simp [hv62a, hv62b, hv62c, hv62d, hv64a, hv64b, hv64c, hv64d, hv65a, hv65b, hv65c, hv65d] <;> simp [ieq, ilt, ile]
    -- region 33
    refine VW.ws tau_ok Sound.none [some 17] [(0, .val (i64 a0)), (5, .val (i64 (a1.length : Int))), (6, .ref 6 [] true (dI (List.replicate (w64 ((a1.length : Int) + 1)).toNat 0))), (7, .ref 7 [] true (dM x4)), (14, .ref 14 [] true (dM s57.1)), (15, .val (i64 s57.2)), (16, .ref 16 [] true (dI v66)), (17, .val (i64 1))] rfl ?_ ?_
    · simp <;> simp [ieq, ilt, ile]
    refine VW.sqc fun K67 hK67 hCK67 => ?_
    -- region 34
    refine VW.ws tau_ok Sound.none [some 18] [(0, .val (i64 a0)), (5, .val (i64 (a1.length : Int))), (6, .ref 6 [] true (dI (List.replicate (w64 ((a1.length : Int) + 1)).toNat 0))), (7, .ref 7 [] true (dM x4)), (14, .ref 14 [] true (dM s57.1)), (15, .val (i64 s57.2)), (16, .ref 16 [] true (dI v66)), (17, .val (i64 1)), (18, .val (i64 1))] rfl ?_ ?_
    · simp <;> simp [ieq, ilt, ile]
    obtain ⟨x68, hx68, hx57o⟩ := bind_some hx57o
    refine VW.tlE [(0, .val (i64 a0)), (5, .val (i64 (a1.length : Int))), (6, .ref 6 [] true (dI (List.replicate (w64 ((a1.length : Int) + 1)).toNat 0))), (7, .ref 7 [] true (dM x4)), (14, .ref 14 [] true (dM s57.1)), (15, .val (i64 s57.2)), (16, .ref 16 [] true (dI x68))] (hCK67) ?_ ?_
    · clear hx68
      refine hK67 _ ?_
      -- region 39
      obtain ⟨hc80, hx57o⟩ := chk_some hx57o
      have hc80s := hc80
      try simp at hc80s
      refine VW.wr tau_ok Sound.none [some 249, some 250, some 251, some 252, some 14] [(0, .val (i64 a0)), (5, .val (i64 (a1.length : Int))), (6, .ref 6 [] true (dI (List.replicate (w64 ((a1.length : Int) + 1)).toNat 0))), (7, .ref 7 [] true (dM x4)), (14, .ref 14 [] true (dM (s57.1 ++ [x68]))), (15, .val (i64 s57.2))] rfl ?_ ?_
      · simp [hc80, hc80s] <;> simp [ieq, ilt, ile]
      refine hK61 _ ?_
      -- region 30
      refine VW.wr tau_ok Sound.none [some 177, some 178, some 15] [(0, .val (i64 a0)), (5, .val (i64 (a1.length : Int))), (6, .ref 6 [] true (dI (List.replicate (w64 ((a1.length : Int) + 1)).toNat 0))), (7, .ref 7 [] true (dM x4)), (14, .ref 14 [] true (dM (s57.1 ++ [x68]))), (15, .val (i64 (w64 (s57.2 + 1))))] rfl ?_ ?_
      · simp <;> simp [ieq, ilt, ile]
      cases hx57o
      exact ⟨_, rfl, Fits.of rfl⟩
    refine VW.block ?_
    refine VW.loopF (i_field_characteristic_L6 a0 x4 s57) (fun s68 => [(0, .val (i64 a0)), (5, .val (i64 (a1.length : Int))), (6, .ref 6 [] true (dI (List.replicate (w64 ((a1.length : Int) + 1)).toNat 0))), (7, .ref 7 [] true (dM x4)), (14, .ref 14 [] true (dM s57.1)), (15, .val (i64 s57.2)), (16, .ref 16 [] true (dI s68.1)), (17, .val (i64 s68.2.1)), (18, .val (i64 s68.2.2))]) hx68 (Fits.of rfl) ?_
    clear hx68
    intro s68 ox68 hx68o hx68b
    unfold i_field_characteristic_L6 at hx68o
    refine VW.sqc fun K70 hK70 hCK70 => ?_
    -- region 35
    refine VW.ws tau_ok Sound.none [some 204, some 205, some 206] [(0, .val (i64 a0)), (5, .val (i64 (a1.length : Int))), (6, .ref 6 [] true (dI (List.replicate (w64 ((a1.length : Int) + 1)).toNat 0))), (7, .ref 7 [] true (dM x4)), (14, .ref 14 [] true (dM s57.1)), (15, .val (i64 s57.2)), (16, .ref 16 [] true (dI s68.1)), (17, .val (i64 s68.2.1)), (18, .val (i64 s68.2.2)), (206, .val (.bool (ilt s68.2.2 s57.2)))] rfl ?_ ?_
    · simp <;> simp [ieq, ilt, ile]
    refine VW.cond rfl (fun hb71 => ?_) (fun hb71 => ?_)
    rotate_left
    ·
      replace hb71 : ¬ (s68.2.2 < s57.2) := by simpa [ieq, ilt, ile] using hb71
      rw [if_neg hb71] at hx68o
      refine VW.exit ?_
      cases hx68o
      have hq := hx68b _ rfl
      subst hq
      exact Fits.of rfl
    replace hb71 : s68.2.2 < s57.2 := by simpa [ieq, ilt, ile] using hb71
    rw [if_pos hb71] at hx68o
    refine VW.skip ?_
    refine hK70 _ ?_
    refine VW.sqc fun K72 hK72 hCK72 => ?_
    refine VW.block ?_
    -- region 37
    obtain ⟨v73, hv73, hx68o⟩ := bind_some hx68o
    obtain ⟨hv73a, hv73b, hv73c, hv73d⟩ := idx_some hv73
    obtain ⟨v74, hv74, hx68o⟩ := bind_some hx68o
    obtain ⟨hv74a, hv74b, hv74c, hv74d⟩ := idx_some hv74
    obtain ⟨v75, hv75, hx68o⟩ := bind_some hx68o
    refine VW.ws tau_ok (Sound.none.add 224 (i_field_num_ok hv75) rfl) [some 209, some 210, some 211, some 212, some 213, some 214, some 215, some 216, some 217, some 218, some 219, some 220, some 221, some 222, some 223, some 224, some 17] [(0, .val (i64 a0)), (5, .val (i64 (a1.length : Int))), (6, .ref 6 [] true (dI (List.replicate (w64 ((a1.length : Int) + 1)).toNat 0))), (7, .ref 7 [] true (dM x4)), (14, .ref 14 [] true (dM s57.1)), (15, .val (i64 s57.2)), (16, .ref 16 [] true (dI s68.1)), (17, .val (i64 v75)), (18, .val (i64 s68.2.2))] rfl ?_ ?_
    · simp [hv73a, hv73b, hv73c, hv73d, hv74a, hv74b, hv74c, hv74d] <;> simp [ieq, ilt, ile]
    -- region 38
    obtain ⟨v76, hv76, hx68o⟩ := bind_some hx68o
    obtain ⟨hv76a, hv76b, hv76c, hv76d⟩ := idx_some hv76
    obtain ⟨v77, hv77, hx68o⟩ := bind_some hx68o
    obtain ⟨hv77a, hv77b, hv77c, hv77d⟩ := idx_some hv77
    obtain ⟨v78, hv78, hx68o⟩ := bind_some hx68o
    obtain ⟨hv78a, hv78b, hv78c, hv78d⟩ := idx_some hv78
    obtain ⟨v79, hv79, hx68o⟩ := bind_some hx68o
    refine VW.wdr tau_ok (Sound.none.add 248 (i_field_added_ok hv79) rfl) try_mixed [some 225, some 226, some 227, some 228, some 229, some 230, some 231, some 232, some 233, some 234, some 235, some 236, some 237, some 238, some 239, some 240, some 241, some 242, some 243, some 244, some 245, some 246, some 247, some 248, some 16] [(0, .val (i64 a0)), (5, .val (i64 (a1.length : Int))), (6, .ref 6 [] true (dI (List.replicate (w64 ((a1.length : Int) + 1)).toNat 0))), (7, .ref 7 [] true (dM x4)), (14, .ref 14 [] true (dM s57.1)), (15, .val (i64 s57.2)), (16, .ref 16 [] true (dI v79)), (17, .val (i64 v75)), (18, .val (i64 s68.2.2))] 24 rfl (by kernel_rfl) (by rfl) ?_ ?_
    · simp [hv76a, hv76b, hv76c, hv76d, hv77a, hv77b, hv77c, hv77d, hv78a, hv78b, hv78c, hv78d] <;> simp [ieq, ilt, ile]
    refine hK72 _ ?_
    -- region 36
    refine VW.wr tau_ok Sound.none [some 207, some 208, some 18] [(0, .val (i64 a0)), (5, .val (i64 (a1.length : Int))), (6, .ref 6 [] true (dI (List.replicate (w64 ((a1.length : Int) + 1)).toNat 0))), (7, .ref 7 [] true (dM x4)), (14, .ref 14 [] true (dM s57.1)), (15, .val (i64 s57.2)), (16, .ref 16 [] true (dI v79)), (17, .val (i64 v75)), (18, .val (i64 (w64 (s68.2.2 + 1))))] rfl ?_ ?_
    · simp <;> simp [ieq, ilt, ile]
    cases hx68o
    exact ⟨_, rfl, Fits.of rfl⟩
  refine VW.block ?_
  refine VW.loopF (i_field_characteristic_L0 a0 a1) (fun s4 => [(0, .val (i64 a0)), (5, .val (i64 (a1.length : Int))), (6, .ref 6 [] true (dI (List.replicate (w64 ((a1.length : Int) + 1)).toNat 0))), (7, .ref 7 [] true (dM s4.1)), (8, .val (i64 s4.2))]) hx4 (Fits.of rfl) ?_
  clear hx4
  intro s4 ox4 hx4o hx4b
  unfold i_field_characteristic_L0 at hx4o
  refine VW.sqc fun K6 hK6 hCK6 => ?_
  -- region 5
  refine VW.ws tau_ok Sound.none [some 26, some 27, some 28, some 29] [(0, .val (i64 a0)), (5, .val (i64 (a1.length : Int))), (6, .ref 6 [] true (dI (List.replicate (w64 ((a1.length : Int) + 1)).toNat 0))), (7, .ref 7 [] true (dM s4.1)), (8, .val (i64 s4.2)), (29, .val (.bool (ilt s4.2 (w64 ((a1.length : Int) - 1)))))] rfl ?_ ?_
  · simp <;> simp [ieq, ilt, ile]
  refine VW.cond rfl (fun hb7 => ?_) (fun hb7 => ?_)
  rotate_left
  ·
    replace hb7 : ¬ (s4.2 < (w64 ((a1.length : Int) - 1))) := by simpa [ieq, ilt, ile] using hb7
    rw [if_neg hb7] at hx4o
    refine VW.exit ?_
    cases hx4o
    have hq := hx4b _ rfl
    subst hq
    exact Fits.of rfl
  replace hb7 : s4.2 < (w64 ((a1.length : Int) - 1)) := by simpa [ieq, ilt, ile] using hb7
  rw [if_pos hb7] at hx4o
  refine VW.skip ?_
  refine hK6 _ ?_
  refine VW.sqc fun K8 hK8 hCK8 => ?_
  obtain ⟨x9, hx9, hx4o⟩ := bind_some hx4o
  refine VW.tlE [(0, .val (i64 a0)), (5, .val (i64 (a1.length : Int))), (6, .ref 6 [] true (dI (List.replicate (w64 ((a1.length : Int) + 1)).toNat 0))), (7, .ref 7 [] true (dM x9)), (8, .val (i64 s4.2))] (hCK8) ?_ ?_
  · clear hx9
    refine hK8 _ ?_
    -- region 6
    refine VW.wr tau_ok Sound.none [some 30, some 31, some 8] [(0, .val (i64 a0)), (5, .val (i64 (a1.length : Int))), (6, .ref 6 [] true (dI (List.replicate (w64 ((a1.length : Int) + 1)).toNat 0))), (7, .ref 7 [] true (dM x9)), (8, .val (i64 (w64 (s4.2 + 1))))] rfl ?_ ?_
    · simp <;> simp [ieq, ilt, ile]
    cases hx4o
    exact ⟨_, rfl, Fits.of rfl⟩
  refine VW.block ?_
  -- region 7
  refine VW.ws tau_ok Sound.none [some 32, some 9] [(0, .val (i64 a0)), (5, .val (i64 (a1.length : Int))), (6, .ref 6 [] true (dI (List.replicate (w64 ((a1.length : Int) + 1)).toNat 0))), (7, .ref 7 [] true (dM s4.1)), (8, .val (i64 s4.2)), (9, .val (i64 s4.2))] rfl ?_ ?_
  · simp <;> simp [ieq, ilt, ile]
  refine VW.sqc fun K11 hK11 hCK11 => ?_
  obtain ⟨x12, hx12, hx9⟩ := bind_some hx9
  refine VW.tlE [(0, .val (i64 a0)), (5, .val (i64 (a1.length : Int))), (6, .ref 6 [] true (dI (List.replicate (w64 ((a1.length : Int) + 1)).toNat 0))), (7, .ref 7 [] true (dM s4.1)), (8, .val (i64 s4.2)), (9, .val (i64 x12))] (hCK11) ?_ ?_
  · clear hx12
    refine hK11 _ ?_
    refine VW.sqc fun K20 hK20 hCK20 => ?_
    -- region 10
    refine VW.ws tau_ok Sound.none [some 49, some 50, some 51] [(0, .val (i64 a0)), (5, .val (i64 (a1.length : Int))), (6, .ref 6 [] true (dI (List.replicate (w64 ((a1.length : Int) + 1)).toNat 0))), (7, .ref 7 [] true (dM s4.1)), (8, .val (i64 s4.2)), (9, .val (i64 x12)), (51, .val (.bool (ieq x12 (a1.length : Int))))] rfl ?_ ?_
    · simp <;> simp [ieq, ilt, ile]
    refine VW.cond rfl (fun hb21 => ?_) (fun hb21 => ?_)
    ·
      replace hb21 : x12 = (a1.length : Int) := by simpa [ieq, ilt, ile] using hb21
      rw [if_pos hb21] at hx9
      refine VW.exit ?_
      cases hx9
      exact Fits.of rfl
    replace hb21 : ¬ (x12 = (a1.length : Int)) := by simpa [ieq, ilt, ile] using hb21
    rw [if_neg hb21] at hx9
    refine VW.skip ?_
    refine hK20 _ ?_
    -- region 11
    obtain ⟨v22, hv22, hx9⟩ := bind_some hx9
    obtain ⟨hv22a, hv22b, hv22c, hv22d⟩ := idx_some hv22
    obtain ⟨v23, hv23, hx9⟩ := bind_some hx9
    obtain ⟨hv23a, hv23b, hv23c, hv23d⟩ := idx_some hv23
    have hv22z := hv22b
    try simp [hv22a] at hv22z
    have hv23z := hv23b
    try simp [hv23a] at hv23z
    obtain ⟨v24, hv24, hx9⟩ := bind_some hx9
    obtain ⟨hv24a, hv24b, hv24c, hv24d⟩ := idx_some hv24
    have hv24s := hv24b
    try simp at hv24s
    refine VW.wds tau_ok Sound.none try_mixed [some 52, some 53, some 54, some 55, some 56, some 57, some 58, some 59, some 60, some 61, some 62, some 63, some 64, none, some 65, none] [(0, .val (i64 a0)), (5, .val (i64 (a1.length : Int))), (6, .ref 6 [] true (dI (List.replicate (w64 ((a1.length : Int) + 1)).toNat 0))), (7, .ref 7 [] true (dM ((s4.1.set x12.toNat v22).set s4.2.toNat v23))), (8, .val (i64 s4.2)), (9, .val (i64 x12))] 13 rfl (by kernel_rfl) (by rfl) ?_ ?_
    · simp [hv22a, hv22b, hv22c, hv22d, hv23a, hv23b, hv23c, hv23d, hv22z, hv23z, hv24a, hv24b, hv24c, hv24d, hv24s] <;> simp [ieq, ilt, ile]
    refine VW.sqc fun K25 hK25 hCK25 => ?_
    -- region 12
    refine VW.ws tau_ok Sound.none [some 66, some 67, some 68] [(0, .val (i64 a0)), (5, .val (i64 (a1.length : Int))), (6, .ref 6 [] true (dI (List.replicate (w64 ((a1.length : Int) + 1)).toNat 0))), (7, .ref 7 [] true (dM ((s4.1.set x12.toNat v22).set s4.2.toNat v23))), (8, .val (i64 s4.2)), (9, .val (i64 x12)), (67, .val (i64 (((s4.1.set x12.toNat v22).set s4.2.toNat v23).length : Int))), (68, .val (i64 0))] rfl ?_ ?_
    · simp <;> simp [ieq, ilt, ile]
    obtain ⟨x26, hx26, hx9⟩ := bind_some hx9
    refine VW.tlE [(0, .val (i64 a0)), (5, .val (i64 (a1.length : Int))), (6, .ref 6 [] true (dI (List.replicate (w64 ((a1.length : Int) + 1)).toNat 0))), (7, .ref 7 [] true (dM x26)), (8, .val (i64 s4.2))] (hCK25) ?_ ?_
    · clear hx26
      refine hK25 _ ?_
      -- region 17
      refine VW.ws tau_ok Sound.none [some 98, some 99, some 11] [(0, .val (i64 a0)), (5, .val (i64 (a1.length : Int))), (6, .ref 6 [] true (dI (List.replicate (w64 ((a1.length : Int) + 1)).toNat 0))), (7, .ref 7 [] true (dM x26)), (8, .val (i64 s4.2)), (11, .val (i64 (w64 (s4.2 + 1))))] rfl ?_ ?_
      · simp <;> simp [ieq, ilt, ile]
      obtain ⟨x35, hx35, hx9⟩ := bind_some hx9
      refine VW.tlE [(0, .val (i64 a0)), (5, .val (i64 (a1.length : Int))), (6, .ref 6 [] true (dI (List.replicate (w64 ((a1.length : Int) + 1)).toNat 0))), (7, .ref 7 [] true (dM x35)), (8, .val (i64 s4.2))] (Cl.fits _) ?_ ?_
      · clear hx35
        cases hx9
        exact Fits.of rfl
      refine VW.block ?_
      refine VW.loopF (i_field_characteristic_L3 a0 a1 s4) (fun s35 => [(0, .val (i64 a0)), (5, .val (i64 (a1.length : Int))), (6, .ref 6 [] true (dI (List.replicate (w64 ((a1.length : Int) + 1)).toNat 0))), (7, .ref 7 [] true (dM s35.1)), (8, .val (i64 s4.2)), (11, .val (i64 s35.2))]) hx35 (Fits.of rfl) ?_
      clear hx35
      intro s35 ox35 hx35o hx35b
      unfold i_field_characteristic_L3 at hx35o
      refine VW.sqc fun K37 hK37 hCK37 => ?_
      -- region 18
      refine VW.ws tau_ok Sound.none [some 100, some 101, some 102] [(0, .val (i64 a0)), (5, .val (i64 (a1.length : Int))), (6, .ref 6 [] true (dI (List.replicate (w64 ((a1.length : Int) + 1)).toNat 0))), (7, .ref 7 [] true (dM s35.1)), (8, .val (i64 s4.2)), (11, .val (i64 s35.2)), (102, .val (.bool (ilt s35.2 (a1.length : Int))))] rfl ?_ ?_
      · simp <;> simp [ieq, ilt, ile]
      refine VW.cond rfl (fun hb38 => ?_) (fun hb38 => ?_)
      rotate_left
      ·
        replace hb38 : ¬ (s35.2 < (a1.length : Int)) := by simpa [ieq, ilt, ile] using hb38
        rw [if_neg hb38] at hx35o
        refine VW.exit ?_
        cases hx35o
        have hq := hx35b _ rfl
        subst hq
        exact Fits.of rfl
      replace hb38 : s35.2 < (a1.length : Int) := by simpa [ieq, ilt, ile] using hb38
      rw [if_pos hb38] at hx35o
      refine VW.skip ?_
      refine hK37 _ ?_
      refine VW.sqc fun K39 hK39 hCK39 => ?_
      refine VW.block ?_
      -- region 20
      obtain ⟨v40, hv40, hx35o⟩ := bind_some hx35o
      obtain ⟨hv40a, hv40b, hv40c, hv40d⟩ := idx_some hv40
      obtain ⟨v41, hv41, hx35o⟩ := bind_some hx35o
      obtain ⟨hv41a, hv41b, hv41c, hv41d⟩ := idx_some hv41
      obtain ⟨v42, hv42, hx35o⟩ := bind_some hx35o
      obtain ⟨hv42a, hv42b, hv42c, hv42d⟩ := idx_some hv42
      obtain ⟨v43, hv43, hx35o⟩ := bind_some hx35o
      obtain ⟨hv43a, hv43b, hv43c, hv43d⟩ := idx_some hv43
      obtain ⟨v44, hv44, hx35o⟩ := bind_some hx35o
      obtain ⟨v45, hv45, hx35o⟩ := bind_some hx35o
      refine VW.wds tau_ok ((Sound.none.add 123 (i_field_inv_ok hv44) rfl).add 125 (i_field_num_ok hv45) rfl) try_mixed [some 105, some 106, some 107, some 108, some 109, some 110, some 111, some 112, some 113, some 114, some 115, some 116, some 117, some 118, some 119, some 120, some 121, some 122, some 123, some 124, some 125, some 12] [(0, .val (i64 a0)), (5, .val (i64 (a1.length : Int))), (6, .ref 6 [] true (dI (List.replicate (w64 ((a1.length : Int) + 1)).toNat 0))), (7, .ref 7 [] true (dM s35.1)), (8, .val (i64 s4.2)), (11, .val (i64 s35.2)), (12, .val (i64 v45))] 22 rfl (by kernel_rfl) (by rfl) ?_ ?_
      · simp [hv40a, hv40b, hv40c, hv40d, hv41a, hv41b, hv41c, hv41d, hv42a, hv42b, hv42c, hv42d, hv43a, hv43b, hv43c, hv43d] <;> simp [ieq, ilt, ile]
      -- region 21
      obtain ⟨v46, hv46, hx35o⟩ := bind_some hx35o
      refine VW.wds tau_ok (Sound.none.add 139 (i_field_plus_ok hv46) rfl) try_mixed [some 126, some 127, some 128, some 129, some 130, some 131, some 132, some 133, some 134, some 135, some 136, some 137, some 138, some 139, some 140, none] [(0, .val (i64 a0)), (5, .val (i64 (a1.length : Int))), (6, .ref 6 [] true (dI (List.replicate (w64 ((a1.length : Int) + 1)).toNat 0))), (7, .ref 7 [] true (dM (s35.1.set s35.2.toNat v46))), (8, .val (i64 s4.2)), (11, .val (i64 s35.2)), (12, .val (i64 v45))] 15 rfl (by kernel_rfl) (by rfl) ?_ ?_
      · simp [hv40a, hv40b, hv40c, hv40d, hv42a, hv42b, hv42c, hv42d] <;> simp [ieq, ilt, ile]
      -- region 22
      refine VW.ws tau_ok Sound.none [some 141, some 142, some 143] [(0, .val (i64 a0)), (5, .val (i64 (a1.length : Int))), (6, .ref 6 [] true (dI (List.replicate (w64 ((a1.length : Int) + 1)).toNat 0))), (7, .ref 7 [] true (dM (s35.1.set s35.2.toNat v46))), (8, .val (i64 s4.2)), (11, .val (i64 s35.2)), (12, .val (i64 v45)), (142, .val (i64 ((s35.1.set s35.2.toNat v46).length : Int))), (143, .val (i64 0))] rfl ?_ ?_
      · simp <;> simp [ieq, ilt, ile]
      obtain ⟨x47, hx47, hx35o⟩ := bind_some hx35o
      refine VW.tlE [(0, .val (i64 a0)), (5, .val (i64 (a1.length : Int))), (6, .ref 6 [] true (dI (List.replicate (w64 ((a1.length : Int) + 1)).toNat 0))), (7, .ref 7 [] true (dM x47)), (8, .val (i64 s4.2)), (11, .val (i64 s35.2))] (hCK39) ?_ ?_
      · clear hx47
        refine hK39 _ ?_
        -- region 19
        refine VW.wr tau_ok Sound.none [some 103, some 104, some 11] [(0, .val (i64 a0)), (5, .val (i64 (a1.length : Int))), (6, .ref 6 [] true (dI (List.replicate (w64 ((a1.length : Int) + 1)).toNat 0))), (7, .ref 7 [] true (dM x47)), (8, .val (i64 s4.2)), (11, .val (i64 (w64 (s35.2 + 1))))] rfl ?_ ?_
        · simp <;> simp [ieq, ilt, ile]
        cases hx35o
        exact ⟨_, rfl, Fits.of rfl⟩
      refine VW.block ?_
      refine VW.loopF (i_field_characteristic_L4 a0 s4 s35 v45) (fun s47 => [(0, .val (i64 a0)), (5, .val (i64 (a1.length : Int))), (6, .ref 6 [] true (dI (List.replicate (w64 ((a1.length : Int) + 1)).toNat 0))), (7, .ref 7 [] true (dM s47.1)), (8, .val (i64 s4.2)), (11, .val (i64 s35.2)), (12, .val (i64 v45)), (142, .val (i64 s47.2.1)), (143, .val (i64 s47.2.2))]) hx47 (Fits.of rfl) ?_
      clear hx47
      intro s47 ox47 hx47o hx47b
      unfold i_field_characteristic_L4 at hx47o
      -- region 23
      refine VW.ws tau_ok Sound.none [some 144] [(0, .val (i64 a0)), (5, .val (i64 (a1.length : Int))), (6, .ref 6 [] true (dI (List.replicate (w64 ((a1.length : Int) + 1)).toNat 0))), (7, .ref 7 [] true (dM s47.1)), (8, .val (i64 s4.2)), (11, .val (i64 s35.2)), (12, .val (i64 v45)), (142, .val (i64 s47.2.1)), (143, .val (i64 s47.2.2)), (144, .val (.bool (ilt s47.2.2 s47.2.1)))] rfl ?_ ?_
      · simp <;> simp [ieq, ilt, ile]
      refine VW.sqc fun K49 hK49 hCK49 => ?_
      refine VW.cond rfl (fun hb50 => ?_) (fun hb50 => ?_)
      rotate_left
      ·
        replace hb50 : ¬ (s47.2.2 < s47.2.1) := by simpa [ieq, ilt, ile] using hb50
        rw [if_neg hb50] at hx47o
        refine VW.exit ?_
        cases hx47o
        have hq := hx47b _ rfl
        subst hq
        exact Fits.of rfl
      replace hb50 : s47.2.2 < s47.2.1 := by simpa [ieq, ilt, ile] using hb50
      rw [if_pos hb50] at hx47o
      refine VW.skip ?_
      refine hK49 _ ?_
      refine VW.sqc fun K51 hK51 hCK51 => ?_
      refine VW.block ?_
      -- region 24
      refine VW.ws tau_ok Sound.none [some 145, some 13] [(0, .val (i64 a0)), (5, .val (i64 (a1.length : Int))), (6, .ref 6 [] true (dI (List.replicate (w64 ((a1.length : Int) + 1)).toNat 0))), (7, .ref 7 [] true (dM s47.1)), (8, .val (i64 s4.2)), (11, .val (i64 s35.2)), (12, .val (i64 v45)), (13, .val (i64 s47.2.2)), (142, .val (i64 s47.2.1)), (143, .val (i64 s47.2.2))] rfl ?_ ?_
      · simp <;> simp [ieq, ilt, ile]
      -- region 25
      obtain ⟨v52, hv52, hx47o⟩ := bind_some hx47o
      obtain ⟨hv52a, hv52b, hv52c, hv52d⟩ := idx_some hv52
      obtain ⟨v53, hv53, hx47o⟩ := bind_some hx47o
      obtain ⟨hv53a, hv53b, hv53c, hv53d⟩ := idx_some hv53
      obtain ⟨v54, hv54, hx47o⟩ := bind_some hx47o
      obtain ⟨hv54a, hv54b, hv54c, hv54d⟩ := idx_some hv54
      obtain ⟨v55, hv55, hx47o⟩ := bind_some hx47o
      refine VW.wdr tau_ok (Sound.none.add 169 (i_field_num_ok hv55) rfl) try_mixed [some 146, some 147, some 148, some 149, some 150, some 151, some 152, some 153, some 154, some 155, some 156, some 157, some 158, some 159, some 160, some 161, some 162, some 163, some 164, some 165, some 166, some 167, some 168, some 169, some 170, none] [(0, .val (i64 a0)), (5, .val (i64 (a1.length : Int))), (6, .ref 6 [] true (dI (List.replicate (w64 ((a1.length : Int) + 1)).toNat 0))), (7, .ref 7 [] true (dM (s47.1.set s47.2.2.toNat (v52.set s4.2.toNat v55)))), (8, .val (i64 s4.2)), (11, .val (i64 s35.2)), (12, .val (i64 v45)), (142, .val (i64 s47.2.1)), (143, .val (i64 s47.2.2))] 25 rfl (by kernel_rfl) (by rfl) ?_ ?_
      · simp [hv52a, hv52b, hv52c, hv52d, hv53a, hv53b, hv53c, hv53d, hv54a, hv54b, hv54c, hv54d] <;> simp [ieq, ilt, ile]
      refine hK51 _ ?_
      -- region 26
      refine VW.wr tau_ok Sound.none [some 171, some 143] [(0, .val (i64 a0)), (5, .val (i64 (a1.length : Int))), (6, .ref 6 [] true (dI (List.replicate (w64 ((a1.length : Int) + 1)).toNat 0))), (7, .ref 7 [] true (dM (s47.1.set s47.2.2.toNat (v52.set s4.2.toNat v55)))), (8, .val (i64 s4.2)), (11, .val (i64 s35.2)), (12, .val (i64 v45)), (142, .val (i64 s47.2.1)), (143, .val (i64 (w64 (s47.2.2 + 1))))] rfl ?_ ?_
      · simp <;> simp [ieq, ilt, ile]
      cases hx47o
      exact ⟨_, rfl, Fits.of rfl⟩
    refine VW.block ?_
    refine VW.loopF (i_field_characteristic_L2 s4 x12) (fun s26 => [(0, .val (i64 a0)), (5, .val (i64 (a1.length : Int))), (6, .ref 6 [] true (dI (List.replicate (w64 ((a1.length : Int) + 1)).toNat 0))), (7, .ref 7 [] true (dM s26.1)), (8, .val (i64 s4.2)), (9, .val (i64 x12)), (67, .val (i64 s26.2.1)), (68, .val (i64 s26.2.2))]) hx26 (Fits.of rfl) ?_
    clear hx26
    intro s26 ox26 hx26o hx26b
    unfold i_field_characteristic_L2 at hx26o
    -- region 13
    refine VW.ws tau_ok Sound.none [some 69] [(0, .val (i64 a0)), (5, .val (i64 (a1.length : Int))), (6, .ref 6 [] true (dI (List.replicate (w64 ((a1.length : Int) + 1)).toNat 0))), (7, .ref 7 [] true (dM s26.1)), (8, .val (i64 s4.2)), (9, .val (i64 x12)), (67, .val (i64 s26.2.1)), (68, .val (i64 s26.2.2)), (69, .val (.bool (ilt s26.2.2 s26.2.1)))] rfl ?_ ?_
    · simp <;> simp [ieq, ilt, ile]
    refine VW.sqc fun K28 hK28 hCK28 => ?_
    refine VW.cond rfl (fun hb29 => ?_) (fun hb29 => ?_)
    rotate_left
    ·
      replace hb29 : ¬ (s26.2.2 < s26.2.1) := by simpa [ieq, ilt, ile] using hb29
      rw [if_neg hb29] at hx26o
      refine VW.exit ?_
      cases hx26o
      have hq := hx26b _ rfl
      subst hq
      exact Fits.of rfl
    replace hb29 : s26.2.2 < s26.2.1 := by simpa [ieq, ilt, ile] using hb29
    rw [if_pos hb29] at hx26o
    refine VW.skip ?_
    refine hK28 _ ?_
    refine VW.sqc fun K30 hK30 hCK30 => ?_
    refine VW.block ?_
    -- region 14
    refine VW.ws tau_ok Sound.none [some 70, some 10] [(0, .val (i64 a0)), (5, .val (i64 (a1.length : Int))), (6, .ref 6 [] true (dI (List.replicate (w64 ((a1.length : Int) + 1)).toNat 0))), (7, .ref 7 [] true (dM s26.1)), (8, .val (i64 s4.2)), (9, .val (i64 x12)), (10, .val (i64 s26.2.2)), (67, .val (i64 s26.2.1)), (68, .val (i64 s26.2.2))] rfl ?_ ?_
    · simp <;> simp [ieq, ilt, ile]
    -- region 15
    obtain ⟨v31, hv31, hx26o⟩ := bind_some hx26o
    obtain ⟨hv31a, hv31b, hv31c, hv31d⟩ := idx_some hv31
    obtain ⟨v32, hv32, hx26o⟩ := bind_some hx26o
    obtain ⟨hv32a, hv32b, hv32c, hv32d⟩ := idx_some hv32
    obtain ⟨v33, hv33, hx26o⟩ := bind_some hx26o
    obtain ⟨hv33a, hv33b, hv33c, hv33d⟩ := idx_some hv33
    obtain ⟨v34, hv34, hx26o⟩ := bind_some hx26o
    obtain ⟨hv34a, hv34b, hv34c, hv34d⟩ := idx_some hv34
    have hv34s := hv34b
    try simp at hv34s
    refine VW.wdr tau_ok Sound.none try_mixed [some 71, some 72, some 73, some 74, some 75, some 76, some 77, some 78, some 79, some 80, some 81, some 82, some 83, some 84, some 85, some 86, some 87, some 88, some 89, some 90, some 91, some 92, some 93, some 94, some 95, none, some 96, none] [(0, .val (i64 a0)), (5, .val (i64 (a1.length : Int))), (6, .ref 6 [] true (dI (List.replicate (w64 ((a1.length : Int) + 1)).toNat 0))), (7, .ref 7 [] true (dM ((s26.1.set s26.2.2.toNat (v31.set x12.toNat v32)).set s26.2.2.toNat ((v31.set x12.toNat v32).set s4.2.toNat v33)))), (8, .val (i64 s4.2)), (9, .val (i64 x12)), (67, .val (i64 s26.2.1)), (68, .val (i64 s26.2.2))] 25 rfl (by kernel_rfl) (by rfl) ?_ ?_
    · simp [hv31a, hv31b, hv31c, hv31d, hv32a, hv32b, hv32c, hv32d, hv33a, hv33b, hv33c, hv33d, hv34a, hv34b, hv34c, hv34d, hv34s] <;> simp [ieq, ilt, ile]
    refine hK30 _ ?_
    -- region 16
    refine VW.wr tau_ok Sound.none [some 97, some 68] [(0, .val (i64 a0)), (5, .val (i64 (a1.length : Int))), (6, .ref 6 [] true (dI (List.replicate (w64 ((a1.length : Int) + 1)).toNat 0))), (7, .ref 7 [] true (dM ((s26.1.set s26.2.2.toNat (v31.set x12.toNat v32)).set s26.2.2.toNat ((v31.set x12.toNat v32).set s4.2.toNat v33)))), (8, .val (i64 s4.2)), (9, .val (i64 x12)), (67, .val (i64 s26.2.1)), (68, .val (i64 (w64 (s26.2.2 + 1))))] rfl ?_ ?_
    · simp <;> simp [ieq, ilt, ile]
    cases hx26o
    exact ⟨_, rfl, Fits.of rfl⟩
  refine VW.block ?_
  refine VW.loopF (i_field_characteristic_L1 a1 s4) (fun s12 => [(0, .val (i64 a0)), (5, .val (i64 (a1.length : Int))), (6, .ref 6 [] true (dI (List.replicate (w64 ((a1.length : Int) + 1)).toNat 0))), (7, .ref 7 [] true (dM s4.1)), (8, .val (i64 s4.2)), (9, .val (i64 s12))]) hx12 (Fits.of rfl) ?_
  clear hx12
  intro s12 ox12 hx12o hx12b
  unfold i_field_characteristic_L1 at hx12o
  refine VW.sqc fun K14 hK14 hCK14 => ?_
  -- region 8
  obtain ⟨x18, hx18, hx12o⟩ := bind_some hx12o
  refine VW.cut [(0, .val (i64 a0)), (5, .val (i64 (a1.length : Int))), (6, .ref 6 [] true (dI (List.replicate (w64 ((a1.length : Int) + 1)).toNat 0))), (7, .ref 7 [] true (dM s4.1)), (8, .val (i64 s4.2)), (9, .val (i64 s12)), (46, .val (.bool x18))] ?_ fun hy => ?_
  rotate_left
  · clear hx12o
    by_cases hp15 : s12 < (a1.length : Int)
    · rw [if_pos hp15] at hx18
      have hp15b : ilt s12 (a1.length : Int) = true := by simpa [ieq, ilt, ile] using hp15
      have hp15s := hp15b
      try simp at hp15s
      obtain ⟨v16, hv16, hx18⟩ := bind_some hx18
      obtain ⟨hv16a, hv16b, hv16c, hv16d⟩ := idx_some hv16
      obtain ⟨v17, hv17, hx18⟩ := bind_some hx18
      obtain ⟨hv17a, hv17b, hv17c, hv17d⟩ := idx_some hv17
      cases hx18
      refine VW.ws tau_ok Sound.none [some 33, some 34, some 35, some 36, some 37, some 38, some 39, some 40, some 41, some 42, some 43, some 44, some 45, some 46] _ rfl ?_ hy
      simp [hp15b, hp15s, hv16a, hv16b, hv16c, hv16d, hv17a, hv17b, hv17c, hv17d] <;> simp [ieq, ilt, ile]
    · rw [if_neg hp15] at hx18
      have hp15b : ilt s12 (a1.length : Int) = false := by simpa [ieq, ilt, ile] using hp15
      have hp15s := hp15b
      try simp at hp15s
      cases hx18
      refine VW.ws tau_ok Sound.none [some 33, some 34, some 35, some 36, some 37, some 38, some 39, some 40, some 41, some 42, some 43, some 44, some 45, some 46] _ rfl ?_ hy
      simp [hp15b, hp15s] <;> simp [ieq, ilt, ile]
  refine VW.cond rfl (fun hb19 => ?_) (fun hb19 => ?_)
  rotate_left
  ·
    replace hb19 : ¬ (x18 = true) := by simpa [ieq, ilt, ile] using hb19
    rw [if_neg hb19] at hx12o
    refine VW.exit ?_
    cases hx12o
    have hq := hx12b _ rfl
    subst hq
    exact Fits.of rfl
  replace hb19 : x18 = true := by simpa [ieq, ilt, ile] using hb19
  rw [if_pos hb19] at hx12o
  refine VW.skip ?_
  refine hK14 _ ?_
  refine VW.block ?_
  -- region 9
  refine VW.wr tau_ok Sound.none [some 47, some 48, some 9] [(0, .val (i64 a0)), (5, .val (i64 (a1.length : Int))), (6, .ref 6 [] true (dI (List.replicate (w64 ((a1.length : Int) + 1)).toNat 0))), (7, .ref 7 [] true (dM s4.1)), (8, .val (i64 s4.2)), (9, .val (i64 (w64 (s12 + 1))))] rfl ?_ ?_
  · simp <;> simp [ieq, ilt, ile]
  cases hx12o
  exact ⟨_, rfl, Fits.of rfl⟩

theorem i_CharacteristicPolynomial_ok {a0 : Int} {a1 : List (List Int)} {r : (List Int) × Int} (h : i_CharacteristicPolynomial a0 a1 = some r) :
    VCall Try.prog 70 [i64 a0, dM a1] [.own true (dI r.1), .sc (i64 r.2)] := by
  unfold i_CharacteristicPolynomial at h
  refine VCall.enter Try.call70 Try.func70 rfl 16 Try.ntmps70 (by simp) [.tmp 4, .tmp 5] rfl ?_
  show VW _ _ _ (mk [(0, .val (i64 a0)), (1, .val (dM a1))]) _
  -- region 0
  refine VW.ws tau_ok Sound.none [some 4, some 5] [(0, .val (i64 a0)), (1, .val (dM a1))] rfl ?_ ?_
  · simp <;> simp [ieq, ilt, ile]
  refine VW.sqc fun K1 hK1 hCK1 => ?_
  -- region 1
  obtain ⟨v2, hv2, h⟩ := bind_some h
  refine VW.ws tau_ok (Sound.none.add 9 (i_checkSquare_ok hv2) rfl) [some 7, some 8, some 9, some 6] [(0, .val (i64 a0)), (1, .val (dM a1)), (6, .val (i64 v2))] rfl ?_ ?_
  · simp <;> simp [ieq, ilt, ile]
  -- region 2
  refine VW.ws tau_ok Sound.none [some 10, some 11] [(0, .val (i64 a0)), (1, .val (dM a1)), (6, .val (i64 v2)), (11, .val (.bool (!(ieq v2 0))))] rfl ?_ ?_
  · simp <;> simp [ieq, ilt, ile]
  refine VW.cond rfl (fun hb3 => ?_) (fun hb3 => ?_)
  ·
    replace hb3 : ¬ v2 = 0 := by simpa [ieq, ilt, ile] using hb3
    rw [if_pos hb3] at h
    -- region 3
    refine VW.ws tau_ok Sound.none [some 12, some 4, some 5] [(4, .ref 4 [] true (.list [])), (5, .val (i64 v2))] rfl ?_ ?_
    · simp <;> simp [ieq, ilt, ile]
    cases h
    refine VW.ret ?_
    simp [Post, PostM, PostC, PostC2, Nx, Bk]
  replace hb3 : ¬ (¬ v2 = 0) := by simpa [ieq, ilt, ile] using hb3
  rw [if_neg hb3] at h
  refine VW.skip ?_
  refine hK1 _ ?_
  -- region 4
  obtain ⟨v4, hv4, h⟩ := bind_some h
  refine VW.ws tau_ok (Sound.none.add 15 (i_field_characteristic_ok hv4) rfl) [some 13, some 14, some 15, some 4, some 5] [(4, .ref 4 [] true (dI v4)), (5, .val (i64 0))] rfl ?_ ?_
  · simp <;> simp [ieq, ilt, ile]
  cases h
  refine VW.ret ?_
  simp [Post, PostM, PostC, PostC2, Nx, Bk]

theorem s_l01In_ok {a0 : Int} {a1 : Int} {a2 : Int} {r : Bool} (h : s_l01In a0 a1 a2 = some r) :
    VCall Try.prog 116 [i64 a0, i64 a1, i64 a2] [.sc (.bool r)] := by
  unfold s_l01In at h
  refine VCall.enter Try.call116 Try.func116 rfl 15 Try.ntmps116 (by simp) [.tmp 6] rfl ?_
  show VW _ _ _ (mk [(0, .val (i64 a0)), (1, .val (i64 a1)), (2, .val (i64 a2))]) _
  -- region 0
  refine VW.ws tau_ok Sound.none [some 6] [(0, .val (i64 a0)), (1, .val (i64 a1)), (2, .val (i64 a2))] rfl ?_ ?_
  · simp <;> simp [ieq, ilt, ile]
  -- region 1
  obtain ⟨x2, hx2, h⟩ := bind_some h
  refine VW.cut [(6, .val (.bool x2))] ?_ fun hy => ?_
  rotate_left
  · clear h
    by_cases hp1 : a1 ≤ a0
    · rw [if_pos hp1] at hx2
      have hp1b : ile a1 a0 = true := by simpa [ieq, ilt, ile] using hp1
      have hp1s := hp1b
      try simp at hp1s
      cases hx2
      refine VW.ws tau_ok Sound.none [some 7, some 8, some 9, some 10, some 11, some 12, some 13, some 14, some 6] _ rfl ?_ hy
      simp [hp1b, hp1s] <;> simp [ieq, ilt, ile]
    · rw [if_neg hp1] at hx2
      have hp1b : ile a1 a0 = false := by simpa [ieq, ilt, ile] using hp1
      have hp1s := hp1b
      try simp at hp1s
      cases hx2
      refine VW.ws tau_ok Sound.none [some 7, some 8, some 9, some 10, some 11, some 12, some 13, some 14, some 6] _ rfl ?_ hy
      simp [hp1b, hp1s] <;> simp [ieq, ilt, ile]
  cases h
  refine VW.ret ?_
  simp [Post, PostM, PostC, PostC2, Nx, Bk]
end Go.Vam
