import Derived.Test.YtcijfjeeggfgmaaR8T
import Derived.Test.YtcijfjeeggfgmaaFmG0
namespace Go.Vam
open Go Go.RowKit Go.Proofs
set_option maxRecDepth 100000
set_option linter.unusedSimpArgs false
set_option linter.unusedVariables false

theorem l_big_ok {a0 : List Int} {r : Bool} (h : l_big a0 = some r) :
    VCall Try.prog 34 [.list (a0.map (D.int .u8))] [.sc (.bool r)] := by
  unfold l_big at h
  refine VCall.enter Try.call34 Try.func34 rfl 6 Try.ntmps34 (by simp) [.tmp 2] rfl ?_
  show VW _ _ _ (mk [(0, .val (.list (a0.map (D.int .u8))))]) _
  -- region 0
  refine VW.ws tau_ok Sound.none [some 2] [(0, .val (.list (a0.map (D.int .u8))))] rfl ?_ ?_
  · simp <;> simp [ieq, ilt, ile]
  -- region 1
  refine VW.ws tau_ok Sound.none [some 3, some 4, some 5, some 2] [(2, .val (.bool (ilt 4096 (a0.length : Int))))] rfl ?_ ?_
  · simp <;> simp [ieq, ilt, ile]
  cases h
  refine VW.ret ?_
  simp [Post, PostM, PostC, PostC2, Nx, Bk]

theorem s_l01From_ok {a0 : List Int} {r : (List Int) × Int × Int} (h : s_l01From a0 = some r) :
    VCall Try.prog 101 [.list (a0.map (D.int .u8))] [.own false (.ptr [.list (r.1.map (D.int .u8)), i64 r.2.1, .int .u64 r.2.2])] := by
  unfold s_l01From at h
  refine VCall.enter Try.call101 Try.func101 rfl 38 Try.ntmps101 (by simp) [.tmp 2] rfl ?_
  show VW _ _ _ (mk [(0, .val (.list (a0.map (D.int .u8))))]) _
  -- region 0
  refine VW.ws tau_ok Sound.none [some 2] [(0, .val (.list (a0.map (D.int .u8))))] rfl ?_ ?_
  · simp <;> simp [ieq, ilt, ile]
  -- region 1
  refine VW.ws tau_ok Sound.none [some 5, some 6, some 7, some 8, some 9, some 10, some 11, some 3] [(0, .val (.list (a0.map (D.int .u8)))), (3, .ref 3 [] false (.ptr [.list (a0.map (D.int .u8)), i64 0, .int .u64 (IntKind.u64.wrap (4409 + (IntKind.u64.wrap ((a0.length : Int)))))]))] rfl ?_ ?_
  · simp <;> simp [ieq, ilt, ile]
  refine VW.sqc fun K1 hK1 hCK1 => ?_
  -- region 2
  refine VW.ws tau_ok Sound.none [some 4] [(0, .val (.list (a0.map (D.int .u8)))), (3, .ref 3 [] false (.ptr [.list (a0.map (D.int .u8)), i64 0, .int .u64 (IntKind.u64.wrap (4409 + (IntKind.u64.wrap ((a0.length : Int)))))])), (4, .val (i64 0))] rfl ?_ ?_
  · simp <;> simp [ieq, ilt, ile]
  obtain ⟨x2, hx2, h⟩ := bind_some h
  refine VW.tlE [(3, .ref 3 [] false (.ptr [.list (x2.1.map (D.int .u8)), i64 x2.2.1, .int .u64 x2.2.2]))] (hCK1) ?_ ?_
  · clear hx2
    refine hK1 _ ?_
    -- region 6
    refine VW.ws tau_ok Sound.none [some 37, some 2] [(2, .ref 2 [] false (.ptr [.list (x2.1.map (D.int .u8)), i64 x2.2.1, .int .u64 x2.2.2]))] rfl ?_ ?_
    · simp <;> simp [ieq, ilt, ile]
    cases h
    refine VW.ret ?_
    simp [Post, PostM, PostC, PostC2, Nx, Bk]
  refine VW.block ?_
  refine VW.loopF (s_l01From_L0 a0) (fun s2 => [(0, .val (.list (a0.map (D.int .u8)))), (3, .ref 3 [] false (.ptr [.list (s2.1.map (D.int .u8)), i64 s2.2.1, .int .u64 s2.2.2.1])), (4, .val (i64 s2.2.2.2))]) hx2 (Fits.of rfl) ?_
  clear hx2
  intro s2 ox2 hx2o hx2b
  unfold s_l01From_L0 at hx2o
  refine VW.sqc fun K4 hK4 hCK4 => ?_
  -- region 3
  obtain ⟨x6, hx6, hx2o⟩ := bind_some hx2o
  refine VW.cut [(0, .val (.list (a0.map (D.int .u8)))), (3, .ref 3 [] false (.ptr [.list (s2.1.map (D.int .u8)), i64 s2.2.1, .int .u64 s2.2.2.1])), (4, .val (i64 s2.2.2.2)), (19, .val (.bool x6))] ?_ fun hy => ?_
  rotate_left
  · clear hx2o
    by_cases hp5 : s2.2.2.2 < (a0.length : Int)
    · rw [if_pos hp5] at hx6
      have hp5b : ilt s2.2.2.2 (a0.length : Int) = true := by simpa [ieq, ilt, ile] using hp5
      have hp5s := hp5b
      try simp at hp5s
      cases hx6
      refine VW.ws tau_ok Sound.none [some 12, some 13, some 14, some 15, some 16, some 17, some 18, some 19] _ rfl ?_ hy
      simp [hp5b, hp5s] <;> simp [ieq, ilt, ile]
    · rw [if_neg hp5] at hx6
      have hp5b : ilt s2.2.2.2 (a0.length : Int) = false := by simpa [ieq, ilt, ile] using hp5
      have hp5s := hp5b
      try simp at hp5s
      cases hx6
      refine VW.ws tau_ok Sound.none [some 12, some 13, some 14, some 15, some 16, some 17, some 18, some 19] _ rfl ?_ hy
      simp [hp5b, hp5s] <;> simp [ieq, ilt, ile]
  refine VW.cond rfl (fun hb7 => ?_) (fun hb7 => ?_)
  rotate_left
  ·
    replace hb7 : ¬ (x6 = true) := by simpa [ieq, ilt, ile] using hb7
    rw [if_neg hb7] at hx2o
    refine VW.exit ?_
    cases hx2o
    have hq := hx2b _ rfl
    subst hq
    exact Fits.of rfl
  replace hb7 : x6 = true := by simpa [ieq, ilt, ile] using hb7
  rw [if_pos hb7] at hx2o
  refine VW.skip ?_
  refine hK4 _ ?_
  refine VW.sqc fun K8 hK8 hCK8 => ?_
  refine VW.block ?_
  -- region 5
  obtain ⟨v9, hv9, hx2o⟩ := bind_some hx2o
  obtain ⟨hv9a, hv9b, hv9c, hv9d⟩ := idx_some hv9
  refine VW.wdr tau_ok Sound.none try_mixed [some 22, some 23, some 24, some 25, some 26, some 27, some 28, some 29, some 30, some 31, some 32, some 33, some 34, some 35, some 36, none] [(0, .val (.list (a0.map (D.int .u8)))), (3, .ref 3 [] false (.ptr [.list (s2.1.map (D.int .u8)), i64 s2.2.1, .int .u64 (IntKind.u64.wrap ((IntKind.u64.wrap ((IntKind.u64.wrap (s2.2.2.1 * 1099511628211)) + (IntKind.u64.wrap (v9)))) + 11))])), (4, .val (i64 s2.2.2.2))] 15 rfl (by kernel_rfl) (by rfl) ?_ ?_
  · simp [hv9a, hv9b, hv9c, hv9d] <;> simp [ieq, ilt, ile]
  refine hK8 _ ?_
  -- region 4
  refine VW.wr tau_ok Sound.none [some 20, some 21, some 4] [(0, .val (.list (a0.map (D.int .u8)))), (3, .ref 3 [] false (.ptr [.list (s2.1.map (D.int .u8)), i64 s2.2.1, .int .u64 (IntKind.u64.wrap ((IntKind.u64.wrap ((IntKind.u64.wrap (s2.2.2.1 * 1099511628211)) + (IntKind.u64.wrap (v9)))) + 11))])), (4, .val (i64 (w64 (s2.2.2.2 + 1))))] rfl ?_ ?_
  · simp <;> simp [ieq, ilt, ile]
  cases hx2o
  exact ⟨_, rfl, Fits.of rfl⟩

theorem s_l01Next_ok {a0_0 : List Int} {a0_1 : Int} {a0_2 : Int} {a1 : Int} {r : Int × ((List Int) × Int × Int)} (h : s_l01Next a0_0 a0_1 a0_2 a1 = some r) :
    VPtr Try.prog 102 [.list (a0_0.map (D.int .u8)), i64 a0_1, .int .u64 a0_2] [i64 a1] [.sc (i64 r.1)] [.list (r.2.1.map (D.int .u8)), i64 r.2.2.1, .int .u64 r.2.2.2] := by
  unfold s_l01Next at h
  refine VPtr.enter Try.call102 Try.func102 rfl 58 Try.ntmps102 (by simp) [.tmp 4] rfl ?_
  show VW _ _ _ (mk [(0, .ref 0 [] false (.ptr [.list (a0_0.map (D.int .u8)), i64 a0_1, .int .u64 a0_2])), (1, .val (i64 a1))]) _
  -- region 0
  refine VW.ws tau_ok Sound.none [some 4] [(0, .ref 0 [] false (.ptr [.list (a0_0.map (D.int .u8)), i64 a0_1, .int .u64 a0_2])), (1, .val (i64 a1))] rfl ?_ ?_
  · simp <;> simp [ieq, ilt, ile]
  refine VW.sqc fun K1 hK1 hCK1 => ?_
  -- region 1
  refine VW.ws tau_ok Sound.none [some 6, some 7] [(0, .ref 0 [] false (.ptr [.list (a0_0.map (D.int .u8)), i64 a0_1, .int .u64 a0_2])), (1, .val (i64 a1)), (7, .val (.bool (ilt a1 1)))] rfl ?_ ?_
  · simp <;> simp [ieq, ilt, ile]
  refine VW.cond rfl (fun hb2 => ?_) (fun hb2 => ?_)
  ·
    replace hb2 : a1 < 1 := by simpa [ieq, ilt, ile] using hb2
    rw [if_pos hb2] at h
    -- region 2
    refine VW.ws tau_ok Sound.none [some 4] [(0, .ref 0 [] false (.ptr [.list (a0_0.map (D.int .u8)), i64 a0_1, .int .u64 a0_2])), (4, .val (i64 0))] rfl ?_ ?_
    · simp <;> simp [ieq, ilt, ile]
    cases h
    refine VW.ret ?_
    simp [PostW, resW, PostWC, resWC, Nx, Bk]
  replace hb2 : ¬ (a1 < 1) := by simpa [ieq, ilt, ile] using hb2
  rw [if_neg hb2] at h
  refine VW.skip ?_
  refine hK1 _ ?_
  -- region 3
  refine VW.ws tau_ok Sound.none [some 8, some 9, some 10, some 11, some 12, some 13, some 14, some 15, some 16, none] [(0, .ref 0 [] false (.ptr [.list (a0_0.map (D.int .u8)), i64 a0_1, .int .u64 (IntKind.u64.wrap ((IntKind.u64.wrap (a0_2 * 6364136223846793005)) + 1442695040888963407))])), (1, .val (i64 a1))] rfl ?_ ?_
  · simp <;> simp [ieq, ilt, ile]
  -- region 4
  refine VW.ws tau_ok Sound.none [some 17, some 18, some 19, some 20, some 21, some 22, some 23, some 5] [(0, .ref 0 [] false (.ptr [.list (a0_0.map (D.int .u8)), i64 a0_1, .int .u64 (IntKind.u64.wrap ((IntKind.u64.wrap (a0_2 * 6364136223846793005)) + 1442695040888963407))])), (1, .val (i64 a1)), (5, .val (i64 (w64 (band .u64 (shr .u64 (IntKind.u64.wrap ((IntKind.u64.wrap (a0_2 * 6364136223846793005)) + 1442695040888963407)) 33) 16777215))))] rfl ?_ ?_
  · simp <;> simp [ieq, ilt, ile]
  refine VW.sqc fun K3 hK3 hCK3 => ?_
  -- region 5
  refine VW.wds tau_ok Sound.none try_mixed [some 24, some 25, some 26, some 27, some 28, some 29, some 30, some 31, some 32, some 33] [(0, .ref 0 [] false (.ptr [.list (a0_0.map (D.int .u8)), i64 a0_1, .int .u64 (IntKind.u64.wrap ((IntKind.u64.wrap (a0_2 * 6364136223846793005)) + 1442695040888963407))])), (1, .val (i64 a1)), (5, .val (i64 (w64 (band .u64 (shr .u64 (IntKind.u64.wrap ((IntKind.u64.wrap (a0_2 * 6364136223846793005)) + 1442695040888963407)) 33) 16777215)))), (33, .val (.bool (ilt a0_1 (a0_0.length : Int))))] 10 rfl (by kernel_rfl) (by rfl) ?_ ?_
  · simp <;> simp [ieq, ilt, ile]
  obtain ⟨x4, hx4, h⟩ := bind_some h
  refine VW.tlE [(0, .ref 0 [] false (.ptr [.list (x4.1.map (D.int .u8)), i64 x4.2.1, .int .u64 x4.2.2.1])), (1, .val (i64 a1)), (5, .val (i64 x4.2.2.2))] (hCK3) ?_ ?_
  · clear hx4
    refine hK3 _ ?_
    -- region 8
    obtain ⟨hc8, h⟩ := chk_some h
    have hc8s := hc8
    try simp at hc8s
    refine VW.ws tau_ok Sound.none [some 55, some 56, some 57, some 4] [(0, .ref 0 [] false (.ptr [.list (x4.1.map (D.int .u8)), i64 x4.2.1, .int .u64 x4.2.2.1])), (4, .val (i64 (x4.2.2.2.tmod a1)))] rfl ?_ ?_
    · simp [hc8, hc8s] <;> simp [ieq, ilt, ile]
    cases h
    refine VW.ret ?_
    simp [PostW, resW, PostWC, resWC, Nx, Bk]
  refine VW.cond rfl (fun hb6 => ?_) (fun hb6 => ?_)
  rotate_left
  ·
    replace hb6 : ¬ (a0_1 < (a0_0.length : Int)) := by simpa [ieq, ilt, ile] using hb6
    rw [if_neg hb6] at hx4
    refine VW.skip ?_
    cases hx4
    exact Fits.of rfl
  replace hb6 : a0_1 < (a0_0.length : Int) := by simpa [ieq, ilt, ile] using hb6
  rw [if_pos hb6] at hx4
  -- region 6
  obtain ⟨v7, hv7, hx4⟩ := bind_some hx4
  obtain ⟨hv7a, hv7b, hv7c, hv7d⟩ := idx_some hv7
  refine VW.wds tau_ok Sound.none try_mixed [some 34, some 35, some 36, some 37, some 38, some 39, some 40, some 41, some 42, some 43, some 44, some 45, some 46, some 5] [(0, .ref 0 [] false (.ptr [.list (a0_0.map (D.int .u8)), i64 a0_1, .int .u64 (IntKind.u64.wrap ((IntKind.u64.wrap (a0_2 * 6364136223846793005)) + 1442695040888963407))])), (1, .val (i64 a1)), (5, .val (i64 (w64 ((w64 (band .u64 (shr .u64 (IntKind.u64.wrap ((IntKind.u64.wrap (a0_2 * 6364136223846793005)) + 1442695040888963407)) 33) 16777215)) + (w64 (v7))))))] 14 rfl (by kernel_rfl) (by rfl) ?_ ?_
  · simp [hv7a, hv7b, hv7c, hv7d] <;> simp [ieq, ilt, ile]
  -- region 7
  refine VW.wr tau_ok Sound.none [some 47, some 48, some 49, some 50, some 51, some 52, some 53, some 54, none] [(0, .ref 0 [] false (.ptr [.list (a0_0.map (D.int .u8)), i64 (w64 (a0_1 + 1)), .int .u64 (IntKind.u64.wrap ((IntKind.u64.wrap (a0_2 * 6364136223846793005)) + 1442695040888963407))])), (1, .val (i64 a1)), (5, .val (i64 (w64 ((w64 (band .u64 (shr .u64 (IntKind.u64.wrap ((IntKind.u64.wrap (a0_2 * 6364136223846793005)) + 1442695040888963407)) 33) 16777215)) + (w64 (v7))))))] rfl ?_ ?_
  · simp <;> simp [ieq, ilt, ile]
  cases hx4
  exact Fits.of rfl

theorem s_l01Pick_ok {a0_0 : List Int} {a0_1 : Int} {a0_2 : Int} {a1 : List Int} {r : Int × ((List Int) × Int × Int)} (h : s_l01Pick a0_0 a0_1 a0_2 a1 = some r) :
    VPtr Try.prog 104 [.list (a0_0.map (D.int .u8)), i64 a0_1, .int .u64 a0_2] [dI a1] [.sc (i64 r.1)] [.list (r.2.1.map (D.int .u8)), i64 r.2.2.1, .int .u64 r.2.2.2] := by
  unfold s_l01Pick at h
  refine VPtr.enter Try.call104 Try.func104 rfl 12 Try.ntmps104 (by simp) [.tmp 4] rfl ?_
  show VW _ _ _ (mk [(0, .ref 0 [] false (.ptr [.list (a0_0.map (D.int .u8)), i64 a0_1, .int .u64 a0_2])), (1, .val (dI a1))]) _
  -- region 0
  refine VW.ws tau_ok Sound.none [some 4] [(0, .ref 0 [] false (.ptr [.list (a0_0.map (D.int .u8)), i64 a0_1, .int .u64 a0_2])), (1, .val (dI a1))] rfl ?_ ?_
  · simp <;> simp [ieq, ilt, ile]
  -- region 1
  obtain ⟨v1, hv1, h⟩ := bind_some h
  obtain ⟨v2, hv2, h⟩ := bind_some h
  obtain ⟨hv2a, hv2b, hv2c, hv2d⟩ := idx_some hv2
  refine VW.ws tau_ok (Sound.none.ptrc 9 (s_l01Next_ok hv1)) [some 5, some 6, some 7, some 8, some 9, some 10, some 11, some 4] [(0, .ref 0 [] false (.ptr [.list (v1.2.1.map (D.int .u8)), i64 v1.2.2.1, .int .u64 v1.2.2.2])), (4, .val (i64 v2))] rfl ?_ ?_
  · simp [hv2a, hv2b, hv2c, hv2d] <;> simp [ieq, ilt, ile]
  cases h
  refine VW.ret ?_
  simp [PostW, resW, PostWC, resWC, Nx, Bk]

theorem s_l11Draw_ok {a0_0 : List Int} {a0_1 : Int} {a0_2 : Int} {a1 : Int} {r : (Int × (List Int)) × ((List Int) × Int × Int)} (h : s_l11Draw a0_0 a0_1 a0_2 a1 = some r) :
    VPtr Try.prog 190 [.list (a0_0.map (D.int .u8)), i64 a0_1, .int .u64 a0_2] [i64 a1] [.own true (.agg [i64 r.1.1, dI r.1.2])] [.list (r.2.1.map (D.int .u8)), i64 r.2.2.1, .int .u64 r.2.2.2] := by
  unfold s_l11Draw at h
  refine VPtr.enterC Try.call190 Try.func190 rfl 43 Try.ntmps190 (by simp) (tau_ok 41) 4 rfl ?_
  show VW _ _ _ (mk [(0, .ref 0 [] false (.ptr [.list (a0_0.map (D.int .u8)), i64 a0_1, .int .u64 a0_2])), (1, .val (i64 a1))]) _
  -- region 0
  refine VW.ws tau_ok Sound.none [some 4] [(0, .ref 0 [] false (.ptr [.list (a0_0.map (D.int .u8)), i64 a0_1, .int .u64 a0_2])), (1, .val (i64 a1)), (4, .ref 4 [] true (.ptr [i64 0, dI []]))] rfl ?_ ?_
  · simp <;> simp [ieq, ilt, ile]
  -- region 1
  obtain ⟨v1, hv1, h⟩ := bind_some h
  refine VW.ws tau_ok (Sound.none.ptrc 9 (s_l01Pick_ok hv1)) [some 7, some 8, some 9, some 10, some 5, none] [(0, .ref 0 [] false (.ptr [.list (v1.2.1.map (D.int .u8)), i64 v1.2.2.1, .int .u64 v1.2.2.2])), (1, .val (i64 a1)), (4, .ref 4 [] true (.ptr [i64 0, dI []])), (5, .ref 5 [] true (.ptr [i64 v1.1, dI []]))] rfl ?_ ?_
  · simp <;> simp [ieq, ilt, ile]
  refine VW.sqc fun K2 hK2 hCK2 => ?_
  -- region 2
  obtain ⟨v3, hv3, h⟩ := bind_some h
  refine VW.ws tau_ok (Sound.none.ptrc 14 (s_l01Pick_ok hv3)) [some 11, some 12, some 13, some 14, some 15, some 6] [(0, .ref 0 [] false (.ptr [.list (v3.2.1.map (D.int .u8)), i64 v3.2.2.1, .int .u64 v3.2.2.2])), (4, .ref 4 [] true (.ptr [i64 0, dI []])), (5, .ref 5 [] true (.ptr [i64 v1.1, dI []])), (6, .val (i64 (imin a1 v3.1)))] rfl ?_ ?_
  · simp <;> simp [ieq, ilt, ile]
  obtain ⟨x4, hx4, h⟩ := bind_some h
  refine VW.tlE [(0, .ref 0 [] false (.ptr [.list (x4.1.map (D.int .u8)), i64 x4.2.1, .int .u64 x4.2.2.1])), (4, .ref 4 [] true (.ptr [i64 0, dI []])), (5, .ref 5 [] true (.ptr [i64 x4.2.2.2.1, dI x4.2.2.2.2]))] (hCK2) ?_ ?_
  · clear hx4
    refine hK2 _ ?_
    -- region 8
    refine VW.ws tau_ok Sound.none [some 42, none] [(0, .ref 0 [] false (.ptr [.list (x4.1.map (D.int .u8)), i64 x4.2.1, .int .u64 x4.2.2.1])), (4, .ref 4 [] true (.ptr [i64 x4.2.2.2.1, dI x4.2.2.2.2]))] rfl ?_ ?_
    · simp <;> simp [ieq, ilt, ile]
    cases h
    refine VW.ret ?_
    simp [PostW, resW, PostWC, resWC, Nx, Bk]
  refine VW.block ?_
  refine VW.loopF s_l11Draw_L0 (fun s4 => [(0, .ref 0 [] false (.ptr [.list (s4.1.map (D.int .u8)), i64 s4.2.1, .int .u64 s4.2.2.1])), (4, .ref 4 [] true (.ptr [i64 0, dI []])), (5, .ref 5 [] true (.ptr [i64 s4.2.2.2.1, dI s4.2.2.2.2.1])), (6, .val (i64 s4.2.2.2.2.2))]) hx4 (Fits.of rfl) ?_
  clear hx4
  intro s4 ox4 hx4o hx4b
  unfold s_l11Draw_L0 at hx4o
  refine VW.sqc fun K6 hK6 hCK6 => ?_
  -- region 3
  refine VW.ws tau_ok Sound.none [some 16, some 17] [(0, .ref 0 [] false (.ptr [.list (s4.1.map (D.int .u8)), i64 s4.2.1, .int .u64 s4.2.2.1])), (4, .ref 4 [] true (.ptr [i64 0, dI []])), (5, .ref 5 [] true (.ptr [i64 s4.2.2.2.1, dI s4.2.2.2.2.1])), (6, .val (i64 s4.2.2.2.2.2)), (17, .val (.bool (ilt 0 s4.2.2.2.2.2)))] rfl ?_ ?_
  · simp <;> simp [ieq, ilt, ile]
  refine VW.cond rfl (fun hb7 => ?_) (fun hb7 => ?_)
  rotate_left
  ·
    replace hb7 : ¬ (0 < s4.2.2.2.2.2) := by simpa [ieq, ilt, ile] using hb7
    rw [if_neg hb7] at hx4o
    refine VW.exit ?_
    cases hx4o
    have hq := hx4b _ rfl
    subst hq
    exact Fits.of rfl
  replace hb7 : 0 < s4.2.2.2.2.2 := by simpa [ieq, ilt, ile] using hb7
  rw [if_pos hb7] at hx4o
  refine VW.skip ?_
  refine hK6 _ ?_
  obtain ⟨x8, hx8, hx4o⟩ := bind_some hx4o
  refine VW.sqE [(0, .ref 0 [] false (.ptr [.list (x8.1.map (D.int .u8)), i64 x8.2.1, .int .u64 x8.2.2.1])), (4, .ref 4 [] true (.ptr [i64 0, dI []])), (5, .ref 5 [] true (.ptr [i64 x8.2.2.2.1, dI x8.2.2.2.2])), (6, .val (i64 s4.2.2.2.2.2))] ?_ ?_
  · clear hx8
    -- region 4
    refine VW.wr tau_ok Sound.none [some 18, some 19, some 6] [(0, .ref 0 [] false (.ptr [.list (x8.1.map (D.int .u8)), i64 x8.2.1, .int .u64 x8.2.2.1])), (4, .ref 4 [] true (.ptr [i64 0, dI []])), (5, .ref 5 [] true (.ptr [i64 x8.2.2.2.1, dI x8.2.2.2.2])), (6, .val (i64 (w64 (s4.2.2.2.2.2 - 1))))] rfl ?_ ?_
    · simp <;> simp [ieq, ilt, ile]
    cases hx4o
    exact ⟨_, rfl, Fits.of rfl⟩
  refine VW.block ?_
  -- region 5
  obtain ⟨v10, hv10, hx8⟩ := bind_some hx8
  refine VW.ws tau_ok (Sound.none.ptrc 21 (s_l01Next_ok hv10)) [some 20, some 21, some 22] [(0, .ref 0 [] false (.ptr [.list (v10.2.1.map (D.int .u8)), i64 v10.2.2.1, .int .u64 v10.2.2.2])), (4, .ref 4 [] true (.ptr [i64 0, dI []])), (5, .ref 5 [] true (.ptr [i64 s4.2.2.2.1, dI s4.2.2.2.2.1])), (6, .val (i64 s4.2.2.2.2.2)), (22, .val (.bool (ieq v10.1 0)))] rfl ?_ ?_
  · simp <;> simp [ieq, ilt, ile]
  refine VW.cond rfl (fun hb11 => ?_) (fun hb11 => ?_)
  ·
    replace hb11 : v10.1 = 0 := by simpa [ieq, ilt, ile] using hb11
    rw [if_pos hb11] at hx8
    -- region 6
    obtain ⟨hc12, hx8⟩ := chk_some hx8
    have hc12s := hc12
    try simp at hc12s
    refine VW.wr tau_ok Sound.none [some 23, some 24, some 25, some 26, some 27, some 28, some 29, some 30, none] [(0, .ref 0 [] false (.ptr [.list (v10.2.1.map (D.int .u8)), i64 v10.2.2.1, .int .u64 v10.2.2.2])), (4, .ref 4 [] true (.ptr [i64 0, dI []])), (5, .ref 5 [] true (.ptr [i64 s4.2.2.2.1, dI (s4.2.2.2.2.1 ++ [w64 (s4.2.2.2.1 - 1)])])), (6, .val (i64 s4.2.2.2.2.2))] rfl ?_ ?_
    · simp [hc12, hc12s] <;> simp [ieq, ilt, ile]
    cases hx8
    exact Fits.of rfl
  replace hb11 : ¬ (v10.1 = 0) := by simpa [ieq, ilt, ile] using hb11
  rw [if_neg hb11] at hx8
  -- region 7
  obtain ⟨v13, hv13, hx8⟩ := bind_some hx8
  obtain ⟨hc14, hx8⟩ := chk_some hx8
  have hc14s := hc14
  try simp at hc14s
  refine VW.wxr tau_ok (Sound.none.ptrc 37 (s_l01Next_ok hv13)) try_mixed [some 31, some 32, some 33, some 34, some 35, some 36, some 37, some 38, some 39, some 40, some 41, none] [(0, .ref 0 [] false (.ptr [.list (v13.2.1.map (D.int .u8)), i64 v13.2.2.1, .int .u64 v13.2.2.2])), (4, .ref 4 [] true (.ptr [i64 0, dI []])), (5, .ref 5 [] true (.ptr [i64 s4.2.2.2.1, dI (s4.2.2.2.2.1 ++ [w64 (1 + v13.1)])])), (6, .val (i64 s4.2.2.2.2.2))] [1, 1, 0, 0, 0, 0, 2, 0, 2, 3, 0, 3] [[5], [31], [0], [5], [34], [35], [33, 36], [37], [38], [32, 39], [5], [41, 40]] [0, 39] rfl rfl (by kernel_rfl) (by rfl) ?_ ?_
  · simp [hc14, hc14s] <;> simp [ieq, ilt, ile]
  cases hx8
  exact Fits.of rfl

theorem s_l11DrawAny_ok {a0_0 : List Int} {a0_1 : Int} {a0_2 : Int} {a1 : Int} {r : (Int × (List Int)) × ((List Int) × Int × Int)} (h : s_l11DrawAny a0_0 a0_1 a0_2 a1 = some r) :
    VPtr Try.prog 103 [.list (a0_0.map (D.int .u8)), i64 a0_1, .int .u64 a0_2] [i64 a1] [.own true (.agg [i64 r.1.1, dI r.1.2])] [.list (r.2.1.map (D.int .u8)), i64 r.2.2.1, .int .u64 r.2.2.2] := by
  unfold s_l11DrawAny at h
  refine VPtr.enterC Try.call103 Try.func103 rfl 41 Try.ntmps103 (by simp) (tau_ok 41) 4 rfl ?_
  show VW _ _ _ (mk [(0, .ref 0 [] false (.ptr [.list (a0_0.map (D.int .u8)), i64 a0_1, .int .u64 a0_2])), (1, .val (i64 a1))]) _
  -- region 0
  refine VW.ws tau_ok Sound.none [some 4] [(0, .ref 0 [] false (.ptr [.list (a0_0.map (D.int .u8)), i64 a0_1, .int .u64 a0_2])), (1, .val (i64 a1)), (4, .ref 4 [] true (.ptr [i64 0, dI []]))] rfl ?_ ?_
  · simp <;> simp [ieq, ilt, ile]
  -- region 1
  obtain ⟨v1, hv1, h⟩ := bind_some h
  refine VW.ws tau_ok (Sound.none.ptrc 8 (s_l11Draw_ok hv1)) [some 6, some 7, some 8, some 5, none] [(0, .ref 0 [] false (.ptr [.list (v1.2.1.map (D.int .u8)), i64 v1.2.2.1, .int .u64 v1.2.2.2])), (4, .ref 4 [] true (.ptr [i64 0, dI []])), (5, .ref 5 [] true (.ptr [i64 v1.1.1, dI v1.1.2]))] rfl ?_ ?_
  · simp <;> simp [ieq, ilt, ile]
  refine VW.sqc fun K2 hK2 hCK2 => ?_
  -- region 2
  obtain ⟨v3, hv3, h⟩ := bind_some h
  refine VW.ws tau_ok (Sound.none.ptrc 10 (s_l01Next_ok hv3)) [some 9, some 10] [(0, .ref 0 [] false (.ptr [.list (v3.2.1.map (D.int .u8)), i64 v3.2.2.1, .int .u64 v3.2.2.2])), (4, .ref 4 [] true (.ptr [i64 0, dI []])), (5, .ref 5 [] true (.ptr [i64 v1.1.1, dI v1.1.2])), (10, .val (i64 v3.1))] rfl ?_ ?_
  · simp <;> simp [ieq, ilt, ile]
  obtain ⟨x4, hx4, h⟩ := bind_some h
  refine VW.tlE [(0, .ref 0 [] false (.ptr [.list (x4.1.map (D.int .u8)), i64 x4.2.1, .int .u64 x4.2.2.1])), (4, .ref 4 [] true (.ptr [i64 0, dI []])), (5, .ref 5 [] true (.ptr [i64 x4.2.2.2.1, dI x4.2.2.2.2]))] (hCK2) ?_ ?_
  · clear hx4
    refine hK2 _ ?_
    -- region 10
    refine VW.ws tau_ok Sound.none [some 40, none] [(0, .ref 0 [] false (.ptr [.list (x4.1.map (D.int .u8)), i64 x4.2.1, .int .u64 x4.2.2.1])), (4, .ref 4 [] true (.ptr [i64 x4.2.2.2.1, dI x4.2.2.2.2]))] rfl ?_ ?_
    · simp <;> simp [ieq, ilt, ile]
    cases h
    refine VW.ret ?_
    simp [PostW, resW, PostWC, resWC, Nx, Bk]
  refine VW.block ?_
  -- region 3
  refine VW.ws tau_ok Sound.none [some 12, some 11] [(0, .ref 0 [] false (.ptr [.list (v3.2.1.map (D.int .u8)), i64 v3.2.2.1, .int .u64 v3.2.2.2])), (4, .ref 4 [] true (.ptr [i64 0, dI []])), (5, .ref 5 [] true (.ptr [i64 v1.1.1, dI v1.1.2])), (10, .val (i64 v3.1)), (11, .val (.bool (ieq v3.1 0)))] rfl ?_ ?_
  · simp <;> simp [ieq, ilt, ile]
  refine VW.cond rfl (fun hb6 => ?_) (fun hb6 => ?_)
  ·
    replace hb6 : v3.1 = 0 := by simpa [ieq, ilt, ile] using hb6
    rw [if_pos hb6] at hx4
    -- region 4
    obtain ⟨v7, hv7, hx4⟩ := bind_some hx4
    refine VW.wr tau_ok (Sound.none.ptrc 15 (s_l01Pick_ok hv7)) [some 13, some 14, some 15, some 16, none] [(0, .ref 0 [] false (.ptr [.list (v7.2.1.map (D.int .u8)), i64 v7.2.2.1, .int .u64 v7.2.2.2])), (4, .ref 4 [] true (.ptr [i64 0, dI []])), (5, .ref 5 [] true (.ptr [i64 v7.1, dI v1.1.2]))] rfl ?_ ?_
    · simp <;> simp [ieq, ilt, ile]
    cases hx4
    exact Fits.of rfl
  replace hb6 : ¬ (v3.1 = 0) := by simpa [ieq, ilt, ile] using hb6
  rw [if_neg hb6] at hx4
  -- region 5
  refine VW.ws tau_ok Sound.none [some 18, some 17] [(0, .ref 0 [] false (.ptr [.list (v3.2.1.map (D.int .u8)), i64 v3.2.2.1, .int .u64 v3.2.2.2])), (4, .ref 4 [] true (.ptr [i64 0, dI []])), (5, .ref 5 [] true (.ptr [i64 v1.1.1, dI v1.1.2])), (10, .val (i64 v3.1)), (17, .val (.bool (ieq v3.1 1)))] rfl ?_ ?_
  · simp <;> simp [ieq, ilt, ile]
  refine VW.cond rfl (fun hb8 => ?_) (fun hb8 => ?_)
  ·
    replace hb8 : v3.1 = 1 := by simpa [ieq, ilt, ile] using hb8
    rw [if_pos hb8] at hx4
    -- region 6
    obtain ⟨v9, hv9, hx4⟩ := bind_some hx4
    obtain ⟨hc10, hx4⟩ := chk_some hx4
    have hc10s := hc10
    try simp at hc10s
    refine VW.wxr tau_ok (Sound.none.ptrc 25 (s_l01Pick_ok hv9)) try_mixed [some 19, some 20, some 21, some 22, some 23, some 24, some 25, some 26, some 27, some 28, none] [(0, .ref 0 [] false (.ptr [.list (v9.2.1.map (D.int .u8)), i64 v9.2.2.1, .int .u64 v9.2.2.2])), (4, .ref 4 [] true (.ptr [i64 0, dI []])), (5, .ref 5 [] true (.ptr [i64 v1.1.1, dI (v1.1.2 ++ [v9.1])]))] [1, 1, 0, 0, 0, 0, 2, 2, 3, 0, 3] [[5], [19], [0], [5], [22], [23], [21, 24], [25], [20, 26], [5], [28, 27]] [0, 24, 26] rfl rfl (by kernel_rfl) (by rfl) ?_ ?_
    · simp [hc10, hc10s] <;> simp [ieq, ilt, ile]
    cases hx4
    exact Fits.of rfl
  replace hb8 : ¬ (v3.1 = 1) := by simpa [ieq, ilt, ile] using hb8
  rw [if_neg hb8] at hx4
  -- region 7
  refine VW.ws tau_ok Sound.none [some 30, some 29] [(0, .ref 0 [] false (.ptr [.list (v3.2.1.map (D.int .u8)), i64 v3.2.2.1, .int .u64 v3.2.2.2])), (4, .ref 4 [] true (.ptr [i64 0, dI []])), (5, .ref 5 [] true (.ptr [i64 v1.1.1, dI v1.1.2])), (29, .val (.bool (ieq v3.1 2)))] rfl ?_ ?_
  · simp <;> simp [ieq, ilt, ile]
  refine VW.cond rfl (fun hb11 => ?_) (fun hb11 => ?_)
  rotate_left
  ·
    replace hb11 : ¬ (v3.1 = 2) := by simpa [ieq, ilt, ile] using hb11
    rw [if_neg hb11] at hx4
    refine VW.skip ?_
    cases hx4
    exact Fits.of rfl
  replace hb11 : v3.1 = 2 := by simpa [ieq, ilt, ile] using hb11
  rw [if_pos hb11] at hx4
  obtain ⟨x12, hx12, hx4⟩ := bind_some hx4
  refine VW.tlE [(0, .ref 0 [] false (.ptr [.list (v3.2.1.map (D.int .u8)), i64 v3.2.2.1, .int .u64 v3.2.2.2])), (4, .ref 4 [] true (.ptr [i64 0, dI []])), (5, .ref 5 [] true (.ptr [i64 x12.1, dI x12.2]))] (Cl.fits _) ?_ ?_
  · clear hx12
    cases hx4
    exact Fits.of rfl
  refine VW.block ?_
  refine VW.loopF s_l11DrawAny_L0 (fun s12 => [(0, .ref 0 [] false (.ptr [.list (v3.2.1.map (D.int .u8)), i64 v3.2.2.1, .int .u64 v3.2.2.2])), (4, .ref 4 [] true (.ptr [i64 0, dI []])), (5, .ref 5 [] true (.ptr [i64 s12.1, dI s12.2]))]) hx12 (Fits.of rfl) ?_
  clear hx12
  intro s12 ox12 hx12o hx12b
  unfold s_l11DrawAny_L0 at hx12o
  refine VW.sqc fun K14 hK14 hCK14 => ?_
  -- region 8
  refine VW.ws tau_ok Sound.none [some 31, some 32, some 33, some 34] [(0, .ref 0 [] false (.ptr [.list (v3.2.1.map (D.int .u8)), i64 v3.2.2.1, .int .u64 v3.2.2.2])), (4, .ref 4 [] true (.ptr [i64 0, dI []])), (5, .ref 5 [] true (.ptr [i64 s12.1, dI s12.2])), (34, .val (.bool (ilt (s12.2.length : Int) 5)))] rfl ?_ ?_
  · simp <;> simp [ieq, ilt, ile]
  refine VW.cond rfl (fun hb15 => ?_) (fun hb15 => ?_)
  rotate_left
  ·
    replace hb15 : ¬ ((s12.2.length : Int) < 5) := by simpa [ieq, ilt, ile] using hb15
    rw [if_neg hb15] at hx12o
    refine VW.exit ?_
    cases hx12o
    have hq := hx12b _ rfl
    subst hq
    exact Fits.of rfl
  replace hb15 : (s12.2.length : Int) < 5 := by simpa [ieq, ilt, ile] using hb15
  rw [if_pos hb15] at hx12o
  refine VW.skip ?_
  refine hK14 _ ?_
  refine VW.block ?_
  -- region 9
  obtain ⟨hc16, hx12o⟩ := chk_some hx12o
  have hc16s := hc16
  try simp at hc16s
  refine VW.wr tau_ok Sound.none [some 35, some 36, some 37, some 38, some 39, none] [(0, .ref 0 [] false (.ptr [.list (v3.2.1.map (D.int .u8)), i64 v3.2.2.1, .int .u64 v3.2.2.2])), (4, .ref 4 [] true (.ptr [i64 0, dI []])), (5, .ref 5 [] true (.ptr [i64 s12.1, dI (s12.2 ++ [1])]))] rfl ?_ ?_
  · simp [hc16, hc16s] <;> simp [ieq, ilt, ile]
  cases hx12o
  exact ⟨_, rfl, Fits.of rfl⟩

theorem s_DrawUnitsOf_ok {a0 : List Int} {r : Int × (List Int)} (h : s_DrawUnitsOf a0 = some r) :
    VCall Try.prog 35 [.list (a0.map (D.int .u8))] [.own true (.agg [i64 r.1, dI r.2])] := by
  unfold s_DrawUnitsOf at h
  refine VCall.enterC Try.call35 Try.func35 rfl 35 Try.ntmps35 (by simp) (tau_ok 41) 2 rfl ?_
  show VW _ _ _ (mk [(0, .val (.list (a0.map (D.int .u8))))]) _
  -- region 0
  refine VW.ws tau_ok Sound.none [some 2] [(0, .val (.list (a0.map (D.int .u8)))), (2, .ref 2 [] true (.ptr [i64 0, dI []]))] rfl ?_ ?_
  · simp <;> simp [ieq, ilt, ile]
  -- region 1
  obtain ⟨v1, hv1, h⟩ := bind_some h
  refine VW.ws tau_ok (Sound.none.add 7 (s_l01From_ok hv1) rfl) [some 6, some 7, some 3] [(2, .ref 2 [] true (.ptr [i64 0, dI []])), (3, .ref 3 [] false (.ptr [.list (v1.1.map (D.int .u8)), i64 v1.2.1, .int .u64 v1.2.2]))] rfl ?_ ?_
  · simp <;> simp [ieq, ilt, ile]
  refine VW.sqc fun K2 hK2 hCK2 => ?_
  -- region 2
  obtain ⟨v3, hv3, h⟩ := bind_some h
  refine VW.ws tau_ok (Sound.none.ptrc 9 (s_l01Next_ok hv3)) [some 8, some 9, some 10] [(2, .ref 2 [] true (.ptr [i64 0, dI []])), (3, .ref 3 [] false (.ptr [.list (v3.2.1.map (D.int .u8)), i64 v3.2.2.1, .int .u64 v3.2.2.2])), (10, .val (.bool (ieq v3.1 0)))] rfl ?_ ?_
  · simp <;> simp [ieq, ilt, ile]
  refine VW.cond rfl (fun hb4 => ?_) (fun hb4 => ?_)
  ·
    replace hb4 : v3.1 = 0 := by simpa [ieq, ilt, ile] using hb4
    rw [if_pos hb4] at h
    -- region 3
    obtain ⟨v5, hv5, h⟩ := bind_some h
    refine VW.ws tau_ok (Sound.none.ptrc 12 (s_l11DrawAny_ok hv5)) [some 11, some 12, none] [(2, .ref 2 [] true (.ptr [i64 v5.1.1, dI v5.1.2]))] rfl ?_ ?_
    · simp <;> simp [ieq, ilt, ile]
    cases h
    refine VW.ret ?_
    simp [Post, PostM, PostC, PostC2, Nx, Bk]
  replace hb4 : ¬ (v3.1 = 0) := by simpa [ieq, ilt, ile] using hb4
  rw [if_neg hb4] at h
  refine VW.skip ?_
  refine hK2 _ ?_
  -- region 4
  obtain ⟨v6, hv6, h⟩ := bind_some h
  refine VW.ws tau_ok (Sound.none.ptrc 15 (s_l01Pick_ok hv6)) [some 13, some 14, some 15, some 16, some 4, none] [(2, .ref 2 [] true (.ptr [i64 0, dI []])), (3, .ref 3 [] false (.ptr [.list (v6.2.1.map (D.int .u8)), i64 v6.2.2.1, .int .u64 v6.2.2.2])), (4, .ref 4 [] true (.ptr [i64 v6.1, dI []]))] rfl ?_ ?_
  · simp <;> simp [ieq, ilt, ile]
  refine VW.sqc fun K7 hK7 hCK7 => ?_
  -- region 5
  obtain ⟨v8, hv8, h⟩ := bind_some h
  refine VW.ws tau_ok (Sound.none.ptrc 18 (s_l01Next_ok hv8)) [some 17, some 18, some 5] [(2, .ref 2 [] true (.ptr [i64 0, dI []])), (3, .ref 3 [] false (.ptr [.list (v8.2.1.map (D.int .u8)), i64 v8.2.2.1, .int .u64 v8.2.2.2])), (4, .ref 4 [] true (.ptr [i64 v6.1, dI []])), (5, .val (i64 v8.1))] rfl ?_ ?_
  · simp <;> simp [ieq, ilt, ile]
  obtain ⟨x9, hx9, h⟩ := bind_some h
  refine VW.tlE [(2, .ref 2 [] true (.ptr [i64 0, dI []])), (4, .ref 4 [] true (.ptr [i64 x9.1, dI x9.2]))] (hCK7) ?_ ?_
  · clear hx9
    refine hK7 _ ?_
    -- region 9
    refine VW.ws tau_ok Sound.none [some 34, none] [(2, .ref 2 [] true (.ptr [i64 x9.1, dI x9.2]))] rfl ?_ ?_
    · simp <;> simp [ieq, ilt, ile]
    cases h
    refine VW.ret ?_
    simp [Post, PostM, PostC, PostC2, Nx, Bk]
  refine VW.block ?_
  refine VW.loopF s_DrawUnitsOf_L0 (fun s9 => [(2, .ref 2 [] true (.ptr [i64 0, dI []])), (3, .ref 3 [] false (.ptr [.list (s9.1.map (D.int .u8)), i64 s9.2.1, .int .u64 s9.2.2.1])), (4, .ref 4 [] true (.ptr [i64 s9.2.2.2.1, dI s9.2.2.2.2.1])), (5, .val (i64 s9.2.2.2.2.2))]) hx9 (Fits.of rfl) ?_
  clear hx9
  intro s9 ox9 hx9o hx9b
  unfold s_DrawUnitsOf_L0 at hx9o
  refine VW.sqc fun K11 hK11 hCK11 => ?_
  -- region 6
  refine VW.ws tau_ok Sound.none [some 19, some 20] [(2, .ref 2 [] true (.ptr [i64 0, dI []])), (3, .ref 3 [] false (.ptr [.list (s9.1.map (D.int .u8)), i64 s9.2.1, .int .u64 s9.2.2.1])), (4, .ref 4 [] true (.ptr [i64 s9.2.2.2.1, dI s9.2.2.2.2.1])), (5, .val (i64 s9.2.2.2.2.2)), (20, .val (.bool (ilt 0 s9.2.2.2.2.2)))] rfl ?_ ?_
  · simp <;> simp [ieq, ilt, ile]
  refine VW.cond rfl (fun hb12 => ?_) (fun hb12 => ?_)
  rotate_left
  ·
    replace hb12 : ¬ (0 < s9.2.2.2.2.2) := by simpa [ieq, ilt, ile] using hb12
    rw [if_neg hb12] at hx9o
    refine VW.exit ?_
    cases hx9o
    have hq := hx9b _ rfl
    subst hq
    exact Fits.of rfl
  replace hb12 : 0 < s9.2.2.2.2.2 := by simpa [ieq, ilt, ile] using hb12
  rw [if_pos hb12] at hx9o
  refine VW.skip ?_
  refine hK11 _ ?_
  refine VW.sqc fun K13 hK13 hCK13 => ?_
  refine VW.block ?_
  -- region 8
  obtain ⟨v14, hv14, hx9o⟩ := bind_some hx9o
  obtain ⟨hc15, hx9o⟩ := chk_some hx9o
  have hc15s := hc15
  try simp at hc15s
  refine VW.wxr tau_ok (Sound.none.ptrc 29 (s_l01Next_ok hv14)) try_mixed [some 23, some 24, some 25, some 26, some 27, some 28, some 29, some 30, some 31, some 32, some 33, none] [(2, .ref 2 [] true (.ptr [i64 0, dI []])), (3, .ref 3 [] false (.ptr [.list (v14.2.1.map (D.int .u8)), i64 v14.2.2.1, .int .u64 v14.2.2.2])), (4, .ref 4 [] true (.ptr [i64 s9.2.2.2.1, dI (s9.2.2.2.2.1 ++ [w64 (1 + v14.1)])])), (5, .val (i64 s9.2.2.2.2.2))] [1, 1, 0, 0, 0, 0, 2, 0, 2, 3, 0, 3] [[4], [23], [3], [4], [26], [27], [25, 28], [29], [30], [24, 31], [4], [33, 32]] [3, 31] rfl rfl (by kernel_rfl) (by rfl) ?_ ?_
  · simp [hc15, hc15s] <;> simp [ieq, ilt, ile]
  refine hK13 _ ?_
  -- region 7
  refine VW.wr tau_ok Sound.none [some 21, some 22, some 5] [(2, .ref 2 [] true (.ptr [i64 0, dI []])), (3, .ref 3 [] false (.ptr [.list (v14.2.1.map (D.int .u8)), i64 v14.2.2.1, .int .u64 v14.2.2.2])), (4, .ref 4 [] true (.ptr [i64 s9.2.2.2.1, dI (s9.2.2.2.2.1 ++ [w64 (1 + v14.1)])])), (5, .val (i64 (w64 (s9.2.2.2.2.2 - 1))))] rfl ?_ ?_
  · simp <;> simp [ieq, ilt, ile]
  cases hx9o
  exact ⟨_, rfl, Fits.of rfl⟩

theorem i_IsPrime_ok {a0 : Int} {r : Bool} (h : i_IsPrime a0 = some r) :
    VCall Try.prog 192 [i64 a0] [.sc (.bool r)] := by
  unfold i_IsPrime at h
  refine VCall.enter Try.call192 Try.func192 rfl 10 Try.ntmps192 (by simp) [.tmp 2] rfl ?_
  show VW _ _ _ (mk [(0, .val (i64 a0))]) _
  -- region 0
  refine VW.ws tau_ok Sound.none [some 2] [(0, .val (i64 a0))] rfl ?_ ?_
  · simp <;> simp [ieq, ilt, ile]
  refine VW.sqc fun K1 hK1 hCK1 => ?_
  -- region 1
  refine VW.ws tau_ok Sound.none [some 3] [(3, .val (i64 a0))] rfl ?_ ?_
  · simp <;> simp [ieq, ilt, ile]
  refine VW.block ?_
  refine VW.sqc fun K2 hK2 hCK2 => ?_
  -- region 2
  refine VW.ws tau_ok Sound.none [some 5, some 4] [(3, .val (i64 a0)), (4, .val (.bool (ieq a0 3)))] rfl ?_ ?_
  · simp <;> simp [ieq, ilt, ile]
  obtain ⟨x3, hx3, h⟩ := bind_some h
  refine VW.tlE [(4, .val (.bool x3))] (hCK2) ?_ ?_
  · clear hx3
    refine hK2 _ ?_
    refine VW.cond rfl (fun hb9 => ?_) (fun hb9 => ?_)
    ·
      replace hb9 : x3 = true := by simpa [ieq, ilt, ile] using hb9
      rw [if_pos hb9] at h
      -- region 7
      refine VW.ws tau_ok Sound.none [some 2] [(2, .val (.bool true))] rfl ?_ ?_
      · simp <;> simp [ieq, ilt, ile]
      cases h
      refine VW.ret ?_
      simp [Post, PostM, PostC, PostC2, Nx, Bk]
    replace hb9 : ¬ (x3 = true) := by simpa [ieq, ilt, ile] using hb9
    rw [if_neg hb9] at h
    refine VW.skip ?_
    refine hK1 _ ?_
    -- region 8
    refine VW.ws tau_ok Sound.none [some 2] [(2, .val (.bool false))] rfl ?_ ?_
    · simp <;> simp [ieq, ilt, ile]
    cases h
    refine VW.ret ?_
    simp [Post, PostM, PostC, PostC2, Nx, Bk]
  refine VW.cond rfl (fun hb5 => ?_) (fun hb5 => ?_)
  ·
    replace hb5 : a0 = 3 := by simpa [ieq, ilt, ile] using hb5
    rw [if_pos hb5] at hx3
    refine VW.skip ?_
    cases hx3
    exact Fits.of rfl
  replace hb5 : ¬ (a0 = 3) := by simpa [ieq, ilt, ile] using hb5
  rw [if_neg hb5] at hx3
  -- region 3
  refine VW.ws tau_ok Sound.none [some 6, some 4] [(3, .val (i64 a0)), (4, .val (.bool (ieq a0 5)))] rfl ?_ ?_
  · simp <;> simp [ieq, ilt, ile]
  refine VW.cond rfl (fun hb6 => ?_) (fun hb6 => ?_)
  ·
    replace hb6 : a0 = 5 := by simpa [ieq, ilt, ile] using hb6
    rw [if_pos hb6] at hx3
    refine VW.skip ?_
    cases hx3
    exact Fits.of rfl
  replace hb6 : ¬ (a0 = 5) := by simpa [ieq, ilt, ile] using hb6
  rw [if_neg hb6] at hx3
  -- region 4
  refine VW.ws tau_ok Sound.none [some 7, some 4] [(3, .val (i64 a0)), (4, .val (.bool (ieq a0 7)))] rfl ?_ ?_
  · simp <;> simp [ieq, ilt, ile]
  refine VW.cond rfl (fun hb7 => ?_) (fun hb7 => ?_)
  ·
    replace hb7 : a0 = 7 := by simpa [ieq, ilt, ile] using hb7
    rw [if_pos hb7] at hx3
    refine VW.skip ?_
    cases hx3
    exact Fits.of rfl
  replace hb7 : ¬ (a0 = 7) := by simpa [ieq, ilt, ile] using hb7
  rw [if_neg hb7] at hx3
  -- region 5
  refine VW.ws tau_ok Sound.none [some 8, some 4] [(3, .val (i64 a0)), (4, .val (.bool (ieq a0 11)))] rfl ?_ ?_
  · simp <;> simp [ieq, ilt, ile]
  refine VW.cond rfl (fun hb8 => ?_) (fun hb8 => ?_)
  ·
    replace hb8 : a0 = 11 := by simpa [ieq, ilt, ile] using hb8
    rw [if_pos hb8] at hx3
    refine VW.skip ?_
    cases hx3
    exact Fits.of rfl
  replace hb8 : ¬ (a0 = 11) := by simpa [ieq, ilt, ile] using hb8
  rw [if_neg hb8] at hx3
  -- region 6
  refine VW.wr tau_ok Sound.none [some 9, some 4] [(4, .val (.bool (ieq a0 13)))] rfl ?_ ?_
  · simp <;> simp [ieq, ilt, ile]
  cases hx3
  exact Fits.of rfl

theorem i_Doubling_field_ok {a0_0 : Int} {a0_1 : List Int} {r : Int} (h : i_Doubling_field a0_0 a0_1 = some r) :
    VCall Try.prog 186 [.agg [i64 a0_0, dI a0_1]] [.sc (i64 r)] := by
  unfold i_Doubling_field at h
  refine VCall.enter Try.call186 Try.func186 rfl 5 Try.ntmps186 (by simp) [.tmp 2] rfl ?_
  show VW _ _ _ (mk [(0, .val (.agg [i64 a0_0, dI a0_1]))]) _
  -- region 0
  refine VW.ws tau_ok Sound.none [some 1, some 2] [(1, .val (.ptr [i64 a0_0, dI a0_1]))] rfl ?_ ?_
  · simp <;> simp [ieq, ilt, ile]
  -- region 1
  refine VW.ws tau_ok Sound.none [some 3, some 4, some 2] [(2, .val (i64 a0_0))] rfl ?_ ?_
  · simp <;> simp [ieq, ilt, ile]
  cases h
  refine VW.ret ?_
  simp [Post, PostM, PostC, PostC2, Nx, Bk]

theorem i_inRange_ok {a0 : Int} {a1 : Int} {a2 : Int} {r : Bool} (h : i_inRange a0 a1 a2 = some r) :
    VCall Try.prog 150 [i64 a0, i64 a1, i64 a2] [.sc (.bool r)] := by
  unfold i_inRange at h
  refine VCall.enter Try.call150 Try.func150 rfl 15 Try.ntmps150 (by simp) [.tmp 6] rfl ?_
  show VW _ _ _ (mk [(0, .val (i64 a0)), (1, .val (i64 a1)), (2, .val (i64 a2))]) _
  -- region 0
  refine VW.ws tau_ok Sound.none [some 6] [(0, .val (i64 a0)), (1, .val (i64 a1)), (2, .val (i64 a2))] rfl ?_ ?_
  · simp <;> simp [ieq, ilt, ile]
  -- region 1
  obtain ⟨x2, hx2, h⟩ := bind_some h
  refine VW.cut [(6, .val (.bool x2))] ?_ fun hy => ?_
  rotate_left
  · clear h
    by_cases hp1 : a1 ≤ a0
    · rw [if_pos hp1] at hx2
      have hp1b : ile a1 a0 = true := by simpa [ieq, ilt, ile] using hp1
      have hp1s := hp1b
      try simp at hp1s
      cases hx2
      refine VW.ws tau_ok Sound.none [some 7, some 8, some 9, some 10, some 11, some 12, some 13, some 14, some 6] _ rfl ?_ hy
      simp [hp1b, hp1s] <;> simp [ieq, ilt, ile]
    · rw [if_neg hp1] at hx2
      have hp1b : ile a1 a0 = false := by simpa [ieq, ilt, ile] using hp1
      have hp1s := hp1b
      try simp at hp1s
      cases hx2
      refine VW.ws tau_ok Sound.none [some 7, some 8, some 9, some 10, some 11, some 12, some 13, some 14, some 6] _ rfl ?_ hy
      simp [hp1b, hp1s] <;> simp [ieq, ilt, ile]
  cases h
  refine VW.ret ?_
  simp [Post, PostM, PostC, PostC2, Nx, Bk]

theorem i_field_is_ok {a0 : Int} {a1 : List Int} {r : Bool} (h : i_field_is a0 a1 = some r) :
    VCall Try.prog 191 [i64 a0, dI a1] [.sc (.bool r)] := by
  unfold i_field_is at h
  refine VCall.enter Try.call191 Try.func191 rfl 19 Try.ntmps191 (by simp) [.tmp 4] rfl ?_
  show VW _ _ _ (mk [(0, .val (i64 a0)), (1, .val (dI a1))]) _
  -- region 0
  refine VW.ws tau_ok Sound.none [some 4] [(0, .val (i64 a0)), (1, .val (dI a1))] rfl ?_ ?_
  · simp <;> simp [ieq, ilt, ile]
  refine VW.sqc fun K1 hK1 hCK1 => ?_
  -- region 1
  refine VW.ws tau_ok Sound.none [some 7, some 8, some 9] [(0, .val (i64 a0)), (7, .val (dI a1)), (8, .val (i64 (a1.length : Int))), (9, .val (i64 0))] rfl ?_ ?_
  · simp <;> simp [ieq, ilt, ile]
  obtain ⟨x2, hx2, h⟩ := bind_some h
  refine VW.tlO (fun y4 => []) x2 (hCK1) ?_ ?_
  · clear hx2
    rintro y4 rfl
    dsimp only at h
    refine hK1 _ ?_
    -- region 7
    refine VW.ws tau_ok Sound.none [some 4] [(4, .val (.bool true))] rfl ?_ ?_
    · simp <;> simp [ieq, ilt, ile]
    cases h
    refine VW.ret ?_
    simp [Post, PostM, PostC, PostC2, Nx, Bk]
  refine VW.block ?_
  refine VW.loopF (i_field_is_L0 a0 a1) (fun s2 => [(0, .val (i64 a0)), (7, .val (dI a1)), (8, .val (i64 (a1.length : Int))), (9, .val (i64 s2))]) hx2 (Fits.of rfl) ?_
  clear hx2
  intro s2 ox2 hx2o hx2b
  unfold i_field_is_L0 at hx2o
  -- region 2
  refine VW.ws tau_ok Sound.none [some 10] [(0, .val (i64 a0)), (7, .val (dI a1)), (8, .val (i64 (a1.length : Int))), (9, .val (i64 s2)), (10, .val (.bool (ilt s2 (a1.length : Int))))] rfl ?_ ?_
  · simp <;> simp [ieq, ilt, ile]
  refine VW.sqc fun K5 hK5 hCK5 => ?_
  refine VW.cond rfl (fun hb6 => ?_) (fun hb6 => ?_)
  rotate_left
  ·
    replace hb6 : ¬ (s2 < (a1.length : Int)) := by simpa [ieq, ilt, ile] using hb6
    rw [if_neg hb6] at hx2o
    refine VW.exit ?_
    cases hx2o
    have hq := hx2b _ rfl
    subst hq
    exact ⟨_, rfl, Fits.of rfl⟩
  replace hb6 : s2 < (a1.length : Int) := by simpa [ieq, ilt, ile] using hb6
  rw [if_pos hb6] at hx2o
  refine VW.skip ?_
  refine hK5 _ ?_
  refine VW.sqc fun K7 hK7 hCK7 => ?_
  refine VW.block ?_
  -- region 3
  obtain ⟨v8, hv8, hx2o⟩ := bind_some hx2o
  obtain ⟨hv8a, hv8b, hv8c, hv8d⟩ := idx_some hv8
  refine VW.ws tau_ok Sound.none [some 11, some 12, some 6] [(0, .val (i64 a0)), (6, .val (i64 v8)), (7, .val (dI a1)), (8, .val (i64 (a1.length : Int))), (9, .val (i64 s2))] rfl ?_ ?_
  · simp [hv8a, hv8b, hv8c, hv8d] <;> simp [ieq, ilt, ile]
  -- region 4
  obtain ⟨v9, hv9, hx2o⟩ := bind_some hx2o
  refine VW.ws tau_ok (Sound.none.add 16 (i_inRange_ok hv9) rfl) [some 13, some 14, some 15, some 16, some 17] [(0, .val (i64 a0)), (7, .val (dI a1)), (8, .val (i64 (a1.length : Int))), (9, .val (i64 s2)), (17, .val (.bool (!v9)))] rfl ?_ ?_
  · simp <;> simp [ieq, ilt, ile]
  refine VW.cond rfl (fun hb10 => ?_) (fun hb10 => ?_)
  rotate_left
  ·
    replace hb10 : ¬ (v9 = false) := by simpa [ieq, ilt, ile] using hb10
    rw [if_neg hb10] at hx2o
    refine VW.skip ?_
    refine hK7 _ ?_
    -- region 6
    refine VW.wr tau_ok Sound.none [some 18, some 9] [(0, .val (i64 a0)), (7, .val (dI a1)), (8, .val (i64 (a1.length : Int))), (9, .val (i64 (w64 (s2 + 1))))] rfl ?_ ?_
    · simp <;> simp [ieq, ilt, ile]
    cases hx2o
    exact ⟨_, rfl, Fits.of rfl⟩
  replace hb10 : v9 = false := by simpa [ieq, ilt, ile] using hb10
  rw [if_pos hb10] at hx2o
  -- region 5
  refine VW.ws tau_ok Sound.none [some 4] [(4, .val (.bool false))] rfl ?_ ?_
  · simp <;> simp [ieq, ilt, ile]
  cases hx2o
  have hq := hx2b _ rfl
  subst hq
  dsimp only at h
  cases h
  refine VW.ret ?_
  simp [Post, PostM, PostC, PostC2, Nx, Bk]

theorem g_slices_Index_LI_I_ok {a0 : List Int} {a1 : Int} {r : Int} (h : g_slices_Index_LI_I a0 a1 = some r) :
    VCall Try.prog 141 [dI a0, i64 a1] [.sc (i64 r)] := by
  unfold g_slices_Index_LI_I at h
  refine VCall.enter Try.call141 Try.func141 rfl 19 Try.ntmps141 (by simp) [.tmp 4] rfl ?_
  show VW _ _ _ (mk [(0, .val (dI a0)), (1, .val (i64 a1))]) _
  -- region 0
  refine VW.ws tau_ok Sound.none [some 4] [(0, .val (dI a0)), (1, .val (i64 a1))] rfl ?_ ?_
  · simp <;> simp [ieq, ilt, ile]
  refine VW.sqc fun K1 hK1 hCK1 => ?_
  -- region 1
  refine VW.ws tau_ok Sound.none [some 6, some 7, some 8] [(0, .val (dI a0)), (1, .val (i64 a1)), (7, .val (i64 (a0.length : Int))), (8, .val (i64 0))] rfl ?_ ?_
  · simp <;> simp [ieq, ilt, ile]
  obtain ⟨x2, hx2, h⟩ := bind_some h
  refine VW.tlO (fun y4 => []) x2 (hCK1) ?_ ?_
  · clear hx2
    rintro y4 rfl
    dsimp only at h
    refine hK1 _ ?_
    -- region 7
    refine VW.ws tau_ok Sound.none [some 4] [(4, .val (i64 (-1)))] rfl ?_ ?_
    · simp <;> simp [ieq, ilt, ile]
    cases h
    refine VW.ret ?_
    simp [Post, PostM, PostC, PostC2, Nx, Bk]
  refine VW.block ?_
  refine VW.loopF (g_slices_Index_LI_I_L0 a0 a1) (fun s2 => [(0, .val (dI a0)), (1, .val (i64 a1)), (7, .val (i64 (a0.length : Int))), (8, .val (i64 s2))]) hx2 (Fits.of rfl) ?_
  clear hx2
  intro s2 ox2 hx2o hx2b
  unfold g_slices_Index_LI_I_L0 at hx2o
  -- region 2
  refine VW.ws tau_ok Sound.none [some 9] [(0, .val (dI a0)), (1, .val (i64 a1)), (7, .val (i64 (a0.length : Int))), (8, .val (i64 s2)), (9, .val (.bool (ilt s2 (a0.length : Int))))] rfl ?_ ?_
  · simp <;> simp [ieq, ilt, ile]
  refine VW.sqc fun K5 hK5 hCK5 => ?_
  refine VW.cond rfl (fun hb6 => ?_) (fun hb6 => ?_)
  rotate_left
  ·
    replace hb6 : ¬ (s2 < (a0.length : Int)) := by simpa [ieq, ilt, ile] using hb6
    rw [if_neg hb6] at hx2o
    refine VW.exit ?_
    cases hx2o
    have hq := hx2b _ rfl
    subst hq
    exact ⟨_, rfl, Fits.of rfl⟩
  replace hb6 : s2 < (a0.length : Int) := by simpa [ieq, ilt, ile] using hb6
  rw [if_pos hb6] at hx2o
  refine VW.skip ?_
  refine hK5 _ ?_
  refine VW.sqc fun K7 hK7 hCK7 => ?_
  refine VW.block ?_
  -- region 3
  refine VW.ws tau_ok Sound.none [some 10, some 5] [(0, .val (dI a0)), (1, .val (i64 a1)), (5, .val (i64 s2)), (7, .val (i64 (a0.length : Int))), (8, .val (i64 s2))] rfl ?_ ?_
  · simp <;> simp [ieq, ilt, ile]
  -- region 4
  obtain ⟨v8, hv8, hx2o⟩ := bind_some hx2o
  obtain ⟨hv8a, hv8b, hv8c, hv8d⟩ := idx_some hv8
  refine VW.ws tau_ok Sound.none [some 11, some 12, some 13, some 14, some 15, some 16] [(0, .val (dI a0)), (1, .val (i64 a1)), (5, .val (i64 s2)), (7, .val (i64 (a0.length : Int))), (8, .val (i64 s2)), (16, .val (.bool (ieq a1 v8)))] rfl ?_ ?_
  · simp [hv8a, hv8b, hv8c, hv8d] <;> simp [ieq, ilt, ile]
  refine VW.cond rfl (fun hb9 => ?_) (fun hb9 => ?_)
  rotate_left
  ·
    replace hb9 : ¬ (a1 = v8) := by simpa [ieq, ilt, ile] using hb9
    rw [if_neg hb9] at hx2o
    refine VW.skip ?_
    refine hK7 _ ?_
    -- region 6
    refine VW.wr tau_ok Sound.none [some 18, some 8] [(0, .val (dI a0)), (1, .val (i64 a1)), (7, .val (i64 (a0.length : Int))), (8, .val (i64 (w64 (s2 + 1))))] rfl ?_ ?_
    · simp <;> simp [ieq, ilt, ile]
    cases hx2o
    exact ⟨_, rfl, Fits.of rfl⟩
  replace hb9 : a1 = v8 := by simpa [ieq, ilt, ile] using hb9
  rw [if_pos hb9] at hx2o
  -- region 5
  refine VW.ws tau_ok Sound.none [some 17, some 4] [(4, .val (i64 s2))] rfl ?_ ?_
  · simp <;> simp [ieq, ilt, ile]
  cases hx2o
  have hq := hx2b _ rfl
  subst hq
  dsimp only at h
  cases h
  refine VW.ret ?_
  simp [Post, PostM, PostC, PostC2, Nx, Bk]

theorem g_slices_Contains_LI_I_ok {a0 : List Int} {a1 : Int} {r : Bool} (h : g_slices_Contains_LI_I a0 a1 = some r) :
    VCall Try.prog 193 [dI a0, i64 a1] [.sc (.bool r)] := by
  unfold g_slices_Contains_LI_I at h
  refine VCall.enter Try.call193 Try.func193 rfl 9 Try.ntmps193 (by simp) [.tmp 4] rfl ?_
  show VW _ _ _ (mk [(0, .val (dI a0)), (1, .val (i64 a1))]) _
  -- region 0
  refine VW.ws tau_ok Sound.none [some 4] [(0, .val (dI a0)), (1, .val (i64 a1))] rfl ?_ ?_
  · simp <;> simp [ieq, ilt, ile]
  -- region 1
  obtain ⟨v1, hv1, h⟩ := bind_some h
  refine VW.ws tau_ok (Sound.none.add 7 (g_slices_Index_LI_I_ok hv1) rfl) [some 5, some 6, some 7, some 8, some 4] [(4, .val (.bool (ile 0 v1)))] rfl ?_ ?_
  · simp <;> simp [ieq, ilt, ile]
  cases h
  refine VW.ret ?_
  simp [Post, PostM, PostC, PostC2, Nx, Bk]

theorem i_IsDoubling_ok {a0_0 : Int} {a0_1 : List Int} {r : Bool} (h : i_IsDoubling a0_0 a0_1 = some r) :
    VCall Try.prog 107 [.agg [i64 a0_0, dI a0_1]] [.sc (.bool r)] := by
  unfold i_IsDoubling at h
  refine VCall.enter Try.call107 Try.func107 rfl 25 Try.ntmps107 (by simp) [.tmp 2] rfl ?_
  show VW _ _ _ (mk [(0, .val (.agg [i64 a0_0, dI a0_1]))]) _
  -- region 0
  refine VW.ws tau_ok Sound.none [some 1, some 2] [(1, .val (.ptr [i64 a0_0, dI a0_1]))] rfl ?_ ?_
  · simp <;> simp [ieq, ilt, ile]
  -- region 1
  obtain ⟨x8, hx8, h⟩ := bind_some h
  refine VW.cut [(2, .val (.bool x8))] ?_ fun hy => ?_
  rotate_left
  · clear h
    obtain ⟨v1, hv1, hx8⟩ := bind_some hx8
    by_cases hp2 : v1 = true
    · rw [if_pos hp2] at hx8
      have hp2b : v1 = true := by simpa [ieq, ilt, ile] using hp2
      have hp2s := hp2b
      try simp at hp2s
      by_cases hp3 : (a0_1.length : Int) ≤ 4
      · rw [if_pos hp3] at hx8
        have hp3b : ile (a0_1.length : Int) 4 = true := by simpa [ieq, ilt, ile] using hp3
        have hp3s := hp3b
        try simp at hp3s
        obtain ⟨v4, hv4, hx8⟩ := bind_some hx8
        obtain ⟨v5, hv5, hx8⟩ := bind_some hx8
        by_cases hp6 : v5 = true
        · rw [if_pos hp6] at hx8
          have hp6b : v5 = true := by simpa [ieq, ilt, ile] using hp6
          have hp6s := hp6b
          try simp at hp6s
          obtain ⟨v7, hv7, hx8⟩ := bind_some hx8
          cases hx8
          refine VW.wds tau_ok ((((Sound.none.add 5 (i_IsPrime_ok hv1) rfl).add 14 (i_Doubling_field_ok hv4) rfl).add 17 (i_field_is_ok hv5) rfl).add 22 (g_slices_Contains_LI_I_ok hv7) rfl) try_mixed [some 3, some 4, some 5, some 6, some 7, some 8, some 9, some 10, some 11, some 12, some 13, some 14, some 15, some 16, some 17, some 18, some 19, some 20, some 21, some 22, some 23, some 24, some 2] _ 23 rfl (by kernel_rfl) (by rfl) ?_ hy
          simp [hp2b, hp2s, hp3b, hp3s, hp6b, hp6s] <;> simp [ieq, ilt, ile]
        · rw [if_neg hp6] at hx8
          have hp6b : v5 = false := by simpa [ieq, ilt, ile] using hp6
          have hp6s := hp6b
          try simp at hp6s
          cases hx8
          refine VW.wds tau_ok (((Sound.none.add 5 (i_IsPrime_ok hv1) rfl).add 14 (i_Doubling_field_ok hv4) rfl).add 17 (i_field_is_ok hv5) rfl) try_mixed [some 3, some 4, some 5, some 6, some 7, some 8, some 9, some 10, some 11, some 12, some 13, some 14, some 15, some 16, some 17, some 18, some 19, some 20, some 21, some 22, some 23, some 24, some 2] _ 23 rfl (by kernel_rfl) (by rfl) ?_ hy
          simp [hp2b, hp2s, hp3b, hp3s, hp6b, hp6s] <;> simp [ieq, ilt, ile]
      · rw [if_neg hp3] at hx8
        have hp3b : ile (a0_1.length : Int) 4 = false := by simpa [ieq, ilt, ile] using hp3
        have hp3s := hp3b
        try simp at hp3s
        cases hx8
        refine VW.wds tau_ok (Sound.none.add 5 (i_IsPrime_ok hv1) rfl) try_mixed [some 3, some 4, some 5, some 6, some 7, some 8, some 9, some 10, some 11, some 12, some 13, some 14, some 15, some 16, some 17, some 18, some 19, some 20, some 21, some 22, some 23, some 24, some 2] _ 23 rfl (by kernel_rfl) (by rfl) ?_ hy
        simp [hp2b, hp2s, hp3b, hp3s] <;> simp [ieq, ilt, ile]
    · rw [if_neg hp2] at hx8
      have hp2b : v1 = false := by simpa [ieq, ilt, ile] using hp2
      have hp2s := hp2b
      try simp at hp2s
      cases hx8
      refine VW.wds tau_ok (Sound.none.add 5 (i_IsPrime_ok hv1) rfl) try_mixed [some 3, some 4, some 5, some 6, some 7, some 8, some 9, some 10, some 11, some 12, some 13, some 14, some 15, some 16, some 17, some 18, some 19, some 20, some 21, some 22, some 23, some 24, some 2] _ 23 rfl (by kernel_rfl) (by rfl) ?_ hy
      simp [hp2b, hp2s] <;> simp [ieq, ilt, ile]
  cases h
  refine VW.ret ?_
  simp [Post, PostM, PostC, PostC2, Nx, Bk]

theorem i_Doubling_size_ok {a0_0 : Int} {a0_1 : List Int} {r : Int} (h : i_Doubling_size a0_0 a0_1 = some r) :
    VCall Try.prog 126 [.agg [i64 a0_0, dI a0_1]] [.sc (i64 r)] := by
  unfold i_Doubling_size at h
  refine VCall.enter Try.call126 Try.func126 rfl 7 Try.ntmps126 (by simp) [.tmp 2] rfl ?_
  show VW _ _ _ (mk [(0, .val (.agg [i64 a0_0, dI a0_1]))]) _
  -- region 0
  refine VW.ws tau_ok Sound.none [some 1, some 2] [(1, .val (.ptr [i64 a0_0, dI a0_1]))] rfl ?_ ?_
  · simp <;> simp [ieq, ilt, ile]
  -- region 1
  obtain ⟨hc1, h⟩ := chk_some h
  have hc1s := hc1
  try simp at hc1s
  refine VW.ws tau_ok Sound.none [some 3, some 4, some 5, some 6, some 2] [(2, .val (i64 (shl .i64 1 (a0_1.length : Int))))] rfl ?_ ?_
  · simp [hc1, hc1s] <;> simp [ieq, ilt, ile]
  cases h
  refine VW.ret ?_
  simp [Post, PostM, PostC, PostC2, Nx, Bk]

theorem i_unit_ok {a0 : Int} {r : List (List Int)} (h : i_unit a0 = some r) :
    VCall Try.prog 151 [i64 a0] [.own true (dM r)] := by
  unfold i_unit at h
  refine VCall.enter Try.call151 Try.func151 rfl 22 Try.ntmps151 (by simp) [.tmp 2] rfl ?_
  show VW _ _ _ (mk [(0, .val (i64 a0))]) _
  -- region 0
  refine VW.ws tau_ok Sound.none [some 2] [(0, .val (i64 a0))] rfl ?_ ?_
  · simp <;> simp [ieq, ilt, ile]
  -- region 1
  refine VW.ws tau_ok Sound.none [some 6, some 3] [(0, .val (i64 a0)), (3, .ref 3 [] true (dM []))] rfl ?_ ?_
  · simp <;> simp [ieq, ilt, ile]
  refine VW.sqc fun K1 hK1 hCK1 => ?_
  -- region 2
  refine VW.ws tau_ok Sound.none [some 7, some 8] [(0, .val (i64 a0)), (3, .ref 3 [] true (dM [])), (7, .val (i64 a0)), (8, .val (i64 0))] rfl ?_ ?_
  · simp <;> simp [ieq, ilt, ile]
  obtain ⟨x2, hx2, h⟩ := bind_some h
  refine VW.tlE [(3, .ref 3 [] true (dM x2))] (hCK1) ?_ ?_
  · clear hx2
    refine hK1 _ ?_
    -- region 9
    refine VW.ws tau_ok Sound.none [some 21, some 2] [(2, .ref 2 [] true (dM x2))] rfl ?_ ?_
    · simp <;> simp [ieq, ilt, ile]
    cases h
    refine VW.ret ?_
    simp [Post, PostM, PostC, PostC2, Nx, Bk]
  refine VW.block ?_
  refine VW.loopF (i_unit_L0 a0) (fun s2 => [(0, .val (i64 a0)), (3, .ref 3 [] true (dM s2.1)), (7, .val (i64 a0)), (8, .val (i64 s2.2))]) hx2 (Fits.of rfl) ?_
  clear hx2
  intro s2 ox2 hx2o hx2b
  unfold i_unit_L0 at hx2o
  -- region 3
  refine VW.ws tau_ok Sound.none [some 9] [(0, .val (i64 a0)), (3, .ref 3 [] true (dM s2.1)), (7, .val (i64 a0)), (8, .val (i64 s2.2)), (9, .val (.bool (ilt s2.2 a0)))] rfl ?_ ?_
  · simp <;> simp [ieq, ilt, ile]
  refine VW.sqc fun K4 hK4 hCK4 => ?_
  refine VW.cond rfl (fun hb5 => ?_) (fun hb5 => ?_)
  rotate_left
  ·
    replace hb5 : ¬ (s2.2 < a0) := by simpa [ieq, ilt, ile] using hb5
    rw [if_neg hb5] at hx2o
    refine VW.exit ?_
    cases hx2o
    have hq := hx2b _ rfl
    subst hq
    exact Fits.of rfl
  replace hb5 : s2.2 < a0 := by simpa [ieq, ilt, ile] using hb5
  rw [if_pos hb5] at hx2o
  refine VW.skip ?_
  refine hK4 _ ?_
  refine VW.sqc fun K6 hK6 hCK6 => ?_
  refine VW.block ?_
  -- region 4
  refine VW.ws tau_ok Sound.none [some 10, some 4] [(0, .val (i64 a0)), (3, .ref 3 [] true (dM s2.1)), (4, .val (i64 s2.2)), (7, .val (i64 a0)), (8, .val (i64 s2.2))] rfl ?_ ?_
  · simp <;> simp [ieq, ilt, ile]
  -- region 5
  obtain ⟨hc7, hx2o⟩ := chk_some hx2o
  have hc7s := hc7
  try simp at hc7s
  refine VW.ws tau_ok Sound.none [some 11, some 12, some 5] [(0, .val (i64 a0)), (3, .ref 3 [] true (dM s2.1)), (4, .val (i64 s2.2)), (5, .ref 5 [] true (dI (List.replicate a0.toNat 0))), (7, .val (i64 a0)), (8, .val (i64 s2.2))] rfl ?_ ?_
  · simp [hc7, hc7s] <;> simp [ieq, ilt, ile]
  obtain ⟨l8, hl8, hx2o⟩ := bind_some hx2o
  rw [Option.some.inj hl8]
  -- region 6
  obtain ⟨v9, hv9, hx2o⟩ := bind_some hx2o
  obtain ⟨hv9a, hv9b, hv9c, hv9d⟩ := idx_some hv9
  refine VW.ws tau_ok Sound.none [some 13, some 14, some 15, none] [(0, .val (i64 a0)), (3, .ref 3 [] true (dM s2.1)), (5, .ref 5 [] true (dI (l8.set s2.2.toNat 1))), (7, .val (i64 a0)), (8, .val (i64 s2.2))] rfl ?_ ?_
  · simp [hv9a, hv9b, hv9c, hv9d] <;> simp [ieq, ilt, ile]
  -- region 7
  obtain ⟨hc10, hx2o⟩ := chk_some hx2o
  have hc10s := hc10
  try simp at hc10s
  refine VW.wr tau_ok Sound.none [some 16, some 17, some 18, some 19, some 3] [(0, .val (i64 a0)), (3, .ref 3 [] true (dM (s2.1 ++ [l8.set s2.2.toNat 1]))), (7, .val (i64 a0)), (8, .val (i64 s2.2))] rfl ?_ ?_
  · simp [hc10, hc10s] <;> simp [ieq, ilt, ile]
  refine hK6 _ ?_
  -- region 8
  refine VW.wr tau_ok Sound.none [some 20, some 8] [(0, .val (i64 a0)), (3, .ref 3 [] true (dM (s2.1 ++ [l8.set s2.2.toNat 1]))), (7, .val (i64 a0)), (8, .val (i64 (w64 (s2.2 + 1))))] rfl ?_ ?_
  · simp <;> simp [ieq, ilt, ile]
  cases hx2o
  exact ⟨_, rfl, Fits.of rfl⟩

theorem i_field_num_ok {a0 : Int} {a1 : Int} {r : Int} (h : i_field_num a0 a1 = some r) :
    VCall Try.prog 187 [i64 a0, i64 a1] [.sc (i64 r)] := by
  unfold i_field_num at h
  refine VCall.enter Try.call187 Try.func187 rfl 14 Try.ntmps187 (by simp) [.tmp 4] rfl ?_
  show VW _ _ _ (mk [(0, .val (i64 a0)), (1, .val (i64 a1))]) _
  -- region 0
  refine VW.ws tau_ok Sound.none [some 4] [(0, .val (i64 a0)), (1, .val (i64 a1))] rfl ?_ ?_
  · simp <;> simp [ieq, ilt, ile]
  -- region 1
  refine VW.ws tau_ok Sound.none [some 6, some 5] [(1, .val (i64 a1)), (5, .val (i64 a0))] rfl ?_ ?_
  · simp <;> simp [ieq, ilt, ile]
  -- region 2
  obtain ⟨hc1, h⟩ := chk_some h
  have hc1s := hc1
  try simp at hc1s
  obtain ⟨hc2, h⟩ := chk_some h
  have hc2s := hc2
  try simp at hc2s
  refine VW.ws tau_ok Sound.none [some 7, some 8, some 9, some 10, some 11, some 12, some 13, some 4] [(4, .val (i64 ((w64 ((a1.tmod a0) + a0)).tmod a0)))] rfl ?_ ?_
  · simp [hc1, hc1s, hc2, hc2s] <;> simp [ieq, ilt, ile]
  cases h
  refine VW.ret ?_
  simp [Post, PostM, PostC, PostC2, Nx, Bk]

theorem i_field_scaled_ok {a0 : Int} {a1 : List Int} {a2 : Int} {r : List Int} (h : i_field_scaled a0 a1 a2 = some r) :
    VCall Try.prog 244 [i64 a0, dI a1, i64 a2] [.own true (dI r)] := by
  unfold i_field_scaled at h
  refine VCall.enter Try.call244 Try.func244 rfl 27 Try.ntmps244 (by simp) [.tmp 6] rfl ?_
  show VW _ _ _ (mk [(0, .val (i64 a0)), (1, .val (dI a1)), (2, .val (i64 a2))]) _
  -- region 0
  refine VW.ws tau_ok Sound.none [some 6] [(0, .val (i64 a0)), (1, .val (dI a1)), (2, .val (i64 a2))] rfl ?_ ?_
  · simp <;> simp [ieq, ilt, ile]
  -- region 1
  refine VW.ws tau_ok Sound.none [some 10, some 7] [(0, .val (i64 a0)), (1, .val (dI a1)), (2, .val (i64 a2)), (7, .ref 7 [] true (dI []))] rfl ?_ ?_
  · simp <;> simp [ieq, ilt, ile]
  refine VW.sqc fun K1 hK1 hCK1 => ?_
  -- region 2
  refine VW.ws tau_ok Sound.none [some 11, some 12, some 13] [(0, .val (i64 a0)), (2, .val (i64 a2)), (7, .ref 7 [] true (dI [])), (11, .val (dI a1)), (12, .val (i64 (a1.length : Int))), (13, .val (i64 0))] rfl ?_ ?_
  · simp <;> simp [ieq, ilt, ile]
  obtain ⟨x2, hx2, h⟩ := bind_some h
  refine VW.tlE [(7, .ref 7 [] true (dI x2))] (hCK1) ?_ ?_
  · clear hx2
    refine hK1 _ ?_
    -- region 7
    refine VW.ws tau_ok Sound.none [some 26, some 6] [(6, .ref 6 [] true (dI x2))] rfl ?_ ?_
    · simp <;> simp [ieq, ilt, ile]
    cases h
    refine VW.ret ?_
    simp [Post, PostM, PostC, PostC2, Nx, Bk]
  refine VW.block ?_
  refine VW.loopF (i_field_scaled_L0 a0 a1 a2) (fun s2 => [(0, .val (i64 a0)), (2, .val (i64 a2)), (7, .ref 7 [] true (dI s2.1)), (11, .val (dI a1)), (12, .val (i64 (a1.length : Int))), (13, .val (i64 s2.2))]) hx2 (Fits.of rfl) ?_
  clear hx2
  intro s2 ox2 hx2o hx2b
  unfold i_field_scaled_L0 at hx2o
  -- region 3
  refine VW.ws tau_ok Sound.none [some 14] [(0, .val (i64 a0)), (2, .val (i64 a2)), (7, .ref 7 [] true (dI s2.1)), (11, .val (dI a1)), (12, .val (i64 (a1.length : Int))), (13, .val (i64 s2.2)), (14, .val (.bool (ilt s2.2 (a1.length : Int))))] rfl ?_ ?_
  · simp <;> simp [ieq, ilt, ile]
  refine VW.sqc fun K4 hK4 hCK4 => ?_
  refine VW.cond rfl (fun hb5 => ?_) (fun hb5 => ?_)
  rotate_left
  ·
    replace hb5 : ¬ (s2.2 < (a1.length : Int)) := by simpa [ieq, ilt, ile] using hb5
    rw [if_neg hb5] at hx2o
    refine VW.exit ?_
    cases hx2o
    have hq := hx2b _ rfl
    subst hq
    exact Fits.of rfl
  replace hb5 : s2.2 < (a1.length : Int) := by simpa [ieq, ilt, ile] using hb5
  rw [if_pos hb5] at hx2o
  refine VW.skip ?_
  refine hK4 _ ?_
  refine VW.sqc fun K6 hK6 hCK6 => ?_
  refine VW.block ?_
  -- region 4
  obtain ⟨v7, hv7, hx2o⟩ := bind_some hx2o
  obtain ⟨hv7a, hv7b, hv7c, hv7d⟩ := idx_some hv7
  refine VW.ws tau_ok Sound.none [some 15, some 16, some 9] [(0, .val (i64 a0)), (2, .val (i64 a2)), (7, .ref 7 [] true (dI s2.1)), (9, .val (i64 v7)), (11, .val (dI a1)), (12, .val (i64 (a1.length : Int))), (13, .val (i64 s2.2))] rfl ?_ ?_
  · simp [hv7a, hv7b, hv7c, hv7d] <;> simp [ieq, ilt, ile]
  -- region 5
  obtain ⟨v8, hv8, hx2o⟩ := bind_some hx2o
  obtain ⟨hc9, hx2o⟩ := chk_some hx2o
  have hc9s := hc9
  try simp at hc9s
  refine VW.wr tau_ok (Sound.none.add 22 (i_field_num_ok hv8) rfl) [some 17, some 18, some 19, some 20, some 21, some 22, some 23, some 24, some 7] [(0, .val (i64 a0)), (2, .val (i64 a2)), (7, .ref 7 [] true (dI (s2.1 ++ [v8]))), (11, .val (dI a1)), (12, .val (i64 (a1.length : Int))), (13, .val (i64 s2.2))] rfl ?_ ?_
  · simp [hc9, hc9s] <;> simp [ieq, ilt, ile]
  refine hK6 _ ?_
  -- region 6
  refine VW.wr tau_ok Sound.none [some 25, some 13] [(0, .val (i64 a0)), (2, .val (i64 a2)), (7, .ref 7 [] true (dI (s2.1 ++ [v8]))), (11, .val (dI a1)), (12, .val (i64 (a1.length : Int))), (13, .val (i64 (w64 (s2.2 + 1))))] rfl ?_ ?_
  · simp <;> simp [ieq, ilt, ile]
  cases hx2o
  exact ⟨_, rfl, Fits.of rfl⟩

theorem i_field_conjugate_ok {a0 : Int} {a1 : List Int} {r : List Int} (h : i_field_conjugate a0 a1 = some r) :
    VCall Try.prog 196 [i64 a0, dI a1] [.own true (dI r)] := by
  unfold i_field_conjugate at h
  refine VCall.enter Try.call196 Try.func196 rfl 15 Try.ntmps196 (by simp) [.tmp 4] rfl ?_
  show VW _ _ _ (mk [(0, .val (i64 a0)), (1, .val (dI a1))]) _
  -- region 0
  refine VW.ws tau_ok Sound.none [some 4] [(0, .val (i64 a0)), (1, .val (dI a1))] rfl ?_ ?_
  · simp <;> simp [ieq, ilt, ile]
  -- region 1
  obtain ⟨v1, hv1, h⟩ := bind_some h
  refine VW.ws tau_ok (Sound.none.add 8 (i_field_scaled_ok hv1) rfl) [some 6, some 7, some 8, some 5] [(1, .val (dI a1)), (5, .ref 5 [] true (dI v1))] rfl ?_ ?_
  · simp <;> simp [ieq, ilt, ile]
  -- region 2
  obtain ⟨v2, hv2, h⟩ := bind_some h
  obtain ⟨hv2a, hv2b, hv2c, hv2d⟩ := idx_some hv2
  replace hv2b : 0 < a1.length := hv2b
  replace hv2c : a1[0]? = some v2 := hv2c
  replace hv2d : ∀ h, a1[0]'h = v2 := hv2d
  obtain ⟨v3, hv3, h⟩ := bind_some h
  obtain ⟨hv3a, hv3b, hv3c, hv3d⟩ := idx_some hv3
  replace hv3b : 0 < v1.length := hv3b
  replace hv3c : v1[0]? = some v3 := hv3c
  replace hv3d : ∀ h, v1[0]'h = v3 := hv3d
  refine VW.ws tau_ok Sound.none [some 9, some 10, some 11, some 12, some 13, none] [(5, .ref 5 [] true (dI (v1.set 0 v2)))] rfl ?_ ?_
  · simp [hv2a, hv2b, hv2c, hv2d, hv3a, hv3b, hv3c, hv3d] <;> simp [ieq, ilt, ile]
  -- region 3
  refine VW.ws tau_ok Sound.none [some 14, some 4] [(4, .ref 4 [] true (dI (v1.set 0 v2)))] rfl ?_ ?_
  · simp <;> simp [ieq, ilt, ile]
  cases h
  refine VW.ret ?_
  simp [Post, PostM, PostC, PostC2, Nx, Bk]

theorem i_field_plus_ok {a0 : Int} {a1 : List Int} {a2 : List Int} {a3 : Int} {r : List Int} (h : i_field_plus a0 a1 a2 a3 = some r) :
    VCall Try.prog 176 [i64 a0, dI a1, dI a2, i64 a3] [.own true (dI r)] := by
  unfold i_field_plus at h
  refine VCall.enter Try.call176 Try.func176 rfl 35 Try.ntmps176 (by simp) [.tmp 8] rfl ?_
  show VW _ _ _ (mk [(0, .val (i64 a0)), (1, .val (dI a1)), (2, .val (dI a2)), (3, .val (i64 a3))]) _
  -- region 0
  refine VW.ws tau_ok Sound.none [some 8] [(0, .val (i64 a0)), (1, .val (dI a1)), (2, .val (dI a2)), (3, .val (i64 a3))] rfl ?_ ?_
  · simp <;> simp [ieq, ilt, ile]
  -- region 1
  refine VW.ws tau_ok Sound.none [some 12, some 9] [(0, .val (i64 a0)), (1, .val (dI a1)), (2, .val (dI a2)), (3, .val (i64 a3)), (9, .ref 9 [] true (dI []))] rfl ?_ ?_
  · simp <;> simp [ieq, ilt, ile]
  refine VW.sqc fun K1 hK1 hCK1 => ?_
  -- region 2
  refine VW.ws tau_ok Sound.none [some 13, some 14, some 15] [(0, .val (i64 a0)), (2, .val (dI a2)), (3, .val (i64 a3)), (9, .ref 9 [] true (dI [])), (13, .val (dI a1)), (14, .val (i64 (a1.length : Int))), (15, .val (i64 0))] rfl ?_ ?_
  · simp <;> simp [ieq, ilt, ile]
  obtain ⟨x2, hx2, h⟩ := bind_some h
  refine VW.tlE [(9, .ref 9 [] true (dI x2))] (hCK1) ?_ ?_
  · clear hx2
    refine hK1 _ ?_
    -- region 7
    refine VW.ws tau_ok Sound.none [some 34, some 8] [(8, .ref 8 [] true (dI x2))] rfl ?_ ?_
    · simp <;> simp [ieq, ilt, ile]
    cases h
    refine VW.ret ?_
    simp [Post, PostM, PostC, PostC2, Nx, Bk]
  refine VW.block ?_
  refine VW.loopF (i_field_plus_L0 a0 a1 a2 a3) (fun s2 => [(0, .val (i64 a0)), (2, .val (dI a2)), (3, .val (i64 a3)), (9, .ref 9 [] true (dI s2.1)), (13, .val (dI a1)), (14, .val (i64 (a1.length : Int))), (15, .val (i64 s2.2))]) hx2 (Fits.of rfl) ?_
  clear hx2
  intro s2 ox2 hx2o hx2b
  unfold i_field_plus_L0 at hx2o
  -- region 3
  refine VW.ws tau_ok Sound.none [some 16] [(0, .val (i64 a0)), (2, .val (dI a2)), (3, .val (i64 a3)), (9, .ref 9 [] true (dI s2.1)), (13, .val (dI a1)), (14, .val (i64 (a1.length : Int))), (15, .val (i64 s2.2)), (16, .val (.bool (ilt s2.2 (a1.length : Int))))] rfl ?_ ?_
  · simp <;> simp [ieq, ilt, ile]
  refine VW.sqc fun K4 hK4 hCK4 => ?_
  refine VW.cond rfl (fun hb5 => ?_) (fun hb5 => ?_)
  rotate_left
  ·
    replace hb5 : ¬ (s2.2 < (a1.length : Int)) := by simpa [ieq, ilt, ile] using hb5
    rw [if_neg hb5] at hx2o
    refine VW.exit ?_
    cases hx2o
    have hq := hx2b _ rfl
    subst hq
    exact Fits.of rfl
  replace hb5 : s2.2 < (a1.length : Int) := by simpa [ieq, ilt, ile] using hb5
  rw [if_pos hb5] at hx2o
  refine VW.skip ?_
  refine hK4 _ ?_
  refine VW.sqc fun K6 hK6 hCK6 => ?_
  refine VW.block ?_
  -- region 4
  obtain ⟨v7, hv7, hx2o⟩ := bind_some hx2o
  obtain ⟨hv7a, hv7b, hv7c, hv7d⟩ := idx_some hv7
  refine VW.ws tau_ok Sound.none [some 17, some 18, some 19, some 10, some 11] [(0, .val (i64 a0)), (2, .val (dI a2)), (3, .val (i64 a3)), (9, .ref 9 [] true (dI s2.1)), (10, .val (i64 s2.2)), (11, .val (i64 v7)), (13, .val (dI a1)), (14, .val (i64 (a1.length : Int))), (15, .val (i64 s2.2))] rfl ?_ ?_
  · simp [hv7a, hv7b, hv7c, hv7d] <;> simp [ieq, ilt, ile]
  -- region 5
  obtain ⟨v8, hv8, hx2o⟩ := bind_some hx2o
  obtain ⟨hv8a, hv8b, hv8c, hv8d⟩ := idx_some hv8
  obtain ⟨v9, hv9, hx2o⟩ := bind_some hx2o
  obtain ⟨hc10, hx2o⟩ := chk_some hx2o
  have hc10s := hc10
  try simp at hc10s
  refine VW.wr tau_ok (Sound.none.add 30 (i_field_num_ok hv9) rfl) [some 20, some 21, some 22, some 23, some 24, some 25, some 26, some 27, some 28, some 29, some 30, some 31, some 32, some 9] [(0, .val (i64 a0)), (2, .val (dI a2)), (3, .val (i64 a3)), (9, .ref 9 [] true (dI (s2.1 ++ [v9]))), (13, .val (dI a1)), (14, .val (i64 (a1.length : Int))), (15, .val (i64 s2.2))] rfl ?_ ?_
  · simp [hv8a, hv8b, hv8c, hv8d, hc10, hc10s] <;> simp [ieq, ilt, ile]
  refine hK6 _ ?_
  -- region 6
  refine VW.wr tau_ok Sound.none [some 33, some 15] [(0, .val (i64 a0)), (2, .val (dI a2)), (3, .val (i64 a3)), (9, .ref 9 [] true (dI (s2.1 ++ [v9]))), (13, .val (dI a1)), (14, .val (i64 (a1.length : Int))), (15, .val (i64 (w64 (s2.2 + 1))))] rfl ?_ ?_
  · simp <;> simp [ieq, ilt, ile]
  cases hx2o
  exact ⟨_, rfl, Fits.of rfl⟩

theorem i_field_doubled_b_ok {self : Int → (List Int) → (List Int) → (List Int) → Option (List Int)} (hself : ∀ {a0 a1 a2 a3} {r : List Int}, self a0 a1 a2 a3 = some r → VCall Try.prog 189 [i64 a0, dI a1, dI a2, dI a3] [.own true (dI r)]) {a0 : Int} {a1 : List Int} {a2 : List Int} {a3 : List Int} {r : List Int} (h : i_field_doubled_b self a0 a1 a2 a3 = some r) :
    VCall Try.prog 189 [i64 a0, dI a1, dI a2, dI a3] [.own true (dI r)] := by
  unfold i_field_doubled_b at h
  refine VCall.enter Try.call189 Try.func189 rfl 87 Try.ntmps189 (by simp) [.tmp 8] rfl ?_
  show VW _ _ _ (mk [(0, .val (i64 a0)), (1, .val (dI a1)), (2, .val (dI a2)), (3, .val (dI a3))]) _
  -- region 0
  refine VW.ws tau_ok Sound.none [some 8] [(0, .val (i64 a0)), (1, .val (dI a1)), (2, .val (dI a2)), (3, .val (dI a3))] rfl ?_ ?_
  · simp <;> simp [ieq, ilt, ile]
  refine VW.sqc fun K1 hK1 hCK1 => ?_
  -- region 1
  refine VW.ws tau_ok Sound.none [some 18, some 19, some 20] [(0, .val (i64 a0)), (1, .val (dI a1)), (2, .val (dI a2)), (3, .val (dI a3)), (20, .val (.bool (ieq (a1.length : Int) 0)))] rfl ?_ ?_
  · simp <;> simp [ieq, ilt, ile]
  refine VW.cond rfl (fun hb2 => ?_) (fun hb2 => ?_)
  ·
    replace hb2 : (a1.length : Int) = 0 := by simpa [ieq, ilt, ile] using hb2
    rw [if_pos hb2] at h
    -- region 2
    obtain ⟨v3, hv3, h⟩ := bind_some h
    obtain ⟨hv3a, hv3b, hv3c, hv3d⟩ := idx_some hv3
    replace hv3b : 0 < a2.length := hv3b
    replace hv3c : a2[0]? = some v3 := hv3c
    replace hv3d : ∀ h, a2[0]'h = v3 := hv3d
    obtain ⟨v4, hv4, h⟩ := bind_some h
    obtain ⟨hv4a, hv4b, hv4c, hv4d⟩ := idx_some hv4
    replace hv4b : 0 < a3.length := hv4b
    replace hv4c : a3[0]? = some v4 := hv4c
    replace hv4d : ∀ h, a3[0]'h = v4 := hv4d
    obtain ⟨v5, hv5, h⟩ := bind_some h
    refine VW.wds tau_ok (Sound.none.add 29 (i_field_num_ok hv5) rfl) try_mixed [some 21, some 22, some 23, some 24, some 25, some 26, some 27, some 28, some 29, some 30, some 8] [(8, .ref 8 [] true (dI [v5]))] 10 rfl (by kernel_rfl) (by rfl) ?_ ?_
    · simp [hv3a, hv3b, hv3c, hv3d, hv4a, hv4b, hv4c, hv4d] <;> simp [ieq, ilt, ile]
    cases h
    refine VW.ret ?_
    simp [Post, PostM, PostC, PostC2, Nx, Bk]
  replace hb2 : ¬ ((a1.length : Int) = 0) := by simpa [ieq, ilt, ile] using hb2
  rw [if_neg hb2] at h
  refine VW.skip ?_
  refine hK1 _ ?_
  -- region 3
  refine VW.ws tau_ok Sound.none [some 31, some 32, some 33, some 34, some 35, some 36, some 9, some 10] [(0, .val (i64 a0)), (1, .val (dI a1)), (2, .val (dI a2)), (3, .val (dI a3)), (9, .val (i64 (w64 ((a1.length : Int) - 1)))), (10, .val (i64 (w64 ((a2.length : Int).tdiv 2))))] rfl ?_ ?_
  · simp <;> simp [ieq, ilt, ile]
  -- region 4
  obtain ⟨hc6, h⟩ := chk_some h
  have hc6s := hc6
  try simp at hc6s
  obtain ⟨hc7, h⟩ := chk_some h
  have hc7s := hc7
  try simp at hc7s
  obtain ⟨hc8, h⟩ := chk_some h
  have hc8s := hc8
  try simp at hc8s
  obtain ⟨hc9, h⟩ := chk_some h
  have hc9s := hc9
  try simp at hc9s
  refine VW.wds tau_ok Sound.none try_mixed [some 37, some 38, some 39, some 40, some 41, some 42, some 43, some 44, some 45, some 46, some 47, some 48, some 11, some 12, some 13, some 14] [(0, .val (i64 a0)), (1, .val (dI a1)), (9, .val (i64 (w64 ((a1.length : Int) - 1)))), (11, .val (dI (a2.take (w64 ((a2.length : Int).tdiv 2)).toNat))), (12, .val (dI (a2.drop (w64 ((a2.length : Int).tdiv 2)).toNat))), (13, .val (dI (a3.take (w64 ((a2.length : Int).tdiv 2)).toNat))), (14, .val (dI (a3.drop (w64 ((a2.length : Int).tdiv 2)).toNat)))] 16 rfl (by kernel_rfl) (by rfl) ?_ ?_
  · simp [hc6, hc6s, hc7, hc7s, hc8, hc8s, hc9, hc9s] <;> simp [ieq, ilt, ile]
  -- region 5
  obtain ⟨hc10, h⟩ := chk_some h
  have hc10s := hc10
  try simp at hc10s
  refine VW.ws tau_ok Sound.none [some 49, some 50, some 51, some 15] [(0, .val (i64 a0)), (1, .val (dI a1)), (9, .val (i64 (w64 ((a1.length : Int) - 1)))), (11, .val (dI (a2.take (w64 ((a2.length : Int).tdiv 2)).toNat))), (12, .val (dI (a2.drop (w64 ((a2.length : Int).tdiv 2)).toNat))), (13, .val (dI (a3.take (w64 ((a2.length : Int).tdiv 2)).toNat))), (14, .val (dI (a3.drop (w64 ((a2.length : Int).tdiv 2)).toNat))), (15, .val (dI (a1.take (w64 ((a1.length : Int) - 1)).toNat)))] rfl ?_ ?_
  · simp [hc10, hc10s] <;> simp [ieq, ilt, ile]
  -- region 6
  obtain ⟨v11, hv11, h⟩ := bind_some h
  obtain ⟨v12, hv12, h⟩ := bind_some h
  obtain ⟨v13, hv13, h⟩ := bind_some h
  obtain ⟨v14, hv14, h⟩ := bind_some h
  obtain ⟨hv14a, hv14b, hv14c, hv14d⟩ := idx_some hv14
  obtain ⟨v15, hv15, h⟩ := bind_some h
  refine VW.wds tau_ok ((((Sound.none.add 57 (hself hv11) rfl).add 62 (i_field_conjugate_ok hv12) rfl).add 64 (hself hv13) rfl).add 69 (i_field_plus_ok hv15) rfl) try_mixed [some 52, some 53, some 54, some 55, some 56, some 57, some 58, some 59, some 60, some 61, some 62, some 63, some 64, some 65, some 66, some 67, some 68, some 69, some 16] [(0, .val (i64 a0)), (11, .val (dI (a2.take (w64 ((a2.length : Int).tdiv 2)).toNat))), (12, .val (dI (a2.drop (w64 ((a2.length : Int).tdiv 2)).toNat))), (13, .val (dI (a3.take (w64 ((a2.length : Int).tdiv 2)).toNat))), (14, .val (dI (a3.drop (w64 ((a2.length : Int).tdiv 2)).toNat))), (15, .val (dI (a1.take (w64 ((a1.length : Int) - 1)).toNat))), (16, .ref 16 [] true (dI v15))] 18 rfl (by kernel_rfl) (by rfl) ?_ ?_
  · simp [hv14a, hv14b, hv14c, hv14d] <;> simp [ieq, ilt, ile]
  -- region 7
  obtain ⟨v16, hv16, h⟩ := bind_some h
  obtain ⟨v17, hv17, h⟩ := bind_some h
  obtain ⟨v18, hv18, h⟩ := bind_some h
  obtain ⟨v19, hv19, h⟩ := bind_some h
  refine VW.ws tau_ok ((((Sound.none.add 75 (hself hv16) rfl).add 81 (i_field_conjugate_ok hv17) rfl).add 82 (hself hv18) rfl).add 83 (i_field_plus_ok hv19) rfl) [some 70, some 71, some 72, some 73, some 74, some 75, some 76, some 77, some 78, some 79, some 80, some 81, some 82, some 83, some 17] [(16, .ref 16 [] true (dI v15)), (17, .ref 17 [] true (dI v19))] rfl ?_ ?_
  · simp <;> simp [ieq, ilt, ile]
  -- region 8
  obtain ⟨hc20, h⟩ := chk_some h
  have hc20s := hc20
  try simp at hc20s
  refine VW.ws tau_ok Sound.none [some 84, some 85, some 86, some 8] [(8, .ref 8 [] true (dI (v15 ++ v19)))] rfl ?_ ?_
  · simp [hc20, hc20s] <;> simp [ieq, ilt, ile]
  cases h
  refine VW.ret ?_
  simp [Post, PostM, PostC, PostC2, Nx, Bk]
theorem i_field_doubled_ok : ∀ {n : Nat} {a0 : Int} {a1 : List Int} {a2 : List Int} {a3 : List Int} {r : List Int} (_ : i_field_doubled n a0 a1 a2 a3 = some r),
    VCall Try.prog 189 [i64 a0, dI a1, dI a2, dI a3] [.own true (dI r)]
  | 0, _, _, _, _, _, h => by cases h
  | n + 1, _, _, _, _, _, h => i_field_doubled_b_ok (fun h => i_field_doubled_ok (n := n) h) h

theorem i_Doubling_times_ok {a0_0 : Int} {a0_1 : List Int} {a1 : List Int} {a2 : List Int} {r : List Int} (h : i_Doubling_times a0_0 a0_1 a1 a2 = some r) :
    VCall Try.prog 97 [.agg [i64 a0_0, dI a0_1], dI a1, dI a2] [.own true (dI r)] := by
  unfold i_Doubling_times at h
  refine VCall.enter Try.call97 Try.func97 rfl 14 Try.ntmps97 (by simp) [.tmp 6] rfl ?_
  show VW _ _ _ (mk [(0, .val (.agg [i64 a0_0, dI a0_1])), (1, .val (dI a1)), (2, .val (dI a2))]) _
  -- region 0
  refine VW.ws tau_ok Sound.none [some 3, some 6] [(1, .val (dI a1)), (2, .val (dI a2)), (3, .val (.ptr [i64 a0_0, dI a0_1]))] rfl ?_ ?_
  · simp <;> simp [ieq, ilt, ile]
  -- region 1
  obtain ⟨v1, hv1, h⟩ := bind_some h
  obtain ⟨v2, hv2, h⟩ := bind_some h
  refine VW.wds tau_ok ((Sound.none.add 8 (i_Doubling_field_ok hv1) rfl).add 13 (i_field_doubled_ok (n := BIG) hv2) rfl) try_mixed [some 7, some 8, some 9, some 10, some 11, some 12, some 13, some 6] [(6, .ref 6 [] true (dI v2))] 7 rfl (by kernel_rfl) (by rfl) ?_ ?_
  · simp <;> simp [ieq, ilt, ile]
  cases h
  refine VW.ret ?_
  simp [Post, PostM, PostC, PostC2, Nx, Bk]

theorem i_Doubling_norm_ok {a0_0 : Int} {a0_1 : List Int} {a1 : List Int} {r : Int} (h : i_Doubling_norm a0_0 a0_1 a1 = some r) :
    VCall Try.prog 113 [.agg [i64 a0_0, dI a0_1], dI a1] [.sc (i64 r)] := by
  unfold i_Doubling_norm at h
  refine VCall.enter Try.call113 Try.func113 rfl 14 Try.ntmps113 (by simp) [.tmp 4] rfl ?_
  show VW _ _ _ (mk [(0, .val (.agg [i64 a0_0, dI a0_1])), (1, .val (dI a1))]) _
  -- region 0
  refine VW.ws tau_ok Sound.none [some 2, some 4] [(1, .val (dI a1)), (2, .val (.ptr [i64 a0_0, dI a0_1]))] rfl ?_ ?_
  · simp <;> simp [ieq, ilt, ile]
  -- region 1
  obtain ⟨v1, hv1, h⟩ := bind_some h
  obtain ⟨v2, hv2, h⟩ := bind_some h
  obtain ⟨v3, hv3, h⟩ := bind_some h
  obtain ⟨v4, hv4, h⟩ := bind_some h
  obtain ⟨hv4a, hv4b, hv4c, hv4d⟩ := idx_some hv4
  replace hv4b : 0 < v3.length := hv4b
  replace hv4c : v3[0]? = some v4 := hv4c
  replace hv4d : ∀ h, v3[0]'h = v4 := hv4d
  refine VW.wds tau_ok (((Sound.none.add 8 (i_Doubling_field_ok hv1) rfl).add 10 (i_field_conjugate_ok hv2) rfl).add 11 (i_Doubling_times_ok hv3) rfl) try_mixed [some 5, some 6, some 7, some 8, some 9, some 10, some 11, some 12, some 13, some 4] [(4, .val (i64 v4))] 10 rfl (by kernel_rfl) (by rfl) ?_ ?_
  · simp [hv4a, hv4b, hv4c, hv4d] <;> simp [ieq, ilt, ile]
  cases h
  refine VW.ret ?_
  simp [Post, PostM, PostC, PostC2, Nx, Bk]

theorem i_Doubling_diagonal_ok {a0_0 : Int} {a0_1 : List Int} {r : List Int} (h : i_Doubling_diagonal a0_0 a0_1 = some r) :
    VCall Try.prog 183 [.agg [i64 a0_0, dI a0_1]] [.own true (dI r)] := by
  unfold i_Doubling_diagonal at h
  refine VCall.enter Try.call183 Try.func183 rfl 23 Try.ntmps183 (by simp) [.tmp 2] rfl ?_
  show VW _ _ _ (mk [(0, .val (.agg [i64 a0_0, dI a0_1]))]) _
  -- region 0
  refine VW.ws tau_ok Sound.none [some 1, some 2] [(1, .val (.ptr [i64 a0_0, dI a0_1]))] rfl ?_ ?_
  · simp <;> simp [ieq, ilt, ile]
  -- region 1
  refine VW.ws tau_ok Sound.none [some 6, some 3] [(1, .val (.ptr [i64 a0_0, dI a0_1])), (3, .ref 3 [] true (dI []))] rfl ?_ ?_
  · simp <;> simp [ieq, ilt, ile]
  refine VW.sqc fun K1 hK1 hCK1 => ?_
  -- region 2
  obtain ⟨v2, hv2, h⟩ := bind_some h
  obtain ⟨v3, hv3, h⟩ := bind_some h
  refine VW.ws tau_ok ((Sound.none.add 8 (i_Doubling_size_ok hv2) rfl).add 9 (i_unit_ok hv3) rfl) [some 7, some 8, some 9, some 10, some 11] [(1, .val (.ptr [i64 a0_0, dI a0_1])), (3, .ref 3 [] true (dI [])), (9, .ref 9 [] true (dM v3)), (10, .val (i64 (v3.length : Int))), (11, .val (i64 0))] rfl ?_ ?_
  · simp <;> simp [ieq, ilt, ile]
  obtain ⟨x4, hx4, h⟩ := bind_some h
  refine VW.tlE [(3, .ref 3 [] true (dI x4))] (hCK1) ?_ ?_
  · clear hx4
    refine hK1 _ ?_
    -- region 7
    refine VW.ws tau_ok Sound.none [some 22, some 2] [(2, .ref 2 [] true (dI x4))] rfl ?_ ?_
    · simp <;> simp [ieq, ilt, ile]
    cases h
    refine VW.ret ?_
    simp [Post, PostM, PostC, PostC2, Nx, Bk]
  refine VW.block ?_
  refine VW.loopF (i_Doubling_diagonal_L0 a0_0 a0_1 v3) (fun s4 => [(1, .val (.ptr [i64 a0_0, dI a0_1])), (3, .ref 3 [] true (dI s4.1)), (9, .ref 9 [] true (dM v3)), (10, .val (i64 (v3.length : Int))), (11, .val (i64 s4.2))]) hx4 (Fits.of rfl) ?_
  clear hx4
  intro s4 ox4 hx4o hx4b
  unfold i_Doubling_diagonal_L0 at hx4o
  -- region 3
  refine VW.ws tau_ok Sound.none [some 12] [(1, .val (.ptr [i64 a0_0, dI a0_1])), (3, .ref 3 [] true (dI s4.1)), (9, .ref 9 [] true (dM v3)), (10, .val (i64 (v3.length : Int))), (11, .val (i64 s4.2)), (12, .val (.bool (ilt s4.2 (v3.length : Int))))] rfl ?_ ?_
  · simp <;> simp [ieq, ilt, ile]
  refine VW.sqc fun K6 hK6 hCK6 => ?_
  refine VW.cond rfl (fun hb7 => ?_) (fun hb7 => ?_)
  rotate_left
  ·
    replace hb7 : ¬ (s4.2 < (v3.length : Int)) := by simpa [ieq, ilt, ile] using hb7
    rw [if_neg hb7] at hx4o
    refine VW.exit ?_
    cases hx4o
    have hq := hx4b _ rfl
    subst hq
    exact Fits.of rfl
  replace hb7 : s4.2 < (v3.length : Int) := by simpa [ieq, ilt, ile] using hb7
  rw [if_pos hb7] at hx4o
  refine VW.skip ?_
  refine hK6 _ ?_
  refine VW.sqc fun K8 hK8 hCK8 => ?_
  refine VW.block ?_
  -- region 4
  obtain ⟨v9, hv9, hx4o⟩ := bind_some hx4o
  obtain ⟨hv9a, hv9b, hv9c, hv9d⟩ := idx_some hv9
  refine VW.ws tau_ok Sound.none [some 13, some 14, some 5] [(1, .val (.ptr [i64 a0_0, dI a0_1])), (3, .ref 3 [] true (dI s4.1)), (5, .ref 9 [s4.2.toNat] true (dI v9)), (9, .ref 9 [] true (dM v3)), (10, .val (i64 (v3.length : Int))), (11, .val (i64 s4.2))] rfl ?_ ?_
  · simp [hv9a, hv9b, hv9c, hv9d] <;> simp [ieq, ilt, ile]
  -- region 5
  obtain ⟨v10, hv10, hx4o⟩ := bind_some hx4o
  obtain ⟨hc11, hx4o⟩ := chk_some hx4o
  have hc11s := hc11
  try simp at hc11s
  refine VW.wr tau_ok (Sound.none.add 18 (i_Doubling_norm_ok hv10) rfl) [some 15, some 16, some 17, some 18, some 19, some 20, some 3] [(1, .val (.ptr [i64 a0_0, dI a0_1])), (3, .ref 3 [] true (dI (s4.1 ++ [v10]))), (9, .ref 9 [] true (dM v3)), (10, .val (i64 (v3.length : Int))), (11, .val (i64 s4.2))] rfl ?_ ?_
  · simp [hc11, hc11s] <;> simp [ieq, ilt, ile]
  refine hK8 _ ?_
  -- region 6
  refine VW.wr tau_ok Sound.none [some 21, some 11] [(1, .val (.ptr [i64 a0_0, dI a0_1])), (3, .ref 3 [] true (dI (s4.1 ++ [v10]))), (9, .ref 9 [] true (dM v3)), (10, .val (i64 (v3.length : Int))), (11, .val (i64 (w64 (s4.2 + 1))))] rfl ?_ ?_
  · simp <;> simp [ieq, ilt, ile]
  cases hx4o
  exact ⟨_, rfl, Fits.of rfl⟩

theorem i_Doubling_normCounts_ok {a0_0 : Int} {a0_1 : List Int} {r : List (List Int)} (h : i_Doubling_normCounts a0_0 a0_1 = some r) :
    VCall Try.prog 106 [.agg [i64 a0_0, dI a0_1]] [.own true (dM r)] := by
  unfold i_Doubling_normCounts at h
  refine VCall.enter Try.call106 Try.func106 rfl 82 Try.ntmps106 (by simp) [.tmp 2] rfl ?_
  show VW _ _ _ (mk [(0, .val (.agg [i64 a0_0, dI a0_1]))]) _
  -- region 0
  refine VW.ws tau_ok Sound.none [some 1, some 2] [(1, .val (.ptr [i64 a0_0, dI a0_1]))] rfl ?_ ?_
  · simp <;> simp [ieq, ilt, ile]
  -- region 1
  obtain ⟨v1, hv1, h⟩ := bind_some h
  refine VW.ws tau_ok (Sound.none.add 10 (i_Doubling_diagonal_ok hv1) rfl) [some 9, some 10, some 3] [(1, .val (.ptr [i64 a0_0, dI a0_1])), (3, .ref 3 [] true (dI v1))] rfl ?_ ?_
  · simp <;> simp [ieq, ilt, ile]
  -- region 2
  obtain ⟨hc2, h⟩ := chk_some h
  have hc2s := hc2
  try simp at hc2s
  refine VW.ws tau_ok Sound.none [some 11, some 12, some 13, some 14, some 4] [(1, .val (.ptr [i64 a0_0, dI a0_1])), (3, .ref 3 [] true (dI v1)), (4, .ref 4 [] true (dM (List.replicate (w64 ((v1.length : Int) + 1)).toNat [])))] rfl ?_ ?_
  · simp [hc2, hc2s] <;> simp [ieq, ilt, ile]
  obtain ⟨l3, hl3, h⟩ := bind_some h
  rw [Option.some.inj hl3]
  -- region 3
  obtain ⟨hc4, h⟩ := chk_some h
  have hc4s := hc4
  try simp at hc4s
  obtain ⟨v5, hv5, h⟩ := bind_some h
  obtain ⟨hv5a, hv5b, hv5c, hv5d⟩ := idx_some hv5
  replace hv5b : v1.length < l3.length := hv5b
  replace hv5c : l3[v1.length]? = some v5 := hv5c
  replace hv5d : ∀ h, l3[v1.length]'h = v5 := hv5d
  refine VW.ws tau_ok Sound.none [some 15, some 16, some 17, some 18, some 19, some 20, some 21, none] [(1, .val (.ptr [i64 a0_0, dI a0_1])), (3, .ref 3 [] true (dI v1)), (4, .ref 4 [] true (dM (l3.set (v1.length : Int).toNat (List.replicate a0_0.toNat 0))))] rfl ?_ ?_
  · simp [hc4, hc4s, hv5a, hv5b, hv5c, hv5d] <;> simp [ieq, ilt, ile]
  obtain ⟨l6, hl6, h⟩ := bind_some h
  rw [Option.some.inj hl6]
  -- region 4
  obtain ⟨v7, hv7, h⟩ := bind_some h
  obtain ⟨hv7a, hv7b, hv7c, hv7d⟩ := idx_some hv7
  replace hv7b : v1.length < l6.length := hv7b
  replace hv7c : l6[v1.length]? = some v7 := hv7c
  replace hv7d : ∀ h, l6[v1.length]'h = v7 := hv7d
  obtain ⟨v8, hv8, h⟩ := bind_some h
  obtain ⟨hv8a, hv8b, hv8c, hv8d⟩ := idx_some hv8
  replace hv8b : 0 < v7.length := hv8b
  replace hv8c : v7[0]? = some v8 := hv8c
  replace hv8d : ∀ h, v7[0]'h = v8 := hv8d
  refine VW.ws tau_ok Sound.none [some 22, some 23, some 24, some 25, some 26, some 27, none] [(1, .val (.ptr [i64 a0_0, dI a0_1])), (3, .ref 3 [] true (dI v1)), (4, .ref 4 [] true (dM (l6.set (v1.length : Int).toNat (v7.set 0 1))))] rfl ?_ ?_
  · simp [hv7a, hv7b, hv7c, hv7d, hv8a, hv8b, hv8c, hv8d] <;> simp [ieq, ilt, ile]
  refine VW.sqc fun K9 hK9 hCK9 => ?_
  -- region 5
  refine VW.ws tau_ok Sound.none [some 28, some 29, some 30, some 5] [(1, .val (.ptr [i64 a0_0, dI a0_1])), (3, .ref 3 [] true (dI v1)), (4, .ref 4 [] true (dM (l6.set (v1.length : Int).toNat (v7.set 0 1)))), (5, .val (i64 (w64 ((v1.length : Int) - 1))))] rfl ?_ ?_
  · simp <;> simp [ieq, ilt, ile]
  obtain ⟨x10, hx10, h⟩ := bind_some h
  refine VW.tlE [(4, .ref 4 [] true (dM x10))] (hCK9) ?_ ?_
  · clear hx10
    refine hK9 _ ?_
    -- region 18
    refine VW.ws tau_ok Sound.none [some 81, some 2] [(2, .ref 2 [] true (dM x10))] rfl ?_ ?_
    · simp <;> simp [ieq, ilt, ile]
    cases h
    refine VW.ret ?_
    simp [Post, PostM, PostC, PostC2, Nx, Bk]
  refine VW.block ?_
  refine VW.loopF (i_Doubling_normCounts_L0 a0_0 a0_1 v1) (fun s10 => [(1, .val (.ptr [i64 a0_0, dI a0_1])), (3, .ref 3 [] true (dI v1)), (4, .ref 4 [] true (dM s10.1)), (5, .val (i64 s10.2))]) hx10 (Fits.of rfl) ?_
  clear hx10
  intro s10 ox10 hx10o hx10b
  unfold i_Doubling_normCounts_L0 at hx10o
  refine VW.sqc fun K12 hK12 hCK12 => ?_
  -- region 6
  refine VW.ws tau_ok Sound.none [some 31, some 32] [(1, .val (.ptr [i64 a0_0, dI a0_1])), (3, .ref 3 [] true (dI v1)), (4, .ref 4 [] true (dM s10.1)), (5, .val (i64 s10.2)), (32, .val (.bool (ile 0 s10.2)))] rfl ?_ ?_
  · simp <;> simp [ieq, ilt, ile]
  refine VW.cond rfl (fun hb13 => ?_) (fun hb13 => ?_)
  rotate_left
  ·
    replace hb13 : ¬ (0 ≤ s10.2) := by simpa [ieq, ilt, ile] using hb13
    rw [if_neg hb13] at hx10o
    refine VW.exit ?_
    cases hx10o
    have hq := hx10b _ rfl
    subst hq
    exact Fits.of rfl
  replace hb13 : 0 ≤ s10.2 := by simpa [ieq, ilt, ile] using hb13
  rw [if_pos hb13] at hx10o
  refine VW.skip ?_
  refine hK12 _ ?_
  refine VW.sqc fun K14 hK14 hCK14 => ?_
  refine VW.block ?_
  -- region 8
  obtain ⟨hc15, hx10o⟩ := chk_some hx10o
  have hc15s := hc15
  try simp at hc15s
  obtain ⟨v16, hv16, hx10o⟩ := bind_some hx10o
  obtain ⟨hv16a, hv16b, hv16c, hv16d⟩ := idx_some hv16
  refine VW.ws tau_ok Sound.none [some 35, some 36, some 37, some 38, some 39, some 40, none] [(1, .val (.ptr [i64 a0_0, dI a0_1])), (3, .ref 3 [] true (dI v1)), (4, .ref 4 [] true (dM (s10.1.set s10.2.toNat (List.replicate a0_0.toNat 0)))), (5, .val (i64 s10.2))] rfl ?_ ?_
  · simp [hc15, hc15s, hv16a, hv16b, hv16c, hv16d] <;> simp [ieq, ilt, ile]
  obtain ⟨l17, hl17, hx10o⟩ := bind_some hx10o
  rw [Option.some.inj hl17]
  -- region 9
  obtain ⟨v18, hv18, hx10o⟩ := bind_some hx10o
  obtain ⟨hv18a, hv18b, hv18c, hv18d⟩ := idx_some hv18
  refine VW.ws tau_ok Sound.none [some 41, some 42, some 43, some 44, some 45, some 46, some 47] [(1, .val (.ptr [i64 a0_0, dI a0_1])), (3, .ref 3 [] true (dI v1)), (4, .ref 4 [] true (dM l17)), (5, .val (i64 s10.2)), (45, .ref 4 [(w64 (s10.2 + 1)).toNat] true (dI v18)), (46, .val (i64 (v18.length : Int))), (47, .val (i64 0))] rfl ?_ ?_
  · simp [hv18a, hv18b, hv18c, hv18d] <;> simp [ieq, ilt, ile]
  obtain ⟨x19, hx19, hx10o⟩ := bind_some hx10o
  refine VW.tlE [(1, .val (.ptr [i64 a0_0, dI a0_1])), (3, .ref 3 [] true (dI v1)), (4, .ref 4 [] true (dM x19)), (5, .val (i64 s10.2))] (hCK14) ?_ ?_
  · clear hx19
    refine hK14 _ ?_
    -- region 7
    refine VW.wr tau_ok Sound.none [some 33, some 34, some 5] [(1, .val (.ptr [i64 a0_0, dI a0_1])), (3, .ref 3 [] true (dI v1)), (4, .ref 4 [] true (dM x19)), (5, .val (i64 (w64 (s10.2 - 1))))] rfl ?_ ?_
    · simp <;> simp [ieq, ilt, ile]
    cases hx10o
    exact ⟨_, rfl, Fits.of rfl⟩
  refine VW.block ?_
  refine VW.loopF (i_Doubling_normCounts_L1 a0_0 a0_1 v1 s10 v18) (fun s19 => [(1, .val (.ptr [i64 a0_0, dI a0_1])), (3, .ref 3 [] true (dI v1)), (4, .ref 4 [] true (dM s19.1)), (5, .val (i64 s10.2)), (45, .ref 4 [(w64 (s10.2 + 1)).toNat] true (dI v18)), (46, .val (i64 (v18.length : Int))), (47, .val (i64 s19.2))]) hx19 (Fits.of rfl) ?_
  clear hx19
  intro s19 ox19 hx19o hx19b
  unfold i_Doubling_normCounts_L1 at hx19o
  -- region 10
  refine VW.ws tau_ok Sound.none [some 48] [(1, .val (.ptr [i64 a0_0, dI a0_1])), (3, .ref 3 [] true (dI v1)), (4, .ref 4 [] true (dM s19.1)), (5, .val (i64 s10.2)), (45, .ref 4 [(w64 (s10.2 + 1)).toNat] true (dI v18)), (46, .val (i64 (v18.length : Int))), (47, .val (i64 s19.2)), (48, .val (.bool (ilt s19.2 (v18.length : Int))))] rfl ?_ ?_
  · simp <;> simp [ieq, ilt, ile]
  refine VW.sqc fun K21 hK21 hCK21 => ?_
  refine VW.cond rfl (fun hb22 => ?_) (fun hb22 => ?_)
  rotate_left
  ·
    replace hb22 : ¬ (s19.2 < (v18.length : Int)) := by simpa [ieq, ilt, ile] using hb22
    rw [if_neg hb22] at hx19o
    refine VW.exit ?_
    cases hx19o
    have hq := hx19b _ rfl
    subst hq
    exact Fits.of rfl
  replace hb22 : s19.2 < (v18.length : Int) := by simpa [ieq, ilt, ile] using hb22
  rw [if_pos hb22] at hx19o
  refine VW.skip ?_
  refine hK21 _ ?_
  refine VW.sqc fun K23 hK23 hCK23 => ?_
  refine VW.block ?_
  -- region 11
  obtain ⟨v24, hv24, hx19o⟩ := bind_some hx19o
  obtain ⟨hv24a, hv24b, hv24c, hv24d⟩ := idx_some hv24
  refine VW.ws tau_ok Sound.none [some 49, some 50, some 51, some 6, some 7] [(1, .val (.ptr [i64 a0_0, dI a0_1])), (3, .ref 3 [] true (dI v1)), (4, .ref 4 [] true (dM s19.1)), (5, .val (i64 s10.2)), (6, .val (i64 s19.2)), (7, .val (i64 v24)), (45, .ref 4 [(w64 (s10.2 + 1)).toNat] true (dI v18)), (46, .val (i64 (v18.length : Int))), (47, .val (i64 s19.2))] rfl ?_ ?_
  · simp [hv24a, hv24b, hv24c, hv24d] <;> simp [ieq, ilt, ile]
  -- region 12
  refine VW.ws tau_ok Sound.none [some 52, some 53, some 54] [(1, .val (.ptr [i64 a0_0, dI a0_1])), (3, .ref 3 [] true (dI v1)), (4, .ref 4 [] true (dM s19.1)), (5, .val (i64 s10.2)), (6, .val (i64 s19.2)), (7, .val (i64 v24)), (45, .ref 4 [(w64 (s10.2 + 1)).toNat] true (dI v18)), (46, .val (i64 (v18.length : Int))), (47, .val (i64 s19.2)), (53, .val (i64 a0_0)), (54, .val (i64 0))] rfl ?_ ?_
  · simp <;> simp [ieq, ilt, ile]
  obtain ⟨x25, hx25, hx19o⟩ := bind_some hx19o
  refine VW.tlE [(1, .val (.ptr [i64 a0_0, dI a0_1])), (3, .ref 3 [] true (dI v1)), (4, .ref 4 [] true (dM x25)), (5, .val (i64 s10.2)), (45, .ref 4 [(w64 (s10.2 + 1)).toNat] true (dI v18)), (46, .val (i64 (v18.length : Int))), (47, .val (i64 s19.2))] (hCK23) ?_ ?_
  · clear hx25
    refine hK23 _ ?_
    -- region 17
    refine VW.wr tau_ok Sound.none [some 80, some 47] [(1, .val (.ptr [i64 a0_0, dI a0_1])), (3, .ref 3 [] true (dI v1)), (4, .ref 4 [] true (dM x25)), (5, .val (i64 s10.2)), (45, .ref 4 [(w64 (s10.2 + 1)).toNat] true (dI v18)), (46, .val (i64 (v18.length : Int))), (47, .val (i64 (w64 (s19.2 + 1))))] rfl ?_ ?_
    · simp <;> simp [ieq, ilt, ile]
    cases hx19o
    exact ⟨_, rfl, Fits.of rfl⟩
  refine VW.block ?_
  refine VW.loopF (i_Doubling_normCounts_L2 a0_0 a0_1 v1 s10 s19 v24) (fun s25 => [(1, .val (.ptr [i64 a0_0, dI a0_1])), (3, .ref 3 [] true (dI v1)), (4, .ref 4 [] true (dM s25.1)), (5, .val (i64 s10.2)), (6, .val (i64 s19.2)), (7, .val (i64 v24)), (45, .ref 4 [(w64 (s10.2 + 1)).toNat] true (dI v18)), (46, .val (i64 (v18.length : Int))), (47, .val (i64 s19.2)), (53, .val (i64 a0_0)), (54, .val (i64 s25.2))]) hx25 (Fits.of rfl) ?_
  clear hx25
  intro s25 ox25 hx25o hx25b
  unfold i_Doubling_normCounts_L2 at hx25o
  -- region 13
  refine VW.ws tau_ok Sound.none [some 55] [(1, .val (.ptr [i64 a0_0, dI a0_1])), (3, .ref 3 [] true (dI v1)), (4, .ref 4 [] true (dM s25.1)), (5, .val (i64 s10.2)), (6, .val (i64 s19.2)), (7, .val (i64 v24)), (45, .ref 4 [(w64 (s10.2 + 1)).toNat] true (dI v18)), (46, .val (i64 (v18.length : Int))), (47, .val (i64 s19.2)), (53, .val (i64 a0_0)), (54, .val (i64 s25.2)), (55, .val (.bool (ilt s25.2 a0_0)))] rfl ?_ ?_
  · simp <;> simp [ieq, ilt, ile]
  refine VW.sqc fun K27 hK27 hCK27 => ?_
  refine VW.cond rfl (fun hb28 => ?_) (fun hb28 => ?_)
  rotate_left
  ·
    replace hb28 : ¬ (s25.2 < a0_0) := by simpa [ieq, ilt, ile] using hb28
    rw [if_neg hb28] at hx25o
    refine VW.exit ?_
    cases hx25o
    have hq := hx25b _ rfl
    subst hq
    exact Fits.of rfl
  replace hb28 : s25.2 < a0_0 := by simpa [ieq, ilt, ile] using hb28
  rw [if_pos hb28] at hx25o
  refine VW.skip ?_
  refine hK27 _ ?_
  refine VW.sqc fun K29 hK29 hCK29 => ?_
  refine VW.block ?_
  -- region 14
  refine VW.ws tau_ok Sound.none [some 56, some 8] [(1, .val (.ptr [i64 a0_0, dI a0_1])), (3, .ref 3 [] true (dI v1)), (4, .ref 4 [] true (dM s25.1)), (5, .val (i64 s10.2)), (6, .val (i64 s19.2)), (7, .val (i64 v24)), (8, .val (i64 s25.2)), (45, .ref 4 [(w64 (s10.2 + 1)).toNat] true (dI v18)), (46, .val (i64 (v18.length : Int))), (47, .val (i64 s19.2)), (53, .val (i64 a0_0)), (54, .val (i64 s25.2))] rfl ?_ ?_
  · simp <;> simp [ieq, ilt, ile]
  -- region 15
  obtain ⟨v30, hv30, hx25o⟩ := bind_some hx25o
  obtain ⟨hv30a, hv30b, hv30c, hv30d⟩ := idx_some hv30
  obtain ⟨v31, hv31, hx25o⟩ := bind_some hx25o
  obtain ⟨v32, hv32, hx25o⟩ := bind_some hx25o
  obtain ⟨hv32a, hv32b, hv32c, hv32d⟩ := idx_some hv32
  obtain ⟨v33, hv33, hx25o⟩ := bind_some hx25o
  obtain ⟨v34, hv34, hx25o⟩ := bind_some hx25o
  obtain ⟨hv34a, hv34b, hv34c, hv34d⟩ := idx_some hv34
  have hdv35 := w64_succ_ne (s10.2) (by first | assumption | omega)
  have hdv35s := hdv35.symm
  refine VW.wdr tau_ok ((Sound.none.add 62 (i_Doubling_field_ok hv31) rfl).add 73 (i_field_num_ok hv33) rfl) try_mixed [some 57, some 58, some 59, some 60, some 61, some 62, some 63, some 64, some 65, some 66, some 67, some 68, some 69, some 70, some 71, some 72, some 73, some 74, some 75, some 76, some 77, some 78, none] [(1, .val (.ptr [i64 a0_0, dI a0_1])), (3, .ref 3 [] true (dI v1)), (4, .ref 4 [] true (dM (s25.1.set s10.2.toNat (v30.set v33.toNat (w64 (v34 + v24)))))), (5, .val (i64 s10.2)), (6, .val (i64 s19.2)), (7, .val (i64 v24)), (45, .ref 4 [(w64 (s10.2 + 1)).toNat] true (dI v18)), (46, .val (i64 (v18.length : Int))), (47, .val (i64 s19.2)), (53, .val (i64 a0_0)), (54, .val (i64 s25.2))] 22 rfl (by kernel_rfl) (by rfl) ?_ ?_
  · simp [hv30a, hv30b, hv30c, hv30d, hv32a, hv32b, hv32c, hv32d, hv34a, hv34b, hv34c, hv34d, hdv35, hdv35s] <;> simp [ieq, ilt, ile]
  refine hK29 _ ?_
  -- region 16
  refine VW.wr tau_ok Sound.none [some 79, some 54] [(1, .val (.ptr [i64 a0_0, dI a0_1])), (3, .ref 3 [] true (dI v1)), (4, .ref 4 [] true (dM (s25.1.set s10.2.toNat (v30.set v33.toNat (w64 (v34 + v24)))))), (5, .val (i64 s10.2)), (6, .val (i64 s19.2)), (7, .val (i64 v24)), (45, .ref 4 [(w64 (s10.2 + 1)).toNat] true (dI v18)), (46, .val (i64 (v18.length : Int))), (47, .val (i64 s19.2)), (53, .val (i64 a0_0)), (54, .val (i64 (w64 (s25.2 + 1))))] rfl ?_ ?_
  · simp <;> simp [ieq, ilt, ile]
  cases hx25o
  exact ⟨_, rfl, Fits.of rfl⟩

theorem i_Doubling_element_ok {a0_0 : Int} {a0_1 : List Int} {a1 : Int} {r : List Int} (h : i_Doubling_element a0_0 a0_1 a1 = some r) :
    VCall Try.prog 108 [.agg [i64 a0_0, dI a0_1], i64 a1] [.own true (dI r)] := by
  unfold i_Doubling_element at h
  refine VCall.enter Try.call108 Try.func108 rfl 11 Try.ntmps108 (by simp) [.tmp 4] rfl ?_
  show VW _ _ _ (mk [(0, .val (.agg [i64 a0_0, dI a0_1])), (1, .val (i64 a1))]) _
  -- region 0
  refine VW.ws tau_ok Sound.none [some 2, some 4] [(1, .val (i64 a1)), (2, .val (.ptr [i64 a0_0, dI a0_1]))] rfl ?_ ?_
  · simp <;> simp [ieq, ilt, ile]
  -- region 1
  obtain ⟨v1, hv1, h⟩ := bind_some h
  obtain ⟨v2, hv2, h⟩ := bind_some h
  obtain ⟨v3, hv3, h⟩ := bind_some h
  obtain ⟨hv3a, hv3b, hv3c, hv3d⟩ := idx_some hv3
  refine VW.ws tau_ok ((Sound.none.add 6 (i_Doubling_size_ok hv1) rfl).add 7 (i_unit_ok hv2) rfl) [some 5, some 6, some 7, some 8, some 9, some 10, some 4] [(4, .ref 7 [a1.toNat] true (dI v3))] rfl ?_ ?_
  · simp [hv3a, hv3b, hv3c, hv3d] <;> simp [ieq, ilt, ile]
  have hr0 := Option.some.inj h
  subst hr0
  refine VW.fits (fl' := [(4, .ref 4 [] true (dI v3))]) (Fits.part (s := 4) rfl (by decide) (Fits.of rfl)) ?_
  refine VW.ret ?_
  simp [Post, PostM, PostC, PostC2, Nx, Bk]

theorem g_slices_Equal_LI_I_ok {a0 : List Int} {a1 : List Int} {r : Bool} (h : g_slices_Equal_LI_I a0 a1 = some r) :
    VCall Try.prog 100 [dI a0, dI a1] [.sc (.bool r)] := by
  unfold g_slices_Equal_LI_I at h
  refine VCall.enter Try.call100 Try.func100 rfl 26 Try.ntmps100 (by simp) [.tmp 4] rfl ?_
  show VW _ _ _ (mk [(0, .val (dI a0)), (1, .val (dI a1))]) _
  -- region 0
  refine VW.ws tau_ok Sound.none [some 4] [(0, .val (dI a0)), (1, .val (dI a1))] rfl ?_ ?_
  · simp <;> simp [ieq, ilt, ile]
  refine VW.sqc fun K1 hK1 hCK1 => ?_
  -- region 1
  refine VW.ws tau_ok Sound.none [some 6, some 7, some 8, some 9, some 10] [(0, .val (dI a0)), (1, .val (dI a1)), (10, .val (.bool (!(ieq (a0.length : Int) (a1.length : Int)))))] rfl ?_ ?_
  · simp <;> simp [ieq, ilt, ile]
  refine VW.cond rfl (fun hb2 => ?_) (fun hb2 => ?_)
  ·
    replace hb2 : ¬ (a0.length : Int) = (a1.length : Int) := by simpa [ieq, ilt, ile] using hb2
    rw [if_pos hb2] at h
    -- region 2
    refine VW.ws tau_ok Sound.none [some 4] [(4, .val (.bool false))] rfl ?_ ?_
    · simp <;> simp [ieq, ilt, ile]
    cases h
    refine VW.ret ?_
    simp [Post, PostM, PostC, PostC2, Nx, Bk]
  replace hb2 : ¬ (¬ (a0.length : Int) = (a1.length : Int)) := by simpa [ieq, ilt, ile] using hb2
  rw [if_neg hb2] at h
  refine VW.skip ?_
  refine hK1 _ ?_
  refine VW.sqc fun K3 hK3 hCK3 => ?_
  -- region 3
  refine VW.ws tau_ok Sound.none [some 11, some 12, some 13] [(0, .val (dI a0)), (1, .val (dI a1)), (12, .val (i64 (a0.length : Int))), (13, .val (i64 0))] rfl ?_ ?_
  · simp <;> simp [ieq, ilt, ile]
  obtain ⟨x4, hx4, h⟩ := bind_some h
  refine VW.tlO (fun y6 => []) x4 (hCK3) ?_ ?_
  · clear hx4
    rintro y6 rfl
    dsimp only at h
    refine hK3 _ ?_
    -- region 9
    refine VW.ws tau_ok Sound.none [some 4] [(4, .val (.bool true))] rfl ?_ ?_
    · simp <;> simp [ieq, ilt, ile]
    cases h
    refine VW.ret ?_
    simp [Post, PostM, PostC, PostC2, Nx, Bk]
  refine VW.block ?_
  refine VW.loopF (g_slices_Equal_LI_I_L0 a0 a1) (fun s4 => [(0, .val (dI a0)), (1, .val (dI a1)), (12, .val (i64 (a0.length : Int))), (13, .val (i64 s4))]) hx4 (Fits.of rfl) ?_
  clear hx4
  intro s4 ox4 hx4o hx4b
  unfold g_slices_Equal_LI_I_L0 at hx4o
  -- region 4
  refine VW.ws tau_ok Sound.none [some 14] [(0, .val (dI a0)), (1, .val (dI a1)), (12, .val (i64 (a0.length : Int))), (13, .val (i64 s4)), (14, .val (.bool (ilt s4 (a0.length : Int))))] rfl ?_ ?_
  · simp <;> simp [ieq, ilt, ile]
  refine VW.sqc fun K7 hK7 hCK7 => ?_
  refine VW.cond rfl (fun hb8 => ?_) (fun hb8 => ?_)
  rotate_left
  ·
    replace hb8 : ¬ (s4 < (a0.length : Int)) := by simpa [ieq, ilt, ile] using hb8
    rw [if_neg hb8] at hx4o
    refine VW.exit ?_
    cases hx4o
    have hq := hx4b _ rfl
    subst hq
    exact ⟨_, rfl, Fits.of rfl⟩
  replace hb8 : s4 < (a0.length : Int) := by simpa [ieq, ilt, ile] using hb8
  rw [if_pos hb8] at hx4o
  refine VW.skip ?_
  refine hK7 _ ?_
  refine VW.sqc fun K9 hK9 hCK9 => ?_
  refine VW.block ?_
  -- region 5
  refine VW.ws tau_ok Sound.none [some 15, some 5] [(0, .val (dI a0)), (1, .val (dI a1)), (5, .val (i64 s4)), (12, .val (i64 (a0.length : Int))), (13, .val (i64 s4))] rfl ?_ ?_
  · simp <;> simp [ieq, ilt, ile]
  -- region 6
  obtain ⟨v10, hv10, hx4o⟩ := bind_some hx4o
  obtain ⟨hv10a, hv10b, hv10c, hv10d⟩ := idx_some hv10
  obtain ⟨v11, hv11, hx4o⟩ := bind_some hx4o
  obtain ⟨hv11a, hv11b, hv11c, hv11d⟩ := idx_some hv11
  refine VW.wds tau_ok Sound.none try_mixed [some 16, some 17, some 18, some 19, some 20, some 21, some 22, some 23, some 24] [(0, .val (dI a0)), (1, .val (dI a1)), (12, .val (i64 (a0.length : Int))), (13, .val (i64 s4)), (24, .val (.bool (!(ieq v10 v11))))] 9 rfl (by kernel_rfl) (by rfl) ?_ ?_
  · simp [hv10a, hv10b, hv10c, hv10d, hv11a, hv11b, hv11c, hv11d] <;> simp [ieq, ilt, ile]
  refine VW.cond rfl (fun hb12 => ?_) (fun hb12 => ?_)
  rotate_left
  ·
    replace hb12 : ¬ (¬ v10 = v11) := by simpa [ieq, ilt, ile] using hb12
    rw [if_neg hb12] at hx4o
    refine VW.skip ?_
    refine hK9 _ ?_
    -- region 8
    refine VW.wr tau_ok Sound.none [some 25, some 13] [(0, .val (dI a0)), (1, .val (dI a1)), (12, .val (i64 (a0.length : Int))), (13, .val (i64 (w64 (s4 + 1))))] rfl ?_ ?_
    · simp <;> simp [ieq, ilt, ile]
    cases hx4o
    exact ⟨_, rfl, Fits.of rfl⟩
  replace hb12 : ¬ v10 = v11 := by simpa [ieq, ilt, ile] using hb12
  rw [if_pos hb12] at hx4o
  -- region 7
  refine VW.ws tau_ok Sound.none [some 4] [(4, .val (.bool false))] rfl ?_ ?_
  · simp <;> simp [ieq, ilt, ile]
  cases hx4o
  have hq := hx4b _ rfl
  subst hq
  dsimp only at h
  cases h
  refine VW.ret ?_
  simp [Post, PostM, PostC, PostC2, Nx, Bk]

theorem g_slices_Clone_LI_I_ok {a0 r : List Int} (h : g_slices_Clone_LI_I a0 = some r) :
    VCall Try.prog 185 [dI a0] [.own true (dI r)] := by
  unfold g_slices_Clone_LI_I at h
  obtain ⟨hc, h⟩ := chk_some h
  cases h
  refine VCall.enter Try.call185 Try.func185 rfl 8 Try.ntmps185 (by simp) [.tmp 2] rfl ?_
  show VW _ _ _ (mk [(0, .val (dI a0))]) _
  refine VW.ws tau_ok Sound.none [some 2] [(0, .val (dI a0))] rfl ?_ ?_
  · simp
  refine VW.sqc fun K hK hCK => ?_
  refine VW.nilcmp tau_ok (T := 22) (e := 2) rfl rfl rfl rfl rfl (by simp) rfl rfl rfl (by simp) fun b hb => ?_
  refine VW.cond rfl (fun h1 => ?_) (fun h1 => ?_)
  · have e := hb h1
    simp at e
    subst e
    refine VW.ws tau_ok Sound.none [some 2] [(2, .ref 2 [] true (.list []))] rfl ?_ ?_
    · simp
    refine VW.ret ?_
    simp [Post, Nx]
  · refine VW.skip ?_
    refine hK _ ?_
    refine VW.ws tau_ok Sound.none [some 5, some 6, some 7, some 2] [(2, .ref 2 [] true (dI a0))] rfl ?_ ?_
    · simp [hc]
    refine VW.ret ?_
    simp [Post, Nx]

theorem i_Doubling_units_c1_b_ok {self : (List Int) → Int → (List (List Int)) → (List Int) → (List (List Int)) → Int → (List Int) → Option (List (List Int))} (hself : ∀ {a0 a1 a2_0 a3_0 a4_0 a5_0 a5_1} {r : List (List Int)}, self a0 a1 a2_0 a3_0 a4_0 a5_0 a5_1 = some r → VClo Try.prog 184 [dI a0, i64 a1] [.fro (.ptr [dM a2_0]), .fro (.ptr [dI a3_0]), .own [dM a4_0], .fro (.ptr [i64 a5_0, dI a5_1]), .self] [.fro (.ptr [dM a2_0]), .fro (.ptr [dI a3_0]), .own [dM r], .fro (.ptr [i64 a5_0, dI a5_1]), .self]) {a0 : List Int} {a1 : Int} {a2_0 : List (List Int)} {a3_0 : List Int} {a4_0 : List (List Int)} {a5_0 : Int} {a5_1 : List Int} {r : List (List Int)} (h : i_Doubling_units_c1_b self a0 a1 a2_0 a3_0 a4_0 a5_0 a5_1 = some r) :
    VClo Try.prog 184 [dI a0, i64 a1] [.fro (.ptr [dM a2_0]), .fro (.ptr [dI a3_0]), .own [dM a4_0], .fro (.ptr [i64 a5_0, dI a5_1]), .self] [.fro (.ptr [dM a2_0]), .fro (.ptr [dI a3_0]), .own [dM r], .fro (.ptr [i64 a5_0, dI a5_1]), .self] := by
  unfold i_Doubling_units_c1_b at h
  refine VClo.enter Try.call184 Try.func184 rfl 64 7 Try.ntmps184 rfl (by decide) rfl rfl ?_
  show VW _ _ _ (mk [(0, .val (dI a0)), (1, .val (i64 a1)), (2, .val (.ptr [dM a2_0])), (3, .val (.ptr [dI a3_0])), (4, .ref 4 [] true (.ptr [dM a4_0])), (5, .val (.ptr [i64 a5_0, dI a5_1])), (6, .cel 6 184 [.dat (.ptr [dM a2_0]), .dat (.ptr [dI a3_0]), .tok 4, .dat (.ptr [i64 a5_0, dI a5_1]), .tok 6])]) _
  -- region 0
  refine VW.ws tau_ok Sound.none [some 11, some 12, some 9] [(0, .val (dI a0)), (1, .val (i64 a1)), (2, .val (.ptr [dM a2_0])), (3, .val (.ptr [dI a3_0])), (4, .ref 4 [] true (.ptr [dM a4_0])), (5, .val (.ptr [i64 a5_0, dI a5_1])), (6, .cel 6 184 [.dat (.ptr [dM a2_0]), .dat (.ptr [dI a3_0]), .tok 4, .dat (.ptr [i64 a5_0, dI a5_1]), .tok 6]), (9, .val (i64 (a0.length : Int)))] rfl ?_ ?_
  · simp <;> simp [ieq, ilt, ile]
  refine VW.sqc fun K1 hK1 hCK1 => ?_
  refine VW.block ?_
  -- region 1
  obtain ⟨v2, hv2, h⟩ := bind_some h
  obtain ⟨hv2a, hv2b, hv2c, hv2d⟩ := idx_some hv2
  replace hv2b : a0.length < a2_0.length := hv2b
  replace hv2c : a2_0[a0.length]? = some v2 := hv2c
  replace hv2d : ∀ h, a2_0[a0.length]'h = v2 := hv2d
  obtain ⟨v3, hv3, h⟩ := bind_some h
  obtain ⟨hv3a, hv3b, hv3c, hv3d⟩ := idx_some hv3
  refine VW.ws tau_ok Sound.none [some 14, some 15, some 16, some 17, some 18, some 19, some 20, some 21, some 13] [(0, .val (dI a0)), (1, .val (i64 a1)), (3, .val (.ptr [dI a3_0])), (4, .ref 4 [] true (.ptr [dM a4_0])), (5, .val (.ptr [i64 a5_0, dI a5_1])), (6, .cel 6 184 [.dat (.ptr [dM a2_0]), .dat (.ptr [dI a3_0]), .tok 4, .dat (.ptr [i64 a5_0, dI a5_1]), .tok 6]), (9, .val (i64 (a0.length : Int))), (13, .val (.bool (ieq v3 0)))] rfl ?_ ?_
  · simp [hv2a, hv2b, hv2c, hv2d, hv3a, hv3b, hv3c, hv3d] <;> simp [ieq, ilt, ile]
  refine VW.cond rfl (fun hb4 => ?_) (fun hb4 => ?_)
  ·
    replace hb4 : v3 = 0 := by simpa [ieq, ilt, ile] using hb4
    rw [if_pos hb4] at h
    cases h
    refine VW.ret ?_
    exact PostClx.r (by simp [postOk, capV, capsAs, capAs])
  replace hb4 : ¬ (v3 = 0) := by simpa [ieq, ilt, ile] using hb4
  rw [if_neg hb4] at h
  -- region 2
  refine VW.ws tau_ok Sound.none [some 23, some 24, some 25, some 26, some 22] [(0, .val (dI a0)), (1, .val (i64 a1)), (3, .val (.ptr [dI a3_0])), (4, .ref 4 [] true (.ptr [dM a4_0])), (5, .val (.ptr [i64 a5_0, dI a5_1])), (6, .cel 6 184 [.dat (.ptr [dM a2_0]), .dat (.ptr [dI a3_0]), .tok 4, .dat (.ptr [i64 a5_0, dI a5_1]), .tok 6]), (9, .val (i64 (a0.length : Int))), (22, .val (.bool (ieq (a0.length : Int) (a3_0.length : Int))))] rfl ?_ ?_
  · simp <;> simp [ieq, ilt, ile]
  refine VW.cond rfl (fun hb5 => ?_) (fun hb5 => ?_)
  ·
    replace hb5 : (a0.length : Int) = (a3_0.length : Int) := by simpa [ieq, ilt, ile] using hb5
    rw [if_pos hb5] at h
    refine VW.sqc fun K6 hK6 hCK6 => ?_
    -- region 3
    obtain ⟨v7, hv7, h⟩ := bind_some h
    obtain ⟨hv7a, hv7b, hv7c, hv7d⟩ := idx_some hv7
    replace hv7b : 0 < a4_0.length := hv7b
    replace hv7c : a4_0[0]? = some v7 := hv7c
    replace hv7d : ∀ h, a4_0[0]'h = v7 := hv7d
    obtain ⟨v8, hv8, h⟩ := bind_some h
    refine VW.ws tau_ok (Sound.none.add 31 (g_slices_Equal_LI_I_ok hv8) rfl) [some 27, some 28, some 29, some 30, some 31, some 32] [(0, .val (dI a0)), (4, .ref 4 [] true (.ptr [dM a4_0])), (6, .cel 6 184 [.dat (.ptr [dM a2_0]), .dat (.ptr [dI a3_0]), .tok 4, .dat (.ptr [i64 a5_0, dI a5_1]), .tok 6]), (32, .val (.bool (!v8)))] rfl ?_ ?_
    · simp [hv7a, hv7b, hv7c, hv7d] <;> simp [ieq, ilt, ile]
    obtain ⟨x9, hx9, h⟩ := bind_some h
    refine VW.tlE [(4, .ref 4 [] true (.ptr [dM x9])), (6, .cel 6 184 [.dat (.ptr [dM a2_0]), .dat (.ptr [dI a3_0]), .tok 4, .dat (.ptr [i64 a5_0, dI a5_1]), .tok 6])] (hCK6) ?_ ?_
    · clear hx9
      refine hK6 _ ?_
      cases h
      refine VW.ret ?_
      exact PostClx.r (by simp [postOk, capV, capsAs, capAs])
    refine VW.cond rfl (fun hb11 => ?_) (fun hb11 => ?_)
    rotate_left
    ·
      replace hb11 : ¬ (v8 = false) := by simpa [ieq, ilt, ile] using hb11
      rw [if_neg hb11] at hx9
      refine VW.skip ?_
      cases hx9
      exact Fits.of rfl
    replace hb11 : v8 = false := by simpa [ieq, ilt, ile] using hb11
    rw [if_pos hb11] at hx9
    -- region 4
    obtain ⟨v12, hv12, hx9⟩ := bind_some hx9
    obtain ⟨hc13, hx9⟩ := chk_some hx9
    have hc13s := hc13
    try simp at hc13s
    refine VW.wxr tau_ok (Sound.none.add 35 (g_slices_Clone_LI_I_ok hv12) rfl) try_mixed [some 33, some 34, some 35, some 36, some 37, none] [(4, .ref 4 [] true (.ptr [dM (a4_0 ++ [v12])])), (6, .cel 6 184 [.dat (.ptr [dM a2_0]), .dat (.ptr [dI a3_0]), .tok 4, .dat (.ptr [i64 a5_0, dI a5_1]), .tok 6])] [1, 0, 0, 2, 3, 3] [[4], [0], [34], [35], [33, 36], [4, 37]] [35, 36] rfl rfl (by kernel_rfl) (by rfl) ?_ ?_
    · simp [hc13, hc13s] <;> simp [ieq, ilt, ile]
    cases hx9
    exact Fits.of rfl
  replace hb5 : ¬ ((a0.length : Int) = (a3_0.length : Int)) := by simpa [ieq, ilt, ile] using hb5
  rw [if_neg hb5] at h
  refine VW.skip ?_
  refine hK1 _ ?_
  -- region 5
  refine VW.ws tau_ok Sound.none [some 38, some 39, some 40] [(0, .val (dI a0)), (1, .val (i64 a1)), (3, .val (.ptr [dI a3_0])), (4, .ref 4 [] true (.ptr [dM a4_0])), (5, .val (.ptr [i64 a5_0, dI a5_1])), (6, .cel 6 184 [.dat (.ptr [dM a2_0]), .dat (.ptr [dI a3_0]), .tok 4, .dat (.ptr [i64 a5_0, dI a5_1]), .tok 6]), (9, .val (i64 (a0.length : Int))), (39, .val (i64 a5_0)), (40, .val (i64 0))] rfl ?_ ?_
  · simp <;> simp [ieq, ilt, ile]
  obtain ⟨x14, hx14, h⟩ := bind_some h
  refine VW.tlE [(4, .ref 4 [] true (.ptr [dM x14])), (6, .cel 6 184 [.dat (.ptr [dM a2_0]), .dat (.ptr [dI a3_0]), .tok 4, .dat (.ptr [i64 a5_0, dI a5_1]), .tok 6])] (Cl.post _ _) ?_ ?_
  · clear hx14
    cases h
    exact PostClx.n (by simp [postOk, capV, capsAs, capAs])
  refine VW.block ?_
  refine VW.loopF (i_Doubling_units_c1_L0 a0 a1 a2_0 a3_0 a5_0 a5_1 self) (fun s14 => [(0, .val (dI a0)), (1, .val (i64 a1)), (3, .val (.ptr [dI a3_0])), (4, .ref 4 [] true (.ptr [dM s14.1])), (5, .val (.ptr [i64 a5_0, dI a5_1])), (6, .cel 6 184 [.dat (.ptr [dM a2_0]), .dat (.ptr [dI a3_0]), .tok 4, .dat (.ptr [i64 a5_0, dI a5_1]), .tok 6]), (9, .val (i64 (a0.length : Int))), (39, .val (i64 a5_0)), (40, .val (i64 s14.2))]) hx14 (Fits.of rfl) ?_
  clear hx14
  intro s14 ox14 hx14o hx14b
  unfold i_Doubling_units_c1_L0 at hx14o
  -- region 6
  refine VW.ws tau_ok Sound.none [some 41] [(0, .val (dI a0)), (1, .val (i64 a1)), (3, .val (.ptr [dI a3_0])), (4, .ref 4 [] true (.ptr [dM s14.1])), (5, .val (.ptr [i64 a5_0, dI a5_1])), (6, .cel 6 184 [.dat (.ptr [dM a2_0]), .dat (.ptr [dI a3_0]), .tok 4, .dat (.ptr [i64 a5_0, dI a5_1]), .tok 6]), (9, .val (i64 (a0.length : Int))), (39, .val (i64 a5_0)), (40, .val (i64 s14.2)), (41, .val (.bool (ilt s14.2 a5_0)))] rfl ?_ ?_
  · simp <;> simp [ieq, ilt, ile]
  refine VW.sqc fun K16 hK16 hCK16 => ?_
  refine VW.cond rfl (fun hb17 => ?_) (fun hb17 => ?_)
  rotate_left
  ·
    replace hb17 : ¬ (s14.2 < a5_0) := by simpa [ieq, ilt, ile] using hb17
    rw [if_neg hb17] at hx14o
    refine VW.exit ?_
    cases hx14o
    have hq := hx14b _ rfl
    subst hq
    exact Fits.of rfl
  replace hb17 : s14.2 < a5_0 := by simpa [ieq, ilt, ile] using hb17
  rw [if_pos hb17] at hx14o
  refine VW.skip ?_
  refine hK16 _ ?_
  refine VW.sqc fun K18 hK18 hCK18 => ?_
  refine VW.block ?_
  -- region 7
  refine VW.ws tau_ok Sound.none [some 42, some 10] [(0, .val (dI a0)), (1, .val (i64 a1)), (3, .val (.ptr [dI a3_0])), (4, .ref 4 [] true (.ptr [dM s14.1])), (5, .val (.ptr [i64 a5_0, dI a5_1])), (6, .cel 6 184 [.dat (.ptr [dM a2_0]), .dat (.ptr [dI a3_0]), .tok 4, .dat (.ptr [i64 a5_0, dI a5_1]), .tok 6]), (9, .val (i64 (a0.length : Int))), (10, .val (i64 s14.2)), (39, .val (i64 a5_0)), (40, .val (i64 s14.2))] rfl ?_ ?_
  · simp <;> simp [ieq, ilt, ile]
  -- region 8
  obtain ⟨v19, hv19, hx14o⟩ := bind_some hx14o
  obtain ⟨hc20, hx14o⟩ := chk_some hx14o
  have hc20s := hc20
  try simp at hc20s
  obtain ⟨v21, hv21, hx14o⟩ := bind_some hx14o
  obtain ⟨v22, hv22, hx14o⟩ := bind_some hx14o
  obtain ⟨hv22a, hv22b, hv22c, hv22d⟩ := idx_some hv22
  replace hv22b : a0.length < a3_0.length := hv22b
  replace hv22c : a3_0[a0.length]? = some v22 := hv22c
  replace hv22d : ∀ h, a3_0[a0.length]'h = v22 := hv22d
  obtain ⟨v23, hv23, hx14o⟩ := bind_some hx14o
  obtain ⟨v24, hv24, hx14o⟩ := bind_some hx14o
  refine VW.dxr tau_ok (((Sound.none.add 45 (g_slices_Clone_LI_I_ok hv19) rfl).add 50 (i_Doubling_field_ok hv21) rfl).add 61 (i_field_num_ok hv23) rfl) try_mixed [some 43, some 44, some 45, some 46, some 47, some 48, some 49, some 50, some 51, some 52, some 53, some 54, some 55, some 56, some 57, some 58, some 59, some 60, some 61, some 62] 19 [(0, .val (dI a0)), (1, .val (i64 a1)), (3, .val (.ptr [dI a3_0])), (4, .ref 4 [] true (.ptr [dM s14.1])), (5, .val (.ptr [i64 a5_0, dI a5_1])), (6, .cel 6 184 [.dat (.ptr [dM a2_0]), .dat (.ptr [dI a3_0]), .tok 4, .dat (.ptr [i64 a5_0, dI a5_1]), .tok 6]), (9, .val (i64 (a0.length : Int))), (39, .val (i64 a5_0)), (40, .val (i64 s14.2)), (43, .clo 184 [.dat (.ptr [dM a2_0]), .dat (.ptr [dI a3_0]), .tok 4, .dat (.ptr [i64 a5_0, dI a5_1]), .tok 6]), (48, .ref 48 [] true (dI (v19 ++ [s14.2]))), (61, .val (i64 v23))] _ (fun _ => [(0, .val (dI a0)), (1, .val (i64 a1)), (3, .val (.ptr [dI a3_0])), (4, .ref 4 [] true (.ptr [dM v24])), (5, .val (.ptr [i64 a5_0, dI a5_1])), (6, .cel 6 184 [.dat (.ptr [dM a2_0]), .dat (.ptr [dI a3_0]), .tok 4, .dat (.ptr [i64 a5_0, dI a5_1]), .tok 6]), (9, .val (i64 (a0.length : Int))), (39, .val (i64 a5_0)), (40, .val (i64 s14.2))]) (fun _ => True) [1, 0, 0, 0, 0, 2, 1, 1, 0, 1, 0, 1, 1, 0, 1, 0, 1, 1, 1, 3] [[6], [0], [44], [10], [46], [45, 47], [5], [49], [1], [3], [9], [52, 53], [54], [10], [55, 56], [10], [57, 58], [51, 59], [50, 60], [43, 48, 61]] [45, 48] _ rfl rfl rfl rfl (by kernel_rfl) (by kernel_rfl) (by rfl) ?_ (OStep.fits (f1 := [(0, .val (dI a0)), (1, .val (i64 a1)), (3, .val (.ptr [dI a3_0])), (4, .ref 4 [] true (.ptr [dM s14.1])), (5, .val (.ptr [i64 a5_0, dI a5_1])), (6, .cel 6 184 [.dat (.ptr [dM a2_0]), .dat (.ptr [dI a3_0]), .tok 4, .dat (.ptr [i64 a5_0, dI a5_1]), .tok 6]), (9, .val (i64 (a0.length : Int))), (39, .val (i64 a5_0)), (40, .val (i64 s14.2)), (43, .clo 184 [.dat (.ptr [dM a2_0]), .dat (.ptr [dI a3_0]), .tok 4, .dat (.ptr [i64 a5_0, dI a5_1]), .tok 6]), (48, .val (dI (v19 ++ [s14.2]))), (61, .val (i64 v23))]) (Fits.freeze (s := 48) rfl (by simp) (Fits.of rfl)) (step_clo [(4, 4, 2, .own [dM v24]), (6, 6, 4, .self)] [43] rfl rfl (by simp) rfl rfl (hself hv24) (.cons (CapOk.dat') (.cons (CapOk.dat') (.cons (CapOk.tok' 4 rfl) (.cons (CapOk.dat') (.cons (CapOk.self' 6 rfl) (.nil)))))) (.cons CapAs.dat' (.cons CapAs.dat' (.cons CapAs.tok' (.cons CapAs.dat' (.cons CapAs.self' (.nil)))))) (show List.Nodup ([4, 6] : List Nat) by decide) (by intro q hq; simp only [List.mem_cons, List.not_mem_nil, or_false] at hq; rcases hq with rfl | rfl <;> first | exact ⟨rfl, rfl, rfl, .inl ⟨_, rfl⟩⟩ | exact ⟨rfl, rfl, rfl, .inr rfl⟩) (by intro s hs; simp only [List.mem_cons, List.not_mem_nil, or_false] at hs; rcases hs with rfl <;> rfl))) (fun _ _ => ?_) (fun _ _ => ?_)
  · simp [hc20, hc20s, hv22a, hv22b, hv22c, hv22d] <;> simp [ieq, ilt, ile]
  · simp [hc20, hc20s, hv22a, hv22b, hv22c, hv22d] <;> simp [ieq, ilt, ile]
  refine hK18 _ ?_
  -- region 9
  refine VW.wr tau_ok Sound.none [some 63, some 40] [(0, .val (dI a0)), (1, .val (i64 a1)), (3, .val (.ptr [dI a3_0])), (4, .ref 4 [] true (.ptr [dM v24])), (5, .val (.ptr [i64 a5_0, dI a5_1])), (6, .cel 6 184 [.dat (.ptr [dM a2_0]), .dat (.ptr [dI a3_0]), .tok 4, .dat (.ptr [i64 a5_0, dI a5_1]), .tok 6]), (9, .val (i64 (a0.length : Int))), (39, .val (i64 a5_0)), (40, .val (i64 (w64 (s14.2 + 1))))] rfl ?_ ?_
  · simp <;> simp [ieq, ilt, ile]
  cases hx14o
  exact ⟨_, rfl, Fits.of rfl⟩
theorem i_Doubling_units_c1_ok : ∀ {n : Nat} {a0 : List Int} {a1 : Int} {a2_0 : List (List Int)} {a3_0 : List Int} {a4_0 : List (List Int)} {a5_0 : Int} {a5_1 : List Int} {r : List (List Int)} (_ : i_Doubling_units_c1 n a0 a1 a2_0 a3_0 a4_0 a5_0 a5_1 = some r),
    VClo Try.prog 184 [dI a0, i64 a1] [.fro (.ptr [dM a2_0]), .fro (.ptr [dI a3_0]), .own [dM a4_0], .fro (.ptr [i64 a5_0, dI a5_1]), .self] [.fro (.ptr [dM a2_0]), .fro (.ptr [dI a3_0]), .own [dM r], .fro (.ptr [i64 a5_0, dI a5_1]), .self]
  | 0, _, _, _, _, _, _, _, _, h => by cases h
  | n + 1, _, _, _, _, _, _, _, _, h => i_Doubling_units_c1_b_ok (fun h => i_Doubling_units_c1_ok (n := n) h) h

theorem i_Doubling_units_ok {a0_0 : Int} {a0_1 : List Int} {r : (List (List Int)) × Int} (h : i_Doubling_units a0_0 a0_1 = some r) :
    VCall Try.prog 94 [.agg [i64 a0_0, dI a0_1]] [.own true (dM r.1), .sc (i64 r.2)] := by
  unfold i_Doubling_units at h
  refine VCall.enter Try.call94 Try.func94 rfl 34 Try.ntmps94 (by simp) [.tmp 2, .tmp 3] rfl ?_
  show VW _ _ _ (mk [(0, .val (.agg [i64 a0_0, dI a0_1]))]) _
  -- region 0
  refine VW.ws tau_ok Sound.none [some 1, some 2, some 3] [(1, .val (.ptr [i64 a0_0, dI a0_1]))] rfl ?_ ?_
  · simp <;> simp [ieq, ilt, ile]
  refine VW.sqc fun K1 hK1 hCK1 => ?_
  refine VW.block ?_
  -- region 1
  obtain ⟨v2, hv2, h⟩ := bind_some h
  refine VW.ws tau_ok (Sound.none.add 10 (i_IsDoubling_ok hv2) rfl) [some 9, some 10, some 11, some 8] [(1, .val (.ptr [i64 a0_0, dI a0_1])), (8, .val (.bool (!v2)))] rfl ?_ ?_
  · simp <;> simp [ieq, ilt, ile]
  refine VW.cond rfl (fun hb3 => ?_) (fun hb3 => ?_)
  ·
    replace hb3 : v2 = false := by simpa [ieq, ilt, ile] using hb3
    rw [if_pos hb3] at h
    -- region 2
    refine VW.ws tau_ok Sound.none [some 2, some 3] [(2, .ref 2 [] true (.list [])), (3, .val (i64 1))] rfl ?_ ?_
    · simp <;> simp [ieq, ilt, ile]
    cases h
    refine VW.ret ?_
    simp [Post, PostM, PostC, PostC2, Nx, Bk]
  replace hb3 : ¬ (v2 = false) := by simpa [ieq, ilt, ile] using hb3
  rw [if_neg hb3] at h
  -- region 3
  refine VW.ws tau_ok Sound.none [some 13, some 14, some 15, some 16, some 12] [(1, .val (.ptr [i64 a0_0, dI a0_1])), (12, .val (.bool (ilt 3 (a0_1.length : Int))))] rfl ?_ ?_
  · simp <;> simp [ieq, ilt, ile]
  refine VW.cond rfl (fun hb4 => ?_) (fun hb4 => ?_)
  ·
    replace hb4 : 3 < (a0_1.length : Int) := by simpa [ieq, ilt, ile] using hb4
    rw [if_pos hb4] at h
    -- region 4
    refine VW.ws tau_ok Sound.none [some 2, some 3] [(2, .ref 2 [] true (.list [])), (3, .val (i64 5))] rfl ?_ ?_
    · simp <;> simp [ieq, ilt, ile]
    cases h
    refine VW.ret ?_
    simp [Post, PostM, PostC, PostC2, Nx, Bk]
  replace hb4 : ¬ (3 < (a0_1.length : Int)) := by simpa [ieq, ilt, ile] using hb4
  rw [if_neg hb4] at h
  refine VW.skip ?_
  refine hK1 _ ?_
  -- region 5
  obtain ⟨v5, hv5, h⟩ := bind_some h
  obtain ⟨v6, hv6, h⟩ := bind_some h
  refine VW.wds tau_ok ((Sound.none.add 18 (i_Doubling_normCounts_ok hv5) rfl).add 20 (i_Doubling_diagonal_ok hv6) rfl) try_mixed [some 17, some 18, some 19, some 20, some 4, some 5, none, none] [(1, .val (.ptr [i64 a0_0, dI a0_1])), (4, .ref 4 [] true (.ptr [dM v5])), (5, .ref 5 [] true (.ptr [dI v6]))] 6 rfl (by kernel_rfl) (by rfl) ?_ ?_
  · simp <;> simp [ieq, ilt, ile]
  refine VW.sqc fun K7 hK7 hCK7 => ?_
  -- region 6
  obtain ⟨v8, hv8, h⟩ := bind_some h
  obtain ⟨hv8a, hv8b, hv8c, hv8d⟩ := idx_some hv8
  replace hv8b : 0 < v5.length := hv8b
  replace hv8c : v5[0]? = some v8 := hv8c
  replace hv8d : ∀ h, v5[0]'h = v8 := hv8d
  obtain ⟨v9, hv9, h⟩ := bind_some h
  obtain ⟨hv9a, hv9b, hv9c, hv9d⟩ := idx_some hv9
  replace hv9b : 1 < v8.length := hv9b
  replace hv9c : v8[1]? = some v9 := hv9c
  replace hv9d : ∀ h, v8[1]'h = v9 := hv9d
  refine VW.ws tau_ok Sound.none [some 21, some 22, some 23, some 24, some 25, some 26] [(1, .val (.ptr [i64 a0_0, dI a0_1])), (4, .ref 4 [] true (.ptr [dM v5])), (5, .ref 5 [] true (.ptr [dI v6])), (26, .val (.bool (ilt 128 v9)))] rfl ?_ ?_
  · simp [hv8a, hv8b, hv8c, hv8d, hv9a, hv9b, hv9c, hv9d] <;> simp [ieq, ilt, ile]
  refine VW.cond rfl (fun hb10 => ?_) (fun hb10 => ?_)
  ·
    replace hb10 : 128 < v9 := by simpa [ieq, ilt, ile] using hb10
    rw [if_pos hb10] at h
    -- region 7
    refine VW.ws tau_ok Sound.none [some 2, some 3] [(2, .ref 2 [] true (.list [])), (3, .val (i64 3))] rfl ?_ ?_
    · simp <;> simp [ieq, ilt, ile]
    cases h
    refine VW.ret ?_
    simp [Post, PostM, PostC, PostC2, Nx, Bk]
  replace hb10 : ¬ (128 < v9) := by simpa [ieq, ilt, ile] using hb10
  rw [if_neg hb10] at h
  refine VW.skip ?_
  refine hK7 _ ?_
  -- region 8
  obtain ⟨v11, hv11, h⟩ := bind_some h
  refine VW.ws tau_ok (Sound.none.add 28 (i_Doubling_element_ok hv11) rfl) [some 27, some 28, some 29, some 6, none] [(1, .val (.ptr [i64 a0_0, dI a0_1])), (4, .ref 4 [] true (.ptr [dM v5])), (5, .ref 5 [] true (.ptr [dI v6])), (6, .ref 6 [] true (.ptr [dM [v11]]))] rfl ?_ ?_
  · simp <;> simp [ieq, ilt, ile]
  -- region 9
  refine VW.ws tau_ok Sound.none [some 7] [(1, .val (.ptr [i64 a0_0, dI a0_1])), (4, .ref 4 [] true (.ptr [dM v5])), (5, .ref 5 [] true (.ptr [dI v6])), (6, .ref 6 [] true (.ptr [dM [v11]])), (7, .ref 7 [] true (.ptr [.gone]))] rfl ?_ ?_
  · simp <;> simp [ieq, ilt, ile]
  refine VW.fits (fl' := [(1, .val (.ptr [i64 a0_0, dI a0_1])), (4, .val (.ptr [dM v5])), (5, .val (.ptr [dI v6])), (6, .ref 6 [] true (.ptr [dM [v11]])), (7, .ref 7 [] true (.ptr [.gone]))]) (Fits.freeze (s := 4) rfl (by simp) (Fits.freeze (s := 5) rfl (by simp) (Fits.of rfl))) ?_
  -- region 10
  refine VW.end2 tau_ok Sound.none [some 30, none] 0 [(1, .val (.ptr [i64 a0_0, dI a0_1])), (4, .val (.ptr [dM v5])), (5, .val (.ptr [dI v6])), (6, .ref 6 [] true (.ptr [dM [v11]])), (7, .ref 7 [] true (.ptr [.gone]))] _ [(1, .val (.ptr [i64 a0_0, dI a0_1])), (4, .val (.ptr [dM v5])), (5, .val (.ptr [dI v6])), (6, .ref 6 [] true (.ptr [dM [v11]])), (7, .ref 7 [] true (.ptr [.gone])), (30, .clo 184 [.dat (.ptr [dM v5]), .dat (.ptr [dI v6]), .tok 6, .dat (.ptr [i64 a0_0, dI a0_1]), .tok 7])] _ [(1, .val (.ptr [i64 a0_0, dI a0_1])), (4, .val (.ptr [dM v5])), (5, .val (.ptr [dI v6])), (6, .ref 6 [] true (.ptr [dM [v11]])), (7, .cel 7 184 [.dat (.ptr [dM v5]), .dat (.ptr [dI v6]), .tok 6, .dat (.ptr [i64 a0_0, dI a0_1]), .tok 7])] _ _ rfl rfl rfl rfl ?_ (step_mkf rfl rfl (by simp) rfl) ?_ (step_stc tau_ok rfl rfl rfl rfl rfl (by simp)) ?_ ?_
  · simp
  · simp
  · simp [kmap, VV.on, Cap.on]
  -- region 11
  obtain ⟨v12, hv12, h⟩ := bind_some h
  refine VW.mid tau_ok Sound.none [some 31, some 32] 1 [(1, .val (.ptr [i64 a0_0, dI a0_1])), (4, .val (.ptr [dM v5])), (5, .val (.ptr [dI v6])), (6, .ref 6 [] true (.ptr [dM [v11]])), (7, .cel 7 184 [.dat (.ptr [dM v5]), .dat (.ptr [dI v6]), .tok 6, .dat (.ptr [i64 a0_0, dI a0_1]), .tok 7]), (31, .clo 184 [.dat (.ptr [dM v5]), .dat (.ptr [dI v6]), .tok 6, .dat (.ptr [i64 a0_0, dI a0_1]), .tok 7])] _ (fun _ => [(6, .ref 6 [] true (.ptr [dM v12]))]) (fun _ => True) _ rfl rfl rfl ?_ (step_clo [(6, 6, 2, .own [dM v12]), (7, 7, 4, .self)] [31] rfl rfl (by simp) rfl rfl (i_Doubling_units_c1_ok (n := BIG) hv12) (.cons (CapOk.dat') (.cons (CapOk.dat') (.cons (CapOk.tok' 6 rfl) (.cons (CapOk.dat') (.cons (CapOk.self' 7 rfl) (.nil)))))) (.cons CapAs.dat' (.cons CapAs.dat' (.cons CapAs.tok' (.cons CapAs.dat' (.cons CapAs.self' (.nil)))))) (show List.Nodup ([6, 7] : List Nat) by decide) (by intro q hq; simp only [List.mem_cons, List.not_mem_nil, or_false] at hq; rcases hq with rfl | rfl <;> first | exact ⟨rfl, rfl, rfl, .inl ⟨_, rfl⟩⟩ | exact ⟨rfl, rfl, rfl, .inr rfl⟩) (by intro s hs; simp only [List.mem_cons, List.not_mem_nil, or_false] at hs; rcases hs with rfl <;> rfl)) (fun _ _ => ?_) (fun _ _ => ?_)
  · simp <;> simp [ieq, ilt, ile]
  · simp <;> simp [ieq, ilt, ile]
  -- region 12
  refine VW.ws tau_ok Sound.none [some 33, some 2, some 3] [(2, .ref 6 [0] true (dM v12)), (3, .val (i64 0))] rfl ?_ ?_
  · simp <;> simp [ieq, ilt, ile]
  have hr0 := Option.some.inj h
  subst hr0
  refine VW.fits (fl' := [(2, .ref 2 [] true (dM v12)), (3, .val (i64 0))]) (Fits.part (s := 2) rfl (by decide) (Fits.of rfl)) ?_
  refine VW.ret ?_
  simp [Post, PostM, PostC, PostC2, Nx, Bk]

theorem i_UnitsOf_ok {a0_0 : Int} {a0_1 : List Int} {r : (List (List Int)) × Int} (h : i_UnitsOf a0_0 a0_1 = some r) :
    VCall Try.prog 29 [.agg [i64 a0_0, dI a0_1]] [.own true (dM r.1), .sc (i64 r.2)] := by
  unfold i_UnitsOf at h
  refine VCall.enter Try.call29 Try.func29 rfl 8 Try.ntmps29 (by simp) [.tmp 2, .tmp 3] rfl ?_
  show VW _ _ _ (mk [(0, .val (.agg [i64 a0_0, dI a0_1]))]) _
  -- region 0
  refine VW.ws tau_ok Sound.none [some 1, some 2, some 3] [(1, .val (.ptr [i64 a0_0, dI a0_1]))] rfl ?_ ?_
  · simp <;> simp [ieq, ilt, ile]
  -- region 1
  obtain ⟨v1, hv1, h⟩ := bind_some h
  refine VW.ws tau_ok (Sound.none.add 5 (i_Doubling_units_ok hv1) rfl) [some 4, some 5, some 6, some 7, some 2, some 3] [(2, .ref 2 [] true (dM v1.1)), (3, .val (i64 v1.2))] rfl ?_ ?_
  · simp <;> simp [ieq, ilt, ile]
  cases h
  refine VW.ret ?_
  simp [Post, PostM, PostC, PostC2, Nx, Bk]

theorem s_l01Prime_ok {a0 : Int} {r : Bool} (h : s_l01Prime a0 = some r) :
    VCall Try.prog 200 [i64 a0] [.sc (.bool r)] := by
  unfold s_l01Prime at h
  refine VCall.enter Try.call200 Try.func200 rfl 21 Try.ntmps200 (by simp) [.tmp 2] rfl ?_
  show VW _ _ _ (mk [(0, .val (i64 a0))]) _
  -- region 0
  refine VW.ws tau_ok Sound.none [some 2] [(0, .val (i64 a0))] rfl ?_ ?_
  · simp <;> simp [ieq, ilt, ile]
  -- region 1
  obtain ⟨x5, hx5, h⟩ := bind_some h
  refine VW.cut [(2, .val (.bool x5))] ?_ fun hy => ?_
  rotate_left
  · clear h
    by_cases hp1 : a0 = 3
    · rw [if_pos hp1] at hx5
      have hp1b : ieq a0 3 = true := by simpa [ieq, ilt, ile] using hp1
      have hp1s := hp1b
      try simp at hp1s
      cases hx5
      refine VW.ws tau_ok Sound.none [some 3, some 4, some 5, some 6, some 7, some 8, some 9, some 10, some 11, some 12, some 13, some 14, some 15, some 16, some 17, some 18, some 19, some 20, some 2] _ rfl ?_ hy
      simp [hp1b, hp1s] <;> simp [ieq, ilt, ile]
    · rw [if_neg hp1] at hx5
      have hp1b : ieq a0 3 = false := by simpa [ieq, ilt, ile] using hp1
      have hp1s := hp1b
      try simp at hp1s
      by_cases hp2 : a0 = 5
      · rw [if_pos hp2] at hx5
        have hp2b : ieq a0 5 = true := by simpa [ieq, ilt, ile] using hp2
        have hp2s := hp2b
        try simp at hp2s
        cases hx5
        refine VW.ws tau_ok Sound.none [some 3, some 4, some 5, some 6, some 7, some 8, some 9, some 10, some 11, some 12, some 13, some 14, some 15, some 16, some 17, some 18, some 19, some 20, some 2] _ rfl ?_ hy
        simp [hp1b, hp1s, hp2b, hp2s] <;> simp [ieq, ilt, ile]
      · rw [if_neg hp2] at hx5
        have hp2b : ieq a0 5 = false := by simpa [ieq, ilt, ile] using hp2
        have hp2s := hp2b
        try simp at hp2s
        by_cases hp3 : a0 = 7
        · rw [if_pos hp3] at hx5
          have hp3b : ieq a0 7 = true := by simpa [ieq, ilt, ile] using hp3
          have hp3s := hp3b
          try simp at hp3s
          cases hx5
          refine VW.ws tau_ok Sound.none [some 3, some 4, some 5, some 6, some 7, some 8, some 9, some 10, some 11, some 12, some 13, some 14, some 15, some 16, some 17, some 18, some 19, some 20, some 2] _ rfl ?_ hy
          simp [hp1b, hp1s, hp2b, hp2s, hp3b, hp3s] <;> simp [ieq, ilt, ile]
        · rw [if_neg hp3] at hx5
          have hp3b : ieq a0 7 = false := by simpa [ieq, ilt, ile] using hp3
          have hp3s := hp3b
          try simp at hp3s
          by_cases hp4 : a0 = 11
          · rw [if_pos hp4] at hx5
            have hp4b : ieq a0 11 = true := by simpa [ieq, ilt, ile] using hp4
            have hp4s := hp4b
            try simp at hp4s
            cases hx5
            refine VW.ws tau_ok Sound.none [some 3, some 4, some 5, some 6, some 7, some 8, some 9, some 10, some 11, some 12, some 13, some 14, some 15, some 16, some 17, some 18, some 19, some 20, some 2] _ rfl ?_ hy
            simp [hp1b, hp1s, hp2b, hp2s, hp3b, hp3s, hp4b, hp4s] <;> simp [ieq, ilt, ile]
          · rw [if_neg hp4] at hx5
            have hp4b : ieq a0 11 = false := by simpa [ieq, ilt, ile] using hp4
            have hp4s := hp4b
            try simp at hp4s
            cases hx5
            refine VW.ws tau_ok Sound.none [some 3, some 4, some 5, some 6, some 7, some 8, some 9, some 10, some 11, some 12, some 13, some 14, some 15, some 16, some 17, some 18, some 19, some 20, some 2] _ rfl ?_ hy
            simp [hp1b, hp1s, hp2b, hp2s, hp3b, hp3s, hp4b, hp4s] <;> simp [ieq, ilt, ile]
  cases h
  refine VW.ret ?_
  simp [Post, PostM, PostC, PostC2, Nx, Bk]

theorem s_l01In_ok {a0 : Int} {a1 : Int} {a2 : Int} {r : Bool} (h : s_l01In a0 a1 a2 = some r) :
    VCall Try.prog 116 [i64 a0, i64 a1, i64 a2] [.sc (.bool r)] := by
  unfold s_l01In at h
  refine VCall.enter Try.call116 Try.func116 rfl 15 Try.ntmps116 (by simp) [.tmp 6] rfl ?_
  show VW _ _ _ (mk [(0, .val (i64 a0)), (1, .val (i64 a1)), (2, .val (i64 a2))]) _
  -- region 0
  refine VW.ws tau_ok Sound.none [some 6] [(0, .val (i64 a0)), (1, .val (i64 a1)), (2, .val (i64 a2))] rfl ?_ ?_
  · simp <;> simp [ieq, ilt, ile]
  -- region 1
  obtain ⟨x2, hx2, h⟩ := bind_some h
  refine VW.cut [(6, .val (.bool x2))] ?_ fun hy => ?_
  rotate_left
  · clear h
    by_cases hp1 : a1 ≤ a0
    · rw [if_pos hp1] at hx2
      have hp1b : ile a1 a0 = true := by simpa [ieq, ilt, ile] using hp1
      have hp1s := hp1b
      try simp at hp1s
      cases hx2
      refine VW.ws tau_ok Sound.none [some 7, some 8, some 9, some 10, some 11, some 12, some 13, some 14, some 6] _ rfl ?_ hy
      simp [hp1b, hp1s] <;> simp [ieq, ilt, ile]
    · rw [if_neg hp1] at hx2
      have hp1b : ile a1 a0 = false := by simpa [ieq, ilt, ile] using hp1
      have hp1s := hp1b
      try simp at hp1s
      cases hx2
      refine VW.ws tau_ok Sound.none [some 7, some 8, some 9, some 10, some 11, some 12, some 13, some 14, some 6] _ rfl ?_ hy
      simp [hp1b, hp1s] <;> simp [ieq, ilt, ile]
  cases h
  refine VW.ret ?_
  simp [Post, PostM, PostC, PostC2, Nx, Bk]

theorem s_l11Is_ok {a0_0 : Int} {a0_1 : List Int} {r : Bool} (h : s_l11Is a0_0 a0_1 = some r) :
    VCall Try.prog 127 [.agg [i64 a0_0, dI a0_1]] [.sc (.bool r)] := by
  unfold s_l11Is at h
  refine VCall.enter Try.call127 Try.func127 rfl 31 Try.ntmps127 (by simp) [.tmp 2] rfl ?_
  show VW _ _ _ (mk [(0, .val (.agg [i64 a0_0, dI a0_1]))]) _
  -- region 0
  refine VW.ws tau_ok Sound.none [some 1, some 2] [(1, .val (.ptr [i64 a0_0, dI a0_1]))] rfl ?_ ?_
  · simp <;> simp [ieq, ilt, ile]
  refine VW.sqc fun K1 hK1 hCK1 => ?_
  -- region 1
  obtain ⟨x4, hx4, h⟩ := bind_some h
  refine VW.cut [(1, .val (.ptr [i64 a0_0, dI a0_1])), (13, .val (.bool x4))] ?_ fun hy => ?_
  rotate_left
  · clear h
    obtain ⟨v2, hv2, hx4⟩ := bind_some hx4
    by_cases hp3 : v2 = false
    · rw [if_pos hp3] at hx4
      have hp3b : v2 = false := by simpa [ieq, ilt, ile] using hp3
      have hp3s := hp3b
      try simp at hp3s
      cases hx4
      refine VW.ws tau_ok (Sound.none.add 6 (s_l01Prime_ok hv2) rfl) [some 4, some 5, some 6, some 7, some 8, some 9, some 10, some 11, some 12, some 13] _ rfl ?_ hy
      simp [hp3b, hp3s] <;> simp [ieq, ilt, ile]
    · rw [if_neg hp3] at hx4
      have hp3b : v2 = true := by simpa [ieq, ilt, ile] using hp3
      have hp3s := hp3b
      try simp at hp3s
      cases hx4
      refine VW.ws tau_ok (Sound.none.add 6 (s_l01Prime_ok hv2) rfl) [some 4, some 5, some 6, some 7, some 8, some 9, some 10, some 11, some 12, some 13] _ rfl ?_ hy
      simp [hp3b, hp3s] <;> simp [ieq, ilt, ile]
  refine VW.cond rfl (fun hb5 => ?_) (fun hb5 => ?_)
  ·
    replace hb5 : x4 = true := by simpa [ieq, ilt, ile] using hb5
    rw [if_pos hb5] at h
    -- region 2
    refine VW.ws tau_ok Sound.none [some 2] [(2, .val (.bool false))] rfl ?_ ?_
    · simp <;> simp [ieq, ilt, ile]
    cases h
    refine VW.ret ?_
    simp [Post, PostM, PostC, PostC2, Nx, Bk]
  replace hb5 : ¬ (x4 = true) := by simpa [ieq, ilt, ile] using hb5
  rw [if_neg hb5] at h
  refine VW.skip ?_
  refine hK1 _ ?_
  refine VW.sqc fun K6 hK6 hCK6 => ?_
  -- region 3
  refine VW.ws tau_ok Sound.none [some 3] [(1, .val (.ptr [i64 a0_0, dI a0_1])), (3, .val (i64 0))] rfl ?_ ?_
  · simp <;> simp [ieq, ilt, ile]
  obtain ⟨x7, hx7, h⟩ := bind_some h
  refine VW.tlO (fun y9 => []) x7 (hCK6) ?_ ?_
  · clear hx7
    rintro y9 rfl
    dsimp only at h
    refine hK6 _ ?_
    -- region 8
    refine VW.ws tau_ok Sound.none [some 2] [(2, .val (.bool true))] rfl ?_ ?_
    · simp <;> simp [ieq, ilt, ile]
    cases h
    refine VW.ret ?_
    simp [Post, PostM, PostC, PostC2, Nx, Bk]
  refine VW.block ?_
  refine VW.loopF (s_l11Is_L0 a0_0 a0_1) (fun s7 => [(1, .val (.ptr [i64 a0_0, dI a0_1])), (3, .val (i64 s7))]) hx7 (Fits.of rfl) ?_
  clear hx7
  intro s7 ox7 hx7o hx7b
  unfold s_l11Is_L0 at hx7o
  refine VW.sqc fun K10 hK10 hCK10 => ?_
  -- region 4
  refine VW.ws tau_ok Sound.none [some 14, some 15, some 16, some 17, some 18] [(1, .val (.ptr [i64 a0_0, dI a0_1])), (3, .val (i64 s7)), (18, .val (.bool (ilt s7 (a0_1.length : Int))))] rfl ?_ ?_
  · simp <;> simp [ieq, ilt, ile]
  refine VW.cond rfl (fun hb11 => ?_) (fun hb11 => ?_)
  rotate_left
  ·
    replace hb11 : ¬ (s7 < (a0_1.length : Int)) := by simpa [ieq, ilt, ile] using hb11
    rw [if_neg hb11] at hx7o
    refine VW.exit ?_
    cases hx7o
    have hq := hx7b _ rfl
    subst hq
    exact ⟨_, rfl, Fits.of rfl⟩
  replace hb11 : s7 < (a0_1.length : Int) := by simpa [ieq, ilt, ile] using hb11
  rw [if_pos hb11] at hx7o
  refine VW.skip ?_
  refine hK10 _ ?_
  refine VW.sqc fun K12 hK12 hCK12 => ?_
  refine VW.block ?_
  -- region 6
  obtain ⟨v13, hv13, hx7o⟩ := bind_some hx7o
  obtain ⟨hv13a, hv13b, hv13c, hv13d⟩ := idx_some hv13
  obtain ⟨v14, hv14, hx7o⟩ := bind_some hx7o
  refine VW.wds tau_ok (Sound.none.add 29 (s_l01In_ok hv14) rfl) try_mixed [some 21, some 22, some 23, some 24, some 25, some 26, some 27, some 28, some 29, some 30] [(1, .val (.ptr [i64 a0_0, dI a0_1])), (3, .val (i64 s7)), (30, .val (.bool (!v14)))] 10 rfl (by kernel_rfl) (by rfl) ?_ ?_
  · simp [hv13a, hv13b, hv13c, hv13d] <;> simp [ieq, ilt, ile]
  refine VW.cond rfl (fun hb15 => ?_) (fun hb15 => ?_)
  rotate_left
  ·
    replace hb15 : ¬ (v14 = false) := by simpa [ieq, ilt, ile] using hb15
    rw [if_neg hb15] at hx7o
    refine VW.skip ?_
    refine hK12 _ ?_
    -- region 5
    refine VW.wr tau_ok Sound.none [some 19, some 20, some 3] [(1, .val (.ptr [i64 a0_0, dI a0_1])), (3, .val (i64 (w64 (s7 + 1))))] rfl ?_ ?_
    · simp <;> simp [ieq, ilt, ile]
    cases hx7o
    exact ⟨_, rfl, Fits.of rfl⟩
  replace hb15 : v14 = false := by simpa [ieq, ilt, ile] using hb15
  rw [if_pos hb15] at hx7o
  -- region 7
  refine VW.ws tau_ok Sound.none [some 2] [(2, .val (.bool false))] rfl ?_ ?_
  · simp <;> simp [ieq, ilt, ile]
  cases hx7o
  have hq := hx7b _ rfl
  subst hq
  dsimp only at h
  cases h
  refine VW.ret ?_
  simp [Post, PostM, PostC, PostC2, Nx, Bk]

theorem s_l01Mod_ok {a0 : Int} {a1 : Int} {r : Int} (h : s_l01Mod a0 a1 = some r) :
    VCall Try.prog 239 [i64 a0, i64 a1] [.sc (i64 r)] := by
  unfold s_l01Mod at h
  refine VCall.enter Try.call239 Try.func239 rfl 12 Try.ntmps239 (by simp) [.tmp 4] rfl ?_
  show VW _ _ _ (mk [(0, .val (i64 a0)), (1, .val (i64 a1))]) _
  -- region 0
  refine VW.ws tau_ok Sound.none [some 4] [(0, .val (i64 a0)), (1, .val (i64 a1))] rfl ?_ ?_
  · simp <;> simp [ieq, ilt, ile]
  -- region 1
  obtain ⟨hc1, h⟩ := chk_some h
  have hc1s := hc1
  try simp at hc1s
  obtain ⟨hc2, h⟩ := chk_some h
  have hc2s := hc2
  try simp at hc2s
  refine VW.ws tau_ok Sound.none [some 5, some 6, some 7, some 8, some 9, some 10, some 11, some 4] [(4, .val (i64 ((w64 ((a1.tmod a0) + a0)).tmod a0)))] rfl ?_ ?_
  · simp [hc1, hc1s, hc2, hc2s] <;> simp [ieq, ilt, ile]
  cases h
  refine VW.ret ?_
  simp [Post, PostM, PostC, PostC2, Nx, Bk]

theorem s_l11Scale_ok {a0 : Int} {a1 : Int} {a2 : List Int} {r : List Int} (h : s_l11Scale a0 a1 a2 = some r) :
    VCall Try.prog 240 [i64 a0, i64 a1, dI a2] [.own true (dI r)] := by
  unfold s_l11Scale at h
  refine VCall.enter Try.call240 Try.func240 rfl 28 Try.ntmps240 (by simp) [.tmp 6] rfl ?_
  show VW _ _ _ (mk [(0, .val (i64 a0)), (1, .val (i64 a1)), (2, .val (dI a2))]) _
  -- region 0
  refine VW.ws tau_ok Sound.none [some 6] [(0, .val (i64 a0)), (1, .val (i64 a1)), (2, .val (dI a2))] rfl ?_ ?_
  · simp <;> simp [ieq, ilt, ile]
  -- region 1
  refine VW.ws tau_ok Sound.none [some 9, some 7] [(0, .val (i64 a0)), (1, .val (i64 a1)), (2, .val (dI a2)), (7, .ref 7 [] true (dI []))] rfl ?_ ?_
  · simp <;> simp [ieq, ilt, ile]
  refine VW.sqc fun K1 hK1 hCK1 => ?_
  -- region 2
  refine VW.ws tau_ok Sound.none [some 8] [(0, .val (i64 a0)), (1, .val (i64 a1)), (2, .val (dI a2)), (7, .ref 7 [] true (dI [])), (8, .val (i64 0))] rfl ?_ ?_
  · simp <;> simp [ieq, ilt, ile]
  obtain ⟨x2, hx2, h⟩ := bind_some h
  refine VW.tlE [(7, .ref 7 [] true (dI x2))] (hCK1) ?_ ?_
  · clear hx2
    refine hK1 _ ?_
    -- region 6
    refine VW.ws tau_ok Sound.none [some 27, some 6] [(6, .ref 6 [] true (dI x2))] rfl ?_ ?_
    · simp <;> simp [ieq, ilt, ile]
    cases h
    refine VW.ret ?_
    simp [Post, PostM, PostC, PostC2, Nx, Bk]
  refine VW.block ?_
  refine VW.loopF (s_l11Scale_L0 a0 a1 a2) (fun s2 => [(0, .val (i64 a0)), (1, .val (i64 a1)), (2, .val (dI a2)), (7, .ref 7 [] true (dI s2.1)), (8, .val (i64 s2.2))]) hx2 (Fits.of rfl) ?_
  clear hx2
  intro s2 ox2 hx2o hx2b
  unfold s_l11Scale_L0 at hx2o
  refine VW.sqc fun K4 hK4 hCK4 => ?_
  -- region 3
  refine VW.ws tau_ok Sound.none [some 10, some 11, some 12, some 13] [(0, .val (i64 a0)), (1, .val (i64 a1)), (2, .val (dI a2)), (7, .ref 7 [] true (dI s2.1)), (8, .val (i64 s2.2)), (13, .val (.bool (ilt s2.2 (a2.length : Int))))] rfl ?_ ?_
  · simp <;> simp [ieq, ilt, ile]
  refine VW.cond rfl (fun hb5 => ?_) (fun hb5 => ?_)
  rotate_left
  ·
    replace hb5 : ¬ (s2.2 < (a2.length : Int)) := by simpa [ieq, ilt, ile] using hb5
    rw [if_neg hb5] at hx2o
    refine VW.exit ?_
    cases hx2o
    have hq := hx2b _ rfl
    subst hq
    exact Fits.of rfl
  replace hb5 : s2.2 < (a2.length : Int) := by simpa [ieq, ilt, ile] using hb5
  rw [if_pos hb5] at hx2o
  refine VW.skip ?_
  refine hK4 _ ?_
  refine VW.sqc fun K6 hK6 hCK6 => ?_
  refine VW.block ?_
  -- region 5
  obtain ⟨v7, hv7, hx2o⟩ := bind_some hx2o
  obtain ⟨hv7a, hv7b, hv7c, hv7d⟩ := idx_some hv7
  obtain ⟨v8, hv8, hx2o⟩ := bind_some hx2o
  obtain ⟨hc9, hx2o⟩ := chk_some hx2o
  have hc9s := hc9
  try simp at hc9s
  refine VW.wr tau_ok (Sound.none.add 24 (s_l01Mod_ok hv8) rfl) [some 16, some 17, some 18, some 19, some 20, some 21, some 22, some 23, some 24, some 25, some 26, some 7] [(0, .val (i64 a0)), (1, .val (i64 a1)), (2, .val (dI a2)), (7, .ref 7 [] true (dI (s2.1 ++ [v8]))), (8, .val (i64 s2.2))] rfl ?_ ?_
  · simp [hv7a, hv7b, hv7c, hv7d, hc9, hc9s] <;> simp [ieq, ilt, ile]
  refine hK6 _ ?_
  -- region 4
  refine VW.wr tau_ok Sound.none [some 14, some 15, some 8] [(0, .val (i64 a0)), (1, .val (i64 a1)), (2, .val (dI a2)), (7, .ref 7 [] true (dI (s2.1 ++ [v8]))), (8, .val (i64 (w64 (s2.2 + 1))))] rfl ?_ ?_
  · simp <;> simp [ieq, ilt, ile]
  cases hx2o
  exact ⟨_, rfl, Fits.of rfl⟩

theorem s_l11Diagonal_ok {a0_0 : Int} {a0_1 : List Int} {r : List Int} (h : s_l11Diagonal a0_0 a0_1 = some r) :
    VCall Try.prog 181 [.agg [i64 a0_0, dI a0_1]] [.own true (dI r)] := by
  unfold s_l11Diagonal at h
  refine VCall.enter Try.call181 Try.func181 rfl 28 Try.ntmps181 (by simp) [.tmp 2] rfl ?_
  show VW _ _ _ (mk [(0, .val (.agg [i64 a0_0, dI a0_1]))]) _
  -- region 0
  refine VW.ws tau_ok Sound.none [some 1, some 2] [(1, .val (.ptr [i64 a0_0, dI a0_1]))] rfl ?_ ?_
  · simp <;> simp [ieq, ilt, ile]
  -- region 1
  refine VW.ws tau_ok Sound.none [some 5, some 3] [(1, .val (.ptr [i64 a0_0, dI a0_1])), (3, .ref 3 [] true (dI [1]))] rfl ?_ ?_
  · simp <;> simp [ieq, ilt, ile]
  refine VW.sqc fun K1 hK1 hCK1 => ?_
  -- region 2
  refine VW.ws tau_ok Sound.none [some 4] [(1, .val (.ptr [i64 a0_0, dI a0_1])), (3, .ref 3 [] true (dI [1])), (4, .val (i64 0))] rfl ?_ ?_
  · simp <;> simp [ieq, ilt, ile]
  obtain ⟨x2, hx2, h⟩ := bind_some h
  refine VW.tlE [(3, .ref 3 [] true (dI x2))] (hCK1) ?_ ?_
  · clear hx2
    refine hK1 _ ?_
    -- region 6
    refine VW.ws tau_ok Sound.none [some 27, some 2] [(2, .ref 2 [] true (dI x2))] rfl ?_ ?_
    · simp <;> simp [ieq, ilt, ile]
    cases h
    refine VW.ret ?_
    simp [Post, PostM, PostC, PostC2, Nx, Bk]
  refine VW.block ?_
  refine VW.loopF (s_l11Diagonal_L0 a0_0 a0_1) (fun s2 => [(1, .val (.ptr [i64 a0_0, dI a0_1])), (3, .ref 3 [] true (dI s2.1)), (4, .val (i64 s2.2))]) hx2 (Fits.of rfl) ?_
  clear hx2
  intro s2 ox2 hx2o hx2b
  unfold s_l11Diagonal_L0 at hx2o
  refine VW.sqc fun K4 hK4 hCK4 => ?_
  -- region 3
  refine VW.ws tau_ok Sound.none [some 6, some 7, some 8, some 9, some 10] [(1, .val (.ptr [i64 a0_0, dI a0_1])), (3, .ref 3 [] true (dI s2.1)), (4, .val (i64 s2.2)), (10, .val (.bool (ilt s2.2 (a0_1.length : Int))))] rfl ?_ ?_
  · simp <;> simp [ieq, ilt, ile]
  refine VW.cond rfl (fun hb5 => ?_) (fun hb5 => ?_)
  rotate_left
  ·
    replace hb5 : ¬ (s2.2 < (a0_1.length : Int)) := by simpa [ieq, ilt, ile] using hb5
    rw [if_neg hb5] at hx2o
    refine VW.exit ?_
    cases hx2o
    have hq := hx2b _ rfl
    subst hq
    exact Fits.of rfl
  replace hb5 : s2.2 < (a0_1.length : Int) := by simpa [ieq, ilt, ile] using hb5
  rw [if_pos hb5] at hx2o
  refine VW.skip ?_
  refine hK4 _ ?_
  refine VW.sqc fun K6 hK6 hCK6 => ?_
  refine VW.block ?_
  -- region 5
  obtain ⟨v7, hv7, hx2o⟩ := bind_some hx2o
  obtain ⟨hv7a, hv7b, hv7c, hv7d⟩ := idx_some hv7
  obtain ⟨v8, hv8, hx2o⟩ := bind_some hx2o
  obtain ⟨hc9, hx2o⟩ := chk_some hx2o
  have hc9s := hc9
  try simp at hc9s
  refine VW.wdr tau_ok (Sound.none.add 25 (s_l11Scale_ok hv8) rfl) try_mixed [some 13, some 14, some 15, some 16, some 17, some 18, some 19, some 20, some 21, some 22, some 23, some 24, some 25, some 26, some 3] [(1, .val (.ptr [i64 a0_0, dI a0_1])), (3, .ref 3 [] true (dI (s2.1 ++ v8))), (4, .val (i64 s2.2))] 13 rfl (by kernel_rfl) (by rfl) ?_ ?_
  · simp [hv7a, hv7b, hv7c, hv7d, hc9, hc9s] <;> simp [ieq, ilt, ile]
  refine hK6 _ ?_
  -- region 4
  refine VW.wr tau_ok Sound.none [some 11, some 12, some 4] [(1, .val (.ptr [i64 a0_0, dI a0_1])), (3, .ref 3 [] true (dI (s2.1 ++ v8))), (4, .val (i64 (w64 (s2.2 + 1))))] rfl ?_ ?_
  · simp <;> simp [ieq, ilt, ile]
  cases hx2o
  exact ⟨_, rfl, Fits.of rfl⟩
end Go.Vam
