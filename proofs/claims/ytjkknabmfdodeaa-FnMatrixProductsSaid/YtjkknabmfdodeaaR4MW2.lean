import Derived.Test.YtjkknabmfdodeaaR4T
import Derived.Test.YtjkknabmfdodeaaFnH
import Derived.Test.YtjkknabmfdodeaaR4MW1
namespace Go.Vam
open Go Go.RowKit Go.Proofs
set_option maxRecDepth 100000
set_option linter.unusedSimpArgs false
set_option linter.unusedVariables false

theorem i_IsMatrix_ok {a0 : Int} {a1 : List (List Int)} {r : Bool} (h : i_IsMatrix a0 a1 = some r) :
    VCall Try.prog 43 [i64 a0, dM a1] [.sc (.bool r)] := by
  unfold i_IsMatrix at h
  refine VCall.enter Try.call43 Try.func43 rfl 12 Try.ntmps43 (by simp) [.tmp 4] rfl ?_
  show VW _ _ _ (mk [(0, .val (i64 a0)), (1, .val (dM a1))]) _
  -- region 0
  refine VW.ws tau_ok Sound.none [some 4] [(0, .val (i64 a0)), (1, .val (dM a1))] rfl ?_ ?_
  · simp <;> simp [ieq, ilt, ile]
  -- region 1
  obtain ⟨x4, hx4, h⟩ := bind_some h
  refine VW.cut [(4, .val (.bool x4))] ?_ fun hy => ?_
  rotate_left
  · clear h
    obtain ⟨v1, hv1, hx4⟩ := bind_some hx4
    by_cases hp2 : v1 = true
    · rw [if_pos hp2] at hx4
      have hp2b : v1 = true := by simpa [ieq, ilt, ile] using hp2
      have hp2s := hp2b
      try simp at hp2s
      obtain ⟨v3, hv3, hx4⟩ := bind_some hx4
      cases hx4
      refine VW.ws tau_ok ((Sound.none.add 6 (i_IsPrime_ok hv1) rfl).add 10 (i_field_isMatrix_ok hv3) rfl) [some 5, some 6, some 7, some 8, some 9, some 10, some 11, some 4] _ rfl ?_ hy
      simp [hp2b, hp2s] <;> simp [ieq, ilt, ile]
    · rw [if_neg hp2] at hx4
      have hp2b : v1 = false := by simpa [ieq, ilt, ile] using hp2
      have hp2s := hp2b
      try simp at hp2s
      cases hx4
      refine VW.ws tau_ok (Sound.none.add 6 (i_IsPrime_ok hv1) rfl) [some 5, some 6, some 7, some 8, some 9, some 10, some 11, some 4] _ rfl ?_ hy
      simp [hp2b, hp2s] <;> simp [ieq, ilt, ile]
  cases h
  refine VW.ret ?_
  simp [Post, PostM, PostC, PostC2, Nx, Bk]

theorem s_IsMatrix_ok {a0 : Int} {a1 : List (List Int)} {r : Bool} (h : s_IsMatrix a0 a1 = some r) :
    VCall Try.prog 44 [i64 a0, dM a1] [.sc (.bool r)] := by
  unfold s_IsMatrix at h
  refine VCall.enter Try.call44 Try.func44 rfl 8 Try.ntmps44 (by simp) [.tmp 4] rfl ?_
  show VW _ _ _ (mk [(0, .val (i64 a0)), (1, .val (dM a1))]) _
  -- region 0
  refine VW.ws tau_ok Sound.none [some 4] [(0, .val (i64 a0)), (1, .val (dM a1))] rfl ?_ ?_
  · simp <;> simp [ieq, ilt, ile]
  -- region 1
  obtain ⟨v1, hv1, h⟩ := bind_some h
  refine VW.ws tau_ok (Sound.none.add 7 (s_l02Is_ok hv1) rfl) [some 5, some 6, some 7, some 4] [(4, .val (.bool v1))] rfl ?_ ?_
  · simp <;> simp [ieq, ilt, ile]
  cases h
  refine VW.ret ?_
  simp [Post, PostM, PostC, PostC2, Nx, Bk]

theorem l_roll_ok {a0 : List Int} {a1 : Int} {r : (List Int) × Int × Int} (h : l_roll a0 a1 = some r) :
    VCall Try.prog 45 [.list (a0.map (D.int .u8)), .int .u64 a1] [.own false (.ptr [.list (r.1.map (D.int .u8)), i64 r.2.1, .int .u64 r.2.2])] := by
  unfold l_roll at h
  refine VCall.enter Try.call45 Try.func45 rfl 38 Try.ntmps45 (by simp) [.tmp 4] rfl ?_
  show VW _ _ _ (mk [(0, .val (.list (a0.map (D.int .u8)))), (1, .val (.int .u64 a1))]) _
  -- region 0
  refine VW.ws tau_ok Sound.none [some 4] [(0, .val (.list (a0.map (D.int .u8)))), (1, .val (.int .u64 a1))] rfl ?_ ?_
  · simp <;> simp [ieq, ilt, ile]
  -- region 1
  refine VW.ws tau_ok Sound.none [some 7, some 8, some 9, some 10, some 11, some 12, some 13, some 14, some 15, some 5] [(0, .val (.list (a0.map (D.int .u8)))), (5, .ref 5 [] false (.ptr [.list (a0.map (D.int .u8)), i64 0, .int .u64 (IntKind.u64.wrap ((IntKind.u64.wrap (a1 * 7681)) + (IntKind.u64.wrap ((a0.length : Int)))))]))] rfl ?_ ?_
  · simp <;> simp [ieq, ilt, ile]
  refine VW.sqc fun K1 hK1 hCK1 => ?_
  -- region 2
  refine VW.ws tau_ok Sound.none [some 6] [(0, .val (.list (a0.map (D.int .u8)))), (5, .ref 5 [] false (.ptr [.list (a0.map (D.int .u8)), i64 0, .int .u64 (IntKind.u64.wrap ((IntKind.u64.wrap (a1 * 7681)) + (IntKind.u64.wrap ((a0.length : Int)))))])), (6, .val (i64 0))] rfl ?_ ?_
  · simp <;> simp [ieq, ilt, ile]
  obtain ⟨x2, hx2, h⟩ := bind_some h
  refine VW.tlE [(5, .ref 5 [] false (.ptr [.list (x2.1.map (D.int .u8)), i64 x2.2.1, .int .u64 x2.2.2]))] (hCK1) ?_ ?_
  · clear hx2
    refine hK1 _ ?_
    -- region 6
    refine VW.ws tau_ok Sound.none [some 37, some 4] [(4, .ref 4 [] false (.ptr [.list (x2.1.map (D.int .u8)), i64 x2.2.1, .int .u64 x2.2.2]))] rfl ?_ ?_
    · simp <;> simp [ieq, ilt, ile]
    cases h
    refine VW.ret ?_
    simp [Post, PostM, PostC, PostC2, Nx, Bk]
  refine VW.block ?_
  refine VW.loopF (l_roll_L0 a0) (fun s2 => [(0, .val (.list (a0.map (D.int .u8)))), (5, .ref 5 [] false (.ptr [.list (s2.1.map (D.int .u8)), i64 s2.2.1, .int .u64 s2.2.2.1])), (6, .val (i64 s2.2.2.2))]) hx2 (Fits.of rfl) ?_
  clear hx2
  intro s2 ox2 hx2o hx2b
  unfold l_roll_L0 at hx2o
  refine VW.sqc fun K4 hK4 hCK4 => ?_
  -- region 3
  refine VW.ws tau_ok Sound.none [some 16, some 17, some 18, some 19] [(0, .val (.list (a0.map (D.int .u8)))), (5, .ref 5 [] false (.ptr [.list (s2.1.map (D.int .u8)), i64 s2.2.1, .int .u64 s2.2.2.1])), (6, .val (i64 s2.2.2.2)), (19, .val (.bool (ilt s2.2.2.2 (a0.length : Int))))] rfl ?_ ?_
  · simp <;> simp [ieq, ilt, ile]
  refine VW.cond rfl (fun hb5 => ?_) (fun hb5 => ?_)
  rotate_left
  ·
    replace hb5 : ¬ (s2.2.2.2 < (a0.length : Int)) := by simpa [ieq, ilt, ile] using hb5
    rw [if_neg hb5] at hx2o
    refine VW.exit ?_
    cases hx2o
    have hq := hx2b _ rfl
    subst hq
    exact Fits.of rfl
  replace hb5 : s2.2.2.2 < (a0.length : Int) := by simpa [ieq, ilt, ile] using hb5
  rw [if_pos hb5] at hx2o
  refine VW.skip ?_
  refine hK4 _ ?_
  refine VW.sqc fun K6 hK6 hCK6 => ?_
  refine VW.block ?_
  -- region 5
  obtain ⟨v7, hv7, hx2o⟩ := bind_some hx2o
  obtain ⟨hv7a, hv7b, hv7c, hv7d⟩ := idx_some hv7
  refine VW.wdr tau_ok Sound.none try_mixed [some 22, some 23, some 24, some 25, some 26, some 27, some 28, some 29, some 30, some 31, some 32, some 33, some 34, some 35, some 36, none] [(0, .val (.list (a0.map (D.int .u8)))), (5, .ref 5 [] false (.ptr [.list (s2.1.map (D.int .u8)), i64 s2.2.1, .int .u64 (IntKind.u64.wrap ((IntKind.u64.wrap ((IntKind.u64.wrap (s2.2.2.1 * 1099511628211)) + (IntKind.u64.wrap (v7)))) + 5))])), (6, .val (i64 s2.2.2.2))] 15 rfl (by kernel_rfl) (by rfl) ?_ ?_
  · simp [hv7a, hv7b, hv7c, hv7d] <;> simp [ieq, ilt, ile]
  refine hK6 _ ?_
  -- region 4
  refine VW.wr tau_ok Sound.none [some 20, some 21, some 6] [(0, .val (.list (a0.map (D.int .u8)))), (5, .ref 5 [] false (.ptr [.list (s2.1.map (D.int .u8)), i64 s2.2.1, .int .u64 (IntKind.u64.wrap ((IntKind.u64.wrap ((IntKind.u64.wrap (s2.2.2.1 * 1099511628211)) + (IntKind.u64.wrap (v7)))) + 5))])), (6, .val (i64 (w64 (s2.2.2.2 + 1))))] rfl ?_ ?_
  · simp <;> simp [ieq, ilt, ile]
  cases hx2o
  exact ⟨_, rfl, Fits.of rfl⟩

theorem g_p_laws_dice_below_ok {a0_0 : List Int} {a0_1 : Int} {a0_2 : Int} {a1 : Int} {r : Int × ((List Int) × Int × Int)} (h : g_p_laws_dice_below a0_0 a0_1 a0_2 a1 = some r) :
    VPtr Try.prog 47 [.list (a0_0.map (D.int .u8)), i64 a0_1, .int .u64 a0_2] [i64 a1] [.sc (i64 r.1)] [.list (r.2.1.map (D.int .u8)), i64 r.2.2.1, .int .u64 r.2.2.2] := by
  unfold g_p_laws_dice_below at h
  refine VPtr.enter Try.call47 Try.func47 rfl 58 Try.ntmps47 (by simp) [.tmp 4] rfl ?_
  show VW _ _ _ (mk [(0, .ref 0 [] false (.ptr [.list (a0_0.map (D.int .u8)), i64 a0_1, .int .u64 a0_2])), (1, .val (i64 a1))]) _
  -- region 0
  refine VW.ws tau_ok Sound.none [some 4] [(0, .ref 0 [] false (.ptr [.list (a0_0.map (D.int .u8)), i64 a0_1, .int .u64 a0_2])), (1, .val (i64 a1))] rfl ?_ ?_
  · simp <;> simp [ieq, ilt, ile]
  refine VW.sqc fun K1 hK1 hCK1 => ?_
  -- region 1
  refine VW.ws tau_ok Sound.none [some 6, some 7] [(0, .ref 0 [] false (.ptr [.list (a0_0.map (D.int .u8)), i64 a0_1, .int .u64 a0_2])), (1, .val (i64 a1)), (7, .val (.bool (ilt a1 1)))] rfl ?_ ?_
  · simp <;> simp [ieq, ilt, ile]
  refine VW.cond rfl (fun hb2 => ?_) (fun hb2 => ?_)
  ·
    replace hb2 : a1 < 1 := by simpa [ieq, ilt, ile] using hb2
    rw [if_pos hb2] at h
    -- region 2
    refine VW.ws tau_ok Sound.none [some 4] [(0, .ref 0 [] false (.ptr [.list (a0_0.map (D.int .u8)), i64 a0_1, .int .u64 a0_2])), (4, .val (i64 0))] rfl ?_ ?_
    · simp <;> simp [ieq, ilt, ile]
    cases h
    refine VW.ret ?_
    simp [PostW, resW, Nx, Bk]
  replace hb2 : ¬ (a1 < 1) := by simpa [ieq, ilt, ile] using hb2
  rw [if_neg hb2] at h
  refine VW.skip ?_
  refine hK1 _ ?_
  -- region 3
  refine VW.ws tau_ok Sound.none [some 8, some 9, some 10, some 11, some 12, some 13, some 14, some 15, some 16, none] [(0, .ref 0 [] false (.ptr [.list (a0_0.map (D.int .u8)), i64 a0_1, .int .u64 (IntKind.u64.wrap ((IntKind.u64.wrap (a0_2 * 6364136223846793005)) + 1442695040888963407))])), (1, .val (i64 a1))] rfl ?_ ?_
  · simp <;> simp [ieq, ilt, ile]
  -- region 4
  refine VW.ws tau_ok Sound.none [some 17, some 18, some 19, some 20, some 21, some 22, some 23, some 5] [(0, .ref 0 [] false (.ptr [.list (a0_0.map (D.int .u8)), i64 a0_1, .int .u64 (IntKind.u64.wrap ((IntKind.u64.wrap (a0_2 * 6364136223846793005)) + 1442695040888963407))])), (1, .val (i64 a1)), (5, .val (i64 (w64 (band .u64 (shr .u64 (IntKind.u64.wrap ((IntKind.u64.wrap (a0_2 * 6364136223846793005)) + 1442695040888963407)) 33) 16777215))))] rfl ?_ ?_
  · simp <;> simp [ieq, ilt, ile]
  refine VW.sqc fun K3 hK3 hCK3 => ?_
  -- region 5
  refine VW.wds tau_ok Sound.none try_mixed [some 24, some 25, some 26, some 27, some 28, some 29, some 30, some 31, some 32, some 33] [(0, .ref 0 [] false (.ptr [.list (a0_0.map (D.int .u8)), i64 a0_1, .int .u64 (IntKind.u64.wrap ((IntKind.u64.wrap (a0_2 * 6364136223846793005)) + 1442695040888963407))])), (1, .val (i64 a1)), (5, .val (i64 (w64 (band .u64 (shr .u64 (IntKind.u64.wrap ((IntKind.u64.wrap (a0_2 * 6364136223846793005)) + 1442695040888963407)) 33) 16777215)))), (33, .val (.bool (ilt a0_1 (a0_0.length : Int))))] 10 rfl (by kernel_rfl) (by rfl) ?_ ?_
  · simp <;> simp [ieq, ilt, ile]
  obtain ⟨x4, hx4, h⟩ := bind_some h
  refine VW.tlE [(0, .ref 0 [] false (.ptr [.list (x4.1.map (D.int .u8)), i64 x4.2.1, .int .u64 x4.2.2.1])), (1, .val (i64 a1)), (5, .val (i64 x4.2.2.2))] (hCK3) ?_ ?_
  · clear hx4
    refine hK3 _ ?_
    -- region 8
    obtain ⟨hc8, h⟩ := chk_some h
    have hc8s := hc8
    try simp at hc8s
    refine VW.ws tau_ok Sound.none [some 55, some 56, some 57, some 4] [(0, .ref 0 [] false (.ptr [.list (x4.1.map (D.int .u8)), i64 x4.2.1, .int .u64 x4.2.2.1])), (4, .val (i64 (x4.2.2.2.tmod a1)))] rfl ?_ ?_
    · simp [hc8, hc8s] <;> simp [ieq, ilt, ile]
    cases h
    refine VW.ret ?_
    simp [PostW, resW, Nx, Bk]
  refine VW.cond rfl (fun hb6 => ?_) (fun hb6 => ?_)
  rotate_left
  ·
    replace hb6 : ¬ (a0_1 < (a0_0.length : Int)) := by simpa [ieq, ilt, ile] using hb6
    rw [if_neg hb6] at hx4
    refine VW.skip ?_
    cases hx4
    exact Fits.of rfl
  replace hb6 : a0_1 < (a0_0.length : Int) := by simpa [ieq, ilt, ile] using hb6
  rw [if_pos hb6] at hx4
  -- region 6
  obtain ⟨v7, hv7, hx4⟩ := bind_some hx4
  obtain ⟨hv7a, hv7b, hv7c, hv7d⟩ := idx_some hv7
  refine VW.wds tau_ok Sound.none try_mixed [some 34, some 35, some 36, some 37, some 38, some 39, some 40, some 41, some 42, some 43, some 44, some 45, some 46, some 5] [(0, .ref 0 [] false (.ptr [.list (a0_0.map (D.int .u8)), i64 a0_1, .int .u64 (IntKind.u64.wrap ((IntKind.u64.wrap (a0_2 * 6364136223846793005)) + 1442695040888963407))])), (1, .val (i64 a1)), (5, .val (i64 (w64 ((w64 (band .u64 (shr .u64 (IntKind.u64.wrap ((IntKind.u64.wrap (a0_2 * 6364136223846793005)) + 1442695040888963407)) 33) 16777215)) + (w64 (v7))))))] 14 rfl (by kernel_rfl) (by rfl) ?_ ?_
  · simp [hv7a, hv7b, hv7c, hv7d] <;> simp [ieq, ilt, ile]
  -- region 7
  refine VW.wr tau_ok Sound.none [some 47, some 48, some 49, some 50, some 51, some 52, some 53, some 54, none] [(0, .ref 0 [] false (.ptr [.list (a0_0.map (D.int .u8)), i64 (w64 (a0_1 + 1)), .int .u64 (IntKind.u64.wrap ((IntKind.u64.wrap (a0_2 * 6364136223846793005)) + 1442695040888963407))])), (1, .val (i64 a1)), (5, .val (i64 (w64 ((w64 (band .u64 (shr .u64 (IntKind.u64.wrap ((IntKind.u64.wrap (a0_2 * 6364136223846793005)) + 1442695040888963407)) 33) 16777215)) + (w64 (v7))))))] rfl ?_ ?_
  · simp <;> simp [ieq, ilt, ile]
  cases hx4
  exact Fits.of rfl

theorem l_list5_ok {a0_0 : List Int} {a0_1 : Int} {a0_2 : Int} {a1 : Int} {a2 : Int} {r : (List Int) × ((List Int) × Int × Int)} (h : l_list5 a0_0 a0_1 a0_2 a1 a2 = some r) :
    VPtr Try.prog 122 [.list (a0_0.map (D.int .u8)), i64 a0_1, .int .u64 a0_2] [i64 a1, i64 a2] [.own true (dI r.1)] [.list (r.2.1.map (D.int .u8)), i64 r.2.2.1, .int .u64 r.2.2.2] := by
  unfold l_list5 at h
  refine VPtr.enter Try.call122 Try.func122 rfl 20 Try.ntmps122 (by simp) [.tmp 6] rfl ?_
  show VW _ _ _ (mk [(0, .ref 0 [] false (.ptr [.list (a0_0.map (D.int .u8)), i64 a0_1, .int .u64 a0_2])), (1, .val (i64 a1)), (2, .val (i64 a2))]) _
  -- region 0
  refine VW.ws tau_ok Sound.none [some 6] [(0, .ref 0 [] false (.ptr [.list (a0_0.map (D.int .u8)), i64 a0_1, .int .u64 a0_2])), (1, .val (i64 a1)), (2, .val (i64 a2))] rfl ?_ ?_
  · simp <;> simp [ieq, ilt, ile]
  -- region 1
  refine VW.ws tau_ok Sound.none [some 8, some 7] [(0, .ref 0 [] false (.ptr [.list (a0_0.map (D.int .u8)), i64 a0_1, .int .u64 a0_2])), (1, .val (i64 a1)), (2, .val (i64 a2)), (7, .ref 7 [] true (dI []))] rfl ?_ ?_
  · simp <;> simp [ieq, ilt, ile]
  refine VW.sqc fun K1 hK1 hCK1 => ?_
  obtain ⟨x2, hx2, h⟩ := bind_some h
  refine VW.tlE [(0, .ref 0 [] false (.ptr [.list (x2.1.map (D.int .u8)), i64 x2.2.1, .int .u64 x2.2.2.1])), (7, .ref 7 [] true (dI x2.2.2.2))] (hCK1) ?_ ?_
  · clear hx2
    refine hK1 _ ?_
    -- region 5
    refine VW.ws tau_ok Sound.none [some 19, some 6] [(0, .ref 0 [] false (.ptr [.list (x2.1.map (D.int .u8)), i64 x2.2.1, .int .u64 x2.2.2.1])), (6, .ref 6 [] true (dI x2.2.2.2))] rfl ?_ ?_
    · simp <;> simp [ieq, ilt, ile]
    cases h
    refine VW.ret ?_
    simp [PostW, resW, Nx, Bk]
  refine VW.block ?_
  refine VW.loopF (l_list5_L0 a2) (fun s2 => [(0, .ref 0 [] false (.ptr [.list (s2.1.map (D.int .u8)), i64 s2.2.1, .int .u64 s2.2.2.1])), (1, .val (i64 s2.2.2.2.1)), (2, .val (i64 a2)), (7, .ref 7 [] true (dI s2.2.2.2.2))]) hx2 (Fits.of rfl) ?_
  clear hx2
  intro s2 ox2 hx2o hx2b
  unfold l_list5_L0 at hx2o
  refine VW.sqc fun K4 hK4 hCK4 => ?_
  -- region 2
  refine VW.ws tau_ok Sound.none [some 9, some 10] [(0, .ref 0 [] false (.ptr [.list (s2.1.map (D.int .u8)), i64 s2.2.1, .int .u64 s2.2.2.1])), (1, .val (i64 s2.2.2.2.1)), (2, .val (i64 a2)), (7, .ref 7 [] true (dI s2.2.2.2.2)), (10, .val (.bool (ilt 0 s2.2.2.2.1)))] rfl ?_ ?_
  · simp <;> simp [ieq, ilt, ile]
  refine VW.cond rfl (fun hb5 => ?_) (fun hb5 => ?_)
  rotate_left
  ·
    replace hb5 : ¬ (0 < s2.2.2.2.1) := by simpa [ieq, ilt, ile] using hb5
    rw [if_neg hb5] at hx2o
    refine VW.exit ?_
    cases hx2o
    have hq := hx2b _ rfl
    subst hq
    exact Fits.of rfl
  replace hb5 : 0 < s2.2.2.2.1 := by simpa [ieq, ilt, ile] using hb5
  rw [if_pos hb5] at hx2o
  refine VW.skip ?_
  refine hK4 _ ?_
  refine VW.sqc fun K6 hK6 hCK6 => ?_
  refine VW.block ?_
  -- region 4
  obtain ⟨v7, hv7, hx2o⟩ := bind_some hx2o
  obtain ⟨hc8, hx2o⟩ := chk_some hx2o
  have hc8s := hc8
  try simp at hc8s
  refine VW.wr tau_ok (Sound.none.ptrc 16 (g_p_laws_dice_below_ok hv7)) [some 13, some 14, some 15, some 16, some 17, some 18, some 7] [(0, .ref 0 [] false (.ptr [.list (v7.2.1.map (D.int .u8)), i64 v7.2.2.1, .int .u64 v7.2.2.2])), (1, .val (i64 s2.2.2.2.1)), (2, .val (i64 a2)), (7, .ref 7 [] true (dI (s2.2.2.2.2 ++ [v7.1])))] rfl ?_ ?_
  · simp [hc8, hc8s] <;> simp [ieq, ilt, ile]
  refine hK6 _ ?_
  -- region 3
  refine VW.wr tau_ok Sound.none [some 11, some 12, some 1] [(0, .ref 0 [] false (.ptr [.list (v7.2.1.map (D.int .u8)), i64 v7.2.2.1, .int .u64 v7.2.2.2])), (1, .val (i64 (w64 (s2.2.2.2.1 - 1)))), (2, .val (i64 a2)), (7, .ref 7 [] true (dI (s2.2.2.2.2 ++ [v7.1])))] rfl ?_ ?_
  · simp <;> simp [ieq, ilt, ile]
  cases hx2o
  exact ⟨_, rfl, Fits.of rfl⟩

theorem l_matrix5_ok {a0_0 : List Int} {a0_1 : Int} {a0_2 : Int} {a1 : Int} {a2 : Int} {a3 : Int} {r : (List (List Int)) × ((List Int) × Int × Int)} (h : l_matrix5 a0_0 a0_1 a0_2 a1 a2 a3 = some r) :
    VPtr Try.prog 46 [.list (a0_0.map (D.int .u8)), i64 a0_1, .int .u64 a0_2] [i64 a1, i64 a2, i64 a3] [.own true (dM r.1)] [.list (r.2.1.map (D.int .u8)), i64 r.2.2.1, .int .u64 r.2.2.2] := by
  unfold l_matrix5 at h
  refine VPtr.enter Try.call46 Try.func46 rfl 23 Try.ntmps46 (by simp) [.tmp 8] rfl ?_
  show VW _ _ _ (mk [(0, .ref 0 [] false (.ptr [.list (a0_0.map (D.int .u8)), i64 a0_1, .int .u64 a0_2])), (1, .val (i64 a1)), (2, .val (i64 a2)), (3, .val (i64 a3))]) _
  -- region 0
  refine VW.ws tau_ok Sound.none [some 8] [(0, .ref 0 [] false (.ptr [.list (a0_0.map (D.int .u8)), i64 a0_1, .int .u64 a0_2])), (1, .val (i64 a1)), (2, .val (i64 a2)), (3, .val (i64 a3))] rfl ?_ ?_
  · simp <;> simp [ieq, ilt, ile]
  -- region 1
  refine VW.ws tau_ok Sound.none [some 10, some 9] [(0, .ref 0 [] false (.ptr [.list (a0_0.map (D.int .u8)), i64 a0_1, .int .u64 a0_2])), (1, .val (i64 a1)), (2, .val (i64 a2)), (3, .val (i64 a3)), (9, .ref 9 [] true (dM []))] rfl ?_ ?_
  · simp <;> simp [ieq, ilt, ile]
  refine VW.sqc fun K1 hK1 hCK1 => ?_
  obtain ⟨x2, hx2, h⟩ := bind_some h
  refine VW.tlE [(0, .ref 0 [] false (.ptr [.list (x2.1.map (D.int .u8)), i64 x2.2.1, .int .u64 x2.2.2.1])), (9, .ref 9 [] true (dM x2.2.2.2))] (hCK1) ?_ ?_
  · clear hx2
    refine hK1 _ ?_
    -- region 5
    refine VW.ws tau_ok Sound.none [some 22, some 8] [(0, .ref 0 [] false (.ptr [.list (x2.1.map (D.int .u8)), i64 x2.2.1, .int .u64 x2.2.2.1])), (8, .ref 8 [] true (dM x2.2.2.2))] rfl ?_ ?_
    · simp <;> simp [ieq, ilt, ile]
    cases h
    refine VW.ret ?_
    simp [PostW, resW, Nx, Bk]
  refine VW.block ?_
  refine VW.loopF (l_matrix5_L0 a2 a3) (fun s2 => [(0, .ref 0 [] false (.ptr [.list (s2.1.map (D.int .u8)), i64 s2.2.1, .int .u64 s2.2.2.1])), (1, .val (i64 s2.2.2.2.1)), (2, .val (i64 a2)), (3, .val (i64 a3)), (9, .ref 9 [] true (dM s2.2.2.2.2))]) hx2 (Fits.of rfl) ?_
  clear hx2
  intro s2 ox2 hx2o hx2b
  unfold l_matrix5_L0 at hx2o
  refine VW.sqc fun K4 hK4 hCK4 => ?_
  -- region 2
  refine VW.ws tau_ok Sound.none [some 11, some 12] [(0, .ref 0 [] false (.ptr [.list (s2.1.map (D.int .u8)), i64 s2.2.1, .int .u64 s2.2.2.1])), (1, .val (i64 s2.2.2.2.1)), (2, .val (i64 a2)), (3, .val (i64 a3)), (9, .ref 9 [] true (dM s2.2.2.2.2)), (12, .val (.bool (ilt 0 s2.2.2.2.1)))] rfl ?_ ?_
  · simp <;> simp [ieq, ilt, ile]
  refine VW.cond rfl (fun hb5 => ?_) (fun hb5 => ?_)
  rotate_left
  ·
    replace hb5 : ¬ (0 < s2.2.2.2.1) := by simpa [ieq, ilt, ile] using hb5
    rw [if_neg hb5] at hx2o
    refine VW.exit ?_
    cases hx2o
    have hq := hx2b _ rfl
    subst hq
    exact Fits.of rfl
  replace hb5 : 0 < s2.2.2.2.1 := by simpa [ieq, ilt, ile] using hb5
  rw [if_pos hb5] at hx2o
  refine VW.skip ?_
  refine hK4 _ ?_
  refine VW.sqc fun K6 hK6 hCK6 => ?_
  refine VW.block ?_
  -- region 4
  obtain ⟨v7, hv7, hx2o⟩ := bind_some hx2o
  obtain ⟨hc8, hx2o⟩ := chk_some hx2o
  have hc8s := hc8
  try simp at hc8s
  refine VW.wr tau_ok (Sound.none.ptrc 19 (l_list5_ok hv7)) [some 15, some 16, some 17, some 18, some 19, some 20, some 21, some 9] [(0, .ref 0 [] false (.ptr [.list (v7.2.1.map (D.int .u8)), i64 v7.2.2.1, .int .u64 v7.2.2.2])), (1, .val (i64 s2.2.2.2.1)), (2, .val (i64 a2)), (3, .val (i64 a3)), (9, .ref 9 [] true (dM (s2.2.2.2.2 ++ [v7.1])))] rfl ?_ ?_
  · simp [hc8, hc8s] <;> simp [ieq, ilt, ile]
  refine hK6 _ ?_
  -- region 3
  refine VW.wr tau_ok Sound.none [some 13, some 14, some 1] [(0, .ref 0 [] false (.ptr [.list (v7.2.1.map (D.int .u8)), i64 v7.2.2.1, .int .u64 v7.2.2.2])), (1, .val (i64 (w64 (s2.2.2.2.1 - 1)))), (2, .val (i64 a2)), (3, .val (i64 a3)), (9, .ref 9 [] true (dM (s2.2.2.2.2 ++ [v7.1])))] rfl ?_ ?_
  · simp <;> simp [ieq, ilt, ile]
  cases hx2o
  exact ⟨_, rfl, Fits.of rfl⟩

theorem i_TransposeMatrix_ok {a0 : Int} {a1 : List (List Int)} {r : (List (List Int)) × Int} (h : i_TransposeMatrix a0 a1 = some r) :
    VCall Try.prog 48 [i64 a0, dM a1] [.own true (dM r.1), .sc (i64 r.2)] := by
  unfold i_TransposeMatrix at h
  refine VCall.enter Try.call48 Try.func48 rfl 16 Try.ntmps48 (by simp) [.tmp 4, .tmp 5] rfl ?_
  show VW _ _ _ (mk [(0, .val (i64 a0)), (1, .val (dM a1))]) _
  -- region 0
  refine VW.ws tau_ok Sound.none [some 4, some 5] [(0, .val (i64 a0)), (1, .val (dM a1))] rfl ?_ ?_
  · simp <;> simp [ieq, ilt, ile]
  refine VW.sqc fun K1 hK1 hCK1 => ?_
  -- region 1
  obtain ⟨v2, hv2, h⟩ := bind_some h
  refine VW.ws tau_ok (Sound.none.add 10 (i_checkMatrices_ok hv2) rfl) [some 7, some 8, some 9, some 10, some 6] [(1, .val (dM a1)), (6, .val (i64 v2))] rfl ?_ ?_
  · simp <;> simp [ieq, ilt, ile]
  -- region 2
  refine VW.ws tau_ok Sound.none [some 11, some 12] [(1, .val (dM a1)), (6, .val (i64 v2)), (12, .val (.bool (!(ieq v2 0))))] rfl ?_ ?_
  · simp <;> simp [ieq, ilt, ile]
  refine VW.cond rfl (fun hb3 => ?_) (fun hb3 => ?_)
  ·
    replace hb3 : ¬ v2 = 0 := by simpa [ieq, ilt, ile] using hb3
    rw [if_pos hb3] at h
    -- region 3
    refine VW.ws tau_ok Sound.none [some 13, some 4, some 5] [(4, .ref 4 [] true (.list [])), (5, .val (i64 v2))] rfl ?_ ?_
    · simp <;> simp [ieq, ilt, ile]
    cases h
    refine VW.ret ?_
    simp [Post, PostM, PostC, PostC2, Nx, Bk]
  replace hb3 : ¬ (¬ v2 = 0) := by simpa [ieq, ilt, ile] using hb3
  rw [if_neg hb3] at h
  refine VW.skip ?_
  refine hK1 _ ?_
  -- region 4
  obtain ⟨v4, hv4, h⟩ := bind_some h
  refine VW.ws tau_ok (Sound.none.add 15 (i_transpose_ok hv4) rfl) [some 14, some 15, some 4, some 5] [(4, .ref 4 [] true (dM v4)), (5, .val (i64 0))] rfl ?_ ?_
  · simp <;> simp [ieq, ilt, ile]
  cases h
  refine VW.ret ?_
  simp [Post, PostM, PostC, PostC2, Nx, Bk]

theorem g_slices_Clone_LI_I_ok {a0 r : List Int} (h : g_slices_Clone_LI_I a0 = some r) :
    VCall Try.prog 206 [dI a0] [.own true (dI r)] := by
  unfold g_slices_Clone_LI_I at h
  obtain ⟨hc, h⟩ := chk_some h
  cases h
  refine VCall.enter Try.call206 Try.func206 rfl 8 Try.ntmps206 (by simp) [.tmp 2] rfl ?_
  show VW _ _ _ (mk [(0, .val (dI a0))]) _
  refine VW.ws tau_ok Sound.none [some 2] [(0, .val (dI a0))] rfl ?_ ?_
  · simp
  refine VW.sqc fun K hK hCK => ?_
  refine VW.nilcmp tau_ok (T := 22) (e := 2) rfl rfl rfl rfl rfl (by simp) rfl rfl rfl (by simp) fun b hb => ?_
  refine VW.cond rfl (fun h1 => ?_) (fun h1 => ?_)
  · have e := hb h1
    simp at e
    subst e
    refine VW.ws tau_ok Sound.none [some 2] [(2, .ref 2 [] true (.list []))] rfl ?_ ?_
    · simp
    refine VW.ret ?_
    simp [Post, Nx]
  · refine VW.skip ?_
    refine hK _ ?_
    refine VW.ws tau_ok Sound.none [some 5, some 6, some 7, some 2] [(2, .ref 2 [] true (dI a0))] rfl ?_ ?_
    · simp [hc]
    refine VW.ret ?_
    simp [Post, Nx]

theorem i_cloneRows_ok {a0 : List (List Int)} {r : List (List Int)} (h : i_cloneRows a0 = some r) :
    VCall Try.prog 177 [dM a0] [.own true (dM r)] := by
  unfold i_cloneRows at h
  refine VCall.enter Try.call177 Try.func177 rfl 20 Try.ntmps177 (by simp) [.tmp 2] rfl ?_
  show VW _ _ _ (mk [(0, .val (dM a0))]) _
  -- region 0
  refine VW.ws tau_ok Sound.none [some 2] [(0, .val (dM a0))] rfl ?_ ?_
  · simp <;> simp [ieq, ilt, ile]
  -- region 1
  refine VW.ws tau_ok Sound.none [some 6, some 3] [(0, .val (dM a0)), (3, .ref 3 [] true (dM []))] rfl ?_ ?_
  · simp <;> simp [ieq, ilt, ile]
  refine VW.sqc fun K1 hK1 hCK1 => ?_
  -- region 2
  refine VW.ws tau_ok Sound.none [some 7, some 8, some 9] [(3, .ref 3 [] true (dM [])), (7, .val (dM a0)), (8, .val (i64 (a0.length : Int))), (9, .val (i64 0))] rfl ?_ ?_
  · simp <;> simp [ieq, ilt, ile]
  obtain ⟨x2, hx2, h⟩ := bind_some h
  refine VW.tlE [(3, .ref 3 [] true (dM x2))] (hCK1) ?_ ?_
  · clear hx2
    refine hK1 _ ?_
    -- region 7
    refine VW.ws tau_ok Sound.none [some 19, some 2] [(2, .ref 2 [] true (dM x2))] rfl ?_ ?_
    · simp <;> simp [ieq, ilt, ile]
    cases h
    refine VW.ret ?_
    simp [Post, PostM, PostC, PostC2, Nx, Bk]
  refine VW.block ?_
  refine VW.loopF (i_cloneRows_L0 a0) (fun s2 => [(3, .ref 3 [] true (dM s2.1)), (7, .val (dM a0)), (8, .val (i64 (a0.length : Int))), (9, .val (i64 s2.2))]) hx2 (Fits.of rfl) ?_
  clear hx2
  intro s2 ox2 hx2o hx2b
  unfold i_cloneRows_L0 at hx2o
  -- region 3
  refine VW.ws tau_ok Sound.none [some 10] [(3, .ref 3 [] true (dM s2.1)), (7, .val (dM a0)), (8, .val (i64 (a0.length : Int))), (9, .val (i64 s2.2)), (10, .val (.bool (ilt s2.2 (a0.length : Int))))] rfl ?_ ?_
  · simp <;> simp [ieq, ilt, ile]
  refine VW.sqc fun K4 hK4 hCK4 => ?_
  refine VW.cond rfl (fun hb5 => ?_) (fun hb5 => ?_)
  rotate_left
  ·
    replace hb5 : ¬ (s2.2 < (a0.length : Int)) := by simpa [ieq, ilt, ile] using hb5
    rw [if_neg hb5] at hx2o
    refine VW.exit ?_
    cases hx2o
    have hq := hx2b _ rfl
    subst hq
    exact Fits.of rfl
  replace hb5 : s2.2 < (a0.length : Int) := by simpa [ieq, ilt, ile] using hb5
  rw [if_pos hb5] at hx2o
  refine VW.skip ?_
  refine hK4 _ ?_
  refine VW.sqc fun K6 hK6 hCK6 => ?_
  refine VW.block ?_
  -- region 4
  obtain ⟨v7, hv7, hx2o⟩ := bind_some hx2o
  obtain ⟨hv7a, hv7b, hv7c, hv7d⟩ := idx_some hv7
  refine VW.ws tau_ok Sound.none [some 11, some 12, some 5] [(3, .ref 3 [] true (dM s2.1)), (5, .val (dI v7)), (7, .val (dM a0)), (8, .val (i64 (a0.length : Int))), (9, .val (i64 s2.2))] rfl ?_ ?_
  · simp [hv7a, hv7b, hv7c, hv7d] <;> simp [ieq, ilt, ile]
  -- region 5
  obtain ⟨v8, hv8, hx2o⟩ := bind_some hx2o
  obtain ⟨hc9, hx2o⟩ := chk_some hx2o
  have hc9s := hc9
  try simp at hc9s
  refine VW.wr tau_ok (Sound.none.add 15 (g_slices_Clone_LI_I_ok hv8) rfl) [some 13, some 14, some 15, some 16, some 17, some 3] [(3, .ref 3 [] true (dM (s2.1 ++ [v8]))), (7, .val (dM a0)), (8, .val (i64 (a0.length : Int))), (9, .val (i64 s2.2))] rfl ?_ ?_
  · simp [hc9, hc9s] <;> simp [ieq, ilt, ile]
  refine hK6 _ ?_
  -- region 6
  refine VW.wr tau_ok Sound.none [some 18, some 9] [(3, .ref 3 [] true (dM (s2.1 ++ [v8]))), (7, .val (dM a0)), (8, .val (i64 (a0.length : Int))), (9, .val (i64 (w64 (s2.2 + 1))))] rfl ?_ ?_
  · simp <;> simp [ieq, ilt, ile]
  cases hx2o
  exact ⟨_, rfl, Fits.of rfl⟩

theorem i_field_pow_ok {a0 : Int} {a1 : Int} {a2 : Int} {r : Int} (h : i_field_pow a0 a1 a2 = some r) :
    VCall Try.prog 230 [i64 a0, i64 a1, i64 a2] [.sc (i64 r)] := by
  unfold i_field_pow at h
  refine VCall.enter Try.call230 Try.func230 rfl 18 Try.ntmps230 (by simp) [.tmp 6] rfl ?_
  show VW _ _ _ (mk [(0, .val (i64 a0)), (1, .val (i64 a1)), (2, .val (i64 a2))]) _
  -- region 0
  refine VW.ws tau_ok Sound.none [some 6] [(0, .val (i64 a0)), (1, .val (i64 a1)), (2, .val (i64 a2))] rfl ?_ ?_
  · simp <;> simp [ieq, ilt, ile]
  -- region 1
  refine VW.ws tau_ok Sound.none [some 7] [(0, .val (i64 a0)), (1, .val (i64 a1)), (2, .val (i64 a2)), (7, .val (i64 1))] rfl ?_ ?_
  · simp <;> simp [ieq, ilt, ile]
  refine VW.sqc fun K1 hK1 hCK1 => ?_
  -- region 2
  refine VW.ws tau_ok Sound.none [some 8, some 9] [(0, .val (i64 a0)), (1, .val (i64 a1)), (7, .val (i64 1)), (8, .val (i64 a2)), (9, .val (i64 0))] rfl ?_ ?_
  · simp <;> simp [ieq, ilt, ile]
  obtain ⟨x2, hx2, h⟩ := bind_some h
  refine VW.tlE [(7, .val (i64 x2))] (hCK1) ?_ ?_
  · clear hx2
    refine hK1 _ ?_
    -- region 6
    refine VW.ws tau_ok Sound.none [some 17, some 6] [(6, .val (i64 x2))] rfl ?_ ?_
    · simp <;> simp [ieq, ilt, ile]
    cases h
    refine VW.ret ?_
    simp [Post, PostM, PostC, PostC2, Nx, Bk]
  refine VW.block ?_
  refine VW.loopF (i_field_pow_L0 a0 a1 a2) (fun s2 => [(0, .val (i64 a0)), (1, .val (i64 a1)), (7, .val (i64 s2.1)), (8, .val (i64 a2)), (9, .val (i64 s2.2))]) hx2 (Fits.of rfl) ?_
  clear hx2
  intro s2 ox2 hx2o hx2b
  unfold i_field_pow_L0 at hx2o
  -- region 3
  refine VW.ws tau_ok Sound.none [some 10] [(0, .val (i64 a0)), (1, .val (i64 a1)), (7, .val (i64 s2.1)), (8, .val (i64 a2)), (9, .val (i64 s2.2)), (10, .val (.bool (ilt s2.2 a2)))] rfl ?_ ?_
  · simp <;> simp [ieq, ilt, ile]
  refine VW.sqc fun K4 hK4 hCK4 => ?_
  refine VW.cond rfl (fun hb5 => ?_) (fun hb5 => ?_)
  rotate_left
  ·
    replace hb5 : ¬ (s2.2 < a2) := by simpa [ieq, ilt, ile] using hb5
    rw [if_neg hb5] at hx2o
    refine VW.exit ?_
    cases hx2o
    have hq := hx2b _ rfl
    subst hq
    exact Fits.of rfl
  replace hb5 : s2.2 < a2 := by simpa [ieq, ilt, ile] using hb5
  rw [if_pos hb5] at hx2o
  refine VW.skip ?_
  refine hK4 _ ?_
  refine VW.sqc fun K6 hK6 hCK6 => ?_
  refine VW.block ?_
  -- region 4
  obtain ⟨v7, hv7, hx2o⟩ := bind_some hx2o
  refine VW.wr tau_ok (Sound.none.add 15 (i_field_num_ok hv7) rfl) [some 11, some 12, some 13, some 14, some 15, some 7] [(0, .val (i64 a0)), (1, .val (i64 a1)), (7, .val (i64 v7)), (8, .val (i64 a2)), (9, .val (i64 s2.2))] rfl ?_ ?_
  · simp <;> simp [ieq, ilt, ile]
  refine hK6 _ ?_
  -- region 5
  refine VW.wr tau_ok Sound.none [some 16, some 9] [(0, .val (i64 a0)), (1, .val (i64 a1)), (7, .val (i64 v7)), (8, .val (i64 a2)), (9, .val (i64 (w64 (s2.2 + 1))))] rfl ?_ ?_
  · simp <;> simp [ieq, ilt, ile]
  cases hx2o
  exact ⟨_, rfl, Fits.of rfl⟩

theorem i_field_inv_ok {a0 : Int} {a1 : Int} {r : Int} (h : i_field_inv a0 a1 = some r) :
    VCall Try.prog 194 [i64 a0, i64 a1] [.sc (i64 r)] := by
  unfold i_field_inv at h
  refine VCall.enter Try.call194 Try.func194 rfl 10 Try.ntmps194 (by simp) [.tmp 4] rfl ?_
  show VW _ _ _ (mk [(0, .val (i64 a0)), (1, .val (i64 a1))]) _
  -- region 0
  refine VW.ws tau_ok Sound.none [some 4] [(0, .val (i64 a0)), (1, .val (i64 a1))] rfl ?_ ?_
  · simp <;> simp [ieq, ilt, ile]
  -- region 1
  obtain ⟨v1, hv1, h⟩ := bind_some h
  refine VW.ws tau_ok (Sound.none.add 9 (i_field_pow_ok hv1) rfl) [some 5, some 6, some 7, some 8, some 9, some 4] [(4, .val (i64 v1))] rfl ?_ ?_
  · simp <;> simp [ieq, ilt, ile]
  cases h
  refine VW.ret ?_
  simp [Post, PostM, PostC, PostC2, Nx, Bk]

theorem i_field_scaled_ok {a0 : Int} {a1 : List Int} {a2 : Int} {r : List Int} (h : i_field_scaled a0 a1 a2 = some r) :
    VCall Try.prog 193 [i64 a0, dI a1, i64 a2] [.own true (dI r)] := by
  unfold i_field_scaled at h
  refine VCall.enter Try.call193 Try.func193 rfl 27 Try.ntmps193 (by simp) [.tmp 6] rfl ?_
  show VW _ _ _ (mk [(0, .val (i64 a0)), (1, .val (dI a1)), (2, .val (i64 a2))]) _
  -- region 0
  refine VW.ws tau_ok Sound.none [some 6] [(0, .val (i64 a0)), (1, .val (dI a1)), (2, .val (i64 a2))] rfl ?_ ?_
  · simp <;> simp [ieq, ilt, ile]
  -- region 1
  refine VW.ws tau_ok Sound.none [some 10, some 7] [(0, .val (i64 a0)), (1, .val (dI a1)), (2, .val (i64 a2)), (7, .ref 7 [] true (dI []))] rfl ?_ ?_
  · simp <;> simp [ieq, ilt, ile]
  refine VW.sqc fun K1 hK1 hCK1 => ?_
  -- region 2
  refine VW.ws tau_ok Sound.none [some 11, some 12, some 13] [(0, .val (i64 a0)), (2, .val (i64 a2)), (7, .ref 7 [] true (dI [])), (11, .val (dI a1)), (12, .val (i64 (a1.length : Int))), (13, .val (i64 0))] rfl ?_ ?_
  · simp <;> simp [ieq, ilt, ile]
  obtain ⟨x2, hx2, h⟩ := bind_some h
  refine VW.tlE [(7, .ref 7 [] true (dI x2))] (hCK1) ?_ ?_
  · clear hx2
    refine hK1 _ ?_
    -- region 7
    refine VW.ws tau_ok Sound.none [some 26, some 6] [(6, .ref 6 [] true (dI x2))] rfl ?_ ?_
    · simp <;> simp [ieq, ilt, ile]
    cases h
    refine VW.ret ?_
    simp [Post, PostM, PostC, PostC2, Nx, Bk]
  refine VW.block ?_
  refine VW.loopF (i_field_scaled_L0 a0 a1 a2) (fun s2 => [(0, .val (i64 a0)), (2, .val (i64 a2)), (7, .ref 7 [] true (dI s2.1)), (11, .val (dI a1)), (12, .val (i64 (a1.length : Int))), (13, .val (i64 s2.2))]) hx2 (Fits.of rfl) ?_
  clear hx2
  intro s2 ox2 hx2o hx2b
  unfold i_field_scaled_L0 at hx2o
  -- region 3
  refine VW.ws tau_ok Sound.none [some 14] [(0, .val (i64 a0)), (2, .val (i64 a2)), (7, .ref 7 [] true (dI s2.1)), (11, .val (dI a1)), (12, .val (i64 (a1.length : Int))), (13, .val (i64 s2.2)), (14, .val (.bool (ilt s2.2 (a1.length : Int))))] rfl ?_ ?_
  · simp <;> simp [ieq, ilt, ile]
  refine VW.sqc fun K4 hK4 hCK4 => ?_
  refine VW.cond rfl (fun hb5 => ?_) (fun hb5 => ?_)
  rotate_left
  ·
    replace hb5 : ¬ (s2.2 < (a1.length : Int)) := by simpa [ieq, ilt, ile] using hb5
    rw [if_neg hb5] at hx2o
    refine VW.exit ?_
    cases hx2o
    have hq := hx2b _ rfl
    subst hq
    exact Fits.of rfl
  replace hb5 : s2.2 < (a1.length : Int) := by simpa [ieq, ilt, ile] using hb5
  rw [if_pos hb5] at hx2o
  refine VW.skip ?_
  refine hK4 _ ?_
  refine VW.sqc fun K6 hK6 hCK6 => ?_
  refine VW.block ?_
  -- region 4
  obtain ⟨v7, hv7, hx2o⟩ := bind_some hx2o
  obtain ⟨hv7a, hv7b, hv7c, hv7d⟩ := idx_some hv7
  refine VW.ws tau_ok Sound.none [some 15, some 16, some 9] [(0, .val (i64 a0)), (2, .val (i64 a2)), (7, .ref 7 [] true (dI s2.1)), (9, .val (i64 v7)), (11, .val (dI a1)), (12, .val (i64 (a1.length : Int))), (13, .val (i64 s2.2))] rfl ?_ ?_
  · simp [hv7a, hv7b, hv7c, hv7d] <;> simp [ieq, ilt, ile]
  -- region 5
  obtain ⟨v8, hv8, hx2o⟩ := bind_some hx2o
  obtain ⟨hc9, hx2o⟩ := chk_some hx2o
  have hc9s := hc9
  try simp at hc9s
  refine VW.wr tau_ok (Sound.none.add 22 (i_field_num_ok hv8) rfl) [some 17, some 18, some 19, some 20, some 21, some 22, some 23, some 24, some 7] [(0, .val (i64 a0)), (2, .val (i64 a2)), (7, .ref 7 [] true (dI (s2.1 ++ [v8]))), (11, .val (dI a1)), (12, .val (i64 (a1.length : Int))), (13, .val (i64 s2.2))] rfl ?_ ?_
  · simp [hc9, hc9s] <;> simp [ieq, ilt, ile]
  refine hK6 _ ?_
  -- region 6
  refine VW.wr tau_ok Sound.none [some 25, some 13] [(0, .val (i64 a0)), (2, .val (i64 a2)), (7, .ref 7 [] true (dI (s2.1 ++ [v8]))), (11, .val (dI a1)), (12, .val (i64 (a1.length : Int))), (13, .val (i64 (w64 (s2.2 + 1))))] rfl ?_ ?_
  · simp <;> simp [ieq, ilt, ile]
  cases hx2o
  exact ⟨_, rfl, Fits.of rfl⟩

theorem i_field_plus_ok {a0 : Int} {a1 : List Int} {a2 : List Int} {a3 : Int} {r : List Int} (h : i_field_plus a0 a1 a2 a3 = some r) :
    VCall Try.prog 186 [i64 a0, dI a1, dI a2, i64 a3] [.own true (dI r)] := by
  unfold i_field_plus at h
  refine VCall.enter Try.call186 Try.func186 rfl 35 Try.ntmps186 (by simp) [.tmp 8] rfl ?_
  show VW _ _ _ (mk [(0, .val (i64 a0)), (1, .val (dI a1)), (2, .val (dI a2)), (3, .val (i64 a3))]) _
  -- region 0
  refine VW.ws tau_ok Sound.none [some 8] [(0, .val (i64 a0)), (1, .val (dI a1)), (2, .val (dI a2)), (3, .val (i64 a3))] rfl ?_ ?_
  · simp <;> simp [ieq, ilt, ile]
  -- region 1
  refine VW.ws tau_ok Sound.none [some 12, some 9] [(0, .val (i64 a0)), (1, .val (dI a1)), (2, .val (dI a2)), (3, .val (i64 a3)), (9, .ref 9 [] true (dI []))] rfl ?_ ?_
  · simp <;> simp [ieq, ilt, ile]
  refine VW.sqc fun K1 hK1 hCK1 => ?_
  -- region 2
  refine VW.ws tau_ok Sound.none [some 13, some 14, some 15] [(0, .val (i64 a0)), (2, .val (dI a2)), (3, .val (i64 a3)), (9, .ref 9 [] true (dI [])), (13, .val (dI a1)), (14, .val (i64 (a1.length : Int))), (15, .val (i64 0))] rfl ?_ ?_
  · simp <;> simp [ieq, ilt, ile]
  obtain ⟨x2, hx2, h⟩ := bind_some h
  refine VW.tlE [(9, .ref 9 [] true (dI x2))] (hCK1) ?_ ?_
  · clear hx2
    refine hK1 _ ?_
    -- region 7
    refine VW.ws tau_ok Sound.none [some 34, some 8] [(8, .ref 8 [] true (dI x2))] rfl ?_ ?_
    · simp <;> simp [ieq, ilt, ile]
    cases h
    refine VW.ret ?_
    simp [Post, PostM, PostC, PostC2, Nx, Bk]
  refine VW.block ?_
  refine VW.loopF (i_field_plus_L0 a0 a1 a2 a3) (fun s2 => [(0, .val (i64 a0)), (2, .val (dI a2)), (3, .val (i64 a3)), (9, .ref 9 [] true (dI s2.1)), (13, .val (dI a1)), (14, .val (i64 (a1.length : Int))), (15, .val (i64 s2.2))]) hx2 (Fits.of rfl) ?_
  clear hx2
  intro s2 ox2 hx2o hx2b
  unfold i_field_plus_L0 at hx2o
  -- region 3
  refine VW.ws tau_ok Sound.none [some 16] [(0, .val (i64 a0)), (2, .val (dI a2)), (3, .val (i64 a3)), (9, .ref 9 [] true (dI s2.1)), (13, .val (dI a1)), (14, .val (i64 (a1.length : Int))), (15, .val (i64 s2.2)), (16, .val (.bool (ilt s2.2 (a1.length : Int))))] rfl ?_ ?_
  · simp <;> simp [ieq, ilt, ile]
  refine VW.sqc fun K4 hK4 hCK4 => ?_
  refine VW.cond rfl (fun hb5 => ?_) (fun hb5 => ?_)
  rotate_left
  ·
    replace hb5 : ¬ (s2.2 < (a1.length : Int)) := by simpa [ieq, ilt, ile] using hb5
    rw [if_neg hb5] at hx2o
    refine VW.exit ?_
    cases hx2o
    have hq := hx2b _ rfl
    subst hq
    exact Fits.of rfl
  replace hb5 : s2.2 < (a1.length : Int) := by simpa [ieq, ilt, ile] using hb5
  rw [if_pos hb5] at hx2o
  refine VW.skip ?_
  refine hK4 _ ?_
  refine VW.sqc fun K6 hK6 hCK6 => ?_
  refine VW.block ?_
  -- region 4
  obtain ⟨v7, hv7, hx2o⟩ := bind_some hx2o
  obtain ⟨hv7a, hv7b, hv7c, hv7d⟩ := idx_some hv7
  refine VW.ws tau_ok Sound.none [some 17, some 18, some 19, some 10, some 11] [(0, .val (i64 a0)), (2, .val (dI a2)), (3, .val (i64 a3)), (9, .ref 9 [] true (dI s2.1)), (10, .val (i64 s2.2)), (11, .val (i64 v7)), (13, .val (dI a1)), (14, .val (i64 (a1.length : Int))), (15, .val (i64 s2.2))] rfl ?_ ?_
  · simp [hv7a, hv7b, hv7c, hv7d] <;> simp [ieq, ilt, ile]
  -- region 5
  obtain ⟨v8, hv8, hx2o⟩ := bind_some hx2o
  obtain ⟨hv8a, hv8b, hv8c, hv8d⟩ := idx_some hv8
  obtain ⟨v9, hv9, hx2o⟩ := bind_some hx2o
  obtain ⟨hc10, hx2o⟩ := chk_some hx2o
  have hc10s := hc10
  try simp at hc10s
  refine VW.wr tau_ok (Sound.none.add 30 (i_field_num_ok hv9) rfl) [some 20, some 21, some 22, some 23, some 24, some 25, some 26, some 27, some 28, some 29, some 30, some 31, some 32, some 9] [(0, .val (i64 a0)), (2, .val (dI a2)), (3, .val (i64 a3)), (9, .ref 9 [] true (dI (s2.1 ++ [v9]))), (13, .val (dI a1)), (14, .val (i64 (a1.length : Int))), (15, .val (i64 s2.2))] rfl ?_ ?_
  · simp [hv8a, hv8b, hv8c, hv8d, hc10, hc10s] <;> simp [ieq, ilt, ile]
  refine hK6 _ ?_
  -- region 6
  refine VW.wr tau_ok Sound.none [some 33, some 15] [(0, .val (i64 a0)), (2, .val (dI a2)), (3, .val (i64 a3)), (9, .ref 9 [] true (dI (s2.1 ++ [v9]))), (13, .val (dI a1)), (14, .val (i64 (a1.length : Int))), (15, .val (i64 (w64 (s2.2 + 1))))] rfl ?_ ?_
  · simp <;> simp [ieq, ilt, ile]
  cases hx2o
  exact ⟨_, rfl, Fits.of rfl⟩

theorem i_field_basis_ok {a0 : Int} {a1 : List (List Int)} {r : List (List Int)} (h : i_field_basis a0 a1 = some r) :
    VCall Try.prog 125 [i64 a0, dM a1] [.own true (dM r)] := by
  unfold i_field_basis at h
  refine VCall.enter Try.call125 Try.func125 rfl 129 Try.ntmps125 (by simp) [.tmp 4] rfl ?_
  show VW _ _ _ (mk [(0, .val (i64 a0)), (1, .val (dM a1))]) _
  -- region 0
  refine VW.ws tau_ok Sound.none [some 4] [(0, .val (i64 a0)), (1, .val (dM a1))] rfl ?_ ?_
  · simp <;> simp [ieq, ilt, ile]
  -- region 1
  obtain ⟨v1, hv1, h⟩ := bind_some h
  refine VW.ws tau_ok (Sound.none.add 11 (i_cloneRows_ok hv1) rfl) [some 10, some 11, some 5] [(0, .val (i64 a0)), (5, .ref 5 [] true (dM v1))] rfl ?_ ?_
  · simp <;> simp [ieq, ilt, ile]
  -- region 2
  refine VW.ws tau_ok Sound.none [some 6] [(0, .val (i64 a0)), (5, .ref 5 [] true (dM v1)), (6, .val (i64 0))] rfl ?_ ?_
  · simp <;> simp [ieq, ilt, ile]
  refine VW.sqc fun K2 hK2 hCK2 => ?_
  -- region 3
  refine VW.ws tau_ok Sound.none [some 7] [(0, .val (i64 a0)), (5, .ref 5 [] true (dM v1)), (6, .val (i64 0)), (7, .val (i64 0))] rfl ?_ ?_
  · simp <;> simp [ieq, ilt, ile]
  obtain ⟨x3, hx3, h⟩ := bind_some h
  refine VW.tlE [(5, .ref 5 [] true (dM x3.1)), (6, .val (i64 x3.2))] (hCK2) ?_ ?_
  · clear hx3
    refine hK2 _ ?_
    -- region 19
    obtain ⟨hc49, h⟩ := chk_some h
    have hc49s := hc49
    try simp at hc49s
    refine VW.ws tau_ok Sound.none [some 126, some 127, some 128, some 4] [(4, .ref 4 [] true (dM (x3.1.take x3.2.toNat)))] rfl ?_ ?_
    · simp [hc49, hc49s] <;> simp [ieq, ilt, ile]
    cases h
    refine VW.ret ?_
    simp [Post, PostM, PostC, PostC2, Nx, Bk]
  refine VW.block ?_
  refine VW.loopF (i_field_basis_L0 a0) (fun s3 => [(0, .val (i64 a0)), (5, .ref 5 [] true (dM s3.1)), (6, .val (i64 s3.2.1)), (7, .val (i64 s3.2.2))]) hx3 (Fits.of rfl) ?_
  clear hx3
  intro s3 ox3 hx3o hx3b
  unfold i_field_basis_L0 at hx3o
  refine VW.sqc fun K5 hK5 hCK5 => ?_
  -- region 4
  obtain ⟨x9, hx9, hx3o⟩ := bind_some hx3o
  refine VW.cut [(0, .val (i64 a0)), (5, .ref 5 [] true (dM s3.1)), (6, .val (i64 s3.2.1)), (7, .val (i64 s3.2.2)), (28, .val (.bool x9))] ?_ fun hy => ?_
  rotate_left
  · clear hx3o
    by_cases hp6 : 0 < (s3.1.length : Int)
    · rw [if_pos hp6] at hx9
      have hp6b : ilt 0 (s3.1.length : Int) = true := by simpa [ieq, ilt, ile] using hp6
      have hp6s := hp6b
      try simp at hp6s
      obtain ⟨v7, hv7, hx9⟩ := bind_some hx9
      obtain ⟨hv7a, hv7b, hv7c, hv7d⟩ := idx_some hv7
      replace hv7b : 0 < s3.1.length := hv7b
      replace hv7c : s3.1[0]? = some v7 := hv7c
      replace hv7d : ∀ h, s3.1[0]'h = v7 := hv7d
      by_cases hp8 : s3.2.2 < (v7.length : Int)
      · rw [if_pos hp8] at hx9
        have hp8b : ilt s3.2.2 (v7.length : Int) = true := by simpa [ieq, ilt, ile] using hp8
        have hp8s := hp8b
        try simp at hp8s
        cases hx9
        refine VW.ws tau_ok Sound.none [some 12, some 13, some 14, some 15, some 16, some 17, some 18, some 19, some 20, some 21, some 22, some 23, some 24, some 25, some 26, some 27, some 28] _ rfl ?_ hy
        simp [hp6b, hp6s, hv7a, hv7b, hv7c, hv7d, hp8b, hp8s] <;> simp [ieq, ilt, ile]
      · rw [if_neg hp8] at hx9
        have hp8b : ilt s3.2.2 (v7.length : Int) = false := by simpa [ieq, ilt, ile] using hp8
        have hp8s := hp8b
        try simp at hp8s
        cases hx9
        refine VW.ws tau_ok Sound.none [some 12, some 13, some 14, some 15, some 16, some 17, some 18, some 19, some 20, some 21, some 22, some 23, some 24, some 25, some 26, some 27, some 28] _ rfl ?_ hy
        simp [hp6b, hp6s, hv7a, hv7b, hv7c, hv7d, hp8b, hp8s] <;> simp [ieq, ilt, ile]
    · rw [if_neg hp6] at hx9
      have hp6b : ilt 0 (s3.1.length : Int) = false := by simpa [ieq, ilt, ile] using hp6
      have hp6s := hp6b
      try simp at hp6s
      cases hx9
      refine VW.ws tau_ok Sound.none [some 12, some 13, some 14, some 15, some 16, some 17, some 18, some 19, some 20, some 21, some 22, some 23, some 24, some 25, some 26, some 27, some 28] _ rfl ?_ hy
      simp [hp6b, hp6s] <;> simp [ieq, ilt, ile]
  refine VW.cond rfl (fun hb10 => ?_) (fun hb10 => ?_)
  rotate_left
  ·
    replace hb10 : ¬ (x9 = true) := by simpa [ieq, ilt, ile] using hb10
    rw [if_neg hb10] at hx3o
    refine VW.exit ?_
    cases hx3o
    have hq := hx3b _ rfl
    subst hq
    exact Fits.of rfl
  replace hb10 : x9 = true := by simpa [ieq, ilt, ile] using hb10
  rw [if_pos hb10] at hx3o
  refine VW.skip ?_
  refine hK5 _ ?_
  refine VW.sqc fun K11 hK11 hCK11 => ?_
  obtain ⟨x12, hx12, hx3o⟩ := bind_some hx3o
  refine VW.tlE [(0, .val (i64 a0)), (5, .ref 5 [] true (dM x12.1)), (6, .val (i64 x12.2)), (7, .val (i64 s3.2.2))] (hCK11) ?_ ?_
  · clear hx12
    refine hK11 _ ?_
    -- region 5
    refine VW.wr tau_ok Sound.none [some 29, some 30, some 7] [(0, .val (i64 a0)), (5, .ref 5 [] true (dM x12.1)), (6, .val (i64 x12.2)), (7, .val (i64 (w64 (s3.2.2 + 1))))] rfl ?_ ?_
    · simp <;> simp [ieq, ilt, ile]
    cases hx3o
    exact ⟨_, rfl, Fits.of rfl⟩
  refine VW.block ?_
  -- region 6
  refine VW.ws tau_ok Sound.none [some 31, some 8] [(0, .val (i64 a0)), (5, .ref 5 [] true (dM s3.1)), (6, .val (i64 s3.2.1)), (7, .val (i64 s3.2.2)), (8, .val (i64 s3.2.1))] rfl ?_ ?_
  · simp <;> simp [ieq, ilt, ile]
  refine VW.sqc fun K14 hK14 hCK14 => ?_
  obtain ⟨x15, hx15, hx12⟩ := bind_some hx12
  refine VW.tlE [(0, .val (i64 a0)), (5, .ref 5 [] true (dM s3.1)), (6, .val (i64 s3.2.1)), (7, .val (i64 s3.2.2)), (8, .val (i64 x15))] (hCK14) ?_ ?_
  · clear hx15
    refine hK14 _ ?_
    refine VW.sqc fun K23 hK23 hCK23 => ?_
    -- region 9
    refine VW.ws tau_ok Sound.none [some 48, some 49, some 50, some 51] [(0, .val (i64 a0)), (5, .ref 5 [] true (dM s3.1)), (6, .val (i64 s3.2.1)), (7, .val (i64 s3.2.2)), (8, .val (i64 x15)), (51, .val (.bool (ieq x15 (s3.1.length : Int))))] rfl ?_ ?_
    · simp <;> simp [ieq, ilt, ile]
    refine VW.cond rfl (fun hb24 => ?_) (fun hb24 => ?_)
    ·
      replace hb24 : x15 = (s3.1.length : Int) := by simpa [ieq, ilt, ile] using hb24
      rw [if_pos hb24] at hx12
      refine VW.exit ?_
      cases hx12
      exact Fits.of rfl
    replace hb24 : ¬ (x15 = (s3.1.length : Int)) := by simpa [ieq, ilt, ile] using hb24
    rw [if_neg hb24] at hx12
    refine VW.skip ?_
    refine hK23 _ ?_
    -- region 10
    obtain ⟨v25, hv25, hx12⟩ := bind_some hx12
    obtain ⟨hv25a, hv25b, hv25c, hv25d⟩ := idx_some hv25
    obtain ⟨v26, hv26, hx12⟩ := bind_some hx12
    obtain ⟨hv26a, hv26b, hv26c, hv26d⟩ := idx_some hv26
    have hv25z := hv25b
    try simp [hv25a] at hv25z
    have hv26z := hv26b
    try simp [hv26a] at hv26z
    obtain ⟨v27, hv27, hx12⟩ := bind_some hx12
    obtain ⟨hv27a, hv27b, hv27c, hv27d⟩ := idx_some hv27
    have hv27s := hv27b
    try simp at hv27s
    refine VW.wds tau_ok Sound.none try_mixed [some 52, some 53, some 54, some 55, some 56, some 57, some 58, some 59, some 60, some 61, some 62, some 63, some 64, none, some 65, none] [(0, .val (i64 a0)), (5, .ref 5 [] true (dM ((s3.1.set s3.2.1.toNat v25).set x15.toNat v26))), (6, .val (i64 s3.2.1)), (7, .val (i64 s3.2.2))] 13 rfl (by kernel_rfl) (by rfl) ?_ ?_
    · simp [hv25a, hv25b, hv25c, hv25d, hv26a, hv26b, hv26c, hv26d, hv25z, hv26z, hv27a, hv27b, hv27c, hv27d, hv27s] <;> simp [ieq, ilt, ile]
    obtain ⟨l28, hl28, hx12⟩ := bind_some hx12
    rw [Option.some.inj hl28]
    -- region 11
    obtain ⟨v29, hv29, hx12⟩ := bind_some hx12
    obtain ⟨hv29a, hv29b, hv29c, hv29d⟩ := idx_some hv29
    obtain ⟨v30, hv30, hx12⟩ := bind_some hx12
    obtain ⟨hv30a, hv30b, hv30c, hv30d⟩ := idx_some hv30
    obtain ⟨v31, hv31, hx12⟩ := bind_some hx12
    obtain ⟨v32, hv32, hx12⟩ := bind_some hx12
    refine VW.wds tau_ok ((Sound.none.add 81 (i_field_inv_ok hv31) rfl).add 82 (i_field_scaled_ok hv32) rfl) try_mixed [some 66, some 67, some 68, some 69, some 70, some 71, some 72, some 73, some 74, some 75, some 76, some 77, some 78, some 79, some 80, some 81, some 82, some 83, none] [(0, .val (i64 a0)), (5, .ref 5 [] true (dM (l28.set s3.2.1.toNat v32))), (6, .val (i64 s3.2.1)), (7, .val (i64 s3.2.2))] 18 rfl (by kernel_rfl) (by rfl) ?_ ?_
    · simp [hv29a, hv29b, hv29c, hv29d, hv30a, hv30b, hv30c, hv30d] <;> simp [ieq, ilt, ile]
    refine VW.sqc fun K33 hK33 hCK33 => ?_
    -- region 12
    refine VW.ws tau_ok Sound.none [some 84, some 85, some 86] [(0, .val (i64 a0)), (5, .ref 5 [] true (dM (l28.set s3.2.1.toNat v32))), (6, .val (i64 s3.2.1)), (7, .val (i64 s3.2.2)), (85, .val (i64 ((l28.set s3.2.1.toNat v32).length : Int))), (86, .val (i64 0))] rfl ?_ ?_
    · simp <;> simp [ieq, ilt, ile]
    obtain ⟨x34, hx34, hx12⟩ := bind_some hx12
    refine VW.tlE [(0, .val (i64 a0)), (5, .ref 5 [] true (dM x34)), (6, .val (i64 s3.2.1)), (7, .val (i64 s3.2.2))] (hCK33) ?_ ?_
    · clear hx34
      refine hK33 _ ?_
      -- region 18
      refine VW.wr tau_ok Sound.none [some 124, some 125, some 6] [(0, .val (i64 a0)), (5, .ref 5 [] true (dM x34)), (6, .val (i64 (w64 (s3.2.1 + 1)))), (7, .val (i64 s3.2.2))] rfl ?_ ?_
      · simp <;> simp [ieq, ilt, ile]
      cases hx12
      exact Fits.of rfl
    refine VW.block ?_
    refine VW.loopF (i_field_basis_L2 a0 s3 l28 v32) (fun s34 => [(0, .val (i64 a0)), (5, .ref 5 [] true (dM s34.1)), (6, .val (i64 s3.2.1)), (7, .val (i64 s3.2.2)), (85, .val (i64 ((l28.set s3.2.1.toNat v32).length : Int))), (86, .val (i64 s34.2))]) hx34 (Fits.of rfl) ?_
    clear hx34
    intro s34 ox34 hx34o hx34b
    unfold i_field_basis_L2 at hx34o
    -- region 13
    refine VW.ws tau_ok Sound.none [some 87] [(0, .val (i64 a0)), (5, .ref 5 [] true (dM s34.1)), (6, .val (i64 s3.2.1)), (7, .val (i64 s3.2.2)), (85, .val (i64 ((l28.set s3.2.1.toNat v32).length : Int))), (86, .val (i64 s34.2)), (87, .val (.bool (ilt s34.2 ((l28.set s3.2.1.toNat v32).length : Int))))] rfl ?_ ?_
    · simp <;> simp [ieq, ilt, ile]
    refine VW.sqc fun K36 hK36 hCK36 => ?_
    refine VW.cond rfl (fun hb37 => ?_) (fun hb37 => ?_)
    rotate_left
    ·
      replace hb37 : ¬ (s34.2 < ((l28.set s3.2.1.toNat v32).length : Int)) := by simpa [ieq, ilt, ile] using hb37
      rw [if_neg hb37] at hx34o
      refine VW.exit ?_
      cases hx34o
      have hq := hx34b _ rfl
      subst hq
      exact Fits.of rfl
    replace hb37 : s34.2 < ((l28.set s3.2.1.toNat v32).length : Int) := by simpa [ieq, ilt, ile] using hb37
    rw [if_pos hb37] at hx34o
    refine VW.skip ?_
    refine hK36 _ ?_
    obtain ⟨x38, hx38, hx34o⟩ := bind_some hx34o
    refine VW.sqE [(0, .val (i64 a0)), (5, .ref 5 [] true (dM x38)), (6, .val (i64 s3.2.1)), (7, .val (i64 s3.2.2)), (85, .val (i64 ((l28.set s3.2.1.toNat v32).length : Int))), (86, .val (i64 s34.2))] ?_ ?_
    · clear hx38
      -- region 17
      refine VW.wr tau_ok Sound.none [some 123, some 86] [(0, .val (i64 a0)), (5, .ref 5 [] true (dM x38)), (6, .val (i64 s3.2.1)), (7, .val (i64 s3.2.2)), (85, .val (i64 ((l28.set s3.2.1.toNat v32).length : Int))), (86, .val (i64 (w64 (s34.2 + 1))))] rfl ?_ ?_
      · simp <;> simp [ieq, ilt, ile]
      cases hx34o
      exact ⟨_, rfl, Fits.of rfl⟩
    refine VW.block ?_
    -- region 14
    refine VW.ws tau_ok Sound.none [some 88, some 9] [(0, .val (i64 a0)), (5, .ref 5 [] true (dM s34.1)), (6, .val (i64 s3.2.1)), (7, .val (i64 s3.2.2)), (9, .val (i64 s34.2)), (85, .val (i64 ((l28.set s3.2.1.toNat v32).length : Int))), (86, .val (i64 s34.2))] rfl ?_ ?_
    · simp <;> simp [ieq, ilt, ile]
    -- region 15
    obtain ⟨x43, hx43, hx38⟩ := bind_some hx38
    refine VW.cut [(0, .val (i64 a0)), (5, .ref 5 [] true (dM s34.1)), (6, .val (i64 s3.2.1)), (7, .val (i64 s3.2.2)), (9, .val (i64 s34.2)), (85, .val (i64 ((l28.set s3.2.1.toNat v32).length : Int))), (86, .val (i64 s34.2)), (101, .val (.bool x43))] ?_ fun hy => ?_
    rotate_left
    · clear hx38
      by_cases hp40 : ¬ s34.2 = s3.2.1
      · rw [if_pos hp40] at hx43
        have hp40b : ieq s34.2 s3.2.1 = false := by simpa [ieq, ilt, ile] using hp40
        have hp40s := hp40b
        try simp at hp40s
        obtain ⟨v41, hv41, hx43⟩ := bind_some hx43
        obtain ⟨hv41a, hv41b, hv41c, hv41d⟩ := idx_some hv41
        obtain ⟨v42, hv42, hx43⟩ := bind_some hx43
        obtain ⟨hv42a, hv42b, hv42c, hv42d⟩ := idx_some hv42
        cases hx43
        refine VW.ws tau_ok Sound.none [some 89, some 90, some 91, some 92, some 93, some 94, some 95, some 96, some 97, some 98, some 99, some 100, some 101] _ rfl ?_ hy
        simp [hp40b, hp40s, hv41a, hv41b, hv41c, hv41d, hv42a, hv42b, hv42c, hv42d] <;> simp [ieq, ilt, ile]
      · rw [if_neg hp40] at hx43
        have hp40b : ieq s34.2 s3.2.1 = true := by simpa [ieq, ilt, ile] using hp40
        have hp40s := hp40b
        try simp at hp40s
        cases hx43
        refine VW.ws tau_ok Sound.none [some 89, some 90, some 91, some 92, some 93, some 94, some 95, some 96, some 97, some 98, some 99, some 100, some 101] _ rfl ?_ hy
        simp [hp40b, hp40s] <;> simp [ieq, ilt, ile]
    refine VW.cond rfl (fun hb44 => ?_) (fun hb44 => ?_)
    rotate_left
    ·
      replace hb44 : ¬ (x43 = true) := by simpa [ieq, ilt, ile] using hb44
      rw [if_neg hb44] at hx38
      refine VW.skip ?_
      cases hx38
      exact Fits.of rfl
    replace hb44 : x43 = true := by simpa [ieq, ilt, ile] using hb44
    rw [if_pos hb44] at hx38
    -- region 16
    obtain ⟨v45, hv45, hx38⟩ := bind_some hx38
    obtain ⟨hv45a, hv45b, hv45c, hv45d⟩ := idx_some hv45
    obtain ⟨v46, hv46, hx38⟩ := bind_some hx38
    obtain ⟨hv46a, hv46b, hv46c, hv46d⟩ := idx_some hv46
    obtain ⟨v47, hv47, hx38⟩ := bind_some hx38
    obtain ⟨hv47a, hv47b, hv47c, hv47d⟩ := idx_some hv47
    obtain ⟨v48, hv48, hx38⟩ := bind_some hx38
    refine VW.wdr tau_ok (Sound.none.add 121 (i_field_plus_ok hv48) rfl) try_mixed [some 102, some 103, some 104, some 105, some 106, some 107, some 108, some 109, some 110, some 111, some 112, some 113, some 114, some 115, some 116, some 117, some 118, some 119, some 120, some 121, some 122, none] [(0, .val (i64 a0)), (5, .ref 5 [] true (dM (s34.1.set s34.2.toNat v48))), (6, .val (i64 s3.2.1)), (7, .val (i64 s3.2.2)), (85, .val (i64 ((l28.set s3.2.1.toNat v32).length : Int))), (86, .val (i64 s34.2))] 21 rfl (by kernel_rfl) (by rfl) ?_ ?_
    · simp [hv45a, hv45b, hv45c, hv45d, hv46a, hv46b, hv46c, hv46d, hv47a, hv47b, hv47c, hv47d] <;> simp [ieq, ilt, ile]
    cases hx38
    exact Fits.of rfl
  refine VW.block ?_
  refine VW.loopF (i_field_basis_L1 s3) (fun s15 => [(0, .val (i64 a0)), (5, .ref 5 [] true (dM s3.1)), (6, .val (i64 s3.2.1)), (7, .val (i64 s3.2.2)), (8, .val (i64 s15))]) hx15 (Fits.of rfl) ?_
  clear hx15
  intro s15 ox15 hx15o hx15b
  unfold i_field_basis_L1 at hx15o
  refine VW.sqc fun K17 hK17 hCK17 => ?_
  -- region 7
  obtain ⟨x21, hx21, hx15o⟩ := bind_some hx15o
  refine VW.cut [(0, .val (i64 a0)), (5, .ref 5 [] true (dM s3.1)), (6, .val (i64 s3.2.1)), (7, .val (i64 s3.2.2)), (8, .val (i64 s15)), (45, .val (.bool x21))] ?_ fun hy => ?_
  rotate_left
  · clear hx15o
    by_cases hp18 : s15 < (s3.1.length : Int)
    · rw [if_pos hp18] at hx21
      have hp18b : ilt s15 (s3.1.length : Int) = true := by simpa [ieq, ilt, ile] using hp18
      have hp18s := hp18b
      try simp at hp18s
      obtain ⟨v19, hv19, hx21⟩ := bind_some hx21
      obtain ⟨hv19a, hv19b, hv19c, hv19d⟩ := idx_some hv19
      obtain ⟨v20, hv20, hx21⟩ := bind_some hx21
      obtain ⟨hv20a, hv20b, hv20c, hv20d⟩ := idx_some hv20
      cases hx21
      refine VW.ws tau_ok Sound.none [some 32, some 33, some 34, some 35, some 36, some 37, some 38, some 39, some 40, some 41, some 42, some 43, some 44, some 45] _ rfl ?_ hy
      simp [hp18b, hp18s, hv19a, hv19b, hv19c, hv19d, hv20a, hv20b, hv20c, hv20d] <;> simp [ieq, ilt, ile]
    · rw [if_neg hp18] at hx21
      have hp18b : ilt s15 (s3.1.length : Int) = false := by simpa [ieq, ilt, ile] using hp18
      have hp18s := hp18b
      try simp at hp18s
      cases hx21
      refine VW.ws tau_ok Sound.none [some 32, some 33, some 34, some 35, some 36, some 37, some 38, some 39, some 40, some 41, some 42, some 43, some 44, some 45] _ rfl ?_ hy
      simp [hp18b, hp18s] <;> simp [ieq, ilt, ile]
  refine VW.cond rfl (fun hb22 => ?_) (fun hb22 => ?_)
  rotate_left
  ·
    replace hb22 : ¬ (x21 = true) := by simpa [ieq, ilt, ile] using hb22
    rw [if_neg hb22] at hx15o
    refine VW.exit ?_
    cases hx15o
    have hq := hx15b _ rfl
    subst hq
    exact Fits.of rfl
  replace hb22 : x21 = true := by simpa [ieq, ilt, ile] using hb22
  rw [if_pos hb22] at hx15o
  refine VW.skip ?_
  refine hK17 _ ?_
  refine VW.block ?_
  -- region 8
  refine VW.wr tau_ok Sound.none [some 46, some 47, some 8] [(0, .val (i64 a0)), (5, .ref 5 [] true (dM s3.1)), (6, .val (i64 s3.2.1)), (7, .val (i64 s3.2.2)), (8, .val (i64 (w64 (s15 + 1))))] rfl ?_ ?_
  · simp <;> simp [ieq, ilt, ile]
  cases hx15o
  exact ⟨_, rfl, Fits.of rfl⟩

theorem i_length_LI_ok {a0 : List (List Int)} {r : Int} (h : i_length_LI a0 = some r) :
    VCall Try.prog 124 [dM a0] [.sc (i64 r)] := by
  unfold i_length_LI at h
  refine VCall.enter Try.call124 Try.func124 rfl 5 Try.ntmps124 (by simp) [.tmp 2] rfl ?_
  show VW _ _ _ (mk [(0, .val (dM a0))]) _
  -- region 0
  refine VW.ws tau_ok Sound.none [some 2] [(0, .val (dM a0))] rfl ?_ ?_
  · simp <;> simp [ieq, ilt, ile]
  -- region 1
  refine VW.ws tau_ok Sound.none [some 3, some 4, some 2] [(2, .val (i64 (a0.length : Int)))] rfl ?_ ?_
  · simp <;> simp [ieq, ilt, ile]
  cases h
  refine VW.ret ?_
  simp [Post, PostM, PostC, PostC2, Nx, Bk]

theorem i_RankOf_ok {a0 : Int} {a1 : List (List Int)} {r : Int × Int} (h : i_RankOf a0 a1 = some r) :
    VCall Try.prog 49 [i64 a0, dM a1] [.sc (i64 r.1), .sc (i64 r.2)] := by
  unfold i_RankOf at h
  refine VCall.enter Try.call49 Try.func49 rfl 18 Try.ntmps49 (by simp) [.tmp 4, .tmp 5] rfl ?_
  show VW _ _ _ (mk [(0, .val (i64 a0)), (1, .val (dM a1))]) _
  -- region 0
  refine VW.ws tau_ok Sound.none [some 4, some 5] [(0, .val (i64 a0)), (1, .val (dM a1))] rfl ?_ ?_
  · simp <;> simp [ieq, ilt, ile]
  refine VW.sqc fun K1 hK1 hCK1 => ?_
  -- region 1
  obtain ⟨v2, hv2, h⟩ := bind_some h
  refine VW.ws tau_ok (Sound.none.add 10 (i_checkMatrices_ok hv2) rfl) [some 7, some 8, some 9, some 10, some 6] [(0, .val (i64 a0)), (1, .val (dM a1)), (6, .val (i64 v2))] rfl ?_ ?_
  · simp <;> simp [ieq, ilt, ile]
  -- region 2
  refine VW.ws tau_ok Sound.none [some 11, some 12] [(0, .val (i64 a0)), (1, .val (dM a1)), (6, .val (i64 v2)), (12, .val (.bool (!(ieq v2 0))))] rfl ?_ ?_
  · simp <;> simp [ieq, ilt, ile]
  refine VW.cond rfl (fun hb3 => ?_) (fun hb3 => ?_)
  ·
    replace hb3 : ¬ v2 = 0 := by simpa [ieq, ilt, ile] using hb3
    rw [if_pos hb3] at h
    -- region 3
    refine VW.ws tau_ok Sound.none [some 13, some 4, some 5] [(4, .val (i64 0)), (5, .val (i64 v2))] rfl ?_ ?_
    · simp <;> simp [ieq, ilt, ile]
    cases h
    refine VW.ret ?_
    simp [Post, PostM, PostC, PostC2, Nx, Bk]
  replace hb3 : ¬ (¬ v2 = 0) := by simpa [ieq, ilt, ile] using hb3
  rw [if_neg hb3] at h
  refine VW.skip ?_
  refine hK1 _ ?_
  -- region 4
  obtain ⟨v4, hv4, h⟩ := bind_some h
  obtain ⟨v5, hv5, h⟩ := bind_some h
  refine VW.ws tau_ok ((Sound.none.add 16 (i_field_basis_ok hv4) rfl).add 17 (i_length_LI_ok hv5) rfl) [some 14, some 15, some 16, some 17, some 4, some 5] [(4, .val (i64 v5)), (5, .val (i64 0))] rfl ?_ ?_
  · simp <;> simp [ieq, ilt, ile]
  cases h
  refine VW.ret ?_
  simp [Post, PostM, PostC, PostC2, Nx, Bk]

theorem i_checkSquare_ok {a0 : Int} {a1 : List (List Int)} {r : Int} (h : i_checkSquare a0 a1 = some r) :
    VCall Try.prog 126 [i64 a0, dM a1] [.sc (i64 r)] := by
  unfold i_checkSquare at h
  refine VCall.enter Try.call126 Try.func126 rfl 20 Try.ntmps126 (by simp) [.tmp 4] rfl ?_
  show VW _ _ _ (mk [(0, .val (i64 a0)), (1, .val (dM a1))]) _
  -- region 0
  refine VW.ws tau_ok Sound.none [some 4] [(0, .val (i64 a0)), (1, .val (dM a1))] rfl ?_ ?_
  · simp <;> simp [ieq, ilt, ile]
  refine VW.sqc fun K1 hK1 hCK1 => ?_
  -- region 1
  obtain ⟨v2, hv2, h⟩ := bind_some h
  refine VW.ws tau_ok (Sound.none.add 9 (i_checkMatrices_ok hv2) rfl) [some 6, some 7, some 8, some 9, some 5] [(1, .val (dM a1)), (5, .val (i64 v2))] rfl ?_ ?_
  · simp <;> simp [ieq, ilt, ile]
  -- region 2
  refine VW.ws tau_ok Sound.none [some 10, some 11] [(1, .val (dM a1)), (5, .val (i64 v2)), (11, .val (.bool (!(ieq v2 0))))] rfl ?_ ?_
  · simp <;> simp [ieq, ilt, ile]
  refine VW.cond rfl (fun hb3 => ?_) (fun hb3 => ?_)
  ·
    replace hb3 : ¬ v2 = 0 := by simpa [ieq, ilt, ile] using hb3
    rw [if_pos hb3] at h
    -- region 3
    refine VW.ws tau_ok Sound.none [some 12, some 4] [(4, .val (i64 v2))] rfl ?_ ?_
    · simp <;> simp [ieq, ilt, ile]
    cases h
    refine VW.ret ?_
    simp [Post, PostM, PostC, PostC2, Nx, Bk]
  replace hb3 : ¬ (¬ v2 = 0) := by simpa [ieq, ilt, ile] using hb3
  rw [if_neg hb3] at h
  refine VW.skip ?_
  refine hK1 _ ?_
  refine VW.sqc fun K4 hK4 hCK4 => ?_
  -- region 4
  obtain ⟨v5, hv5, h⟩ := bind_some h
  obtain ⟨hv5a, hv5b, hv5c, hv5d⟩ := idx_some hv5
  replace hv5b : 0 < a1.length := hv5b
  replace hv5c : a1[0]? = some v5 := hv5c
  replace hv5d : ∀ h, a1[0]'h = v5 := hv5d
  refine VW.ws tau_ok Sound.none [some 13, some 14, some 15, some 16, some 17, some 18, some 19] [(19, .val (.bool (!(ieq (a1.length : Int) (v5.length : Int)))))] rfl ?_ ?_
  · simp [hv5a, hv5b, hv5c, hv5d] <;> simp [ieq, ilt, ile]
  refine VW.cond rfl (fun hb6 => ?_) (fun hb6 => ?_)
  ·
    replace hb6 : ¬ (a1.length : Int) = (v5.length : Int) := by simpa [ieq, ilt, ile] using hb6
    rw [if_pos hb6] at h
    -- region 5
    refine VW.ws tau_ok Sound.none [some 4] [(4, .val (i64 2))] rfl ?_ ?_
    · simp <;> simp [ieq, ilt, ile]
    cases h
    refine VW.ret ?_
    simp [Post, PostM, PostC, PostC2, Nx, Bk]
  replace hb6 : ¬ (¬ (a1.length : Int) = (v5.length : Int)) := by simpa [ieq, ilt, ile] using hb6
  rw [if_neg hb6] at h
  refine VW.skip ?_
  refine hK4 _ ?_
  -- region 6
  refine VW.ws tau_ok Sound.none [some 4] [(4, .val (i64 0))] rfl ?_ ?_
  · simp <;> simp [ieq, ilt, ile]
  cases h
  refine VW.ret ?_
  simp [Post, PostM, PostC, PostC2, Nx, Bk]

theorem i_field_determinant_ok {a0 : Int} {a1 : List (List Int)} {r : Int} (h : i_field_determinant a0 a1 = some r) :
    VCall Try.prog 127 [i64 a0, dM a1] [.sc (i64 r)] := by
  unfold i_field_determinant at h
  refine VCall.enter Try.call127 Try.func127 rfl 111 Try.ntmps127 (by simp) [.tmp 4] rfl ?_
  show VW _ _ _ (mk [(0, .val (i64 a0)), (1, .val (dM a1))]) _
  -- region 0
  refine VW.ws tau_ok Sound.none [some 4] [(0, .val (i64 a0)), (1, .val (dM a1))] rfl ?_ ?_
  · simp <;> simp [ieq, ilt, ile]
  -- region 1
  obtain ⟨v1, hv1, h⟩ := bind_some h
  refine VW.ws tau_ok (Sound.none.add 11 (i_cloneRows_ok hv1) rfl) [some 10, some 11, some 5, some 6] [(0, .val (i64 a0)), (5, .ref 5 [] true (dM v1)), (6, .val (i64 1))] rfl ?_ ?_
  · simp <;> simp [ieq, ilt, ile]
  refine VW.sqc fun K2 hK2 hCK2 => ?_
  -- region 2
  refine VW.ws tau_ok Sound.none [some 12, some 13, some 14] [(0, .val (i64 a0)), (5, .ref 5 [] true (dM v1)), (6, .val (i64 1)), (13, .val (i64 (v1.length : Int))), (14, .val (i64 0))] rfl ?_ ?_
  · simp <;> simp [ieq, ilt, ile]
  obtain ⟨x3, hx3, h⟩ := bind_some h
  refine VW.tlO (fun y5 => [(6, .val (i64 y5))]) x3 (hCK2) ?_ ?_
  · clear hx3
    rintro y5 rfl
    dsimp only at h
    refine hK2 _ ?_
    -- region 19
    refine VW.ws tau_ok Sound.none [some 110, some 4] [(4, .val (i64 y5))] rfl ?_ ?_
    · simp <;> simp [ieq, ilt, ile]
    cases h
    refine VW.ret ?_
    simp [Post, PostM, PostC, PostC2, Nx, Bk]
  refine VW.block ?_
  refine VW.loopF (i_field_determinant_L0 a0 v1) (fun s3 => [(0, .val (i64 a0)), (5, .ref 5 [] true (dM s3.1)), (6, .val (i64 s3.2.1)), (13, .val (i64 (v1.length : Int))), (14, .val (i64 s3.2.2))]) hx3 (Fits.of rfl) ?_
  clear hx3
  intro s3 ox3 hx3o hx3b
  unfold i_field_determinant_L0 at hx3o
  -- region 3
  refine VW.ws tau_ok Sound.none [some 15] [(0, .val (i64 a0)), (5, .ref 5 [] true (dM s3.1)), (6, .val (i64 s3.2.1)), (13, .val (i64 (v1.length : Int))), (14, .val (i64 s3.2.2)), (15, .val (.bool (ilt s3.2.2 (v1.length : Int))))] rfl ?_ ?_
  · simp <;> simp [ieq, ilt, ile]
  refine VW.sqc fun K6 hK6 hCK6 => ?_
  refine VW.cond rfl (fun hb7 => ?_) (fun hb7 => ?_)
  rotate_left
  ·
    replace hb7 : ¬ (s3.2.2 < (v1.length : Int)) := by simpa [ieq, ilt, ile] using hb7
    rw [if_neg hb7] at hx3o
    refine VW.exit ?_
    cases hx3o
    have hq := hx3b _ rfl
    subst hq
    exact ⟨_, rfl, Fits.of rfl⟩
  replace hb7 : s3.2.2 < (v1.length : Int) := by simpa [ieq, ilt, ile] using hb7
  rw [if_pos hb7] at hx3o
  refine VW.skip ?_
  refine hK6 _ ?_
  refine VW.sqc fun K8 hK8 hCK8 => ?_
  refine VW.block ?_
  -- region 4
  refine VW.ws tau_ok Sound.none [some 16, some 7] [(0, .val (i64 a0)), (5, .ref 5 [] true (dM s3.1)), (6, .val (i64 s3.2.1)), (7, .val (i64 s3.2.2)), (13, .val (i64 (v1.length : Int))), (14, .val (i64 s3.2.2))] rfl ?_ ?_
  · simp <;> simp [ieq, ilt, ile]
  -- region 5
  refine VW.ws tau_ok Sound.none [some 17, some 8] [(0, .val (i64 a0)), (5, .ref 5 [] true (dM s3.1)), (6, .val (i64 s3.2.1)), (7, .val (i64 s3.2.2)), (8, .val (i64 s3.2.2)), (13, .val (i64 (v1.length : Int))), (14, .val (i64 s3.2.2))] rfl ?_ ?_
  · simp <;> simp [ieq, ilt, ile]
  refine VW.sqc fun K9 hK9 hCK9 => ?_
  obtain ⟨x10, hx10, hx3o⟩ := bind_some hx3o
  refine VW.tlE [(0, .val (i64 a0)), (5, .ref 5 [] true (dM s3.1)), (6, .val (i64 s3.2.1)), (7, .val (i64 s3.2.2)), (8, .val (i64 x10)), (13, .val (i64 (v1.length : Int))), (14, .val (i64 s3.2.2))] (hCK9) ?_ ?_
  · clear hx10
    refine hK9 _ ?_
    refine VW.sqc fun K18 hK18 hCK18 => ?_
    -- region 8
    refine VW.ws tau_ok Sound.none [some 34, some 35, some 36, some 37] [(0, .val (i64 a0)), (5, .ref 5 [] true (dM s3.1)), (6, .val (i64 s3.2.1)), (7, .val (i64 s3.2.2)), (8, .val (i64 x10)), (13, .val (i64 (v1.length : Int))), (14, .val (i64 s3.2.2)), (37, .val (.bool (ieq x10 (s3.1.length : Int))))] rfl ?_ ?_
    · simp <;> simp [ieq, ilt, ile]
    refine VW.cond rfl (fun hb19 => ?_) (fun hb19 => ?_)
    ·
      replace hb19 : x10 = (s3.1.length : Int) := by simpa [ieq, ilt, ile] using hb19
      rw [if_pos hb19] at hx3o
      -- region 9
      refine VW.ws tau_ok Sound.none [some 4] [(4, .val (i64 0))] rfl ?_ ?_
      · simp <;> simp [ieq, ilt, ile]
      cases hx3o
      have hq := hx3b _ rfl
      subst hq
      dsimp only at h
      cases h
      refine VW.ret ?_
      simp [Post, PostM, PostC, PostC2, Nx, Bk]
    replace hb19 : ¬ (x10 = (s3.1.length : Int)) := by simpa [ieq, ilt, ile] using hb19
    rw [if_neg hb19] at hx3o
    refine VW.skip ?_
    refine hK18 _ ?_
    refine VW.sqc fun K20 hK20 hCK20 => ?_
    -- region 10
    refine VW.ws tau_ok Sound.none [some 38, some 39, some 40] [(0, .val (i64 a0)), (5, .ref 5 [] true (dM s3.1)), (6, .val (i64 s3.2.1)), (7, .val (i64 s3.2.2)), (8, .val (i64 x10)), (13, .val (i64 (v1.length : Int))), (14, .val (i64 s3.2.2)), (40, .val (.bool (!(ieq x10 s3.2.2))))] rfl ?_ ?_
    · simp <;> simp [ieq, ilt, ile]
    obtain ⟨x21, hx21, hx3o⟩ := bind_some hx3o
    refine VW.tlE [(0, .val (i64 a0)), (5, .ref 5 [] true (dM x21.1)), (6, .val (i64 x21.2)), (7, .val (i64 s3.2.2)), (13, .val (i64 (v1.length : Int))), (14, .val (i64 s3.2.2))] (hCK20) ?_ ?_
    · clear hx21
      refine hK20 _ ?_
      -- region 13
      obtain ⟨v28, hv28, hx3o⟩ := bind_some hx3o
      obtain ⟨hv28a, hv28b, hv28c, hv28d⟩ := idx_some hv28
      obtain ⟨v29, hv29, hx3o⟩ := bind_some hx3o
      obtain ⟨hv29a, hv29b, hv29c, hv29d⟩ := idx_some hv29
      obtain ⟨v30, hv30, hx3o⟩ := bind_some hx3o
      refine VW.ws tau_ok (Sound.none.add 69 (i_field_num_ok hv30) rfl) [some 59, some 60, some 61, some 62, some 63, some 64, some 65, some 66, some 67, some 68, some 69, some 6] [(0, .val (i64 a0)), (5, .ref 5 [] true (dM x21.1)), (6, .val (i64 v30)), (7, .val (i64 s3.2.2)), (13, .val (i64 (v1.length : Int))), (14, .val (i64 s3.2.2))] rfl ?_ ?_
      · simp [hv28a, hv28b, hv28c, hv28d, hv29a, hv29b, hv29c, hv29d] <;> simp [ieq, ilt, ile]
      -- region 14
      refine VW.ws tau_ok Sound.none [some 70, some 71, some 9] [(0, .val (i64 a0)), (5, .ref 5 [] true (dM x21.1)), (6, .val (i64 v30)), (7, .val (i64 s3.2.2)), (9, .val (i64 (w64 (s3.2.2 + 1)))), (13, .val (i64 (v1.length : Int))), (14, .val (i64 s3.2.2))] rfl ?_ ?_
      · simp <;> simp [ieq, ilt, ile]
      obtain ⟨x31, hx31, hx3o⟩ := bind_some hx3o
      refine VW.tlE [(0, .val (i64 a0)), (5, .ref 5 [] true (dM x31)), (6, .val (i64 v30)), (13, .val (i64 (v1.length : Int))), (14, .val (i64 s3.2.2))] (hCK8) ?_ ?_
      · clear hx31
        refine hK8 _ ?_
        -- region 18
        refine VW.wr tau_ok Sound.none [some 109, some 14] [(0, .val (i64 a0)), (5, .ref 5 [] true (dM x31)), (6, .val (i64 v30)), (13, .val (i64 (v1.length : Int))), (14, .val (i64 (w64 (s3.2.2 + 1))))] rfl ?_ ?_
        · simp <;> simp [ieq, ilt, ile]
        cases hx3o
        exact ⟨_, rfl, Fits.of rfl⟩
      refine VW.block ?_
      refine VW.loopF (i_field_determinant_L2 a0 s3) (fun s31 => [(0, .val (i64 a0)), (5, .ref 5 [] true (dM s31.1)), (6, .val (i64 v30)), (7, .val (i64 s3.2.2)), (9, .val (i64 s31.2)), (13, .val (i64 (v1.length : Int))), (14, .val (i64 s3.2.2))]) hx31 (Fits.of rfl) ?_
      clear hx31
      intro s31 ox31 hx31o hx31b
      unfold i_field_determinant_L2 at hx31o
      refine VW.sqc fun K33 hK33 hCK33 => ?_
      -- region 15
      refine VW.ws tau_ok Sound.none [some 72, some 73, some 74, some 75] [(0, .val (i64 a0)), (5, .ref 5 [] true (dM s31.1)), (6, .val (i64 v30)), (7, .val (i64 s3.2.2)), (9, .val (i64 s31.2)), (13, .val (i64 (v1.length : Int))), (14, .val (i64 s3.2.2)), (75, .val (.bool (ilt s31.2 (s31.1.length : Int))))] rfl ?_ ?_
      · simp <;> simp [ieq, ilt, ile]
      refine VW.cond rfl (fun hb34 => ?_) (fun hb34 => ?_)
      rotate_left
      ·
        replace hb34 : ¬ (s31.2 < (s31.1.length : Int)) := by simpa [ieq, ilt, ile] using hb34
        rw [if_neg hb34] at hx31o
        refine VW.exit ?_
        cases hx31o
        have hq := hx31b _ rfl
        subst hq
        exact Fits.of rfl
      replace hb34 : s31.2 < (s31.1.length : Int) := by simpa [ieq, ilt, ile] using hb34
      rw [if_pos hb34] at hx31o
      refine VW.skip ?_
      refine hK33 _ ?_
      refine VW.sqc fun K35 hK35 hCK35 => ?_
      refine VW.block ?_
      -- region 17
      obtain ⟨v36, hv36, hx31o⟩ := bind_some hx31o
      obtain ⟨hv36a, hv36b, hv36c, hv36d⟩ := idx_some hv36
      obtain ⟨v37, hv37, hx31o⟩ := bind_some hx31o
      obtain ⟨hv37a, hv37b, hv37c, hv37d⟩ := idx_some hv37
      obtain ⟨v38, hv38, hx31o⟩ := bind_some hx31o
      obtain ⟨hv38a, hv38b, hv38c, hv38d⟩ := idx_some hv38
      obtain ⟨v39, hv39, hx31o⟩ := bind_some hx31o
      obtain ⟨hv39a, hv39b, hv39c, hv39d⟩ := idx_some hv39
      obtain ⟨v40, hv40, hx31o⟩ := bind_some hx31o
      obtain ⟨v41, hv41, hx31o⟩ := bind_some hx31o
      refine VW.wdr tau_ok ((Sound.none.add 105 (i_field_inv_ok hv40) rfl).add 107 (i_field_plus_ok hv41) rfl) try_mixed [some 78, some 79, some 80, some 81, some 82, some 83, some 84, some 85, some 86, some 87, some 88, some 89, some 90, some 91, some 92, some 93, some 94, some 95, some 96, some 97, some 98, some 99, some 100, some 101, some 102, some 103, some 104, some 105, some 106, some 107, some 108, none] [(0, .val (i64 a0)), (5, .ref 5 [] true (dM (s31.1.set s31.2.toNat v41))), (6, .val (i64 v30)), (7, .val (i64 s3.2.2)), (9, .val (i64 s31.2)), (13, .val (i64 (v1.length : Int))), (14, .val (i64 s3.2.2))] 31 rfl (by kernel_rfl) (by rfl) ?_ ?_
      · simp [hv36a, hv36b, hv36c, hv36d, hv37a, hv37b, hv37c, hv37d, hv38a, hv38b, hv38c, hv38d, hv39a, hv39b, hv39c, hv39d] <;> simp [ieq, ilt, ile]
      refine hK35 _ ?_
      -- region 16
      refine VW.wr tau_ok Sound.none [some 76, some 77, some 9] [(0, .val (i64 a0)), (5, .ref 5 [] true (dM (s31.1.set s31.2.toNat v41))), (6, .val (i64 v30)), (7, .val (i64 s3.2.2)), (9, .val (i64 (w64 (s31.2 + 1)))), (13, .val (i64 (v1.length : Int))), (14, .val (i64 s3.2.2))] rfl ?_ ?_
      · simp <;> simp [ieq, ilt, ile]
      cases hx31o
      exact ⟨_, rfl, Fits.of rfl⟩
    refine VW.cond rfl (fun hb23 => ?_) (fun hb23 => ?_)
    rotate_left
    ·
      replace hb23 : ¬ (¬ x10 = s3.2.2) := by simpa [ieq, ilt, ile] using hb23
      rw [if_neg hb23] at hx21
      refine VW.skip ?_
      cases hx21
      exact Fits.of rfl
    replace hb23 : ¬ x10 = s3.2.2 := by simpa [ieq, ilt, ile] using hb23
    rw [if_pos hb23] at hx21
    -- region 11
    obtain ⟨v24, hv24, hx21⟩ := bind_some hx21
    obtain ⟨hv24a, hv24b, hv24c, hv24d⟩ := idx_some hv24
    obtain ⟨v25, hv25, hx21⟩ := bind_some hx21
    obtain ⟨hv25a, hv25b, hv25c, hv25d⟩ := idx_some hv25
    have hv24z := hv24b
    try simp [hv24a] at hv24z
    have hv25z := hv25b
    try simp [hv25a] at hv25z
    obtain ⟨v26, hv26, hx21⟩ := bind_some hx21
    obtain ⟨hv26a, hv26b, hv26c, hv26d⟩ := idx_some hv26
    have hv26s := hv26b
    try simp at hv26s
    refine VW.wds tau_ok Sound.none try_mixed [some 41, some 42, some 43, some 44, some 45, some 46, some 47, some 48, some 49, some 50, some 51, some 52, some 53, none, some 54, none] [(0, .val (i64 a0)), (5, .ref 5 [] true (dM ((s3.1.set s3.2.2.toNat v24).set x10.toNat v25))), (6, .val (i64 s3.2.1)), (7, .val (i64 s3.2.2)), (13, .val (i64 (v1.length : Int))), (14, .val (i64 s3.2.2))] 13 rfl (by kernel_rfl) (by rfl) ?_ ?_
    · simp [hv24a, hv24b, hv24c, hv24d, hv25a, hv25b, hv25c, hv25d, hv24z, hv25z, hv26a, hv26b, hv26c, hv26d, hv26s] <;> simp [ieq, ilt, ile]
    -- region 12
    obtain ⟨v27, hv27, hx21⟩ := bind_some hx21
    refine VW.wr tau_ok (Sound.none.add 58 (i_field_num_ok hv27) rfl) [some 55, some 56, some 57, some 58, some 6] [(0, .val (i64 a0)), (5, .ref 5 [] true (dM ((s3.1.set s3.2.2.toNat v24).set x10.toNat v25))), (6, .val (i64 v27)), (7, .val (i64 s3.2.2)), (13, .val (i64 (v1.length : Int))), (14, .val (i64 s3.2.2))] rfl ?_ ?_
    · simp <;> simp [ieq, ilt, ile]
    cases hx21
    exact Fits.of rfl
  refine VW.block ?_
  refine VW.loopF (i_field_determinant_L1 s3) (fun s10 => [(0, .val (i64 a0)), (5, .ref 5 [] true (dM s3.1)), (6, .val (i64 s3.2.1)), (7, .val (i64 s3.2.2)), (8, .val (i64 s10)), (13, .val (i64 (v1.length : Int))), (14, .val (i64 s3.2.2))]) hx10 (Fits.of rfl) ?_
  clear hx10
  intro s10 ox10 hx10o hx10b
  unfold i_field_determinant_L1 at hx10o
  refine VW.sqc fun K12 hK12 hCK12 => ?_
  -- region 6
  obtain ⟨x16, hx16, hx10o⟩ := bind_some hx10o
  refine VW.cut [(0, .val (i64 a0)), (5, .ref 5 [] true (dM s3.1)), (6, .val (i64 s3.2.1)), (7, .val (i64 s3.2.2)), (8, .val (i64 s10)), (13, .val (i64 (v1.length : Int))), (14, .val (i64 s3.2.2)), (31, .val (.bool x16))] ?_ fun hy => ?_
  rotate_left
  · clear hx10o
    by_cases hp13 : s10 < (s3.1.length : Int)
    · rw [if_pos hp13] at hx16
      have hp13b : ilt s10 (s3.1.length : Int) = true := by simpa [ieq, ilt, ile] using hp13
      have hp13s := hp13b
      try simp at hp13s
      obtain ⟨v14, hv14, hx16⟩ := bind_some hx16
      obtain ⟨hv14a, hv14b, hv14c, hv14d⟩ := idx_some hv14
      obtain ⟨v15, hv15, hx16⟩ := bind_some hx16
      obtain ⟨hv15a, hv15b, hv15c, hv15d⟩ := idx_some hv15
      cases hx16
      refine VW.ws tau_ok Sound.none [some 18, some 19, some 20, some 21, some 22, some 23, some 24, some 25, some 26, some 27, some 28, some 29, some 30, some 31] _ rfl ?_ hy
      simp [hp13b, hp13s, hv14a, hv14b, hv14c, hv14d, hv15a, hv15b, hv15c, hv15d] <;> simp [ieq, ilt, ile]
    · rw [if_neg hp13] at hx16
      have hp13b : ilt s10 (s3.1.length : Int) = false := by simpa [ieq, ilt, ile] using hp13
      have hp13s := hp13b
      try simp at hp13s
      cases hx16
      refine VW.ws tau_ok Sound.none [some 18, some 19, some 20, some 21, some 22, some 23, some 24, some 25, some 26, some 27, some 28, some 29, some 30, some 31] _ rfl ?_ hy
      simp [hp13b, hp13s] <;> simp [ieq, ilt, ile]
  refine VW.cond rfl (fun hb17 => ?_) (fun hb17 => ?_)
  rotate_left
  ·
    replace hb17 : ¬ (x16 = true) := by simpa [ieq, ilt, ile] using hb17
    rw [if_neg hb17] at hx10o
    refine VW.exit ?_
    cases hx10o
    have hq := hx10b _ rfl
    subst hq
    exact Fits.of rfl
  replace hb17 : x16 = true := by simpa [ieq, ilt, ile] using hb17
  rw [if_pos hb17] at hx10o
  refine VW.skip ?_
  refine hK12 _ ?_
  refine VW.block ?_
  -- region 7
  refine VW.wr tau_ok Sound.none [some 32, some 33, some 8] [(0, .val (i64 a0)), (5, .ref 5 [] true (dM s3.1)), (6, .val (i64 s3.2.1)), (7, .val (i64 s3.2.2)), (8, .val (i64 (w64 (s10 + 1)))), (13, .val (i64 (v1.length : Int))), (14, .val (i64 s3.2.2))] rfl ?_ ?_
  · simp <;> simp [ieq, ilt, ile]
  cases hx10o
  exact ⟨_, rfl, Fits.of rfl⟩

theorem i_Determinant_ok {a0 : Int} {a1 : List (List Int)} {r : Int × Int} (h : i_Determinant a0 a1 = some r) :
    VCall Try.prog 50 [i64 a0, dM a1] [.sc (i64 r.1), .sc (i64 r.2)] := by
  unfold i_Determinant at h
  refine VCall.enter Try.call50 Try.func50 rfl 16 Try.ntmps50 (by simp) [.tmp 4, .tmp 5] rfl ?_
  show VW _ _ _ (mk [(0, .val (i64 a0)), (1, .val (dM a1))]) _
  -- region 0
  refine VW.ws tau_ok Sound.none [some 4, some 5] [(0, .val (i64 a0)), (1, .val (dM a1))] rfl ?_ ?_
  · simp <;> simp [ieq, ilt, ile]
  refine VW.sqc fun K1 hK1 hCK1 => ?_
  -- region 1
  obtain ⟨v2, hv2, h⟩ := bind_some h
  refine VW.ws tau_ok (Sound.none.add 9 (i_checkSquare_ok hv2) rfl) [some 7, some 8, some 9, some 6] [(0, .val (i64 a0)), (1, .val (dM a1)), (6, .val (i64 v2))] rfl ?_ ?_
  · simp <;> simp [ieq, ilt, ile]
  -- region 2
  refine VW.ws tau_ok Sound.none [some 10, some 11] [(0, .val (i64 a0)), (1, .val (dM a1)), (6, .val (i64 v2)), (11, .val (.bool (!(ieq v2 0))))] rfl ?_ ?_
  · simp <;> simp [ieq, ilt, ile]
  refine VW.cond rfl (fun hb3 => ?_) (fun hb3 => ?_)
  ·
    replace hb3 : ¬ v2 = 0 := by simpa [ieq, ilt, ile] using hb3
    rw [if_pos hb3] at h
    -- region 3
    refine VW.ws tau_ok Sound.none [some 12, some 4, some 5] [(4, .val (i64 0)), (5, .val (i64 v2))] rfl ?_ ?_
    · simp <;> simp [ieq, ilt, ile]
    cases h
    refine VW.ret ?_
    simp [Post, PostM, PostC, PostC2, Nx, Bk]
  replace hb3 : ¬ (¬ v2 = 0) := by simpa [ieq, ilt, ile] using hb3
  rw [if_neg hb3] at h
  refine VW.skip ?_
  refine hK1 _ ?_
  -- region 4
  obtain ⟨v4, hv4, h⟩ := bind_some h
  refine VW.ws tau_ok (Sound.none.add 15 (i_field_determinant_ok hv4) rfl) [some 13, some 14, some 15, some 4, some 5] [(4, .val (i64 v4)), (5, .val (i64 0))] rfl ?_ ?_
  · simp <;> simp [ieq, ilt, ile]
  cases h
  refine VW.ret ?_
  simp [Post, PostM, PostC, PostC2, Nx, Bk]

theorem l_mod5_ok {a0 : Int} {a1 : Int} {r : Int} (h : l_mod5 a0 a1 = some r) :
    VCall Try.prog 51 [i64 a0, i64 a1] [.sc (i64 r)] := by
  unfold l_mod5 at h
  refine VCall.enter Try.call51 Try.func51 rfl 12 Try.ntmps51 (by simp) [.tmp 4] rfl ?_
  show VW _ _ _ (mk [(0, .val (i64 a0)), (1, .val (i64 a1))]) _
  -- region 0
  refine VW.ws tau_ok Sound.none [some 4] [(0, .val (i64 a0)), (1, .val (i64 a1))] rfl ?_ ?_
  · simp <;> simp [ieq, ilt, ile]
  -- region 1
  obtain ⟨hc1, h⟩ := chk_some h
  have hc1s := hc1
  try simp at hc1s
  obtain ⟨hc2, h⟩ := chk_some h
  have hc2s := hc2
  try simp at hc2s
  refine VW.ws tau_ok Sound.none [some 5, some 6, some 7, some 8, some 9, some 10, some 11, some 4] [(4, .val (i64 ((w64 ((a1.tmod a0) + a0)).tmod a0)))] rfl ?_ ?_
  · simp [hc1, hc1s, hc2, hc2s] <;> simp [ieq, ilt, ile]
  cases h
  refine VW.ret ?_
  simp [Post, PostM, PostC, PostC2, Nx, Bk]

set_option maxHeartbeats 4000000 in
theorem l_FnMatrixProducts_ok {a0 : List Int} {r : Bool} (h : l_FnMatrixProducts a0 = some r) :
    VCall Try.prog 6 [.list (a0.map (D.int .u8))] [.sc (.bool r)] := by
  unfold l_FnMatrixProducts at h
  refine VCall.enter Try.call6 Try.func6 rfl 290 Try.ntmps6 (by simp) [.tmp 2] rfl ?_
  show VW _ _ _ (mk [(0, .val (.list (a0.map (D.int .u8))))]) _
  -- region 0
  refine VW.ws tau_ok Sound.none [some 2] [(0, .val (.list (a0.map (D.int .u8))))] rfl ?_ ?_
  · simp <;> simp [ieq, ilt, ile]
  refine VW.sqc fun K1 hK1 hCK1 => ?_
  -- region 1
  obtain ⟨v2, hv2, h⟩ := bind_some h
  refine VW.ws tau_ok (Sound.none.add 42 (l_big_ok hv2) rfl) [some 41, some 42] [(0, .val (.list (a0.map (D.int .u8)))), (42, .val (.bool v2))] rfl ?_ ?_
  · simp <;> simp [ieq, ilt, ile]
  refine VW.cond rfl (fun hb3 => ?_) (fun hb3 => ?_)
  ·
    replace hb3 : v2 = true := by simpa [ieq, ilt, ile] using hb3
    rw [if_pos hb3] at h
    -- region 2
    refine VW.ws tau_ok Sound.none [some 2] [(2, .val (.bool true))] rfl ?_ ?_
    · simp <;> simp [ieq, ilt, ile]
    cases h
    refine VW.ret ?_
    simp [Post, PostM, PostC, PostC2, Nx, Bk]
  replace hb3 : ¬ (v2 = true) := by simpa [ieq, ilt, ile] using hb3
  rw [if_neg hb3] at h
  refine VW.skip ?_
  refine hK1 _ ?_
  -- region 3
  obtain ⟨v4, hv4, h⟩ := bind_some h
  refine VW.ws tau_ok (Sound.none.add 45 (s_DrawMultiplyMatrices_ok hv4) rfl) [some 44, some 45, some 43, some 46, some 47, some 48, some 3, some 4, some 5] [(0, .val (.list (a0.map (D.int .u8)))), (3, .val (i64 v4.1)), (4, .val (dM v4.2.1)), (5, .val (dM v4.2.2))] rfl ?_ ?_
  · simp <;> simp [ieq, ilt, ile]
  -- region 4
  obtain ⟨v5, hv5, h⟩ := bind_some h
  refine VW.ws tau_ok (Sound.none.add 53 (i_MultiplyMatrices_ok hv5) rfl) [some 50, some 51, some 52, some 53, some 49, some 54, some 55, some 6, some 7] [(0, .val (.list (a0.map (D.int .u8)))), (3, .val (i64 v4.1)), (4, .val (dM v4.2.1)), (5, .val (dM v4.2.2)), (6, .ref 6 [] true (dM v5.1)), (7, .val (i64 v5.2))] rfl ?_ ?_
  · simp <;> simp [ieq, ilt, ile]
  -- region 5
  obtain ⟨v6, hv6, h⟩ := bind_some h
  refine VW.ws tau_ok (Sound.none.add 60 (s_MultiplyMatrices_ok hv6) rfl) [some 57, some 58, some 59, some 60, some 56, some 61, some 62, some 8, some 9] [(0, .val (.list (a0.map (D.int .u8)))), (3, .val (i64 v4.1)), (4, .val (dM v4.2.1)), (5, .val (dM v4.2.2)), (6, .ref 6 [] true (dM v5.1)), (7, .val (i64 v5.2)), (8, .ref 8 [] true (dM v6.1)), (9, .val (i64 v6.2))] rfl ?_ ?_
  · simp <;> simp [ieq, ilt, ile]
  refine VW.sqc fun K7 hK7 hCK7 => ?_
  -- region 6
  obtain ⟨x13, hx13, h⟩ := bind_some h
  refine VW.cut [(0, .val (.list (a0.map (D.int .u8)))), (3, .val (i64 v4.1)), (4, .val (dM v4.2.1)), (5, .val (dM v4.2.2)), (6, .ref 6 [] true (dM v5.1)), (7, .val (i64 v5.2)), (80, .val (.bool x13))] ?_ fun hy => ?_
  rotate_left
  · clear h
    by_cases hp8 : ¬ v5.2 = v6.2
    · rw [if_pos hp8] at hx13
      have hp8b : ieq v5.2 v6.2 = false := by simpa [ieq, ilt, ile] using hp8
      have hp8s := hp8b
      try simp at hp8s
      cases hx13
      refine VW.ws tau_ok Sound.none [some 63, some 64, some 65, some 66, some 67, some 68, some 69, some 70, some 71, some 72, some 73, some 74, some 75, some 76, some 77, some 78, some 79, some 80] _ rfl ?_ hy
      simp [hp8b, hp8s] <;> simp [ieq, ilt, ile]
    · rw [if_neg hp8] at hx13
      have hp8b : ieq v5.2 v6.2 = true := by simpa [ieq, ilt, ile] using hp8
      have hp8s := hp8b
      try simp at hp8s
      obtain ⟨v9, hv9, hx13⟩ := bind_some hx13
      by_cases hp10 : v9 = false
      · rw [if_pos hp10] at hx13
        have hp10b : v9 = false := by simpa [ieq, ilt, ile] using hp10
        have hp10s := hp10b
        try simp at hp10s
        cases hx13
        refine VW.ws tau_ok (Sound.none.add 69 (l_likeRows5_ok hv9) rfl) [some 63, some 64, some 65, some 66, some 67, some 68, some 69, some 70, some 71, some 72, some 73, some 74, some 75, some 76, some 77, some 78, some 79, some 80] _ rfl ?_ hy
        simp [hp8b, hp8s, hp10b, hp10s] <;> simp [ieq, ilt, ile]
      · rw [if_neg hp10] at hx13
        have hp10b : v9 = true := by simpa [ieq, ilt, ile] using hp10
        have hp10s := hp10b
        try simp at hp10s
        obtain ⟨v11, hv11, hx13⟩ := bind_some hx13
        obtain ⟨v12, hv12, hx13⟩ := bind_some hx13
        cases hx13
        refine VW.ws tau_ok (((Sound.none.add 69 (l_likeRows5_ok hv9) rfl).add 75 (i_IsMatrix_ok hv11) rfl).add 78 (s_IsMatrix_ok hv12) rfl) [some 63, some 64, some 65, some 66, some 67, some 68, some 69, some 70, some 71, some 72, some 73, some 74, some 75, some 76, some 77, some 78, some 79, some 80] _ rfl ?_ hy
        simp [hp8b, hp8s, hp10b, hp10s] <;> simp [ieq, ilt, ile]
  refine VW.cond rfl (fun hb14 => ?_) (fun hb14 => ?_)
  ·
    replace hb14 : x13 = true := by simpa [ieq, ilt, ile] using hb14
    rw [if_pos hb14] at h
    -- region 7
    refine VW.ws tau_ok Sound.none [some 2] [(2, .val (.bool false))] rfl ?_ ?_
    · simp <;> simp [ieq, ilt, ile]
    cases h
    refine VW.ret ?_
    simp [Post, PostM, PostC, PostC2, Nx, Bk]
  replace hb14 : ¬ (x13 = true) := by simpa [ieq, ilt, ile] using hb14
  rw [if_neg hb14] at h
  refine VW.skip ?_
  refine hK7 _ ?_
  refine VW.sqc fun K15 hK15 hCK15 => ?_
  -- region 8
  refine VW.ws tau_ok Sound.none [some 81, some 82] [(0, .val (.list (a0.map (D.int .u8)))), (3, .val (i64 v4.1)), (4, .val (dM v4.2.1)), (5, .val (dM v4.2.2)), (6, .ref 6 [] true (dM v5.1)), (82, .val (.bool (!(ieq v5.2 0))))] rfl ?_ ?_
  · simp <;> simp [ieq, ilt, ile]
  refine VW.cond rfl (fun hb16 => ?_) (fun hb16 => ?_)
  ·
    replace hb16 : ¬ v5.2 = 0 := by simpa [ieq, ilt, ile] using hb16
    rw [if_pos hb16] at h
    -- region 9
    refine VW.ws tau_ok Sound.none [some 2] [(2, .val (.bool true))] rfl ?_ ?_
    · simp <;> simp [ieq, ilt, ile]
    cases h
    refine VW.ret ?_
    simp [Post, PostM, PostC, PostC2, Nx, Bk]
  replace hb16 : ¬ (¬ v5.2 = 0) := by simpa [ieq, ilt, ile] using hb16
  rw [if_neg hb16] at h
  refine VW.skip ?_
  refine hK15 _ ?_
  -- region 10
  obtain ⟨v17, hv17, h⟩ := bind_some h
  refine VW.ws tau_ok (Sound.none.add 84 (l_roll_ok hv17) rfl) [some 83, some 84, some 10] [(3, .val (i64 v4.1)), (4, .val (dM v4.2.1)), (5, .val (dM v4.2.2)), (6, .ref 6 [] true (dM v5.1)), (10, .ref 10 [] false (.ptr [.list (v17.1.map (D.int .u8)), i64 v17.2.1, .int .u64 v17.2.2]))] rfl ?_ ?_
  · simp <;> simp [ieq, ilt, ile]
  -- region 11
  obtain ⟨v18, hv18, h⟩ := bind_some h
  obtain ⟨hv18a, hv18b, hv18c, hv18d⟩ := idx_some hv18
  replace hv18b : 0 < v4.2.2.length := hv18b
  replace hv18c : v4.2.2[0]? = some v18 := hv18c
  replace hv18d : ∀ h, v4.2.2[0]'h = v18 := hv18d
  obtain ⟨v19, hv19, h⟩ := bind_some h
  obtain ⟨v20, hv20, h⟩ := bind_some h
  refine VW.wxs tau_ok ((Sound.none.ptrc 91 (g_p_laws_dice_below_ok hv19)).ptrc 94 (l_matrix5_ok hv20)) try_mixed [some 85, some 86, some 87, some 88, some 89, some 90, some 91, some 92, some 93, some 94, some 11] [(3, .val (i64 v4.1)), (4, .val (dM v4.2.1)), (5, .val (dM v4.2.2)), (6, .ref 6 [] true (dM v5.1)), (10, .ref 10 [] false (.ptr [.list (v20.2.1.map (D.int .u8)), i64 v20.2.2.1, .int .u64 v20.2.2.2])), (11, .ref 11 [] true (dM v20.1))] [0, 0, 1, 1, 1, 0, 2, 0, 0, 3, 3] [[10], [5], [86], [87], [88], [10], [90], [91], [3], [85, 89, 92, 93], [94]] [10] rfl rfl (by kernel_rfl) ?_ ?_
  · simp [hv18a, hv18b, hv18c, hv18d] <;> simp [ieq, ilt, ile]
  -- region 12
  obtain ⟨v21, hv21, h⟩ := bind_some h
  refine VW.ws tau_ok (Sound.none.add 99 (i_MultiplyMatrices_ok hv21) rfl) [some 96, some 97, some 98, some 99, some 95, some 100, some 101, some 12, some 13] [(3, .val (i64 v4.1)), (4, .val (dM v4.2.1)), (5, .val (dM v4.2.2)), (6, .ref 6 [] true (dM v5.1)), (10, .ref 10 [] false (.ptr [.list (v20.2.1.map (D.int .u8)), i64 v20.2.2.1, .int .u64 v20.2.2.2])), (11, .ref 11 [] true (dM v20.1)), (12, .ref 12 [] true (dM v21.1)), (13, .val (i64 v21.2))] rfl ?_ ?_
  · simp <;> simp [ieq, ilt, ile]
  -- region 13
  obtain ⟨v22, hv22, h⟩ := bind_some h
  refine VW.ws tau_ok (Sound.none.add 106 (i_MultiplyMatrices_ok hv22) rfl) [some 103, some 104, some 105, some 106, some 102, some 107, some 108, some 14, some 15] [(3, .val (i64 v4.1)), (4, .val (dM v4.2.1)), (5, .val (dM v4.2.2)), (6, .ref 6 [] true (dM v5.1)), (10, .ref 10 [] false (.ptr [.list (v20.2.1.map (D.int .u8)), i64 v20.2.2.1, .int .u64 v20.2.2.2])), (12, .ref 12 [] true (dM v21.1)), (13, .val (i64 v21.2)), (14, .ref 14 [] true (dM v22.1)), (15, .val (i64 v22.2))] rfl ?_ ?_
  · simp <;> simp [ieq, ilt, ile]
  -- region 14
  obtain ⟨v23, hv23, h⟩ := bind_some h
  refine VW.ws tau_ok (Sound.none.add 113 (i_MultiplyMatrices_ok hv23) rfl) [some 110, some 111, some 112, some 113, some 109, some 114, some 115, some 16, some 17] [(3, .val (i64 v4.1)), (4, .val (dM v4.2.1)), (5, .val (dM v4.2.2)), (6, .ref 6 [] true (dM v5.1)), (10, .ref 10 [] false (.ptr [.list (v20.2.1.map (D.int .u8)), i64 v20.2.2.1, .int .u64 v20.2.2.2])), (12, .ref 12 [] true (dM v21.1)), (13, .val (i64 v21.2)), (15, .val (i64 v22.2)), (16, .ref 16 [] true (dM v23.1)), (17, .val (i64 v23.2))] rfl ?_ ?_
  · simp <;> simp [ieq, ilt, ile]
  -- region 15
  obtain ⟨v24, hv24, h⟩ := bind_some h
  refine VW.ws tau_ok (Sound.none.add 119 (i_TransposeMatrix_ok hv24) rfl) [some 117, some 118, some 119, some 116, some 120, some 121, some 18, some 19] [(3, .val (i64 v4.1)), (4, .val (dM v4.2.1)), (5, .val (dM v4.2.2)), (6, .ref 6 [] true (dM v5.1)), (10, .ref 10 [] false (.ptr [.list (v20.2.1.map (D.int .u8)), i64 v20.2.2.1, .int .u64 v20.2.2.2])), (12, .ref 12 [] true (dM v21.1)), (13, .val (i64 v21.2)), (15, .val (i64 v22.2)), (16, .ref 16 [] true (dM v23.1)), (17, .val (i64 v23.2)), (18, .ref 18 [] true (dM v24.1)), (19, .val (i64 v24.2))] rfl ?_ ?_
  · simp <;> simp [ieq, ilt, ile]
  -- region 16
  obtain ⟨v25, hv25, h⟩ := bind_some h
  refine VW.ws tau_ok (Sound.none.add 125 (i_TransposeMatrix_ok hv25) rfl) [some 123, some 124, some 125, some 122, some 126, some 127, some 20, some 21] [(3, .val (i64 v4.1)), (4, .val (dM v4.2.1)), (5, .val (dM v4.2.2)), (6, .ref 6 [] true (dM v5.1)), (10, .ref 10 [] false (.ptr [.list (v20.2.1.map (D.int .u8)), i64 v20.2.2.1, .int .u64 v20.2.2.2])), (12, .ref 12 [] true (dM v21.1)), (13, .val (i64 v21.2)), (15, .val (i64 v22.2)), (16, .ref 16 [] true (dM v23.1)), (17, .val (i64 v23.2)), (18, .ref 18 [] true (dM v24.1)), (19, .val (i64 v24.2)), (20, .ref 20 [] true (dM v25.1)), (21, .val (i64 v25.2))] rfl ?_ ?_
  · simp <;> simp [ieq, ilt, ile]
  -- region 17
  obtain ⟨v26, hv26, h⟩ := bind_some h
  refine VW.ws tau_ok (Sound.none.add 131 (i_TransposeMatrix_ok hv26) rfl) [some 129, some 130, some 131, some 128, some 132, some 133, some 22, some 23] [(3, .val (i64 v4.1)), (4, .val (dM v4.2.1)), (5, .val (dM v4.2.2)), (6, .ref 6 [] true (dM v5.1)), (10, .ref 10 [] false (.ptr [.list (v20.2.1.map (D.int .u8)), i64 v20.2.2.1, .int .u64 v20.2.2.2])), (12, .ref 12 [] true (dM v21.1)), (13, .val (i64 v21.2)), (15, .val (i64 v22.2)), (16, .ref 16 [] true (dM v23.1)), (17, .val (i64 v23.2)), (18, .ref 18 [] true (dM v24.1)), (19, .val (i64 v24.2)), (20, .ref 20 [] true (dM v25.1)), (21, .val (i64 v25.2)), (22, .ref 22 [] true (dM v26.1)), (23, .val (i64 v26.2))] rfl ?_ ?_
  · simp <;> simp [ieq, ilt, ile]
  -- region 18
  obtain ⟨v27, hv27, h⟩ := bind_some h
  refine VW.ws tau_ok (Sound.none.add 138 (i_MultiplyMatrices_ok hv27) rfl) [some 135, some 136, some 137, some 138, some 134, some 139, some 140, some 24, some 25] [(3, .val (i64 v4.1)), (4, .val (dM v4.2.1)), (5, .val (dM v4.2.2)), (6, .ref 6 [] true (dM v5.1)), (10, .ref 10 [] false (.ptr [.list (v20.2.1.map (D.int .u8)), i64 v20.2.2.1, .int .u64 v20.2.2.2])), (12, .ref 12 [] true (dM v21.1)), (13, .val (i64 v21.2)), (15, .val (i64 v22.2)), (16, .ref 16 [] true (dM v23.1)), (17, .val (i64 v23.2)), (19, .val (i64 v24.2)), (21, .val (i64 v25.2)), (22, .ref 22 [] true (dM v26.1)), (23, .val (i64 v26.2)), (24, .ref 24 [] true (dM v27.1)), (25, .val (i64 v27.2))] rfl ?_ ?_
  · simp <;> simp [ieq, ilt, ile]
  -- region 19
  obtain ⟨v28, hv28, h⟩ := bind_some h
  refine VW.ws tau_ok (Sound.none.add 144 (i_RankOf_ok hv28) rfl) [some 142, some 143, some 144, some 141, some 145, some 146, some 26, some 27] [(3, .val (i64 v4.1)), (4, .val (dM v4.2.1)), (5, .val (dM v4.2.2)), (6, .ref 6 [] true (dM v5.1)), (10, .ref 10 [] false (.ptr [.list (v20.2.1.map (D.int .u8)), i64 v20.2.2.1, .int .u64 v20.2.2.2])), (12, .ref 12 [] true (dM v21.1)), (13, .val (i64 v21.2)), (15, .val (i64 v22.2)), (16, .ref 16 [] true (dM v23.1)), (17, .val (i64 v23.2)), (19, .val (i64 v24.2)), (21, .val (i64 v25.2)), (22, .ref 22 [] true (dM v26.1)), (23, .val (i64 v26.2)), (24, .ref 24 [] true (dM v27.1)), (25, .val (i64 v27.2)), (26, .val (i64 v28.1)), (27, .val (i64 v28.2))] rfl ?_ ?_
  · simp <;> simp [ieq, ilt, ile]
  -- region 20
  obtain ⟨v29, hv29, h⟩ := bind_some h
  refine VW.ws tau_ok (Sound.none.add 150 (i_RankOf_ok hv29) rfl) [some 148, some 149, some 150, some 147, some 151, some 152, some 28, some 29] [(3, .val (i64 v4.1)), (4, .val (dM v4.2.1)), (6, .ref 6 [] true (dM v5.1)), (10, .ref 10 [] false (.ptr [.list (v20.2.1.map (D.int .u8)), i64 v20.2.2.1, .int .u64 v20.2.2.2])), (12, .ref 12 [] true (dM v21.1)), (13, .val (i64 v21.2)), (15, .val (i64 v22.2)), (16, .ref 16 [] true (dM v23.1)), (17, .val (i64 v23.2)), (19, .val (i64 v24.2)), (21, .val (i64 v25.2)), (22, .ref 22 [] true (dM v26.1)), (23, .val (i64 v26.2)), (24, .ref 24 [] true (dM v27.1)), (25, .val (i64 v27.2)), (26, .val (i64 v28.1)), (27, .val (i64 v28.2)), (28, .val (i64 v29.1)), (29, .val (i64 v29.2))] rfl ?_ ?_
  · simp <;> simp [ieq, ilt, ile]
  -- region 21
  obtain ⟨v30, hv30, h⟩ := bind_some h
  refine VW.ws tau_ok (Sound.none.add 156 (i_RankOf_ok hv30) rfl) [some 154, some 155, some 156, some 153, some 157, some 158, some 30, some 31] [(3, .val (i64 v4.1)), (4, .val (dM v4.2.1)), (10, .ref 10 [] false (.ptr [.list (v20.2.1.map (D.int .u8)), i64 v20.2.2.1, .int .u64 v20.2.2.2])), (12, .ref 12 [] true (dM v21.1)), (13, .val (i64 v21.2)), (15, .val (i64 v22.2)), (16, .ref 16 [] true (dM v23.1)), (17, .val (i64 v23.2)), (19, .val (i64 v24.2)), (21, .val (i64 v25.2)), (22, .ref 22 [] true (dM v26.1)), (23, .val (i64 v26.2)), (24, .ref 24 [] true (dM v27.1)), (25, .val (i64 v27.2)), (26, .val (i64 v28.1)), (27, .val (i64 v28.2)), (28, .val (i64 v29.1)), (29, .val (i64 v29.2)), (30, .val (i64 v30.1)), (31, .val (i64 v30.2))] rfl ?_ ?_
  · simp <;> simp [ieq, ilt, ile]
  refine VW.sqc fun K31 hK31 hCK31 => ?_
  -- region 22
  obtain ⟨x47, hx47, h⟩ := bind_some h
  refine VW.cut [(3, .val (i64 v4.1)), (4, .val (dM v4.2.1)), (10, .ref 10 [] false (.ptr [.list (v20.2.1.map (D.int .u8)), i64 v20.2.2.1, .int .u64 v20.2.2.2])), (26, .val (i64 v28.1)), (218, .val (.bool x47))] ?_ fun hy => ?_
  rotate_left
  · clear h
    by_cases hp32 : ¬ v21.2 = 0
    · rw [if_pos hp32] at hx47
      have hp32b : ieq v21.2 0 = false := by simpa [ieq, ilt, ile] using hp32
      have hp32s := hp32b
      try simp at hp32s
      cases hx47
      refine VW.ws tau_ok Sound.none [some 159, some 160, some 161, some 162, some 163, some 164, some 165, some 166, some 167, some 168, some 169, some 170, some 171, some 172, some 173, some 174, some 175, some 176, some 177, some 178, some 179, some 180, some 181, some 182, some 183, some 184, some 185, some 186, some 187, some 188, some 189, some 190, some 191, some 192, some 193, some 194, some 195, some 196, some 197, some 198, some 199, some 200, some 201, some 202, some 203, some 204, some 205, some 206, some 207, some 208, some 209, some 210, some 211, some 212, some 213, some 214, some 215, some 216, some 217, some 218] _ rfl ?_ hy
      simp [hp32b, hp32s] <;> simp [ieq, ilt, ile]
    · rw [if_neg hp32] at hx47
      have hp32b : ieq v21.2 0 = true := by simpa [ieq, ilt, ile] using hp32
      have hp32s := hp32b
      try simp at hp32s
      by_cases hp33 : ¬ v22.2 = 0
      · rw [if_pos hp33] at hx47
        have hp33b : ieq v22.2 0 = false := by simpa [ieq, ilt, ile] using hp33
        have hp33s := hp33b
        try simp at hp33s
        cases hx47
        refine VW.ws tau_ok Sound.none [some 159, some 160, some 161, some 162, some 163, some 164, some 165, some 166, some 167, some 168, some 169, some 170, some 171, some 172, some 173, some 174, some 175, some 176, some 177, some 178, some 179, some 180, some 181, some 182, some 183, some 184, some 185, some 186, some 187, some 188, some 189, some 190, some 191, some 192, some 193, some 194, some 195, some 196, some 197, some 198, some 199, some 200, some 201, some 202, some 203, some 204, some 205, some 206, some 207, some 208, some 209, some 210, some 211, some 212, some 213, some 214, some 215, some 216, some 217, some 218] _ rfl ?_ hy
        simp [hp32b, hp32s, hp33b, hp33s] <;> simp [ieq, ilt, ile]
      · rw [if_neg hp33] at hx47
        have hp33b : ieq v22.2 0 = true := by simpa [ieq, ilt, ile] using hp33
        have hp33s := hp33b
        try simp at hp33s
        by_cases hp34 : ¬ v23.2 = 0
        · rw [if_pos hp34] at hx47
          have hp34b : ieq v23.2 0 = false := by simpa [ieq, ilt, ile] using hp34
          have hp34s := hp34b
          try simp at hp34s
          cases hx47
          refine VW.ws tau_ok Sound.none [some 159, some 160, some 161, some 162, some 163, some 164, some 165, some 166, some 167, some 168, some 169, some 170, some 171, some 172, some 173, some 174, some 175, some 176, some 177, some 178, some 179, some 180, some 181, some 182, some 183, some 184, some 185, some 186, some 187, some 188, some 189, some 190, some 191, some 192, some 193, some 194, some 195, some 196, some 197, some 198, some 199, some 200, some 201, some 202, some 203, some 204, some 205, some 206, some 207, some 208, some 209, some 210, some 211, some 212, some 213, some 214, some 215, some 216, some 217, some 218] _ rfl ?_ hy
          simp [hp32b, hp32s, hp33b, hp33s, hp34b, hp34s] <;> simp [ieq, ilt, ile]
        · rw [if_neg hp34] at hx47
          have hp34b : ieq v23.2 0 = true := by simpa [ieq, ilt, ile] using hp34
          have hp34s := hp34b
          try simp at hp34s
          by_cases hp35 : ¬ v24.2 = 0
          · rw [if_pos hp35] at hx47
            have hp35b : ieq v24.2 0 = false := by simpa [ieq, ilt, ile] using hp35
            have hp35s := hp35b
            try simp at hp35s
            cases hx47
            refine VW.ws tau_ok Sound.none [some 159, some 160, some 161, some 162, some 163, some 164, some 165, some 166, some 167, some 168, some 169, some 170, some 171, some 172, some 173, some 174, some 175, some 176, some 177, some 178, some 179, some 180, some 181, some 182, some 183, some 184, some 185, some 186, some 187, some 188, some 189, some 190, some 191, some 192, some 193, some 194, some 195, some 196, some 197, some 198, some 199, some 200, some 201, some 202, some 203, some 204, some 205, some 206, some 207, some 208, some 209, some 210, some 211, some 212, some 213, some 214, some 215, some 216, some 217, some 218] _ rfl ?_ hy
            simp [hp32b, hp32s, hp33b, hp33s, hp34b, hp34s, hp35b, hp35s] <;> simp [ieq, ilt, ile]
          · rw [if_neg hp35] at hx47
            have hp35b : ieq v24.2 0 = true := by simpa [ieq, ilt, ile] using hp35
            have hp35s := hp35b
            try simp at hp35s
            by_cases hp36 : ¬ v25.2 = 0
            · rw [if_pos hp36] at hx47
              have hp36b : ieq v25.2 0 = false := by simpa [ieq, ilt, ile] using hp36
              have hp36s := hp36b
              try simp at hp36s
              cases hx47
              refine VW.ws tau_ok Sound.none [some 159, some 160, some 161, some 162, some 163, some 164, some 165, some 166, some 167, some 168, some 169, some 170, some 171, some 172, some 173, some 174, some 175, some 176, some 177, some 178, some 179, some 180, some 181, some 182, some 183, some 184, some 185, some 186, some 187, some 188, some 189, some 190, some 191, some 192, some 193, some 194, some 195, some 196, some 197, some 198, some 199, some 200, some 201, some 202, some 203, some 204, some 205, some 206, some 207, some 208, some 209, some 210, some 211, some 212, some 213, some 214, some 215, some 216, some 217, some 218] _ rfl ?_ hy
              simp [hp32b, hp32s, hp33b, hp33s, hp34b, hp34s, hp35b, hp35s, hp36b, hp36s] <;> simp [ieq, ilt, ile]
            · rw [if_neg hp36] at hx47
              have hp36b : ieq v25.2 0 = true := by simpa [ieq, ilt, ile] using hp36
              have hp36s := hp36b
              try simp at hp36s
              by_cases hp37 : ¬ v26.2 = 0
              · rw [if_pos hp37] at hx47
                have hp37b : ieq v26.2 0 = false := by simpa [ieq, ilt, ile] using hp37
                have hp37s := hp37b
                try simp at hp37s
                cases hx47
                refine VW.ws tau_ok Sound.none [some 159, some 160, some 161, some 162, some 163, some 164, some 165, some 166, some 167, some 168, some 169, some 170, some 171, some 172, some 173, some 174, some 175, some 176, some 177, some 178, some 179, some 180, some 181, some 182, some 183, some 184, some 185, some 186, some 187, some 188, some 189, some 190, some 191, some 192, some 193, some 194, some 195, some 196, some 197, some 198, some 199, some 200, some 201, some 202, some 203, some 204, some 205, some 206, some 207, some 208, some 209, some 210, some 211, some 212, some 213, some 214, some 215, some 216, some 217, some 218] _ rfl ?_ hy
                simp [hp32b, hp32s, hp33b, hp33s, hp34b, hp34s, hp35b, hp35s, hp36b, hp36s, hp37b, hp37s] <;> simp [ieq, ilt, ile]
              · rw [if_neg hp37] at hx47
                have hp37b : ieq v26.2 0 = true := by simpa [ieq, ilt, ile] using hp37
                have hp37s := hp37b
                try simp at hp37s
                by_cases hp38 : ¬ v27.2 = 0
                · rw [if_pos hp38] at hx47
                  have hp38b : ieq v27.2 0 = false := by simpa [ieq, ilt, ile] using hp38
                  have hp38s := hp38b
                  try simp at hp38s
                  cases hx47
                  refine VW.ws tau_ok Sound.none [some 159, some 160, some 161, some 162, some 163, some 164, some 165, some 166, some 167, some 168, some 169, some 170, some 171, some 172, some 173, some 174, some 175, some 176, some 177, some 178, some 179, some 180, some 181, some 182, some 183, some 184, some 185, some 186, some 187, some 188, some 189, some 190, some 191, some 192, some 193, some 194, some 195, some 196, some 197, some 198, some 199, some 200, some 201, some 202, some 203, some 204, some 205, some 206, some 207, some 208, some 209, some 210, some 211, some 212, some 213, some 214, some 215, some 216, some 217, some 218] _ rfl ?_ hy
                  simp [hp32b, hp32s, hp33b, hp33s, hp34b, hp34s, hp35b, hp35s, hp36b, hp36s, hp37b, hp37s, hp38b, hp38s] <;> simp [ieq, ilt, ile]
                · rw [if_neg hp38] at hx47
                  have hp38b : ieq v27.2 0 = true := by simpa [ieq, ilt, ile] using hp38
                  have hp38s := hp38b
                  try simp at hp38s
                  by_cases hp39 : ¬ v28.2 = 0
                  · rw [if_pos hp39] at hx47
                    have hp39b : ieq v28.2 0 = false := by simpa [ieq, ilt, ile] using hp39
                    have hp39s := hp39b
                    try simp at hp39s
                    cases hx47
                    refine VW.ws tau_ok Sound.none [some 159, some 160, some 161, some 162, some 163, some 164, some 165, some 166, some 167, some 168, some 169, some 170, some 171, some 172, some 173, some 174, some 175, some 176, some 177, some 178, some 179, some 180, some 181, some 182, some 183, some 184, some 185, some 186, some 187, some 188, some 189, some 190, some 191, some 192, some 193, some 194, some 195, some 196, some 197, some 198, some 199, some 200, some 201, some 202, some 203, some 204, some 205, some 206, some 207, some 208, some 209, some 210, some 211, some 212, some 213, some 214, some 215, some 216, some 217, some 218] _ rfl ?_ hy
                    simp [hp32b, hp32s, hp33b, hp33s, hp34b, hp34s, hp35b, hp35s, hp36b, hp36s, hp37b, hp37s, hp38b, hp38s, hp39b, hp39s] <;> simp [ieq, ilt, ile]
                  · rw [if_neg hp39] at hx47
                    have hp39b : ieq v28.2 0 = true := by simpa [ieq, ilt, ile] using hp39
                    have hp39s := hp39b
                    try simp at hp39s
                    by_cases hp40 : ¬ v29.2 = 0
                    · rw [if_pos hp40] at hx47
                      have hp40b : ieq v29.2 0 = false := by simpa [ieq, ilt, ile] using hp40
                      have hp40s := hp40b
                      try simp at hp40s
                      cases hx47
                      refine VW.ws tau_ok Sound.none [some 159, some 160, some 161, some 162, some 163, some 164, some 165, some 166, some 167, some 168, some 169, some 170, some 171, some 172, some 173, some 174, some 175, some 176, some 177, some 178, some 179, some 180, some 181, some 182, some 183, some 184, some 185, some 186, some 187, some 188, some 189, some 190, some 191, some 192, some 193, some 194, some 195, some 196, some 197, some 198, some 199, some 200, some 201, some 202, some 203, some 204, some 205, some 206, some 207, some 208, some 209, some 210, some 211, some 212, some 213, some 214, some 215, some 216, some 217, some 218] _ rfl ?_ hy
                      simp [hp32b, hp32s, hp33b, hp33s, hp34b, hp34s, hp35b, hp35s, hp36b, hp36s, hp37b, hp37s, hp38b, hp38s, hp39b, hp39s, hp40b, hp40s] <;> simp [ieq, ilt, ile]
                    · rw [if_neg hp40] at hx47
                      have hp40b : ieq v29.2 0 = true := by simpa [ieq, ilt, ile] using hp40
                      have hp40s := hp40b
                      try simp at hp40s
                      by_cases hp41 : ¬ v30.2 = 0
                      · rw [if_pos hp41] at hx47
                        have hp41b : ieq v30.2 0 = false := by simpa [ieq, ilt, ile] using hp41
                        have hp41s := hp41b
                        try simp at hp41s
                        cases hx47
                        refine VW.ws tau_ok Sound.none [some 159, some 160, some 161, some 162, some 163, some 164, some 165, some 166, some 167, some 168, some 169, some 170, some 171, some 172, some 173, some 174, some 175, some 176, some 177, some 178, some 179, some 180, some 181, some 182, some 183, some 184, some 185, some 186, some 187, some 188, some 189, some 190, some 191, some 192, some 193, some 194, some 195, some 196, some 197, some 198, some 199, some 200, some 201, some 202, some 203, some 204, some 205, some 206, some 207, some 208, some 209, some 210, some 211, some 212, some 213, some 214, some 215, some 216, some 217, some 218] _ rfl ?_ hy
                        simp [hp32b, hp32s, hp33b, hp33s, hp34b, hp34s, hp35b, hp35s, hp36b, hp36s, hp37b, hp37s, hp38b, hp38s, hp39b, hp39s, hp40b, hp40s, hp41b, hp41s] <;> simp [ieq, ilt, ile]
                      · rw [if_neg hp41] at hx47
                        have hp41b : ieq v30.2 0 = true := by simpa [ieq, ilt, ile] using hp41
                        have hp41s := hp41b
                        try simp at hp41s
                        obtain ⟨v42, hv42, hx47⟩ := bind_some hx47
                        by_cases hp43 : v42 = false
                        · rw [if_pos hp43] at hx47
                          have hp43b : v42 = false := by simpa [ieq, ilt, ile] using hp43
                          have hp43s := hp43b
                          try simp at hp43s
                          cases hx47
                          refine VW.ws tau_ok (Sound.none.add 200 (l_likeRows5_ok hv42) rfl) [some 159, some 160, some 161, some 162, some 163, some 164, some 165, some 166, some 167, some 168, some 169, some 170, some 171, some 172, some 173, some 174, some 175, some 176, some 177, some 178, some 179, some 180, some 181, some 182, some 183, some 184, some 185, some 186, some 187, some 188, some 189, some 190, some 191, some 192, some 193, some 194, some 195, some 196, some 197, some 198, some 199, some 200, some 201, some 202, some 203, some 204, some 205, some 206, some 207, some 208, some 209, some 210, some 211, some 212, some 213, some 214, some 215, some 216, some 217, some 218] _ rfl ?_ hy
                          simp [hp32b, hp32s, hp33b, hp33s, hp34b, hp34s, hp35b, hp35s, hp36b, hp36s, hp37b, hp37s, hp38b, hp38s, hp39b, hp39s, hp40b, hp40s, hp41b, hp41s, hp43b, hp43s] <;> simp [ieq, ilt, ile]
                        · rw [if_neg hp43] at hx47
                          have hp43b : v42 = true := by simpa [ieq, ilt, ile] using hp43
                          have hp43s := hp43b
                          try simp at hp43s
                          obtain ⟨v44, hv44, hx47⟩ := bind_some hx47
                          by_cases hp45 : v44 = false
                          · rw [if_pos hp45] at hx47
                            have hp45b : v44 = false := by simpa [ieq, ilt, ile] using hp45
                            have hp45s := hp45b
                            try simp at hp45s
                            cases hx47
                            refine VW.ws tau_ok ((Sound.none.add 200 (l_likeRows5_ok hv42) rfl).add 206 (l_likeRows5_ok hv44) rfl) [some 159, some 160, some 161, some 162, some 163, some 164, some 165, some 166, some 167, some 168, some 169, some 170, some 171, some 172, some 173, some 174, some 175, some 176, some 177, some 178, some 179, some 180, some 181, some 182, some 183, some 184, some 185, some 186, some 187, some 188, some 189, some 190, some 191, some 192, some 193, some 194, some 195, some 196, some 197, some 198, some 199, some 200, some 201, some 202, some 203, some 204, some 205, some 206, some 207, some 208, some 209, some 210, some 211, some 212, some 213, some 214, some 215, some 216, some 217, some 218] _ rfl ?_ hy
                            simp [hp32b, hp32s, hp33b, hp33s, hp34b, hp34s, hp35b, hp35s, hp36b, hp36s, hp37b, hp37s, hp38b, hp38s, hp39b, hp39s, hp40b, hp40s, hp41b, hp41s, hp43b, hp43s, hp45b, hp45s] <;> simp [ieq, ilt, ile]
                          · rw [if_neg hp45] at hx47
                            have hp45b : v44 = true := by simpa [ieq, ilt, ile] using hp45
                            have hp45s := hp45b
                            try simp at hp45s
                            by_cases hp46 : v28.1 < v30.1
                            · rw [if_pos hp46] at hx47
                              have hp46b : ilt v28.1 v30.1 = true := by simpa [ieq, ilt, ile] using hp46
                              have hp46s := hp46b
                              try simp at hp46s
                              cases hx47
                              refine VW.ws tau_ok ((Sound.none.add 200 (l_likeRows5_ok hv42) rfl).add 206 (l_likeRows5_ok hv44) rfl) [some 159, some 160, some 161, some 162, some 163, some 164, some 165, some 166, some 167, some 168, some 169, some 170, some 171, some 172, some 173, some 174, some 175, some 176, some 177, some 178, some 179, some 180, some 181, some 182, some 183, some 184, some 185, some 186, some 187, some 188, some 189, some 190, some 191, some 192, some 193, some 194, some 195, some 196, some 197, some 198, some 199, some 200, some 201, some 202, some 203, some 204, some 205, some 206, some 207, some 208, some 209, some 210, some 211, some 212, some 213, some 214, some 215, some 216, some 217, some 218] _ rfl ?_ hy
                              simp [hp32b, hp32s, hp33b, hp33s, hp34b, hp34s, hp35b, hp35s, hp36b, hp36s, hp37b, hp37s, hp38b, hp38s, hp39b, hp39s, hp40b, hp40s, hp41b, hp41s, hp43b, hp43s, hp45b, hp45s, hp46b, hp46s] <;> simp [ieq, ilt, ile]
                            · rw [if_neg hp46] at hx47
                              have hp46b : ilt v28.1 v30.1 = false := by simpa [ieq, ilt, ile] using hp46
                              have hp46s := hp46b
                              try simp at hp46s
                              cases hx47
                              refine VW.ws tau_ok ((Sound.none.add 200 (l_likeRows5_ok hv42) rfl).add 206 (l_likeRows5_ok hv44) rfl) [some 159, some 160, some 161, some 162, some 163, some 164, some 165, some 166, some 167, some 168, some 169, some 170, some 171, some 172, some 173, some 174, some 175, some 176, some 177, some 178, some 179, some 180, some 181, some 182, some 183, some 184, some 185, some 186, some 187, some 188, some 189, some 190, some 191, some 192, some 193, some 194, some 195, some 196, some 197, some 198, some 199, some 200, some 201, some 202, some 203, some 204, some 205, some 206, some 207, some 208, some 209, some 210, some 211, some 212, some 213, some 214, some 215, some 216, some 217, some 218] _ rfl ?_ hy
                              simp [hp32b, hp32s, hp33b, hp33s, hp34b, hp34s, hp35b, hp35s, hp36b, hp36s, hp37b, hp37s, hp38b, hp38s, hp39b, hp39s, hp40b, hp40s, hp41b, hp41s, hp43b, hp43s, hp45b, hp45s, hp46b, hp46s] <;> simp [ieq, ilt, ile]
  refine VW.cond rfl (fun hb48 => ?_) (fun hb48 => ?_)
  ·
    replace hb48 : x47 = true := by simpa [ieq, ilt, ile] using hb48
    rw [if_pos hb48] at h
    -- region 23
    refine VW.ws tau_ok Sound.none [some 2] [(2, .val (.bool false))] rfl ?_ ?_
    · simp <;> simp [ieq, ilt, ile]
    cases h
    refine VW.ret ?_
    simp [Post, PostM, PostC, PostC2, Nx, Bk]
  replace hb48 : ¬ (x47 = true) := by simpa [ieq, ilt, ile] using hb48
  rw [if_neg hb48] at h
  refine VW.skip ?_
  refine hK31 _ ?_
  refine VW.sqc fun K49 hK49 hCK49 => ?_
  -- region 24
  obtain ⟨v50, hv50, h⟩ := bind_some h
  obtain ⟨hv50a, hv50b, hv50c, hv50d⟩ := idx_some hv50
  replace hv50b : 0 < v4.2.1.length := hv50b
  replace hv50c : v4.2.1[0]? = some v50 := hv50c
  replace hv50d : ∀ h, v4.2.1[0]'h = v50 := hv50d
  refine VW.ws tau_ok Sound.none [some 219, some 220, some 221, some 222, some 223, some 224, some 225] [(3, .val (i64 v4.1)), (4, .val (dM v4.2.1)), (10, .ref 10 [] false (.ptr [.list (v20.2.1.map (D.int .u8)), i64 v20.2.2.1, .int .u64 v20.2.2.2])), (26, .val (i64 v28.1)), (225, .val (.bool (!(ieq (v4.2.1.length : Int) (v50.length : Int)))))] rfl ?_ ?_
  · simp [hv50a, hv50b, hv50c, hv50d] <;> simp [ieq, ilt, ile]
  refine VW.cond rfl (fun hb51 => ?_) (fun hb51 => ?_)
  ·
    replace hb51 : ¬ (v4.2.1.length : Int) = (v50.length : Int) := by simpa [ieq, ilt, ile] using hb51
    rw [if_pos hb51] at h
    -- region 25
    refine VW.ws tau_ok Sound.none [some 2] [(2, .val (.bool true))] rfl ?_ ?_
    · simp <;> simp [ieq, ilt, ile]
    cases h
    refine VW.ret ?_
    simp [Post, PostM, PostC, PostC2, Nx, Bk]
  replace hb51 : ¬ (¬ (v4.2.1.length : Int) = (v50.length : Int)) := by simpa [ieq, ilt, ile] using hb51
  rw [if_neg hb51] at h
  refine VW.skip ?_
  refine hK49 _ ?_
  -- region 26
  obtain ⟨v52, hv52, h⟩ := bind_some h
  refine VW.ws tau_ok (Sound.none.ptrc 232 (l_matrix5_ok hv52)) [some 226, some 227, some 228, some 229, some 230, some 231, some 232, some 32] [(3, .val (i64 v4.1)), (4, .val (dM v4.2.1)), (26, .val (i64 v28.1)), (32, .ref 32 [] true (dM v52.1))] rfl ?_ ?_
  · simp <;> simp [ieq, ilt, ile]
  -- region 27
  obtain ⟨v53, hv53, h⟩ := bind_some h
  refine VW.ws tau_ok (Sound.none.add 237 (i_MultiplyMatrices_ok hv53) rfl) [some 234, some 235, some 236, some 237, some 233, some 238, some 239, some 33, some 34] [(3, .val (i64 v4.1)), (4, .val (dM v4.2.1)), (26, .val (i64 v28.1)), (32, .ref 32 [] true (dM v52.1)), (33, .ref 33 [] true (dM v53.1)), (34, .val (i64 v53.2))] rfl ?_ ?_
  · simp <;> simp [ieq, ilt, ile]
  -- region 28
  obtain ⟨v54, hv54, h⟩ := bind_some h
  refine VW.ws tau_ok (Sound.none.add 243 (i_Determinant_ok hv54) rfl) [some 241, some 242, some 243, some 240, some 244, some 245, some 35, some 36] [(3, .val (i64 v4.1)), (4, .val (dM v4.2.1)), (26, .val (i64 v28.1)), (32, .ref 32 [] true (dM v52.1)), (33, .ref 33 [] true (dM v53.1)), (34, .val (i64 v53.2)), (35, .val (i64 v54.1)), (36, .val (i64 v54.2))] rfl ?_ ?_
  · simp <;> simp [ieq, ilt, ile]
  -- region 29
  obtain ⟨v55, hv55, h⟩ := bind_some h
  refine VW.ws tau_ok (Sound.none.add 249 (i_Determinant_ok hv55) rfl) [some 247, some 248, some 249, some 246, some 250, some 251, some 37, some 38] [(3, .val (i64 v4.1)), (4, .val (dM v4.2.1)), (26, .val (i64 v28.1)), (33, .ref 33 [] true (dM v53.1)), (34, .val (i64 v53.2)), (35, .val (i64 v54.1)), (36, .val (i64 v54.2)), (37, .val (i64 v55.1)), (38, .val (i64 v55.2))] rfl ?_ ?_
  · simp <;> simp [ieq, ilt, ile]
  -- region 30
  obtain ⟨v56, hv56, h⟩ := bind_some h
  refine VW.ws tau_ok (Sound.none.add 255 (i_Determinant_ok hv56) rfl) [some 253, some 254, some 255, some 252, some 256, some 257, some 39, some 40] [(3, .val (i64 v4.1)), (4, .val (dM v4.2.1)), (26, .val (i64 v28.1)), (34, .val (i64 v53.2)), (35, .val (i64 v54.1)), (36, .val (i64 v54.2)), (37, .val (i64 v55.1)), (38, .val (i64 v55.2)), (39, .val (i64 v56.1)), (40, .val (i64 v56.2))] rfl ?_ ?_
  · simp <;> simp [ieq, ilt, ile]
  -- region 31
  obtain ⟨x63, hx63, h⟩ := bind_some h
  refine VW.cut [(2, .val (.bool x63))] ?_ fun hy => ?_
  rotate_left
  · clear h
    by_cases hp57 : v53.2 = 0
    · rw [if_pos hp57] at hx63
      have hp57b : ieq v53.2 0 = true := by simpa [ieq, ilt, ile] using hp57
      have hp57s := hp57b
      try simp at hp57s
      by_cases hp58 : v54.2 = 0
      · rw [if_pos hp58] at hx63
        have hp58b : ieq v54.2 0 = true := by simpa [ieq, ilt, ile] using hp58
        have hp58s := hp58b
        try simp at hp58s
        by_cases hp59 : v55.2 = 0
        · rw [if_pos hp59] at hx63
          have hp59b : ieq v55.2 0 = true := by simpa [ieq, ilt, ile] using hp59
          have hp59s := hp59b
          try simp at hp59s
          by_cases hp60 : v56.2 = 0
          · rw [if_pos hp60] at hx63
            have hp60b : ieq v56.2 0 = true := by simpa [ieq, ilt, ile] using hp60
            have hp60s := hp60b
            try simp at hp60s
            obtain ⟨v61, hv61, hx63⟩ := bind_some hx63
            by_cases hp62 : v56.1 = v61
            · rw [if_pos hp62] at hx63
              have hp62b : ieq v56.1 v61 = true := by simpa [ieq, ilt, ile] using hp62
              have hp62s := hp62b
              try simp at hp62s
              cases hx63
              refine VW.ws tau_ok (Sound.none.add 278 (l_mod5_ok hv61) rfl) [some 258, some 259, some 260, some 261, some 262, some 263, some 264, some 265, some 266, some 267, some 268, some 269, some 270, some 271, some 272, some 273, some 274, some 275, some 276, some 277, some 278, some 279, some 280, some 281, some 282, some 283, some 284, some 285, some 286, some 287, some 288, some 289, some 2] _ rfl ?_ hy
              simp [hp57b, hp57s, hp58b, hp58s, hp59b, hp59s, hp60b, hp60s, hp62b, hp62s] <;> simp [ieq, ilt, ile]
            · rw [if_neg hp62] at hx63
              have hp62b : ieq v56.1 v61 = false := by simpa [ieq, ilt, ile] using hp62
              have hp62s := hp62b
              try simp at hp62s
              cases hx63
              refine VW.ws tau_ok (Sound.none.add 278 (l_mod5_ok hv61) rfl) [some 258, some 259, some 260, some 261, some 262, some 263, some 264, some 265, some 266, some 267, some 268, some 269, some 270, some 271, some 272, some 273, some 274, some 275, some 276, some 277, some 278, some 279, some 280, some 281, some 282, some 283, some 284, some 285, some 286, some 287, some 288, some 289, some 2] _ rfl ?_ hy
              simp [hp57b, hp57s, hp58b, hp58s, hp59b, hp59s, hp60b, hp60s, hp62b, hp62s] <;> simp [ieq, ilt, ile]
          · rw [if_neg hp60] at hx63
            have hp60b : ieq v56.2 0 = false := by simpa [ieq, ilt, ile] using hp60
            have hp60s := hp60b
            try simp at hp60s
            cases hx63
            refine VW.ws tau_ok Sound.none [some 258, some 259, some 260, some 261, some 262, some 263, some 264, some 265, some 266, some 267, some 268, some 269, some 270, some 271, some 272, some 273, some 274, some 275, some 276, some 277, some 278, some 279, some 280, some 281, some 282, some 283, some 284, some 285, some 286, some 287, some 288, some 289, some 2] _ rfl ?_ hy
            simp [hp57b, hp57s, hp58b, hp58s, hp59b, hp59s, hp60b, hp60s] <;> simp [ieq, ilt, ile]
        · rw [if_neg hp59] at hx63
          have hp59b : ieq v55.2 0 = false := by simpa [ieq, ilt, ile] using hp59
          have hp59s := hp59b
          try simp at hp59s
          cases hx63
          refine VW.ws tau_ok Sound.none [some 258, some 259, some 260, some 261, some 262, some 263, some 264, some 265, some 266, some 267, some 268, some 269, some 270, some 271, some 272, some 273, some 274, some 275, some 276, some 277, some 278, some 279, some 280, some 281, some 282, some 283, some 284, some 285, some 286, some 287, some 288, some 289, some 2] _ rfl ?_ hy
          simp [hp57b, hp57s, hp58b, hp58s, hp59b, hp59s] <;> simp [ieq, ilt, ile]
      · rw [if_neg hp58] at hx63
        have hp58b : ieq v54.2 0 = false := by simpa [ieq, ilt, ile] using hp58
        have hp58s := hp58b
        try simp at hp58s
        cases hx63
        refine VW.ws tau_ok Sound.none [some 258, some 259, some 260, some 261, some 262, some 263, some 264, some 265, some 266, some 267, some 268, some 269, some 270, some 271, some 272, some 273, some 274, some 275, some 276, some 277, some 278, some 279, some 280, some 281, some 282, some 283, some 284, some 285, some 286, some 287, some 288, some 289, some 2] _ rfl ?_ hy
        simp [hp57b, hp57s, hp58b, hp58s] <;> simp [ieq, ilt, ile]
    · rw [if_neg hp57] at hx63
      have hp57b : ieq v53.2 0 = false := by simpa [ieq, ilt, ile] using hp57
      have hp57s := hp57b
      try simp at hp57s
      cases hx63
      refine VW.ws tau_ok Sound.none [some 258, some 259, some 260, some 261, some 262, some 263, some 264, some 265, some 266, some 267, some 268, some 269, some 270, some 271, some 272, some 273, some 274, some 275, some 276, some 277, some 278, some 279, some 280, some 281, some 282, some 283, some 284, some 285, some 286, some 287, some 288, some 289, some 2] _ rfl ?_ hy
      simp [hp57b, hp57s] <;> simp [ieq, ilt, ile]
  cases h
  refine VW.ret ?_
  simp [Post, PostM, PostC, PostC2, Nx, Bk]
end Go.Vam
