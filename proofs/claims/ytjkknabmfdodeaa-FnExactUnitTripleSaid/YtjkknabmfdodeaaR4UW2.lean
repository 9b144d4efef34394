import Derived.Test.YtjkknabmfdodeaaR4T
import Derived.Test.YtjkknabmfdodeaaFnM
import Derived.Test.YtjkknabmfdodeaaR4UW1
namespace Go.Vam
open Go Go.RowKit Go.Proofs
set_option maxRecDepth 100000
set_option linter.unusedSimpArgs false
set_option linter.unusedVariables false

theorem i_field_doubled_b_ok {self : Int → (List Int) → (List Int) → (List Int) → Option (List Int)} (hself : ∀ {a0 a1 a2 a3} {r : List Int}, self a0 a1 a2 a3 = some r → VCall Try.prog 195 [i64 a0, dI a1, dI a2, dI a3] [.own true (dI r)]) {a0 : Int} {a1 : List Int} {a2 : List Int} {a3 : List Int} {r : List Int} (h : i_field_doubled_b self a0 a1 a2 a3 = some r) :
    VCall Try.prog 195 [i64 a0, dI a1, dI a2, dI a3] [.own true (dI r)] := by
  unfold i_field_doubled_b at h
  refine VCall.enter Try.call195 Try.func195 rfl 87 Try.ntmps195 (by simp) [.tmp 8] rfl ?_
  show VW _ _ _ (mk [(0, .val (i64 a0)), (1, .val (dI a1)), (2, .val (dI a2)), (3, .val (dI a3))]) _
  -- region 0
  refine VW.ws tau_ok Sound.none [some 8] [(0, .val (i64 a0)), (1, .val (dI a1)), (2, .val (dI a2)), (3, .val (dI a3))] rfl ?_ ?_
  · simp <;> simp [ieq, ilt, ile]
  refine VW.sqc fun K1 hK1 hCK1 => ?_
  -- region 1
  refine VW.ws tau_ok Sound.none [some 18, some 19, some 20] [(0, .val (i64 a0)), (1, .val (dI a1)), (2, .val (dI a2)), (3, .val (dI a3)), (20, .val (.bool (ieq (a1.length : Int) 0)))] rfl ?_ ?_
  · simp <;> simp [ieq, ilt, ile]
  refine VW.cond rfl (fun hb2 => ?_) (fun hb2 => ?_)
  ·
    replace hb2 : (a1.length : Int) = 0 := by simpa [ieq, ilt, ile] using hb2
    rw [if_pos hb2] at h
    -- region 2
    obtain ⟨v3, hv3, h⟩ := bind_some h
    obtain ⟨hv3a, hv3b, hv3c, hv3d⟩ := idx_some hv3
    replace hv3b : 0 < a2.length := hv3b
    replace hv3c : a2[0]? = some v3 := hv3c
    replace hv3d : ∀ h, a2[0]'h = v3 := hv3d
    obtain ⟨v4, hv4, h⟩ := bind_some h
    obtain ⟨hv4a, hv4b, hv4c, hv4d⟩ := idx_some hv4
    replace hv4b : 0 < a3.length := hv4b
    replace hv4c : a3[0]? = some v4 := hv4c
    replace hv4d : ∀ h, a3[0]'h = v4 := hv4d
    obtain ⟨v5, hv5, h⟩ := bind_some h
    refine VW.wds tau_ok (Sound.none.add 29 (i_field_num_ok hv5) rfl) try_mixed [some 21, some 22, some 23, some 24, some 25, some 26, some 27, some 28, some 29, some 30, some 8] [(8, .ref 8 [] true (dI [v5]))] 10 rfl (by kernel_rfl) (by rfl) ?_ ?_
    · simp [hv3a, hv3b, hv3c, hv3d, hv4a, hv4b, hv4c, hv4d] <;> simp [ieq, ilt, ile]
    cases h
    refine VW.ret ?_
    simp [Post, PostM, PostC, PostC2, Nx, Bk]
  replace hb2 : ¬ ((a1.length : Int) = 0) := by simpa [ieq, ilt, ile] using hb2
  rw [if_neg hb2] at h
  refine VW.skip ?_
  refine hK1 _ ?_
  -- region 3
  refine VW.ws tau_ok Sound.none [some 31, some 32, some 33, some 34, some 35, some 36, some 9, some 10] [(0, .val (i64 a0)), (1, .val (dI a1)), (2, .val (dI a2)), (3, .val (dI a3)), (9, .val (i64 (w64 ((a1.length : Int) - 1)))), (10, .val (i64 (w64 ((a2.length : Int).tdiv 2))))] rfl ?_ ?_
  · simp <;> simp [ieq, ilt, ile]
  -- region 4
  obtain ⟨hc6, h⟩ := chk_some h
  have hc6s := hc6
  try simp at hc6s
  obtain ⟨hc7, h⟩ := chk_some h
  have hc7s := hc7
  try simp at hc7s
  obtain ⟨hc8, h⟩ := chk_some h
  have hc8s := hc8
  try simp at hc8s
  obtain ⟨hc9, h⟩ := chk_some h
  have hc9s := hc9
  try simp at hc9s
  refine VW.wds tau_ok Sound.none try_mixed [some 37, some 38, some 39, some 40, some 41, some 42, some 43, some 44, some 45, some 46, some 47, some 48, some 11, some 12, some 13, some 14] [(0, .val (i64 a0)), (1, .val (dI a1)), (9, .val (i64 (w64 ((a1.length : Int) - 1)))), (11, .val (dI (a2.take (w64 ((a2.length : Int).tdiv 2)).toNat))), (12, .val (dI (a2.drop (w64 ((a2.length : Int).tdiv 2)).toNat))), (13, .val (dI (a3.take (w64 ((a2.length : Int).tdiv 2)).toNat))), (14, .val (dI (a3.drop (w64 ((a2.length : Int).tdiv 2)).toNat)))] 16 rfl (by kernel_rfl) (by rfl) ?_ ?_
  · simp [hc6, hc6s, hc7, hc7s, hc8, hc8s, hc9, hc9s] <;> simp [ieq, ilt, ile]
  -- region 5
  obtain ⟨hc10, h⟩ := chk_some h
  have hc10s := hc10
  try simp at hc10s
  refine VW.ws tau_ok Sound.none [some 49, some 50, some 51, some 15] [(0, .val (i64 a0)), (1, .val (dI a1)), (9, .val (i64 (w64 ((a1.length : Int) - 1)))), (11, .val (dI (a2.take (w64 ((a2.length : Int).tdiv 2)).toNat))), (12, .val (dI (a2.drop (w64 ((a2.length : Int).tdiv 2)).toNat))), (13, .val (dI (a3.take (w64 ((a2.length : Int).tdiv 2)).toNat))), (14, .val (dI (a3.drop (w64 ((a2.length : Int).tdiv 2)).toNat))), (15, .val (dI (a1.take (w64 ((a1.length : Int) - 1)).toNat)))] rfl ?_ ?_
  · simp [hc10, hc10s] <;> simp [ieq, ilt, ile]
  -- region 6
  obtain ⟨v11, hv11, h⟩ := bind_some h
  obtain ⟨v12, hv12, h⟩ := bind_some h
  obtain ⟨v13, hv13, h⟩ := bind_some h
  obtain ⟨v14, hv14, h⟩ := bind_some h
  obtain ⟨hv14a, hv14b, hv14c, hv14d⟩ := idx_some hv14
  obtain ⟨v15, hv15, h⟩ := bind_some h
  refine VW.wds tau_ok ((((Sound.none.add 57 (hself hv11) rfl).add 62 (i_field_conjugate_ok hv12) rfl).add 64 (hself hv13) rfl).add 69 (i_field_plus_ok hv15) rfl) try_mixed [some 52, some 53, some 54, some 55, some 56, some 57, some 58, some 59, some 60, some 61, some 62, some 63, some 64, some 65, some 66, some 67, some 68, some 69, some 16] [(0, .val (i64 a0)), (11, .val (dI (a2.take (w64 ((a2.length : Int).tdiv 2)).toNat))), (12, .val (dI (a2.drop (w64 ((a2.length : Int).tdiv 2)).toNat))), (13, .val (dI (a3.take (w64 ((a2.length : Int).tdiv 2)).toNat))), (14, .val (dI (a3.drop (w64 ((a2.length : Int).tdiv 2)).toNat))), (15, .val (dI (a1.take (w64 ((a1.length : Int) - 1)).toNat))), (16, .ref 16 [] true (dI v15))] 18 rfl (by kernel_rfl) (by rfl) ?_ ?_
  · simp [hv14a, hv14b, hv14c, hv14d] <;> simp [ieq, ilt, ile]
  -- region 7
  obtain ⟨v16, hv16, h⟩ := bind_some h
  obtain ⟨v17, hv17, h⟩ := bind_some h
  obtain ⟨v18, hv18, h⟩ := bind_some h
  obtain ⟨v19, hv19, h⟩ := bind_some h
  refine VW.ws tau_ok ((((Sound.none.add 75 (hself hv16) rfl).add 81 (i_field_conjugate_ok hv17) rfl).add 82 (hself hv18) rfl).add 83 (i_field_plus_ok hv19) rfl) [some 70, some 71, some 72, some 73, some 74, some 75, some 76, some 77, some 78, some 79, some 80, some 81, some 82, some 83, some 17] [(16, .ref 16 [] true (dI v15)), (17, .ref 17 [] true (dI v19))] rfl ?_ ?_
  · simp <;> simp [ieq, ilt, ile]
  -- region 8
  obtain ⟨hc20, h⟩ := chk_some h
  have hc20s := hc20
  try simp at hc20s
  refine VW.ws tau_ok Sound.none [some 84, some 85, some 86, some 8] [(8, .ref 8 [] true (dI (v15 ++ v19)))] rfl ?_ ?_
  · simp [hc20, hc20s] <;> simp [ieq, ilt, ile]
  cases h
  refine VW.ret ?_
  simp [Post, PostM, PostC, PostC2, Nx, Bk]
theorem i_field_doubled_ok : ∀ {n : Nat} {a0 : Int} {a1 : List Int} {a2 : List Int} {a3 : List Int} {r : List Int} (_ : i_field_doubled n a0 a1 a2 a3 = some r),
    VCall Try.prog 195 [i64 a0, dI a1, dI a2, dI a3] [.own true (dI r)]
  | 0, _, _, _, _, _, h => by cases h
  | n + 1, _, _, _, _, _, h => i_field_doubled_b_ok (fun h => i_field_doubled_ok (n := n) h) h

theorem i_Doubling_times_ok {a0_0 : Int} {a0_1 : List Int} {a1 : List Int} {a2 : List Int} {r : List Int} (h : i_Doubling_times a0_0 a0_1 a1 a2 = some r) :
    VCall Try.prog 109 [.agg [i64 a0_0, dI a0_1], dI a1, dI a2] [.own true (dI r)] := by
  unfold i_Doubling_times at h
  refine VCall.enter Try.call109 Try.func109 rfl 14 Try.ntmps109 (by simp) [.tmp 6] rfl ?_
  show VW _ _ _ (mk [(0, .val (.agg [i64 a0_0, dI a0_1])), (1, .val (dI a1)), (2, .val (dI a2))]) _
  -- region 0
  refine VW.ws tau_ok Sound.none [some 3, some 6] [(1, .val (dI a1)), (2, .val (dI a2)), (3, .val (.ptr [i64 a0_0, dI a0_1]))] rfl ?_ ?_
  · simp <;> simp [ieq, ilt, ile]
  -- region 1
  obtain ⟨v1, hv1, h⟩ := bind_some h
  obtain ⟨v2, hv2, h⟩ := bind_some h
  refine VW.wds tau_ok ((Sound.none.add 8 (i_Doubling_field_ok hv1) rfl).add 13 (i_field_doubled_ok (n := BIG) hv2) rfl) try_mixed [some 7, some 8, some 9, some 10, some 11, some 12, some 13, some 6] [(6, .ref 6 [] true (dI v2))] 7 rfl (by kernel_rfl) (by rfl) ?_ ?_
  · simp <;> simp [ieq, ilt, ile]
  cases h
  refine VW.ret ?_
  simp [Post, PostM, PostC, PostC2, Nx, Bk]

theorem i_Doubling_norm_ok {a0_0 : Int} {a0_1 : List Int} {a1 : List Int} {r : Int} (h : i_Doubling_norm a0_0 a0_1 a1 = some r) :
    VCall Try.prog 155 [.agg [i64 a0_0, dI a0_1], dI a1] [.sc (i64 r)] := by
  unfold i_Doubling_norm at h
  refine VCall.enter Try.call155 Try.func155 rfl 14 Try.ntmps155 (by simp) [.tmp 4] rfl ?_
  show VW _ _ _ (mk [(0, .val (.agg [i64 a0_0, dI a0_1])), (1, .val (dI a1))]) _
  -- region 0
  refine VW.ws tau_ok Sound.none [some 2, some 4] [(1, .val (dI a1)), (2, .val (.ptr [i64 a0_0, dI a0_1]))] rfl ?_ ?_
  · simp <;> simp [ieq, ilt, ile]
  -- region 1
  obtain ⟨v1, hv1, h⟩ := bind_some h
  obtain ⟨v2, hv2, h⟩ := bind_some h
  obtain ⟨v3, hv3, h⟩ := bind_some h
  obtain ⟨v4, hv4, h⟩ := bind_some h
  obtain ⟨hv4a, hv4b, hv4c, hv4d⟩ := idx_some hv4
  replace hv4b : 0 < v3.length := hv4b
  replace hv4c : v3[0]? = some v4 := hv4c
  replace hv4d : ∀ h, v3[0]'h = v4 := hv4d
  refine VW.wds tau_ok (((Sound.none.add 8 (i_Doubling_field_ok hv1) rfl).add 10 (i_field_conjugate_ok hv2) rfl).add 11 (i_Doubling_times_ok hv3) rfl) try_mixed [some 5, some 6, some 7, some 8, some 9, some 10, some 11, some 12, some 13, some 4] [(4, .val (i64 v4))] 10 rfl (by kernel_rfl) (by rfl) ?_ ?_
  · simp [hv4a, hv4b, hv4c, hv4d] <;> simp [ieq, ilt, ile]
  cases h
  refine VW.ret ?_
  simp [Post, PostM, PostC, PostC2, Nx, Bk]

theorem i_unit_ok {a0 : Int} {r : List (List Int)} (h : i_unit a0 = some r) :
    VCall Try.prog 176 [i64 a0] [.own true (dM r)] := by
  unfold i_unit at h
  refine VCall.enter Try.call176 Try.func176 rfl 22 Try.ntmps176 (by simp) [.tmp 2] rfl ?_
  show VW _ _ _ (mk [(0, .val (i64 a0))]) _
  -- region 0
  refine VW.ws tau_ok Sound.none [some 2] [(0, .val (i64 a0))] rfl ?_ ?_
  · simp <;> simp [ieq, ilt, ile]
  -- region 1
  refine VW.ws tau_ok Sound.none [some 6, some 3] [(0, .val (i64 a0)), (3, .ref 3 [] true (dM []))] rfl ?_ ?_
  · simp <;> simp [ieq, ilt, ile]
  refine VW.sqc fun K1 hK1 hCK1 => ?_
  -- region 2
  refine VW.ws tau_ok Sound.none [some 7, some 8] [(0, .val (i64 a0)), (3, .ref 3 [] true (dM [])), (7, .val (i64 a0)), (8, .val (i64 0))] rfl ?_ ?_
  · simp <;> simp [ieq, ilt, ile]
  obtain ⟨x2, hx2, h⟩ := bind_some h
  refine VW.tlE [(3, .ref 3 [] true (dM x2))] (hCK1) ?_ ?_
  · clear hx2
    refine hK1 _ ?_
    -- region 9
    refine VW.ws tau_ok Sound.none [some 21, some 2] [(2, .ref 2 [] true (dM x2))] rfl ?_ ?_
    · simp <;> simp [ieq, ilt, ile]
    cases h
    refine VW.ret ?_
    simp [Post, PostM, PostC, PostC2, Nx, Bk]
  refine VW.block ?_
  refine VW.loopF (i_unit_L0 a0) (fun s2 => [(0, .val (i64 a0)), (3, .ref 3 [] true (dM s2.1)), (7, .val (i64 a0)), (8, .val (i64 s2.2))]) hx2 (Fits.of rfl) ?_
  clear hx2
  intro s2 ox2 hx2o hx2b
  unfold i_unit_L0 at hx2o
  -- region 3
  refine VW.ws tau_ok Sound.none [some 9] [(0, .val (i64 a0)), (3, .ref 3 [] true (dM s2.1)), (7, .val (i64 a0)), (8, .val (i64 s2.2)), (9, .val (.bool (ilt s2.2 a0)))] rfl ?_ ?_
  · simp <;> simp [ieq, ilt, ile]
  refine VW.sqc fun K4 hK4 hCK4 => ?_
  refine VW.cond rfl (fun hb5 => ?_) (fun hb5 => ?_)
  rotate_left
  ·
    replace hb5 : ¬ (s2.2 < a0) := by simpa [ieq, ilt, ile] using hb5
    rw [if_neg hb5] at hx2o
    refine VW.exit ?_
    cases hx2o
    have hq := hx2b _ rfl
    subst hq
    exact Fits.of rfl
  replace hb5 : s2.2 < a0 := by simpa [ieq, ilt, ile] using hb5
  rw [if_pos hb5] at hx2o
  refine VW.skip ?_
  refine hK4 _ ?_
  refine VW.sqc fun K6 hK6 hCK6 => ?_
  refine VW.block ?_
  -- region 4
  refine VW.ws tau_ok Sound.none [some 10, some 4] [(0, .val (i64 a0)), (3, .ref 3 [] true (dM s2.1)), (4, .val (i64 s2.2)), (7, .val (i64 a0)), (8, .val (i64 s2.2))] rfl ?_ ?_
  · simp <;> simp [ieq, ilt, ile]
  -- region 5
  obtain ⟨hc7, hx2o⟩ := chk_some hx2o
  have hc7s := hc7
  try simp at hc7s
  refine VW.ws tau_ok Sound.none [some 11, some 12, some 5] [(0, .val (i64 a0)), (3, .ref 3 [] true (dM s2.1)), (4, .val (i64 s2.2)), (5, .ref 5 [] true (dI (List.replicate a0.toNat 0))), (7, .val (i64 a0)), (8, .val (i64 s2.2))] rfl ?_ ?_
  · simp [hc7, hc7s] <;> simp [ieq, ilt, ile]
  obtain ⟨l8, hl8, hx2o⟩ := bind_some hx2o
  rw [Option.some.inj hl8]
  -- region 6
  obtain ⟨v9, hv9, hx2o⟩ := bind_some hx2o
  obtain ⟨hv9a, hv9b, hv9c, hv9d⟩ := idx_some hv9
  refine VW.ws tau_ok Sound.none [some 13, some 14, some 15, none] [(0, .val (i64 a0)), (3, .ref 3 [] true (dM s2.1)), (5, .ref 5 [] true (dI (l8.set s2.2.toNat 1))), (7, .val (i64 a0)), (8, .val (i64 s2.2))] rfl ?_ ?_
  · simp [hv9a, hv9b, hv9c, hv9d] <;> simp [ieq, ilt, ile]
  -- region 7
  obtain ⟨hc10, hx2o⟩ := chk_some hx2o
  have hc10s := hc10
  try simp at hc10s
  refine VW.wr tau_ok Sound.none [some 16, some 17, some 18, some 19, some 3] [(0, .val (i64 a0)), (3, .ref 3 [] true (dM (s2.1 ++ [l8.set s2.2.toNat 1]))), (7, .val (i64 a0)), (8, .val (i64 s2.2))] rfl ?_ ?_
  · simp [hc10, hc10s] <;> simp [ieq, ilt, ile]
  refine hK6 _ ?_
  -- region 8
  refine VW.wr tau_ok Sound.none [some 20, some 8] [(0, .val (i64 a0)), (3, .ref 3 [] true (dM (s2.1 ++ [l8.set s2.2.toNat 1]))), (7, .val (i64 a0)), (8, .val (i64 (w64 (s2.2 + 1))))] rfl ?_ ?_
  · simp <;> simp [ieq, ilt, ile]
  cases hx2o
  exact ⟨_, rfl, Fits.of rfl⟩

theorem i_transpose_ok {a0 : List (List Int)} {r : List (List Int)} (h : i_transpose a0 = some r) :
    VCall Try.prog 123 [dM a0] [.own true (dM r)] := by
  unfold i_transpose at h
  refine VCall.enter Try.call123 Try.func123 rfl 38 Try.ntmps123 (by simp) [.tmp 2] rfl ?_
  show VW _ _ _ (mk [(0, .val (dM a0))]) _
  -- region 0
  refine VW.ws tau_ok Sound.none [some 2] [(0, .val (dM a0))] rfl ?_ ?_
  · simp <;> simp [ieq, ilt, ile]
  -- region 1
  refine VW.ws tau_ok Sound.none [some 7, some 3] [(0, .val (dM a0)), (3, .ref 3 [] true (dM []))] rfl ?_ ?_
  · simp <;> simp [ieq, ilt, ile]
  refine VW.sqc fun K1 hK1 hCK1 => ?_
  -- region 2
  obtain ⟨v2, hv2, h⟩ := bind_some h
  obtain ⟨hv2a, hv2b, hv2c, hv2d⟩ := idx_some hv2
  replace hv2b : 0 < a0.length := hv2b
  replace hv2c : a0[0]? = some v2 := hv2c
  replace hv2d : ∀ h, a0[0]'h = v2 := hv2d
  refine VW.ws tau_ok Sound.none [some 8, some 9, some 10, some 11, some 12] [(0, .val (dM a0)), (3, .ref 3 [] true (dM [])), (11, .val (i64 (v2.length : Int))), (12, .val (i64 0))] rfl ?_ ?_
  · simp [hv2a, hv2b, hv2c, hv2d] <;> simp [ieq, ilt, ile]
  obtain ⟨x3, hx3, h⟩ := bind_some h
  refine VW.tlE [(3, .ref 3 [] true (dM x3))] (hCK1) ?_ ?_
  · clear hx3
    refine hK1 _ ?_
    -- region 13
    refine VW.ws tau_ok Sound.none [some 37, some 2] [(2, .ref 2 [] true (dM x3))] rfl ?_ ?_
    · simp <;> simp [ieq, ilt, ile]
    cases h
    refine VW.ret ?_
    simp [Post, PostM, PostC, PostC2, Nx, Bk]
  refine VW.block ?_
  refine VW.loopF (i_transpose_L0 a0 v2) (fun s3 => [(0, .val (dM a0)), (3, .ref 3 [] true (dM s3.1)), (11, .val (i64 (v2.length : Int))), (12, .val (i64 s3.2))]) hx3 (Fits.of rfl) ?_
  clear hx3
  intro s3 ox3 hx3o hx3b
  unfold i_transpose_L0 at hx3o
  -- region 3
  refine VW.ws tau_ok Sound.none [some 13] [(0, .val (dM a0)), (3, .ref 3 [] true (dM s3.1)), (11, .val (i64 (v2.length : Int))), (12, .val (i64 s3.2)), (13, .val (.bool (ilt s3.2 (v2.length : Int))))] rfl ?_ ?_
  · simp <;> simp [ieq, ilt, ile]
  refine VW.sqc fun K5 hK5 hCK5 => ?_
  refine VW.cond rfl (fun hb6 => ?_) (fun hb6 => ?_)
  rotate_left
  ·
    replace hb6 : ¬ (s3.2 < (v2.length : Int)) := by simpa [ieq, ilt, ile] using hb6
    rw [if_neg hb6] at hx3o
    refine VW.exit ?_
    cases hx3o
    have hq := hx3b _ rfl
    subst hq
    exact Fits.of rfl
  replace hb6 : s3.2 < (v2.length : Int) := by simpa [ieq, ilt, ile] using hb6
  rw [if_pos hb6] at hx3o
  refine VW.skip ?_
  refine hK5 _ ?_
  refine VW.sqc fun K7 hK7 hCK7 => ?_
  refine VW.block ?_
  -- region 4
  refine VW.ws tau_ok Sound.none [some 14, some 4] [(0, .val (dM a0)), (3, .ref 3 [] true (dM s3.1)), (4, .val (i64 s3.2)), (11, .val (i64 (v2.length : Int))), (12, .val (i64 s3.2))] rfl ?_ ?_
  · simp <;> simp [ieq, ilt, ile]
  -- region 5
  refine VW.ws tau_ok Sound.none [some 15, some 5] [(0, .val (dM a0)), (3, .ref 3 [] true (dM s3.1)), (4, .val (i64 s3.2)), (5, .ref 5 [] true (dI [])), (11, .val (i64 (v2.length : Int))), (12, .val (i64 s3.2))] rfl ?_ ?_
  · simp <;> simp [ieq, ilt, ile]
  refine VW.sqc fun K8 hK8 hCK8 => ?_
  -- region 6
  refine VW.ws tau_ok Sound.none [some 16, some 17, some 18] [(0, .val (dM a0)), (3, .ref 3 [] true (dM s3.1)), (4, .val (i64 s3.2)), (5, .ref 5 [] true (dI [])), (11, .val (i64 (v2.length : Int))), (12, .val (i64 s3.2)), (17, .val (i64 (a0.length : Int))), (18, .val (i64 0))] rfl ?_ ?_
  · simp <;> simp [ieq, ilt, ile]
  obtain ⟨x9, hx9, hx3o⟩ := bind_some hx3o
  refine VW.tlE [(0, .val (dM a0)), (3, .ref 3 [] true (dM s3.1)), (5, .ref 5 [] true (dI x9)), (11, .val (i64 (v2.length : Int))), (12, .val (i64 s3.2))] (hCK8) ?_ ?_
  · clear hx9
    refine hK8 _ ?_
    -- region 11
    obtain ⟨hc17, hx3o⟩ := chk_some hx3o
    have hc17s := hc17
    try simp at hc17s
    refine VW.wr tau_ok Sound.none [some 32, some 33, some 34, some 35, some 3] [(0, .val (dM a0)), (3, .ref 3 [] true (dM (s3.1 ++ [x9]))), (11, .val (i64 (v2.length : Int))), (12, .val (i64 s3.2))] rfl ?_ ?_
    · simp [hc17, hc17s] <;> simp [ieq, ilt, ile]
    refine hK7 _ ?_
    -- region 12
    refine VW.wr tau_ok Sound.none [some 36, some 12] [(0, .val (dM a0)), (3, .ref 3 [] true (dM (s3.1 ++ [x9]))), (11, .val (i64 (v2.length : Int))), (12, .val (i64 (w64 (s3.2 + 1))))] rfl ?_ ?_
    · simp <;> simp [ieq, ilt, ile]
    cases hx3o
    exact ⟨_, rfl, Fits.of rfl⟩
  refine VW.block ?_
  refine VW.loopF (i_transpose_L1 a0 s3) (fun s9 => [(0, .val (dM a0)), (3, .ref 3 [] true (dM s3.1)), (4, .val (i64 s3.2)), (5, .ref 5 [] true (dI s9.1)), (11, .val (i64 (v2.length : Int))), (12, .val (i64 s3.2)), (17, .val (i64 (a0.length : Int))), (18, .val (i64 s9.2))]) hx9 (Fits.of rfl) ?_
  clear hx9
  intro s9 ox9 hx9o hx9b
  unfold i_transpose_L1 at hx9o
  -- region 7
  refine VW.ws tau_ok Sound.none [some 19] [(0, .val (dM a0)), (3, .ref 3 [] true (dM s3.1)), (4, .val (i64 s3.2)), (5, .ref 5 [] true (dI s9.1)), (11, .val (i64 (v2.length : Int))), (12, .val (i64 s3.2)), (17, .val (i64 (a0.length : Int))), (18, .val (i64 s9.2)), (19, .val (.bool (ilt s9.2 (a0.length : Int))))] rfl ?_ ?_
  · simp <;> simp [ieq, ilt, ile]
  refine VW.sqc fun K11 hK11 hCK11 => ?_
  refine VW.cond rfl (fun hb12 => ?_) (fun hb12 => ?_)
  rotate_left
  ·
    replace hb12 : ¬ (s9.2 < (a0.length : Int)) := by simpa [ieq, ilt, ile] using hb12
    rw [if_neg hb12] at hx9o
    refine VW.exit ?_
    cases hx9o
    have hq := hx9b _ rfl
    subst hq
    exact Fits.of rfl
  replace hb12 : s9.2 < (a0.length : Int) := by simpa [ieq, ilt, ile] using hb12
  rw [if_pos hb12] at hx9o
  refine VW.skip ?_
  refine hK11 _ ?_
  refine VW.sqc fun K13 hK13 hCK13 => ?_
  refine VW.block ?_
  -- region 8
  refine VW.ws tau_ok Sound.none [some 20, some 6] [(0, .val (dM a0)), (3, .ref 3 [] true (dM s3.1)), (4, .val (i64 s3.2)), (5, .ref 5 [] true (dI s9.1)), (6, .val (i64 s9.2)), (11, .val (i64 (v2.length : Int))), (12, .val (i64 s3.2)), (17, .val (i64 (a0.length : Int))), (18, .val (i64 s9.2))] rfl ?_ ?_
  · simp <;> simp [ieq, ilt, ile]
  -- region 9
  obtain ⟨v14, hv14, hx9o⟩ := bind_some hx9o
  obtain ⟨hv14a, hv14b, hv14c, hv14d⟩ := idx_some hv14
  obtain ⟨v15, hv15, hx9o⟩ := bind_some hx9o
  obtain ⟨hv15a, hv15b, hv15c, hv15d⟩ := idx_some hv15
  obtain ⟨hc16, hx9o⟩ := chk_some hx9o
  have hc16s := hc16
  try simp at hc16s
  refine VW.wr tau_ok Sound.none [some 21, some 22, some 23, some 24, some 25, some 26, some 27, some 28, some 29, some 30, some 5] [(0, .val (dM a0)), (3, .ref 3 [] true (dM s3.1)), (4, .val (i64 s3.2)), (5, .ref 5 [] true (dI (s9.1 ++ [v15]))), (11, .val (i64 (v2.length : Int))), (12, .val (i64 s3.2)), (17, .val (i64 (a0.length : Int))), (18, .val (i64 s9.2))] rfl ?_ ?_
  · simp [hv14a, hv14b, hv14c, hv14d, hv15a, hv15b, hv15c, hv15d, hc16, hc16s] <;> simp [ieq, ilt, ile]
  refine hK13 _ ?_
  -- region 10
  refine VW.wr tau_ok Sound.none [some 31, some 18] [(0, .val (dM a0)), (3, .ref 3 [] true (dM s3.1)), (4, .val (i64 s3.2)), (5, .ref 5 [] true (dI (s9.1 ++ [v15]))), (11, .val (i64 (v2.length : Int))), (12, .val (i64 s3.2)), (17, .val (i64 (a0.length : Int))), (18, .val (i64 (w64 (s9.2 + 1))))] rfl ?_ ?_
  · simp <;> simp [ieq, ilt, ile]
  cases hx9o
  exact ⟨_, rfl, Fits.of rfl⟩

theorem i_Doubling_left_ok {a0_0 : Int} {a0_1 : List Int} {a1 : List Int} {r : List (List Int)} (h : i_Doubling_left a0_0 a0_1 a1 = some r) :
    VCall Try.prog 157 [.agg [i64 a0_0, dI a0_1], dI a1] [.own true (dM r)] := by
  unfold i_Doubling_left at h
  refine VCall.enter Try.call157 Try.func157 rfl 27 Try.ntmps157 (by simp) [.tmp 4] rfl ?_
  show VW _ _ _ (mk [(0, .val (.agg [i64 a0_0, dI a0_1])), (1, .val (dI a1))]) _
  -- region 0
  refine VW.ws tau_ok Sound.none [some 2, some 4] [(1, .val (dI a1)), (2, .val (.ptr [i64 a0_0, dI a0_1]))] rfl ?_ ?_
  · simp <;> simp [ieq, ilt, ile]
  -- region 1
  refine VW.ws tau_ok Sound.none [some 8, some 5] [(1, .val (dI a1)), (2, .val (.ptr [i64 a0_0, dI a0_1])), (5, .ref 5 [] true (dM []))] rfl ?_ ?_
  · simp <;> simp [ieq, ilt, ile]
  refine VW.sqc fun K1 hK1 hCK1 => ?_
  -- region 2
  obtain ⟨v2, hv2, h⟩ := bind_some h
  obtain ⟨v3, hv3, h⟩ := bind_some h
  refine VW.ws tau_ok ((Sound.none.add 10 (i_Doubling_size_ok hv2) rfl).add 11 (i_unit_ok hv3) rfl) [some 9, some 10, some 11, some 12, some 13] [(1, .val (dI a1)), (2, .val (.ptr [i64 a0_0, dI a0_1])), (5, .ref 5 [] true (dM [])), (11, .ref 11 [] true (dM v3)), (12, .val (i64 (v3.length : Int))), (13, .val (i64 0))] rfl ?_ ?_
  · simp <;> simp [ieq, ilt, ile]
  obtain ⟨x4, hx4, h⟩ := bind_some h
  refine VW.tlE [(5, .ref 5 [] true (dM x4))] (hCK1) ?_ ?_
  · clear hx4
    refine hK1 _ ?_
    -- region 7
    obtain ⟨v12, hv12, h⟩ := bind_some h
    refine VW.ws tau_ok (Sound.none.add 26 (i_transpose_ok hv12) rfl) [some 25, some 26, some 4] [(4, .ref 4 [] true (dM v12))] rfl ?_ ?_
    · simp <;> simp [ieq, ilt, ile]
    cases h
    refine VW.ret ?_
    simp [Post, PostM, PostC, PostC2, Nx, Bk]
  refine VW.block ?_
  refine VW.loopF (i_Doubling_left_L0 a0_0 a0_1 a1 v3) (fun s4 => [(1, .val (dI a1)), (2, .val (.ptr [i64 a0_0, dI a0_1])), (5, .ref 5 [] true (dM s4.1)), (11, .ref 11 [] true (dM v3)), (12, .val (i64 (v3.length : Int))), (13, .val (i64 s4.2))]) hx4 (Fits.of rfl) ?_
  clear hx4
  intro s4 ox4 hx4o hx4b
  unfold i_Doubling_left_L0 at hx4o
  -- region 3
  refine VW.ws tau_ok Sound.none [some 14] [(1, .val (dI a1)), (2, .val (.ptr [i64 a0_0, dI a0_1])), (5, .ref 5 [] true (dM s4.1)), (11, .ref 11 [] true (dM v3)), (12, .val (i64 (v3.length : Int))), (13, .val (i64 s4.2)), (14, .val (.bool (ilt s4.2 (v3.length : Int))))] rfl ?_ ?_
  · simp <;> simp [ieq, ilt, ile]
  refine VW.sqc fun K6 hK6 hCK6 => ?_
  refine VW.cond rfl (fun hb7 => ?_) (fun hb7 => ?_)
  rotate_left
  ·
    replace hb7 : ¬ (s4.2 < (v3.length : Int)) := by simpa [ieq, ilt, ile] using hb7
    rw [if_neg hb7] at hx4o
    refine VW.exit ?_
    cases hx4o
    have hq := hx4b _ rfl
    subst hq
    exact Fits.of rfl
  replace hb7 : s4.2 < (v3.length : Int) := by simpa [ieq, ilt, ile] using hb7
  rw [if_pos hb7] at hx4o
  refine VW.skip ?_
  refine hK6 _ ?_
  refine VW.sqc fun K8 hK8 hCK8 => ?_
  refine VW.block ?_
  -- region 4
  obtain ⟨v9, hv9, hx4o⟩ := bind_some hx4o
  obtain ⟨hv9a, hv9b, hv9c, hv9d⟩ := idx_some hv9
  refine VW.ws tau_ok Sound.none [some 15, some 16, some 7] [(1, .val (dI a1)), (2, .val (.ptr [i64 a0_0, dI a0_1])), (5, .ref 5 [] true (dM s4.1)), (7, .ref 11 [s4.2.toNat] true (dI v9)), (11, .ref 11 [] true (dM v3)), (12, .val (i64 (v3.length : Int))), (13, .val (i64 s4.2))] rfl ?_ ?_
  · simp [hv9a, hv9b, hv9c, hv9d] <;> simp [ieq, ilt, ile]
  -- region 5
  obtain ⟨v10, hv10, hx4o⟩ := bind_some hx4o
  obtain ⟨hc11, hx4o⟩ := chk_some hx4o
  have hc11s := hc11
  try simp at hc11s
  refine VW.wr tau_ok (Sound.none.add 21 (i_Doubling_times_ok hv10) rfl) [some 17, some 18, some 19, some 20, some 21, some 22, some 23, some 5] [(1, .val (dI a1)), (2, .val (.ptr [i64 a0_0, dI a0_1])), (5, .ref 5 [] true (dM (s4.1 ++ [v10]))), (11, .ref 11 [] true (dM v3)), (12, .val (i64 (v3.length : Int))), (13, .val (i64 s4.2))] rfl ?_ ?_
  · simp [hc11, hc11s] <;> simp [ieq, ilt, ile]
  refine hK8 _ ?_
  -- region 6
  refine VW.wr tau_ok Sound.none [some 24, some 13] [(1, .val (dI a1)), (2, .val (.ptr [i64 a0_0, dI a0_1])), (5, .ref 5 [] true (dM (s4.1 ++ [v10]))), (11, .ref 11 [] true (dM v3)), (12, .val (i64 (v3.length : Int))), (13, .val (i64 (w64 (s4.2 + 1))))] rfl ?_ ?_
  · simp <;> simp [ieq, ilt, ile]
  cases hx4o
  exact ⟨_, rfl, Fits.of rfl⟩

theorem i_Doubling_right_ok {a0_0 : Int} {a0_1 : List Int} {a1 : List Int} {r : List (List Int)} (h : i_Doubling_right a0_0 a0_1 a1 = some r) :
    VCall Try.prog 158 [.agg [i64 a0_0, dI a0_1], dI a1] [.own true (dM r)] := by
  unfold i_Doubling_right at h
  refine VCall.enter Try.call158 Try.func158 rfl 27 Try.ntmps158 (by simp) [.tmp 4] rfl ?_
  show VW _ _ _ (mk [(0, .val (.agg [i64 a0_0, dI a0_1])), (1, .val (dI a1))]) _
  -- region 0
  refine VW.ws tau_ok Sound.none [some 2, some 4] [(1, .val (dI a1)), (2, .val (.ptr [i64 a0_0, dI a0_1]))] rfl ?_ ?_
  · simp <;> simp [ieq, ilt, ile]
  -- region 1
  refine VW.ws tau_ok Sound.none [some 8, some 5] [(1, .val (dI a1)), (2, .val (.ptr [i64 a0_0, dI a0_1])), (5, .ref 5 [] true (dM []))] rfl ?_ ?_
  · simp <;> simp [ieq, ilt, ile]
  refine VW.sqc fun K1 hK1 hCK1 => ?_
  -- region 2
  obtain ⟨v2, hv2, h⟩ := bind_some h
  obtain ⟨v3, hv3, h⟩ := bind_some h
  refine VW.ws tau_ok ((Sound.none.add 10 (i_Doubling_size_ok hv2) rfl).add 11 (i_unit_ok hv3) rfl) [some 9, some 10, some 11, some 12, some 13] [(1, .val (dI a1)), (2, .val (.ptr [i64 a0_0, dI a0_1])), (5, .ref 5 [] true (dM [])), (11, .ref 11 [] true (dM v3)), (12, .val (i64 (v3.length : Int))), (13, .val (i64 0))] rfl ?_ ?_
  · simp <;> simp [ieq, ilt, ile]
  obtain ⟨x4, hx4, h⟩ := bind_some h
  refine VW.tlE [(5, .ref 5 [] true (dM x4))] (hCK1) ?_ ?_
  · clear hx4
    refine hK1 _ ?_
    -- region 7
    obtain ⟨v12, hv12, h⟩ := bind_some h
    refine VW.ws tau_ok (Sound.none.add 26 (i_transpose_ok hv12) rfl) [some 25, some 26, some 4] [(4, .ref 4 [] true (dM v12))] rfl ?_ ?_
    · simp <;> simp [ieq, ilt, ile]
    cases h
    refine VW.ret ?_
    simp [Post, PostM, PostC, PostC2, Nx, Bk]
  refine VW.block ?_
  refine VW.loopF (i_Doubling_right_L0 a0_0 a0_1 a1 v3) (fun s4 => [(1, .val (dI a1)), (2, .val (.ptr [i64 a0_0, dI a0_1])), (5, .ref 5 [] true (dM s4.1)), (11, .ref 11 [] true (dM v3)), (12, .val (i64 (v3.length : Int))), (13, .val (i64 s4.2))]) hx4 (Fits.of rfl) ?_
  clear hx4
  intro s4 ox4 hx4o hx4b
  unfold i_Doubling_right_L0 at hx4o
  -- region 3
  refine VW.ws tau_ok Sound.none [some 14] [(1, .val (dI a1)), (2, .val (.ptr [i64 a0_0, dI a0_1])), (5, .ref 5 [] true (dM s4.1)), (11, .ref 11 [] true (dM v3)), (12, .val (i64 (v3.length : Int))), (13, .val (i64 s4.2)), (14, .val (.bool (ilt s4.2 (v3.length : Int))))] rfl ?_ ?_
  · simp <;> simp [ieq, ilt, ile]
  refine VW.sqc fun K6 hK6 hCK6 => ?_
  refine VW.cond rfl (fun hb7 => ?_) (fun hb7 => ?_)
  rotate_left
  ·
    replace hb7 : ¬ (s4.2 < (v3.length : Int)) := by simpa [ieq, ilt, ile] using hb7
    rw [if_neg hb7] at hx4o
    refine VW.exit ?_
    cases hx4o
    have hq := hx4b _ rfl
    subst hq
    exact Fits.of rfl
  replace hb7 : s4.2 < (v3.length : Int) := by simpa [ieq, ilt, ile] using hb7
  rw [if_pos hb7] at hx4o
  refine VW.skip ?_
  refine hK6 _ ?_
  refine VW.sqc fun K8 hK8 hCK8 => ?_
  refine VW.block ?_
  -- region 4
  obtain ⟨v9, hv9, hx4o⟩ := bind_some hx4o
  obtain ⟨hv9a, hv9b, hv9c, hv9d⟩ := idx_some hv9
  refine VW.ws tau_ok Sound.none [some 15, some 16, some 7] [(1, .val (dI a1)), (2, .val (.ptr [i64 a0_0, dI a0_1])), (5, .ref 5 [] true (dM s4.1)), (7, .ref 11 [s4.2.toNat] true (dI v9)), (11, .ref 11 [] true (dM v3)), (12, .val (i64 (v3.length : Int))), (13, .val (i64 s4.2))] rfl ?_ ?_
  · simp [hv9a, hv9b, hv9c, hv9d] <;> simp [ieq, ilt, ile]
  -- region 5
  obtain ⟨v10, hv10, hx4o⟩ := bind_some hx4o
  obtain ⟨hc11, hx4o⟩ := chk_some hx4o
  have hc11s := hc11
  try simp at hc11s
  refine VW.wr tau_ok (Sound.none.add 21 (i_Doubling_times_ok hv10) rfl) [some 17, some 18, some 19, some 20, some 21, some 22, some 23, some 5] [(1, .val (dI a1)), (2, .val (.ptr [i64 a0_0, dI a0_1])), (5, .ref 5 [] true (dM (s4.1 ++ [v10]))), (11, .ref 11 [] true (dM v3)), (12, .val (i64 (v3.length : Int))), (13, .val (i64 s4.2))] rfl ?_ ?_
  · simp [hc11, hc11s] <;> simp [ieq, ilt, ile]
  refine hK8 _ ?_
  -- region 6
  refine VW.wr tau_ok Sound.none [some 24, some 13] [(1, .val (dI a1)), (2, .val (.ptr [i64 a0_0, dI a0_1])), (5, .ref 5 [] true (dM (s4.1 ++ [v10]))), (11, .ref 11 [] true (dM v3)), (12, .val (i64 (v3.length : Int))), (13, .val (i64 (w64 (s4.2 + 1))))] rfl ?_ ?_
  · simp <;> simp [ieq, ilt, ile]
  cases hx4o
  exact ⟨_, rfl, Fits.of rfl⟩

theorem i_UnitTriple_c1_ok {a0 : List Int} {a1_0 : Int} {a1_1 : List Int} {a2_0 : List Int} {r : List Int} (h : i_UnitTriple_c1 a0 a1_0 a1_1 a2_0 = some r) :
    VCall Try.prog 159 [dI a0, .ptr [i64 a1_0, dI a1_1], .ptr [dI a2_0]] [.own true (dI r)] := by
  unfold i_UnitTriple_c1 at h
  refine VCall.enter Try.call159 Try.func159 rfl 12 Try.ntmps159 (by simp) [.tmp 4] rfl ?_
  show VW _ _ _ (mk [(0, .val (dI a0)), (1, .val (.ptr [i64 a1_0, dI a1_1])), (2, .val (.ptr [dI a2_0]))]) _
  -- region 0
  refine VW.ws tau_ok Sound.none [some 4] [(0, .val (dI a0)), (1, .val (.ptr [i64 a1_0, dI a1_1])), (2, .val (.ptr [dI a2_0]))] rfl ?_ ?_
  · simp <;> simp [ieq, ilt, ile]
  -- region 1
  obtain ⟨v1, hv1, h⟩ := bind_some h
  obtain ⟨v2, hv2, h⟩ := bind_some h
  refine VW.wds tau_ok ((Sound.none.add 9 (i_Doubling_times_ok hv1) rfl).add 11 (i_Doubling_times_ok hv2) rfl) try_mixed [some 5, some 6, some 7, some 8, some 9, some 10, some 11, some 4] [(4, .ref 4 [] true (dI v2))] 7 rfl (by kernel_rfl) (by rfl) ?_ ?_
  · simp <;> simp [ieq, ilt, ile]
  cases h
  refine VW.ret ?_
  simp [Post, PostM, PostC, PostC2, Nx, Bk]

theorem i_Doubling_matrixOf_of_i_UnitTriple_c1_ok {a0_0 : Int} {a0_1 : List Int} {a1_0_0 : Int} {a1_0_1 : List Int} {a1_1_0 : List Int} {r : List (List Int)} (h : i_Doubling_matrixOf_of_i_UnitTriple_c1 a0_0 a0_1 a1_0_0 a1_0_1 a1_1_0 = some r) :
    VCall Try.prog 107 [.agg [i64 a0_0, dI a0_1], .fn 159 [.ptr [i64 a1_0_0, dI a1_0_1], .ptr [dI a1_1_0]]] [.own true (dM r)] := by
  unfold i_Doubling_matrixOf_of_i_UnitTriple_c1 at h
  refine VCall.enter Try.call107 Try.func107 rfl 26 Try.ntmps107 (by simp) [.tmp 4] rfl ?_
  show VW _ _ _ (mk [(0, .val (.agg [i64 a0_0, dI a0_1])), (1, .val (.fn 159 [.ptr [i64 a1_0_0, dI a1_0_1], .ptr [dI a1_1_0]]))]) _
  -- region 0
  refine VW.ws tau_ok Sound.none [some 2, some 4] [(1, .val (.fn 159 [.ptr [i64 a1_0_0, dI a1_0_1], .ptr [dI a1_1_0]])), (2, .val (.ptr [i64 a0_0, dI a0_1]))] rfl ?_ ?_
  · simp <;> simp [ieq, ilt, ile]
  -- region 1
  refine VW.ws tau_ok Sound.none [some 8, some 5] [(1, .val (.fn 159 [.ptr [i64 a1_0_0, dI a1_0_1], .ptr [dI a1_1_0]])), (2, .val (.ptr [i64 a0_0, dI a0_1])), (5, .ref 5 [] true (dM []))] rfl ?_ ?_
  · simp <;> simp [ieq, ilt, ile]
  refine VW.sqc fun K1 hK1 hCK1 => ?_
  -- region 2
  obtain ⟨v2, hv2, h⟩ := bind_some h
  obtain ⟨v3, hv3, h⟩ := bind_some h
  refine VW.ws tau_ok ((Sound.none.add 10 (i_Doubling_size_ok hv2) rfl).add 11 (i_unit_ok hv3) rfl) [some 9, some 10, some 11, some 12, some 13] [(1, .val (.fn 159 [.ptr [i64 a1_0_0, dI a1_0_1], .ptr [dI a1_1_0]])), (5, .ref 5 [] true (dM [])), (11, .ref 11 [] true (dM v3)), (12, .val (i64 (v3.length : Int))), (13, .val (i64 0))] rfl ?_ ?_
  · simp <;> simp [ieq, ilt, ile]
  obtain ⟨x4, hx4, h⟩ := bind_some h
  refine VW.tlE [(5, .ref 5 [] true (dM x4))] (hCK1) ?_ ?_
  · clear hx4
    refine hK1 _ ?_
    -- region 7
    obtain ⟨v12, hv12, h⟩ := bind_some h
    refine VW.ws tau_ok (Sound.none.add 25 (i_transpose_ok hv12) rfl) [some 24, some 25, some 4] [(4, .ref 4 [] true (dM v12))] rfl ?_ ?_
    · simp <;> simp [ieq, ilt, ile]
    cases h
    refine VW.ret ?_
    simp [Post, PostM, PostC, PostC2, Nx, Bk]
  refine VW.block ?_
  refine VW.loopF (i_Doubling_matrixOf_of_i_UnitTriple_c1_L0 a1_0_0 a1_0_1 a1_1_0 v3) (fun s4 => [(1, .val (.fn 159 [.ptr [i64 a1_0_0, dI a1_0_1], .ptr [dI a1_1_0]])), (5, .ref 5 [] true (dM s4.1)), (11, .ref 11 [] true (dM v3)), (12, .val (i64 (v3.length : Int))), (13, .val (i64 s4.2))]) hx4 (Fits.of rfl) ?_
  clear hx4
  intro s4 ox4 hx4o hx4b
  unfold i_Doubling_matrixOf_of_i_UnitTriple_c1_L0 at hx4o
  -- region 3
  refine VW.ws tau_ok Sound.none [some 14] [(1, .val (.fn 159 [.ptr [i64 a1_0_0, dI a1_0_1], .ptr [dI a1_1_0]])), (5, .ref 5 [] true (dM s4.1)), (11, .ref 11 [] true (dM v3)), (12, .val (i64 (v3.length : Int))), (13, .val (i64 s4.2)), (14, .val (.bool (ilt s4.2 (v3.length : Int))))] rfl ?_ ?_
  · simp <;> simp [ieq, ilt, ile]
  refine VW.sqc fun K6 hK6 hCK6 => ?_
  refine VW.cond rfl (fun hb7 => ?_) (fun hb7 => ?_)
  rotate_left
  ·
    replace hb7 : ¬ (s4.2 < (v3.length : Int)) := by simpa [ieq, ilt, ile] using hb7
    rw [if_neg hb7] at hx4o
    refine VW.exit ?_
    cases hx4o
    have hq := hx4b _ rfl
    subst hq
    exact Fits.of rfl
  replace hb7 : s4.2 < (v3.length : Int) := by simpa [ieq, ilt, ile] using hb7
  rw [if_pos hb7] at hx4o
  refine VW.skip ?_
  refine hK6 _ ?_
  refine VW.sqc fun K8 hK8 hCK8 => ?_
  refine VW.block ?_
  -- region 4
  obtain ⟨v9, hv9, hx4o⟩ := bind_some hx4o
  obtain ⟨hv9a, hv9b, hv9c, hv9d⟩ := idx_some hv9
  refine VW.ws tau_ok Sound.none [some 15, some 16, some 7] [(1, .val (.fn 159 [.ptr [i64 a1_0_0, dI a1_0_1], .ptr [dI a1_1_0]])), (5, .ref 5 [] true (dM s4.1)), (7, .ref 11 [s4.2.toNat] true (dI v9)), (11, .ref 11 [] true (dM v3)), (12, .val (i64 (v3.length : Int))), (13, .val (i64 s4.2))] rfl ?_ ?_
  · simp [hv9a, hv9b, hv9c, hv9d] <;> simp [ieq, ilt, ile]
  -- region 5
  obtain ⟨v10, hv10, hx4o⟩ := bind_some hx4o
  obtain ⟨hc11, hx4o⟩ := chk_some hx4o
  have hc11s := hc11
  try simp at hc11s
  refine VW.wr tau_ok (Sound.none.add 20 (i_UnitTriple_c1_ok hv10) rfl) [some 17, some 18, some 19, some 20, some 21, some 22, some 5] [(1, .val (.fn 159 [.ptr [i64 a1_0_0, dI a1_0_1], .ptr [dI a1_1_0]])), (5, .ref 5 [] true (dM (s4.1 ++ [v10]))), (11, .ref 11 [] true (dM v3)), (12, .val (i64 (v3.length : Int))), (13, .val (i64 s4.2))] rfl ?_ ?_
  · simp [hc11, hc11s] <;> simp [ieq, ilt, ile]
  refine hK8 _ ?_
  -- region 6
  refine VW.wr tau_ok Sound.none [some 23, some 13] [(1, .val (.fn 159 [.ptr [i64 a1_0_0, dI a1_0_1], .ptr [dI a1_1_0]])), (5, .ref 5 [] true (dM (s4.1 ++ [v10]))), (11, .ref 11 [] true (dM v3)), (12, .val (i64 (v3.length : Int))), (13, .val (i64 (w64 (s4.2 + 1))))] rfl ?_ ?_
  · simp <;> simp [ieq, ilt, ile]
  cases hx4o
  exact ⟨_, rfl, Fits.of rfl⟩

theorem i_UnitTriple_ok {a0_0 : Int} {a0_1 : List Int} {a1 : List Int} {r : ((List (List Int)) × (List (List Int)) × (List (List Int))) × Int} (h : i_UnitTriple a0_0 a0_1 a1 = some r) :
    VCall Try.prog 69 [.agg [i64 a0_0, dI a0_1], dI a1] [.own true (.agg [dM r.1.1, dM r.1.2.1, dM r.1.2.2]), .sc (i64 r.2)] := by
  unfold i_UnitTriple at h
  refine VCall.enterC2 Try.call69 Try.func69 rfl 35 Try.ntmps69 (by simp) (tau_ok 39) 4 5 rfl ?_
  show VW _ _ _ (mk [(0, .val (.agg [i64 a0_0, dI a0_1])), (1, .val (dI a1))]) _
  -- region 0
  refine VW.ws tau_ok Sound.none [some 2, some 4, some 5] [(1, .val (dI a1)), (2, .val (.ptr [i64 a0_0, dI a0_1])), (4, .ref 4 [] true (.ptr [dM [], dM [], dM []]))] rfl ?_ ?_
  · simp <;> simp [ieq, ilt, ile]
  refine VW.sqc fun K1 hK1 hCK1 => ?_
  -- region 1
  obtain ⟨v2, hv2, h⟩ := bind_some h
  refine VW.ws tau_ok (Sound.none.add 11 (i_checkThree_ok hv2) rfl) [some 8, some 9, some 10, some 11, some 6] [(1, .val (dI a1)), (2, .val (.ptr [i64 a0_0, dI a0_1])), (4, .ref 4 [] true (.ptr [dM [], dM [], dM []])), (6, .val (i64 v2))] rfl ?_ ?_
  · simp <;> simp [ieq, ilt, ile]
  -- region 2
  refine VW.ws tau_ok Sound.none [some 12, some 13] [(1, .val (dI a1)), (2, .val (.ptr [i64 a0_0, dI a0_1])), (4, .ref 4 [] true (.ptr [dM [], dM [], dM []])), (6, .val (i64 v2)), (13, .val (.bool (!(ieq v2 0))))] rfl ?_ ?_
  · simp <;> simp [ieq, ilt, ile]
  refine VW.cond rfl (fun hb3 => ?_) (fun hb3 => ?_)
  ·
    replace hb3 : ¬ v2 = 0 := by simpa [ieq, ilt, ile] using hb3
    rw [if_pos hb3] at h
    -- region 3
    refine VW.ws tau_ok Sound.none [some 14, some 15, none, some 5] [(4, .ref 4 [] true (.ptr [dM [], dM [], dM []])), (5, .val (i64 v2))] rfl ?_ ?_
    · simp <;> simp [ieq, ilt, ile]
    cases h
    refine VW.ret ?_
    simp [Post, PostM, PostC, PostC2, Nx, Bk]
  replace hb3 : ¬ (¬ v2 = 0) := by simpa [ieq, ilt, ile] using hb3
  rw [if_neg hb3] at h
  refine VW.skip ?_
  refine hK1 _ ?_
  refine VW.sqc fun K4 hK4 hCK4 => ?_
  -- region 4
  obtain ⟨v5, hv5, h⟩ := bind_some h
  refine VW.ws tau_ok (Sound.none.add 18 (i_Doubling_norm_ok hv5) rfl) [some 16, some 17, some 18, some 19] [(1, .val (dI a1)), (2, .val (.ptr [i64 a0_0, dI a0_1])), (4, .ref 4 [] true (.ptr [dM [], dM [], dM []])), (19, .val (.bool (!(ieq v5 1))))] rfl ?_ ?_
  · simp <;> simp [ieq, ilt, ile]
  refine VW.cond rfl (fun hb6 => ?_) (fun hb6 => ?_)
  ·
    replace hb6 : ¬ v5 = 1 := by simpa [ieq, ilt, ile] using hb6
    rw [if_pos hb6] at h
    -- region 5
    refine VW.ws tau_ok Sound.none [some 20, none, some 5] [(4, .ref 4 [] true (.ptr [dM [], dM [], dM []])), (5, .val (i64 5))] rfl ?_ ?_
    · simp <;> simp [ieq, ilt, ile]
    cases h
    refine VW.ret ?_
    simp [Post, PostM, PostC, PostC2, Nx, Bk]
  replace hb6 : ¬ (¬ v5 = 1) := by simpa [ieq, ilt, ile] using hb6
  rw [if_neg hb6] at h
  refine VW.skip ?_
  refine hK4 _ ?_
  -- region 6
  obtain ⟨v7, hv7, h⟩ := bind_some h
  obtain ⟨v8, hv8, h⟩ := bind_some h
  refine VW.ws tau_ok ((Sound.none.add 22 (i_Doubling_field_ok hv7) rfl).add 24 (i_field_conjugate_ok hv8) rfl) [some 21, some 22, some 23, some 24, some 7, none] [(1, .val (dI a1)), (2, .val (.ptr [i64 a0_0, dI a0_1])), (4, .ref 4 [] true (.ptr [dM [], dM [], dM []])), (7, .ref 7 [] true (.ptr [dI v8]))] rfl ?_ ?_
  · simp <;> simp [ieq, ilt, ile]
  refine VW.fits (fl' := [(1, .val (dI a1)), (2, .val (.ptr [i64 a0_0, dI a0_1])), (4, .ref 4 [] true (.ptr [dM [], dM [], dM []])), (7, .val (.ptr [dI v8]))]) (Fits.freeze (s := 7) rfl (by simp) (Fits.of rfl)) ?_
  -- region 7
  obtain ⟨v9, hv9, h⟩ := bind_some h
  obtain ⟨v10, hv10, h⟩ := bind_some h
  obtain ⟨v11, hv11, h⟩ := bind_some h
  refine VW.wds tau_ok (((Sound.none.add 27 (i_Doubling_left_ok hv9) rfl).add 30 (i_Doubling_right_ok hv10) rfl).add 33 (i_Doubling_matrixOf_of_i_UnitTriple_c1_ok hv11) rfl) try_mixed [some 25, some 26, some 27, some 28, some 29, some 30, some 31, some 32, some 33, some 34, none, some 5] [(4, .ref 4 [] true (.ptr [dM v9, dM v10, dM v11])), (5, .val (i64 0))] 9 rfl (by kernel_rfl) (by rfl) ?_ ?_
  · simp <;> simp [ieq, ilt, ile]
  cases h
  refine VW.ret ?_
  simp [Post, PostM, PostC, PostC2, Nx, Bk]

theorem l_eqInt64S_ok {a0 : List Int} {a1 : List Int} {r : Bool} (h : l_eqInt64S a0 a1 = some r) :
    VCall Try.prog 34 [dI a0, dI a1] [.sc (.bool r)] := by
  unfold l_eqInt64S at h
  refine VCall.enter Try.call34 Try.func34 rfl 26 Try.ntmps34 (by simp) [.tmp 4] rfl ?_
  show VW _ _ _ (mk [(0, .val (dI a0)), (1, .val (dI a1))]) _
  -- region 0
  refine VW.ws tau_ok Sound.none [some 4] [(0, .val (dI a0)), (1, .val (dI a1))] rfl ?_ ?_
  · simp <;> simp [ieq, ilt, ile]
  refine VW.sqc fun K1 hK1 hCK1 => ?_
  -- region 1
  refine VW.ws tau_ok Sound.none [some 6, some 7, some 8, some 9, some 10] [(0, .val (dI a0)), (1, .val (dI a1)), (10, .val (.bool (!(ieq (a0.length : Int) (a1.length : Int)))))] rfl ?_ ?_
  · simp <;> simp [ieq, ilt, ile]
  refine VW.cond rfl (fun hb2 => ?_) (fun hb2 => ?_)
  ·
    replace hb2 : ¬ (a0.length : Int) = (a1.length : Int) := by simpa [ieq, ilt, ile] using hb2
    rw [if_pos hb2] at h
    -- region 2
    refine VW.ws tau_ok Sound.none [some 4] [(4, .val (.bool false))] rfl ?_ ?_
    · simp <;> simp [ieq, ilt, ile]
    cases h
    refine VW.ret ?_
    simp [Post, PostM, PostC, PostC2, Nx, Bk]
  replace hb2 : ¬ (¬ (a0.length : Int) = (a1.length : Int)) := by simpa [ieq, ilt, ile] using hb2
  rw [if_neg hb2] at h
  refine VW.skip ?_
  refine hK1 _ ?_
  refine VW.sqc fun K3 hK3 hCK3 => ?_
  -- region 3
  refine VW.ws tau_ok Sound.none [some 5] [(0, .val (dI a0)), (1, .val (dI a1)), (5, .val (i64 0))] rfl ?_ ?_
  · simp <;> simp [ieq, ilt, ile]
  obtain ⟨x4, hx4, h⟩ := bind_some h
  refine VW.tlO (fun y6 => []) x4 (hCK3) ?_ ?_
  · clear hx4
    rintro y6 rfl
    dsimp only at h
    refine hK3 _ ?_
    -- region 8
    refine VW.ws tau_ok Sound.none [some 4] [(4, .val (.bool true))] rfl ?_ ?_
    · simp <;> simp [ieq, ilt, ile]
    cases h
    refine VW.ret ?_
    simp [Post, PostM, PostC, PostC2, Nx, Bk]
  refine VW.block ?_
  refine VW.loopF (l_eqInt64S_L0 a0 a1) (fun s4 => [(0, .val (dI a0)), (1, .val (dI a1)), (5, .val (i64 s4))]) hx4 (Fits.of rfl) ?_
  clear hx4
  intro s4 ox4 hx4o hx4b
  unfold l_eqInt64S_L0 at hx4o
  refine VW.sqc fun K7 hK7 hCK7 => ?_
  -- region 4
  refine VW.ws tau_ok Sound.none [some 11, some 12, some 13, some 14] [(0, .val (dI a0)), (1, .val (dI a1)), (5, .val (i64 s4)), (14, .val (.bool (ilt s4 (a0.length : Int))))] rfl ?_ ?_
  · simp <;> simp [ieq, ilt, ile]
  refine VW.cond rfl (fun hb8 => ?_) (fun hb8 => ?_)
  rotate_left
  ·
    replace hb8 : ¬ (s4 < (a0.length : Int)) := by simpa [ieq, ilt, ile] using hb8
    rw [if_neg hb8] at hx4o
    refine VW.exit ?_
    cases hx4o
    have hq := hx4b _ rfl
    subst hq
    exact ⟨_, rfl, Fits.of rfl⟩
  replace hb8 : s4 < (a0.length : Int) := by simpa [ieq, ilt, ile] using hb8
  rw [if_pos hb8] at hx4o
  refine VW.skip ?_
  refine hK7 _ ?_
  refine VW.sqc fun K9 hK9 hCK9 => ?_
  refine VW.block ?_
  -- region 6
  obtain ⟨v10, hv10, hx4o⟩ := bind_some hx4o
  obtain ⟨hv10a, hv10b, hv10c, hv10d⟩ := idx_some hv10
  obtain ⟨v11, hv11, hx4o⟩ := bind_some hx4o
  obtain ⟨hv11a, hv11b, hv11c, hv11d⟩ := idx_some hv11
  refine VW.wds tau_ok Sound.none try_mixed [some 17, some 18, some 19, some 20, some 21, some 22, some 23, some 24, some 25] [(0, .val (dI a0)), (1, .val (dI a1)), (5, .val (i64 s4)), (25, .val (.bool (!(ieq v10 v11))))] 9 rfl (by kernel_rfl) (by rfl) ?_ ?_
  · simp [hv10a, hv10b, hv10c, hv10d, hv11a, hv11b, hv11c, hv11d] <;> simp [ieq, ilt, ile]
  refine VW.cond rfl (fun hb12 => ?_) (fun hb12 => ?_)
  rotate_left
  ·
    replace hb12 : ¬ (¬ v10 = v11) := by simpa [ieq, ilt, ile] using hb12
    rw [if_neg hb12] at hx4o
    refine VW.skip ?_
    refine hK9 _ ?_
    -- region 5
    refine VW.wr tau_ok Sound.none [some 15, some 16, some 5] [(0, .val (dI a0)), (1, .val (dI a1)), (5, .val (i64 (w64 (s4 + 1))))] rfl ?_ ?_
    · simp <;> simp [ieq, ilt, ile]
    cases hx4o
    exact ⟨_, rfl, Fits.of rfl⟩
  replace hb12 : ¬ v10 = v11 := by simpa [ieq, ilt, ile] using hb12
  rw [if_pos hb12] at hx4o
  -- region 7
  refine VW.ws tau_ok Sound.none [some 4] [(4, .val (.bool false))] rfl ?_ ?_
  · simp <;> simp [ieq, ilt, ile]
  cases hx4o
  have hq := hx4b _ rfl
  subst hq
  dsimp only at h
  cases h
  refine VW.ret ?_
  simp [Post, PostM, PostC, PostC2, Nx, Bk]

theorem l_eqInt64SS_ok {a0 : List (List Int)} {a1 : List (List Int)} {r : Bool} (h : l_eqInt64SS a0 a1 = some r) :
    VCall Try.prog 22 [dM a0, dM a1] [.sc (.bool r)] := by
  unfold l_eqInt64SS at h
  refine VCall.enter Try.call22 Try.func22 rfl 27 Try.ntmps22 (by simp) [.tmp 4] rfl ?_
  show VW _ _ _ (mk [(0, .val (dM a0)), (1, .val (dM a1))]) _
  -- region 0
  refine VW.ws tau_ok Sound.none [some 4] [(0, .val (dM a0)), (1, .val (dM a1))] rfl ?_ ?_
  · simp <;> simp [ieq, ilt, ile]
  refine VW.sqc fun K1 hK1 hCK1 => ?_
  -- region 1
  refine VW.ws tau_ok Sound.none [some 6, some 7, some 8, some 9, some 10] [(0, .val (dM a0)), (1, .val (dM a1)), (10, .val (.bool (!(ieq (a0.length : Int) (a1.length : Int)))))] rfl ?_ ?_
  · simp <;> simp [ieq, ilt, ile]
  refine VW.cond rfl (fun hb2 => ?_) (fun hb2 => ?_)
  ·
    replace hb2 : ¬ (a0.length : Int) = (a1.length : Int) := by simpa [ieq, ilt, ile] using hb2
    rw [if_pos hb2] at h
    -- region 2
    refine VW.ws tau_ok Sound.none [some 4] [(4, .val (.bool false))] rfl ?_ ?_
    · simp <;> simp [ieq, ilt, ile]
    cases h
    refine VW.ret ?_
    simp [Post, PostM, PostC, PostC2, Nx, Bk]
  replace hb2 : ¬ (¬ (a0.length : Int) = (a1.length : Int)) := by simpa [ieq, ilt, ile] using hb2
  rw [if_neg hb2] at h
  refine VW.skip ?_
  refine hK1 _ ?_
  refine VW.sqc fun K3 hK3 hCK3 => ?_
  -- region 3
  refine VW.ws tau_ok Sound.none [some 5] [(0, .val (dM a0)), (1, .val (dM a1)), (5, .val (i64 0))] rfl ?_ ?_
  · simp <;> simp [ieq, ilt, ile]
  obtain ⟨x4, hx4, h⟩ := bind_some h
  refine VW.tlO (fun y6 => []) x4 (hCK3) ?_ ?_
  · clear hx4
    rintro y6 rfl
    dsimp only at h
    refine hK3 _ ?_
    -- region 8
    refine VW.ws tau_ok Sound.none [some 4] [(4, .val (.bool true))] rfl ?_ ?_
    · simp <;> simp [ieq, ilt, ile]
    cases h
    refine VW.ret ?_
    simp [Post, PostM, PostC, PostC2, Nx, Bk]
  refine VW.block ?_
  refine VW.loopF (l_eqInt64SS_L0 a0 a1) (fun s4 => [(0, .val (dM a0)), (1, .val (dM a1)), (5, .val (i64 s4))]) hx4 (Fits.of rfl) ?_
  clear hx4
  intro s4 ox4 hx4o hx4b
  unfold l_eqInt64SS_L0 at hx4o
  refine VW.sqc fun K7 hK7 hCK7 => ?_
  -- region 4
  refine VW.ws tau_ok Sound.none [some 11, some 12, some 13, some 14] [(0, .val (dM a0)), (1, .val (dM a1)), (5, .val (i64 s4)), (14, .val (.bool (ilt s4 (a0.length : Int))))] rfl ?_ ?_
  · simp <;> simp [ieq, ilt, ile]
  refine VW.cond rfl (fun hb8 => ?_) (fun hb8 => ?_)
  rotate_left
  ·
    replace hb8 : ¬ (s4 < (a0.length : Int)) := by simpa [ieq, ilt, ile] using hb8
    rw [if_neg hb8] at hx4o
    refine VW.exit ?_
    cases hx4o
    have hq := hx4b _ rfl
    subst hq
    exact ⟨_, rfl, Fits.of rfl⟩
  replace hb8 : s4 < (a0.length : Int) := by simpa [ieq, ilt, ile] using hb8
  rw [if_pos hb8] at hx4o
  refine VW.skip ?_
  refine hK7 _ ?_
  refine VW.sqc fun K9 hK9 hCK9 => ?_
  refine VW.block ?_
  -- region 6
  obtain ⟨v10, hv10, hx4o⟩ := bind_some hx4o
  obtain ⟨hv10a, hv10b, hv10c, hv10d⟩ := idx_some hv10
  obtain ⟨v11, hv11, hx4o⟩ := bind_some hx4o
  obtain ⟨hv11a, hv11b, hv11c, hv11d⟩ := idx_some hv11
  obtain ⟨v12, hv12, hx4o⟩ := bind_some hx4o
  refine VW.wds tau_ok (Sound.none.add 25 (l_eqInt64S_ok hv12) rfl) try_mixed [some 17, some 18, some 19, some 20, some 21, some 22, some 23, some 24, some 25, some 26] [(0, .val (dM a0)), (1, .val (dM a1)), (5, .val (i64 s4)), (26, .val (.bool (!v12)))] 10 rfl (by kernel_rfl) (by rfl) ?_ ?_
  · simp [hv10a, hv10b, hv10c, hv10d, hv11a, hv11b, hv11c, hv11d] <;> simp [ieq, ilt, ile]
  refine VW.cond rfl (fun hb13 => ?_) (fun hb13 => ?_)
  rotate_left
  ·
    replace hb13 : ¬ (v12 = false) := by simpa [ieq, ilt, ile] using hb13
    rw [if_neg hb13] at hx4o
    refine VW.skip ?_
    refine hK9 _ ?_
    -- region 5
    refine VW.wr tau_ok Sound.none [some 15, some 16, some 5] [(0, .val (dM a0)), (1, .val (dM a1)), (5, .val (i64 (w64 (s4 + 1))))] rfl ?_ ?_
    · simp <;> simp [ieq, ilt, ile]
    cases hx4o
    exact ⟨_, rfl, Fits.of rfl⟩
  replace hb13 : v12 = false := by simpa [ieq, ilt, ile] using hb13
  rw [if_pos hb13] at hx4o
  -- region 7
  refine VW.ws tau_ok Sound.none [some 4] [(4, .val (.bool false))] rfl ?_ ?_
  · simp <;> simp [ieq, ilt, ile]
  cases hx4o
  have hq := hx4b _ rfl
  subst hq
  dsimp only at h
  cases h
  refine VW.ret ?_
  simp [Post, PostM, PostC, PostC2, Nx, Bk]

theorem l_eqTriple_ok {a0_0 : List (List Int)} {a0_1 : List (List Int)} {a0_2 : List (List Int)} {a1_0 : List (List Int)} {a1_1 : List (List Int)} {a1_2 : List (List Int)} {r : Bool} (h : l_eqTriple a0_0 a0_1 a0_2 a1_0 a1_1 a1_2 = some r) :
    VCall Try.prog 27 [.agg [dM a0_0, dM a0_1, dM a0_2], .agg [dM a1_0, dM a1_1, dM a1_2]] [.sc (.bool r)] := by
  unfold l_eqTriple at h
  refine VCall.enter Try.call27 Try.func27 rfl 23 Try.ntmps27 (by simp) [.tmp 4] rfl ?_
  show VW _ _ _ (mk [(0, .val (.agg [dM a0_0, dM a0_1, dM a0_2])), (1, .val (.agg [dM a1_0, dM a1_1, dM a1_2]))]) _
  -- region 0
  refine VW.ws tau_ok Sound.none [some 2, some 3, some 4] [(2, .val (.ptr [dM a0_0, dM a0_1, dM a0_2])), (3, .val (.ptr [dM a1_0, dM a1_1, dM a1_2]))] rfl ?_ ?_
  · simp <;> simp [ieq, ilt, ile]
  refine VW.sqc fun K1 hK1 hCK1 => ?_
  -- region 1
  obtain ⟨v2, hv2, h⟩ := bind_some h
  refine VW.ws tau_ok (Sound.none.add 9 (l_eqInt64SS_ok hv2) rfl) [some 5, some 6, some 7, some 8, some 9, some 10] [(2, .val (.ptr [dM a0_0, dM a0_1, dM a0_2])), (3, .val (.ptr [dM a1_0, dM a1_1, dM a1_2])), (10, .val (.bool (!v2)))] rfl ?_ ?_
  · simp <;> simp [ieq, ilt, ile]
  refine VW.cond rfl (fun hb3 => ?_) (fun hb3 => ?_)
  ·
    replace hb3 : v2 = false := by simpa [ieq, ilt, ile] using hb3
    rw [if_pos hb3] at h
    -- region 2
    refine VW.ws tau_ok Sound.none [some 4] [(4, .val (.bool false))] rfl ?_ ?_
    · simp <;> simp [ieq, ilt, ile]
    cases h
    refine VW.ret ?_
    simp [Post, PostM, PostC, PostC2, Nx, Bk]
  replace hb3 : ¬ (v2 = false) := by simpa [ieq, ilt, ile] using hb3
  rw [if_neg hb3] at h
  refine VW.skip ?_
  refine hK1 _ ?_
  refine VW.sqc fun K4 hK4 hCK4 => ?_
  -- region 3
  obtain ⟨v5, hv5, h⟩ := bind_some h
  refine VW.ws tau_ok (Sound.none.add 15 (l_eqInt64SS_ok hv5) rfl) [some 11, some 12, some 13, some 14, some 15, some 16] [(2, .val (.ptr [dM a0_0, dM a0_1, dM a0_2])), (3, .val (.ptr [dM a1_0, dM a1_1, dM a1_2])), (16, .val (.bool (!v5)))] rfl ?_ ?_
  · simp <;> simp [ieq, ilt, ile]
  refine VW.cond rfl (fun hb6 => ?_) (fun hb6 => ?_)
  ·
    replace hb6 : v5 = false := by simpa [ieq, ilt, ile] using hb6
    rw [if_pos hb6] at h
    -- region 4
    refine VW.ws tau_ok Sound.none [some 4] [(4, .val (.bool false))] rfl ?_ ?_
    · simp <;> simp [ieq, ilt, ile]
    cases h
    refine VW.ret ?_
    simp [Post, PostM, PostC, PostC2, Nx, Bk]
  replace hb6 : ¬ (v5 = false) := by simpa [ieq, ilt, ile] using hb6
  rw [if_neg hb6] at h
  refine VW.skip ?_
  refine hK4 _ ?_
  refine VW.sqc fun K7 hK7 hCK7 => ?_
  -- region 5
  obtain ⟨v8, hv8, h⟩ := bind_some h
  refine VW.ws tau_ok (Sound.none.add 21 (l_eqInt64SS_ok hv8) rfl) [some 17, some 18, some 19, some 20, some 21, some 22] [(22, .val (.bool (!v8)))] rfl ?_ ?_
  · simp <;> simp [ieq, ilt, ile]
  refine VW.cond rfl (fun hb9 => ?_) (fun hb9 => ?_)
  ·
    replace hb9 : v8 = false := by simpa [ieq, ilt, ile] using hb9
    rw [if_pos hb9] at h
    -- region 6
    refine VW.ws tau_ok Sound.none [some 4] [(4, .val (.bool false))] rfl ?_ ?_
    · simp <;> simp [ieq, ilt, ile]
    cases h
    refine VW.ret ?_
    simp [Post, PostM, PostC, PostC2, Nx, Bk]
  replace hb9 : ¬ (v8 = false) := by simpa [ieq, ilt, ile] using hb9
  rw [if_neg hb9] at h
  refine VW.skip ?_
  refine hK7 _ ?_
  -- region 7
  refine VW.ws tau_ok Sound.none [some 4] [(4, .val (.bool true))] rfl ?_ ?_
  · simp <;> simp [ieq, ilt, ile]
  cases h
  refine VW.ret ?_
  simp [Post, PostM, PostC, PostC2, Nx, Bk]

theorem l_eqDoubling_ok {a0_0 : Int} {a0_1 : List Int} {a1_0 : Int} {a1_1 : List Int} {r : Bool} (h : l_eqDoubling a0_0 a0_1 a1_0 a1_1 = some r) :
    VCall Try.prog 21 [.agg [i64 a0_0, dI a0_1], .agg [i64 a1_0, dI a1_1]] [.sc (.bool r)] := by
  unfold l_eqDoubling at h
  refine VCall.enter Try.call21 Try.func21 rfl 16 Try.ntmps21 (by simp) [.tmp 4] rfl ?_
  show VW _ _ _ (mk [(0, .val (.agg [i64 a0_0, dI a0_1])), (1, .val (.agg [i64 a1_0, dI a1_1]))]) _
  -- region 0
  refine VW.ws tau_ok Sound.none [some 2, some 3, some 4] [(2, .val (.ptr [i64 a0_0, dI a0_1])), (3, .val (.ptr [i64 a1_0, dI a1_1]))] rfl ?_ ?_
  · simp <;> simp [ieq, ilt, ile]
  refine VW.sqc fun K1 hK1 hCK1 => ?_
  -- region 1
  refine VW.ws tau_ok Sound.none [some 5, some 6, some 7, some 8, some 9] [(2, .val (.ptr [i64 a0_0, dI a0_1])), (3, .val (.ptr [i64 a1_0, dI a1_1])), (9, .val (.bool (!(ieq a0_0 a1_0))))] rfl ?_ ?_
  · simp <;> simp [ieq, ilt, ile]
  refine VW.cond rfl (fun hb2 => ?_) (fun hb2 => ?_)
  ·
    replace hb2 : ¬ a0_0 = a1_0 := by simpa [ieq, ilt, ile] using hb2
    rw [if_pos hb2] at h
    -- region 2
    refine VW.ws tau_ok Sound.none [some 4] [(4, .val (.bool false))] rfl ?_ ?_
    · simp <;> simp [ieq, ilt, ile]
    cases h
    refine VW.ret ?_
    simp [Post, PostM, PostC, PostC2, Nx, Bk]
  replace hb2 : ¬ (¬ a0_0 = a1_0) := by simpa [ieq, ilt, ile] using hb2
  rw [if_neg hb2] at h
  refine VW.skip ?_
  refine hK1 _ ?_
  refine VW.sqc fun K3 hK3 hCK3 => ?_
  -- region 3
  obtain ⟨v4, hv4, h⟩ := bind_some h
  refine VW.ws tau_ok (Sound.none.add 14 (l_eqInt64S_ok hv4) rfl) [some 10, some 11, some 12, some 13, some 14, some 15] [(15, .val (.bool (!v4)))] rfl ?_ ?_
  · simp <;> simp [ieq, ilt, ile]
  refine VW.cond rfl (fun hb5 => ?_) (fun hb5 => ?_)
  ·
    replace hb5 : v4 = false := by simpa [ieq, ilt, ile] using hb5
    rw [if_pos hb5] at h
    -- region 4
    refine VW.ws tau_ok Sound.none [some 4] [(4, .val (.bool false))] rfl ?_ ?_
    · simp <;> simp [ieq, ilt, ile]
    cases h
    refine VW.ret ?_
    simp [Post, PostM, PostC, PostC2, Nx, Bk]
  replace hb5 : ¬ (v4 = false) := by simpa [ieq, ilt, ile] using hb5
  rw [if_neg hb5] at h
  refine VW.skip ?_
  refine hK3 _ ?_
  -- region 5
  refine VW.ws tau_ok Sound.none [some 4] [(4, .val (.bool true))] rfl ?_ ?_
  · simp <;> simp [ieq, ilt, ile]
  cases h
  refine VW.ret ?_
  simp [Post, PostM, PostC, PostC2, Nx, Bk]

theorem l_markInt64S_ok {a0 : List Int} {a1 : Int} {r : Int × (List Int)} (h : l_markInt64S a0 a1 = some r) :
    VMut Try.prog 35 (dI a0) [i64 a1] (i64 r.1) (dI r.2) := by
  unfold l_markInt64S at h
  refine VMut.enter Try.call35 Try.func35 rfl 19 Try.ntmps35 (by simp) [.tmp 4] rfl ?_
  show VW _ _ _ (mk [(0, .ref 0 [] true (dI a0)), (1, .val (i64 a1))]) _
  -- region 0
  refine VW.ws tau_ok Sound.none [some 4] [(0, .ref 0 [] true (dI a0)), (1, .val (i64 a1))] rfl ?_ ?_
  · simp <;> simp [ieq, ilt, ile]
  refine VW.sqc fun K1 hK1 hCK1 => ?_
  -- region 1
  refine VW.ws tau_ok Sound.none [some 5] [(0, .ref 0 [] true (dI a0)), (1, .val (i64 a1)), (5, .val (i64 0))] rfl ?_ ?_
  · simp <;> simp [ieq, ilt, ile]
  obtain ⟨x2, hx2, h⟩ := bind_some h
  refine VW.tlE [(0, .ref 0 [] true (dI x2.1)), (1, .val (i64 x2.2))] (hCK1) ?_ ?_
  · clear hx2
    refine hK1 _ ?_
    -- region 6
    refine VW.ws tau_ok Sound.none [some 18, some 4] [(0, .ref 0 [] true (dI x2.1)), (4, .val (i64 x2.2))] rfl ?_ ?_
    · simp <;> simp [ieq, ilt, ile]
    cases h
    refine VW.ret ?_
    simp [Post, PostM, PostC, PostC2, Nx, Bk]
  refine VW.block ?_
  refine VW.loopF l_markInt64S_L0 (fun s2 => [(0, .ref 0 [] true (dI s2.1)), (1, .val (i64 s2.2.1)), (5, .val (i64 s2.2.2))]) hx2 (Fits.of rfl) ?_
  clear hx2
  intro s2 ox2 hx2o hx2b
  unfold l_markInt64S_L0 at hx2o
  refine VW.sqc fun K4 hK4 hCK4 => ?_
  -- region 2
  refine VW.ws tau_ok Sound.none [some 6, some 7, some 8, some 9] [(0, .ref 0 [] true (dI s2.1)), (1, .val (i64 s2.2.1)), (5, .val (i64 s2.2.2)), (9, .val (.bool (ilt s2.2.2 (s2.1.length : Int))))] rfl ?_ ?_
  · simp <;> simp [ieq, ilt, ile]
  refine VW.cond rfl (fun hb5 => ?_) (fun hb5 => ?_)
  rotate_left
  ·
    replace hb5 : ¬ (s2.2.2 < (s2.1.length : Int)) := by simpa [ieq, ilt, ile] using hb5
    rw [if_neg hb5] at hx2o
    refine VW.exit ?_
    cases hx2o
    have hq := hx2b _ rfl
    subst hq
    exact Fits.of rfl
  replace hb5 : s2.2.2 < (s2.1.length : Int) := by simpa [ieq, ilt, ile] using hb5
  rw [if_pos hb5] at hx2o
  refine VW.skip ?_
  refine hK4 _ ?_
  refine VW.sqc fun K6 hK6 hCK6 => ?_
  refine VW.block ?_
  -- region 4
  obtain ⟨v7, hv7, hx2o⟩ := bind_some hx2o
  obtain ⟨hv7a, hv7b, hv7c, hv7d⟩ := idx_some hv7
  refine VW.ws tau_ok Sound.none [some 12, some 13, some 14, some 15, none] [(0, .ref 0 [] true (dI (s2.1.set s2.2.2.toNat s2.2.1))), (1, .val (i64 s2.2.1)), (5, .val (i64 s2.2.2))] rfl ?_ ?_
  · simp [hv7a, hv7b, hv7c, hv7d] <;> simp [ieq, ilt, ile]
  -- region 5
  refine VW.wr tau_ok Sound.none [some 16, some 17, some 1] [(0, .ref 0 [] true (dI (s2.1.set s2.2.2.toNat s2.2.1))), (1, .val (i64 (w64 (s2.2.1 + 1)))), (5, .val (i64 s2.2.2))] rfl ?_ ?_
  · simp <;> simp [ieq, ilt, ile]
  refine hK6 _ ?_
  -- region 3
  refine VW.wr tau_ok Sound.none [some 10, some 11, some 5] [(0, .ref 0 [] true (dI (s2.1.set s2.2.2.toNat s2.2.1))), (1, .val (i64 (w64 (s2.2.1 + 1)))), (5, .val (i64 (w64 (s2.2.2 + 1))))] rfl ?_ ?_
  · simp <;> simp [ieq, ilt, ile]
  cases hx2o
  exact ⟨_, rfl, Fits.of rfl⟩

theorem l_markDoubling_ok {a0_0 : Int} {a0_1 : List Int} {a1 : Int} {r : Int} (h : l_markDoubling a0_0 a0_1 a1 = some r) :
    VSpoil Try.prog 28 (.agg [i64 a0_0, dI a0_1]) [i64 a1] (i64 r) := by
  unfold l_markDoubling at h
  refine VSpoil.enter Try.call28 Try.func28 rfl 10 Try.ntmps28 (by simp) 4 rfl ?_
  show VW _ _ _ (mk [(0, .ref 0 [] true (.agg [i64 a0_0, dI a0_1])), (1, .val (i64 a1))]) _
  -- region 0
  refine VW.ws tau_ok Sound.none [some 2, some 4] [(1, .val (i64 a1)), (2, .al 0 [i64 a0_0, dI a0_1])] rfl ?_ ?_
  · simp <;> simp [ieq, ilt, ile]
  -- region 1
  obtain ⟨v1, hv1, h⟩ := bind_some h
  refine VW.ws tau_ok (Sound.none.mutc 8 (l_markInt64S_ok hv1)) [some 5, some 6, some 7, some 8, some 1] [(1, .val (i64 v1.1))] rfl ?_ ?_
  · simp <;> simp [ieq, ilt, ile]
  -- region 2
  refine VW.ws tau_ok Sound.none [some 9, some 4] [(4, .val (i64 v1.1))] rfl ?_ ?_
  · simp <;> simp [ieq, ilt, ile]
  cases h
  refine VW.ret ?_
  simp [Post, PostM, PostC, PostC2, Nx, Bk]

theorem l_markInt64SS_ok {a0 : List (List Int)} {a1 : Int} {r : Int × (List (List Int))} (h : l_markInt64SS a0 a1 = some r) :
    VMut Try.prog 36 (dM a0) [i64 a1] (i64 r.1) (dM r.2) := by
  unfold l_markInt64SS at h
  refine VMut.enter Try.call36 Try.func36 rfl 19 Try.ntmps36 (by simp) [.tmp 4] rfl ?_
  show VW _ _ _ (mk [(0, .ref 0 [] true (dM a0)), (1, .val (i64 a1))]) _
  -- region 0
  refine VW.ws tau_ok Sound.none [some 4] [(0, .ref 0 [] true (dM a0)), (1, .val (i64 a1))] rfl ?_ ?_
  · simp <;> simp [ieq, ilt, ile]
  refine VW.sqc fun K1 hK1 hCK1 => ?_
  -- region 1
  refine VW.ws tau_ok Sound.none [some 5] [(0, .ref 0 [] true (dM a0)), (1, .val (i64 a1)), (5, .val (i64 0))] rfl ?_ ?_
  · simp <;> simp [ieq, ilt, ile]
  obtain ⟨x2, hx2, h⟩ := bind_some h
  refine VW.tlE [(0, .ref 0 [] true (dM x2.1)), (1, .val (i64 x2.2))] (hCK1) ?_ ?_
  · clear hx2
    refine hK1 _ ?_
    -- region 5
    refine VW.ws tau_ok Sound.none [some 18, some 4] [(0, .ref 0 [] true (dM x2.1)), (4, .val (i64 x2.2))] rfl ?_ ?_
    · simp <;> simp [ieq, ilt, ile]
    cases h
    refine VW.ret ?_
    simp [Post, PostM, PostC, PostC2, Nx, Bk]
  refine VW.block ?_
  refine VW.loopF l_markInt64SS_L0 (fun s2 => [(0, .ref 0 [] true (dM s2.1)), (1, .val (i64 s2.2.1)), (5, .val (i64 s2.2.2))]) hx2 (Fits.of rfl) ?_
  clear hx2
  intro s2 ox2 hx2o hx2b
  unfold l_markInt64SS_L0 at hx2o
  refine VW.sqc fun K4 hK4 hCK4 => ?_
  -- region 2
  refine VW.ws tau_ok Sound.none [some 6, some 7, some 8, some 9] [(0, .ref 0 [] true (dM s2.1)), (1, .val (i64 s2.2.1)), (5, .val (i64 s2.2.2)), (9, .val (.bool (ilt s2.2.2 (s2.1.length : Int))))] rfl ?_ ?_
  · simp <;> simp [ieq, ilt, ile]
  refine VW.cond rfl (fun hb5 => ?_) (fun hb5 => ?_)
  rotate_left
  ·
    replace hb5 : ¬ (s2.2.2 < (s2.1.length : Int)) := by simpa [ieq, ilt, ile] using hb5
    rw [if_neg hb5] at hx2o
    refine VW.exit ?_
    cases hx2o
    have hq := hx2b _ rfl
    subst hq
    exact Fits.of rfl
  replace hb5 : s2.2.2 < (s2.1.length : Int) := by simpa [ieq, ilt, ile] using hb5
  rw [if_pos hb5] at hx2o
  refine VW.skip ?_
  refine hK4 _ ?_
  refine VW.sqc fun K6 hK6 hCK6 => ?_
  refine VW.block ?_
  -- region 4
  obtain ⟨v7, hv7, hx2o⟩ := bind_some hx2o
  obtain ⟨hv7a, hv7b, hv7c, hv7d⟩ := idx_some hv7
  obtain ⟨v8, hv8, hx2o⟩ := bind_some hx2o
  refine VW.wr tau_ok (Sound.none.mutc 17 (l_markInt64S_ok hv8)) [some 12, some 13, some 14, some 15, some 16, some 17, some 1] [(0, .ref 0 [] true (dM (s2.1.set s2.2.2.toNat v8.2))), (1, .val (i64 v8.1)), (5, .val (i64 s2.2.2))] rfl ?_ ?_
  · simp [hv7a, hv7b, hv7c, hv7d] <;> simp [ieq, ilt, ile]
  refine hK6 _ ?_
  -- region 3
  refine VW.wr tau_ok Sound.none [some 10, some 11, some 5] [(0, .ref 0 [] true (dM (s2.1.set s2.2.2.toNat v8.2))), (1, .val (i64 v8.1)), (5, .val (i64 (w64 (s2.2.2 + 1))))] rfl ?_ ?_
  · simp <;> simp [ieq, ilt, ile]
  cases hx2o
  exact ⟨_, rfl, Fits.of rfl⟩

theorem l_markTriple_m_ok {a0_0 : List (List Int)} {a0_1 : List (List Int)} {a0_2 : List (List Int)} {a1 : Int} {r : Int × ((List (List Int)) × (List (List Int)) × (List (List Int)))} (h : l_markTriple_m a0_0 a0_1 a0_2 a1 = some r) :
    VMut Try.prog 29 (.agg [dM a0_0, dM a0_1, dM a0_2]) [i64 a1] (i64 r.1) (.agg [dM r.2.1, dM r.2.2.1, dM r.2.2.2]) := by
  unfold l_markTriple_m at h
  refine VMut.enterA Try.call29 Try.func29 rfl 18 Try.ntmps29 (by simp) [.tmp 4] rfl (by rfl) ⟨_, rfl⟩ ?_
  show VW _ _ _ (mk [(0, .ref 0 [] true (.agg [dM a0_0, dM a0_1, dM a0_2])), (1, .val (i64 a1))]) _
  -- region 0
  refine VW.ws tau_ok Sound.none [some 2, some 4] [(0, .ref 0 [] true (.agg [dM a0_0, dM a0_1, dM a0_2])), (1, .val (i64 a1)), (2, .al 0 [dM a0_0, dM a0_1, dM a0_2])] rfl ?_ ?_
  · simp <;> simp [ieq, ilt, ile]
  -- region 1
  obtain ⟨v1, hv1, h⟩ := bind_some h
  refine VW.ws tau_ok (Sound.none.mutc 8 (l_markInt64SS_ok hv1)) [some 5, some 6, some 7, some 8, some 1] [(0, .ref 0 [] true (.agg [dM v1.2, dM a0_1, dM a0_2])), (1, .val (i64 v1.1)), (2, .al 0 [dM v1.2, dM a0_1, dM a0_2])] rfl ?_ ?_
  · simp <;> simp [ieq, ilt, ile]
  -- region 2
  obtain ⟨v2, hv2, h⟩ := bind_some h
  refine VW.ws tau_ok (Sound.none.mutc 12 (l_markInt64SS_ok hv2)) [some 9, some 10, some 11, some 12, some 1] [(0, .ref 0 [] true (.agg [dM v1.2, dM v2.2, dM a0_2])), (1, .val (i64 v2.1)), (2, .al 0 [dM v1.2, dM v2.2, dM a0_2])] rfl ?_ ?_
  · simp <;> simp [ieq, ilt, ile]
  -- region 3
  obtain ⟨v3, hv3, h⟩ := bind_some h
  refine VW.ws tau_ok (Sound.none.mutc 16 (l_markInt64SS_ok hv3)) [some 13, some 14, some 15, some 16, some 1] [(0, .ref 0 [] true (.agg [dM v1.2, dM v2.2, dM v3.2])), (1, .val (i64 v3.1))] rfl ?_ ?_
  · simp <;> simp [ieq, ilt, ile]
  -- region 4
  refine VW.ws tau_ok Sound.none [some 17, some 4] [(0, .ref 0 [] true (.agg [dM v1.2, dM v2.2, dM v3.2])), (4, .val (i64 v3.1))] rfl ?_ ?_
  · simp <;> simp [ieq, ilt, ile]
  cases h
  refine VW.ret ?_
  simp [Post, PostM, PostC, PostC2, Nx, Bk]

theorem l_heldInt64S_ok {a0 : List Int} {a1 : Int} {r : Int} (h : l_heldInt64S a0 a1 = some r) :
    VCall Try.prog 110 [dI a0, i64 a1] [.sc (i64 r)] := by
  unfold l_heldInt64S at h
  refine VCall.enter Try.call110 Try.func110 rfl 21 Try.ntmps110 (by simp) [.tmp 4] rfl ?_
  show VW _ _ _ (mk [(0, .val (dI a0)), (1, .val (i64 a1))]) _
  -- region 0
  refine VW.ws tau_ok Sound.none [some 4] [(0, .val (dI a0)), (1, .val (i64 a1))] rfl ?_ ?_
  · simp <;> simp [ieq, ilt, ile]
  refine VW.sqc fun K1 hK1 hCK1 => ?_
  -- region 1
  refine VW.ws tau_ok Sound.none [some 5] [(0, .val (dI a0)), (1, .val (i64 a1)), (5, .val (i64 0))] rfl ?_ ?_
  · simp <;> simp [ieq, ilt, ile]
  obtain ⟨x2, hx2, h⟩ := bind_some h
  refine VW.tlO (fun y4 => [(1, .val (i64 y4))]) x2 (hCK1) ?_ ?_
  · clear hx2
    rintro y4 rfl
    dsimp only at h
    refine hK1 _ ?_
    -- region 7
    refine VW.ws tau_ok Sound.none [some 20, some 4] [(4, .val (i64 y4))] rfl ?_ ?_
    · simp <;> simp [ieq, ilt, ile]
    cases h
    refine VW.ret ?_
    simp [Post, PostM, PostC, PostC2, Nx, Bk]
  refine VW.block ?_
  refine VW.loopF (l_heldInt64S_L0 a0) (fun s2 => [(0, .val (dI a0)), (1, .val (i64 s2.1)), (5, .val (i64 s2.2))]) hx2 (Fits.of rfl) ?_
  clear hx2
  intro s2 ox2 hx2o hx2b
  unfold l_heldInt64S_L0 at hx2o
  refine VW.sqc fun K5 hK5 hCK5 => ?_
  -- region 2
  refine VW.ws tau_ok Sound.none [some 6, some 7, some 8, some 9] [(0, .val (dI a0)), (1, .val (i64 s2.1)), (5, .val (i64 s2.2)), (9, .val (.bool (ilt s2.2 (a0.length : Int))))] rfl ?_ ?_
  · simp <;> simp [ieq, ilt, ile]
  refine VW.cond rfl (fun hb6 => ?_) (fun hb6 => ?_)
  rotate_left
  ·
    replace hb6 : ¬ (s2.2 < (a0.length : Int)) := by simpa [ieq, ilt, ile] using hb6
    rw [if_neg hb6] at hx2o
    refine VW.exit ?_
    cases hx2o
    have hq := hx2b _ rfl
    subst hq
    exact ⟨_, rfl, Fits.of rfl⟩
  replace hb6 : s2.2 < (a0.length : Int) := by simpa [ieq, ilt, ile] using hb6
  rw [if_pos hb6] at hx2o
  refine VW.skip ?_
  refine hK5 _ ?_
  refine VW.sqc fun K7 hK7 hCK7 => ?_
  refine VW.block ?_
  refine VW.sqc fun K8 hK8 hCK8 => ?_
  -- region 4
  obtain ⟨v9, hv9, hx2o⟩ := bind_some hx2o
  obtain ⟨hv9a, hv9b, hv9c, hv9d⟩ := idx_some hv9
  refine VW.ws tau_ok Sound.none [some 12, some 13, some 14, some 15, some 16, some 17] [(0, .val (dI a0)), (1, .val (i64 s2.1)), (5, .val (i64 s2.2)), (17, .val (.bool (!(ieq v9 s2.1))))] rfl ?_ ?_
  · simp [hv9a, hv9b, hv9c, hv9d] <;> simp [ieq, ilt, ile]
  refine VW.cond rfl (fun hb10 => ?_) (fun hb10 => ?_)
  ·
    replace hb10 : ¬ v9 = s2.1 := by simpa [ieq, ilt, ile] using hb10
    rw [if_pos hb10] at hx2o
    -- region 5
    refine VW.ws tau_ok Sound.none [some 4] [(4, .val (i64 (-1)))] rfl ?_ ?_
    · simp <;> simp [ieq, ilt, ile]
    cases hx2o
    have hq := hx2b _ rfl
    subst hq
    dsimp only at h
    cases h
    refine VW.ret ?_
    simp [Post, PostM, PostC, PostC2, Nx, Bk]
  replace hb10 : ¬ (¬ v9 = s2.1) := by simpa [ieq, ilt, ile] using hb10
  rw [if_neg hb10] at hx2o
  refine VW.skip ?_
  refine hK8 _ ?_
  -- region 6
  refine VW.wr tau_ok Sound.none [some 18, some 19, some 1] [(0, .val (dI a0)), (1, .val (i64 (w64 (s2.1 + 1)))), (5, .val (i64 s2.2))] rfl ?_ ?_
  · simp <;> simp [ieq, ilt, ile]
  refine hK7 _ ?_
  -- region 3
  refine VW.wr tau_ok Sound.none [some 10, some 11, some 5] [(0, .val (dI a0)), (1, .val (i64 (w64 (s2.1 + 1)))), (5, .val (i64 (w64 (s2.2 + 1))))] rfl ?_ ?_
  · simp <;> simp [ieq, ilt, ile]
  cases hx2o
  exact ⟨_, rfl, Fits.of rfl⟩

theorem l_heldInt64SS_ok {a0 : List (List Int)} {a1 : Int} {r : Int} (h : l_heldInt64SS a0 a1 = some r) :
    VCall Try.prog 37 [dM a0, i64 a1] [.sc (i64 r)] := by
  unfold l_heldInt64SS at h
  refine VCall.enter Try.call37 Try.func37 rfl 21 Try.ntmps37 (by simp) [.tmp 4] rfl ?_
  show VW _ _ _ (mk [(0, .val (dM a0)), (1, .val (i64 a1))]) _
  -- region 0
  refine VW.ws tau_ok Sound.none [some 4] [(0, .val (dM a0)), (1, .val (i64 a1))] rfl ?_ ?_
  · simp <;> simp [ieq, ilt, ile]
  refine VW.sqc fun K1 hK1 hCK1 => ?_
  -- region 1
  refine VW.ws tau_ok Sound.none [some 5] [(0, .val (dM a0)), (1, .val (i64 a1)), (5, .val (i64 0))] rfl ?_ ?_
  · simp <;> simp [ieq, ilt, ile]
  obtain ⟨x2, hx2, h⟩ := bind_some h
  refine VW.tlO (fun y4 => [(1, .val (i64 y4))]) x2 (hCK1) ?_ ?_
  · clear hx2
    rintro y4 rfl
    dsimp only at h
    refine hK1 _ ?_
    -- region 7
    refine VW.ws tau_ok Sound.none [some 20, some 4] [(4, .val (i64 y4))] rfl ?_ ?_
    · simp <;> simp [ieq, ilt, ile]
    cases h
    refine VW.ret ?_
    simp [Post, PostM, PostC, PostC2, Nx, Bk]
  refine VW.block ?_
  refine VW.loopF (l_heldInt64SS_L0 a0) (fun s2 => [(0, .val (dM a0)), (1, .val (i64 s2.1)), (5, .val (i64 s2.2))]) hx2 (Fits.of rfl) ?_
  clear hx2
  intro s2 ox2 hx2o hx2b
  unfold l_heldInt64SS_L0 at hx2o
  refine VW.sqc fun K5 hK5 hCK5 => ?_
  -- region 2
  refine VW.ws tau_ok Sound.none [some 6, some 7, some 8, some 9] [(0, .val (dM a0)), (1, .val (i64 s2.1)), (5, .val (i64 s2.2)), (9, .val (.bool (ilt s2.2 (a0.length : Int))))] rfl ?_ ?_
  · simp <;> simp [ieq, ilt, ile]
  refine VW.cond rfl (fun hb6 => ?_) (fun hb6 => ?_)
  rotate_left
  ·
    replace hb6 : ¬ (s2.2 < (a0.length : Int)) := by simpa [ieq, ilt, ile] using hb6
    rw [if_neg hb6] at hx2o
    refine VW.exit ?_
    cases hx2o
    have hq := hx2b _ rfl
    subst hq
    exact ⟨_, rfl, Fits.of rfl⟩
  replace hb6 : s2.2 < (a0.length : Int) := by simpa [ieq, ilt, ile] using hb6
  rw [if_pos hb6] at hx2o
  refine VW.skip ?_
  refine hK5 _ ?_
  refine VW.sqc fun K7 hK7 hCK7 => ?_
  refine VW.block ?_
  -- region 4
  obtain ⟨v8, hv8, hx2o⟩ := bind_some hx2o
  obtain ⟨hv8a, hv8b, hv8c, hv8d⟩ := idx_some hv8
  obtain ⟨v9, hv9, hx2o⟩ := bind_some hx2o
  refine VW.ws tau_ok (Sound.none.add 17 (l_heldInt64S_ok hv9) rfl) [some 12, some 13, some 14, some 15, some 16, some 17, some 1] [(0, .val (dM a0)), (1, .val (i64 v9)), (5, .val (i64 s2.2))] rfl ?_ ?_
  · simp [hv8a, hv8b, hv8c, hv8d] <;> simp [ieq, ilt, ile]
  -- region 5
  refine VW.ws tau_ok Sound.none [some 18, some 19] [(0, .val (dM a0)), (1, .val (i64 v9)), (5, .val (i64 s2.2)), (19, .val (.bool (ilt v9 0)))] rfl ?_ ?_
  · simp <;> simp [ieq, ilt, ile]
  refine VW.cond rfl (fun hb10 => ?_) (fun hb10 => ?_)
  rotate_left
  ·
    replace hb10 : ¬ (v9 < 0) := by simpa [ieq, ilt, ile] using hb10
    rw [if_neg hb10] at hx2o
    refine VW.skip ?_
    refine hK7 _ ?_
    -- region 3
    refine VW.wr tau_ok Sound.none [some 10, some 11, some 5] [(0, .val (dM a0)), (1, .val (i64 v9)), (5, .val (i64 (w64 (s2.2 + 1))))] rfl ?_ ?_
    · simp <;> simp [ieq, ilt, ile]
    cases hx2o
    exact ⟨_, rfl, Fits.of rfl⟩
  replace hb10 : v9 < 0 := by simpa [ieq, ilt, ile] using hb10
  rw [if_pos hb10] at hx2o
  -- region 6
  refine VW.ws tau_ok Sound.none [some 4] [(4, .val (i64 (-1)))] rfl ?_ ?_
  · simp <;> simp [ieq, ilt, ile]
  cases hx2o
  have hq := hx2b _ rfl
  subst hq
  dsimp only at h
  cases h
  refine VW.ret ?_
  simp [Post, PostM, PostC, PostC2, Nx, Bk]

theorem l_heldTriple_ok {a0_0 : List (List Int)} {a0_1 : List (List Int)} {a0_2 : List (List Int)} {a1 : Int} {r : Int} (h : l_heldTriple a0_0 a0_1 a0_2 a1 = some r) :
    VCall Try.prog 30 [.agg [dM a0_0, dM a0_1, dM a0_2], i64 a1] [.sc (i64 r)] := by
  unfold l_heldTriple at h
  refine VCall.enter Try.call30 Try.func30 rfl 24 Try.ntmps30 (by simp) [.tmp 4] rfl ?_
  show VW _ _ _ (mk [(0, .val (.agg [dM a0_0, dM a0_1, dM a0_2])), (1, .val (i64 a1))]) _
  -- region 0
  refine VW.ws tau_ok Sound.none [some 2, some 4] [(1, .val (i64 a1)), (2, .val (.ptr [dM a0_0, dM a0_1, dM a0_2]))] rfl ?_ ?_
  · simp <;> simp [ieq, ilt, ile]
  -- region 1
  obtain ⟨v1, hv1, h⟩ := bind_some h
  refine VW.ws tau_ok (Sound.none.add 8 (l_heldInt64SS_ok hv1) rfl) [some 5, some 6, some 7, some 8, some 1] [(1, .val (i64 v1)), (2, .val (.ptr [dM a0_0, dM a0_1, dM a0_2]))] rfl ?_ ?_
  · simp <;> simp [ieq, ilt, ile]
  refine VW.sqc fun K2 hK2 hCK2 => ?_
  -- region 2
  refine VW.ws tau_ok Sound.none [some 9, some 10] [(1, .val (i64 v1)), (2, .val (.ptr [dM a0_0, dM a0_1, dM a0_2])), (10, .val (.bool (ilt v1 0)))] rfl ?_ ?_
  · simp <;> simp [ieq, ilt, ile]
  refine VW.cond rfl (fun hb3 => ?_) (fun hb3 => ?_)
  ·
    replace hb3 : v1 < 0 := by simpa [ieq, ilt, ile] using hb3
    rw [if_pos hb3] at h
    -- region 3
    refine VW.ws tau_ok Sound.none [some 4] [(4, .val (i64 (-1)))] rfl ?_ ?_
    · simp <;> simp [ieq, ilt, ile]
    cases h
    refine VW.ret ?_
    simp [Post, PostM, PostC, PostC2, Nx, Bk]
  replace hb3 : ¬ (v1 < 0) := by simpa [ieq, ilt, ile] using hb3
  rw [if_neg hb3] at h
  refine VW.skip ?_
  refine hK2 _ ?_
  -- region 4
  obtain ⟨v4, hv4, h⟩ := bind_some h
  refine VW.ws tau_ok (Sound.none.add 14 (l_heldInt64SS_ok hv4) rfl) [some 11, some 12, some 13, some 14, some 1] [(1, .val (i64 v4)), (2, .val (.ptr [dM a0_0, dM a0_1, dM a0_2]))] rfl ?_ ?_
  · simp <;> simp [ieq, ilt, ile]
  refine VW.sqc fun K5 hK5 hCK5 => ?_
  -- region 5
  refine VW.ws tau_ok Sound.none [some 15, some 16] [(1, .val (i64 v4)), (2, .val (.ptr [dM a0_0, dM a0_1, dM a0_2])), (16, .val (.bool (ilt v4 0)))] rfl ?_ ?_
  · simp <;> simp [ieq, ilt, ile]
  refine VW.cond rfl (fun hb6 => ?_) (fun hb6 => ?_)
  ·
    replace hb6 : v4 < 0 := by simpa [ieq, ilt, ile] using hb6
    rw [if_pos hb6] at h
    -- region 6
    refine VW.ws tau_ok Sound.none [some 4] [(4, .val (i64 (-1)))] rfl ?_ ?_
    · simp <;> simp [ieq, ilt, ile]
    cases h
    refine VW.ret ?_
    simp [Post, PostM, PostC, PostC2, Nx, Bk]
  replace hb6 : ¬ (v4 < 0) := by simpa [ieq, ilt, ile] using hb6
  rw [if_neg hb6] at h
  refine VW.skip ?_
  refine hK5 _ ?_
  -- region 7
  obtain ⟨v7, hv7, h⟩ := bind_some h
  refine VW.ws tau_ok (Sound.none.add 20 (l_heldInt64SS_ok hv7) rfl) [some 17, some 18, some 19, some 20, some 1] [(1, .val (i64 v7))] rfl ?_ ?_
  · simp <;> simp [ieq, ilt, ile]
  refine VW.sqc fun K8 hK8 hCK8 => ?_
  -- region 8
  refine VW.ws tau_ok Sound.none [some 21, some 22] [(1, .val (i64 v7)), (22, .val (.bool (ilt v7 0)))] rfl ?_ ?_
  · simp <;> simp [ieq, ilt, ile]
  refine VW.cond rfl (fun hb9 => ?_) (fun hb9 => ?_)
  ·
    replace hb9 : v7 < 0 := by simpa [ieq, ilt, ile] using hb9
    rw [if_pos hb9] at h
    -- region 9
    refine VW.ws tau_ok Sound.none [some 4] [(4, .val (i64 (-1)))] rfl ?_ ?_
    · simp <;> simp [ieq, ilt, ile]
    cases h
    refine VW.ret ?_
    simp [Post, PostM, PostC, PostC2, Nx, Bk]
  replace hb9 : ¬ (v7 < 0) := by simpa [ieq, ilt, ile] using hb9
  rw [if_neg hb9] at h
  refine VW.skip ?_
  refine hK8 _ ?_
  -- region 10
  refine VW.ws tau_ok Sound.none [some 23, some 4] [(4, .val (i64 v7))] rfl ?_ ?_
  · simp <;> simp [ieq, ilt, ile]
  cases h
  refine VW.ret ?_
  simp [Post, PostM, PostC, PostC2, Nx, Bk]

theorem l_FnExactUnitTriple_ok {a0_0 : Int} {a0_1 : List Int} {a1 : List Int} {r : Bool} (h : l_FnExactUnitTriple a0_0 a0_1 a1 = some r) :
    VCall Try.prog 11 [.agg [i64 a0_0, dI a0_1], dI a1] [.sc (.bool r)] := by
  unfold l_FnExactUnitTriple at h
  refine VCall.enter Try.call11 Try.func11 rfl 117 Try.ntmps11 (by simp) [.tmp 4] rfl ?_
  show VW _ _ _ (mk [(0, .val (.agg [i64 a0_0, dI a0_1])), (1, .val (dI a1))]) _
  -- region 0
  refine VW.ws tau_ok Sound.none [some 2, some 4] [(1, .val (dI a1)), (2, .val (.ptr [i64 a0_0, dI a0_1]))] rfl ?_ ?_
  · simp <;> simp [ieq, ilt, ile]
  refine VW.sqc fun K1 hK1 hCK1 => ?_
  -- region 1
  refine VW.ws tau_ok Sound.none [some 17, some 18, some 19] [(1, .val (dI a1)), (2, .val (.ptr [i64 a0_0, dI a0_1])), (19, .val (.bool (ilt 1048576 (a1.length : Int))))] rfl ?_ ?_
  · simp <;> simp [ieq, ilt, ile]
  refine VW.cond rfl (fun hb2 => ?_) (fun hb2 => ?_)
  ·
    replace hb2 : 1048576 < (a1.length : Int) := by simpa [ieq, ilt, ile] using hb2
    rw [if_pos hb2] at h
    -- region 2
    refine VW.ws tau_ok Sound.none [some 4] [(4, .val (.bool true))] rfl ?_ ?_
    · simp <;> simp [ieq, ilt, ile]
    cases h
    refine VW.ret ?_
    simp [Post, PostM, PostC, PostC2, Nx, Bk]
  replace hb2 : ¬ (1048576 < (a1.length : Int)) := by simpa [ieq, ilt, ile] using hb2
  rw [if_neg hb2] at h
  refine VW.skip ?_
  refine hK1 _ ?_
  -- region 3
  refine VW.ws tau_ok Sound.none [some 5] [(1, .val (dI a1)), (2, .val (.ptr [i64 a0_0, dI a0_1])), (5, .val (i64 1048576))] rfl ?_ ?_
  · simp <;> simp [ieq, ilt, ile]
  -- region 4
  obtain ⟨v3, hv3, h⟩ := bind_some h
  refine VW.ws tau_ok (Sound.none.add 22 (l_szDoubling_ok hv3) rfl) [some 20, some 21, some 22, some 5] [(1, .val (dI a1)), (2, .val (.ptr [i64 a0_0, dI a0_1])), (5, .val (i64 v3))] rfl ?_ ?_
  · simp <;> simp [ieq, ilt, ile]
  refine VW.sqc fun K4 hK4 hCK4 => ?_
  -- region 5
  refine VW.ws tau_ok Sound.none [some 23, some 24] [(1, .val (dI a1)), (2, .val (.ptr [i64 a0_0, dI a0_1])), (24, .val (.bool (ilt v3 0)))] rfl ?_ ?_
  · simp <;> simp [ieq, ilt, ile]
  refine VW.cond rfl (fun hb5 => ?_) (fun hb5 => ?_)
  ·
    replace hb5 : v3 < 0 := by simpa [ieq, ilt, ile] using hb5
    rw [if_pos hb5] at h
    -- region 6
    refine VW.ws tau_ok Sound.none [some 4] [(4, .val (.bool true))] rfl ?_ ?_
    · simp <;> simp [ieq, ilt, ile]
    cases h
    refine VW.ret ?_
    simp [Post, PostM, PostC, PostC2, Nx, Bk]
  replace hb5 : ¬ (v3 < 0) := by simpa [ieq, ilt, ile] using hb5
  rw [if_neg hb5] at h
  refine VW.skip ?_
  refine hK4 _ ?_
  -- region 7
  obtain ⟨v6, hv6, h⟩ := bind_some h
  obtain ⟨v7, hv7, h⟩ := bind_some h
  obtain ⟨v8, hv8, h⟩ := bind_some h
  refine VW.ws tau_ok (((Sound.none.add 27 (l_toDoubling_ok hv6) rfl).add 29 (l_toInt64S_ok hv7) rfl).add 30 (s_UnitTriple_ok hv8) rfl) [some 26, some 27, some 28, some 29, some 30, some 25, some 31, some 32, some 6, none, some 7] [(1, .val (dI a1)), (2, .val (.ptr [i64 a0_0, dI a0_1])), (6, .ref 6 [] true (.ptr [dM v8.1.1, dM v8.1.2.1, dM v8.1.2.2])), (7, .val (i64 v8.2))] rfl ?_ ?_
  · simp <;> simp [ieq, ilt, ile]
  -- region 8
  obtain ⟨v9, hv9, h⟩ := bind_some h
  refine VW.ws tau_ok (Sound.none.add 34 (l_toDoubling_ok hv9) rfl) [some 33, some 34, some 8, none] [(1, .val (dI a1)), (2, .val (.ptr [i64 a0_0, dI a0_1])), (6, .ref 6 [] true (.ptr [dM v8.1.1, dM v8.1.2.1, dM v8.1.2.2])), (7, .val (i64 v8.2)), (8, .ref 8 [] true (.ptr [i64 v9.1, dI v9.2]))] rfl ?_ ?_
  · simp <;> simp [ieq, ilt, ile]
  -- region 9
  obtain ⟨v10, hv10, h⟩ := bind_some h
  refine VW.ws tau_ok (Sound.none.add 36 (l_toInt64S_ok hv10) rfl) [some 35, some 36, some 9] [(1, .val (dI a1)), (2, .val (.ptr [i64 a0_0, dI a0_1])), (6, .ref 6 [] true (.ptr [dM v8.1.1, dM v8.1.2.1, dM v8.1.2.2])), (7, .val (i64 v8.2)), (8, .ref 8 [] true (.ptr [i64 v9.1, dI v9.2])), (9, .ref 9 [] true (dI v10))] rfl ?_ ?_
  · simp <;> simp [ieq, ilt, ile]
  -- region 10
  obtain ⟨v11, hv11, h⟩ := bind_some h
  refine VW.ws tau_ok (Sound.none.add 40 (i_UnitTriple_ok hv11) rfl) [some 38, some 39, some 40, some 37, some 41, some 42, some 10, none, some 11] [(1, .val (dI a1)), (2, .val (.ptr [i64 a0_0, dI a0_1])), (6, .ref 6 [] true (.ptr [dM v8.1.1, dM v8.1.2.1, dM v8.1.2.2])), (7, .val (i64 v8.2)), (8, .ref 8 [] true (.ptr [i64 v9.1, dI v9.2])), (9, .ref 9 [] true (dI v10)), (10, .ref 10 [] true (.ptr [dM v11.1.1, dM v11.1.2.1, dM v11.1.2.2])), (11, .val (i64 v11.2))] rfl ?_ ?_
  · simp <;> simp [ieq, ilt, ile]
  refine VW.sqc fun K12 hK12 hCK12 => ?_
  -- region 11
  obtain ⟨x15, hx15, h⟩ := bind_some h
  refine VW.cut [(1, .val (dI a1)), (2, .val (.ptr [i64 a0_0, dI a0_1])), (6, .ref 6 [] true (.ptr [dM v8.1.1, dM v8.1.2.1, dM v8.1.2.2])), (7, .val (i64 v8.2)), (8, .ref 8 [] true (.ptr [i64 v9.1, dI v9.2])), (9, .ref 9 [] true (dI v10)), (10, .ref 10 [] true (.ptr [dM v11.1.1, dM v11.1.2.1, dM v11.1.2.2])), (11, .val (i64 v11.2)), (51, .val (.bool x15))] ?_ fun hy => ?_
  rotate_left
  · clear h
    obtain ⟨v13, hv13, hx15⟩ := bind_some hx15
    by_cases hp14 : v13 = false
    · rw [if_pos hp14] at hx15
      have hp14b : v13 = false := by simpa [ieq, ilt, ile] using hp14
      have hp14s := hp14b
      try simp at hp14s
      cases hx15
      refine VW.ws tau_ok (Sound.none.add 45 (l_eqTriple_ok hv13) rfl) [some 43, some 44, some 45, some 46, some 47, some 48, some 49, some 50, some 51] _ rfl ?_ hy
      simp [hp14b, hp14s] <;> simp [ieq, ilt, ile]
    · rw [if_neg hp14] at hx15
      have hp14b : v13 = true := by simpa [ieq, ilt, ile] using hp14
      have hp14s := hp14b
      try simp at hp14s
      cases hx15
      refine VW.ws tau_ok (Sound.none.add 45 (l_eqTriple_ok hv13) rfl) [some 43, some 44, some 45, some 46, some 47, some 48, some 49, some 50, some 51] _ rfl ?_ hy
      simp [hp14b, hp14s] <;> simp [ieq, ilt, ile]
  refine VW.cond rfl (fun hb16 => ?_) (fun hb16 => ?_)
  ·
    replace hb16 : x15 = true := by simpa [ieq, ilt, ile] using hb16
    rw [if_pos hb16] at h
    -- region 12
    refine VW.ws tau_ok Sound.none [some 4] [(4, .val (.bool false))] rfl ?_ ?_
    · simp <;> simp [ieq, ilt, ile]
    cases h
    refine VW.ret ?_
    simp [Post, PostM, PostC, PostC2, Nx, Bk]
  replace hb16 : ¬ (x15 = true) := by simpa [ieq, ilt, ile] using hb16
  rw [if_neg hb16] at h
  refine VW.skip ?_
  refine hK12 _ ?_
  refine VW.sqc fun K17 hK17 hCK17 => ?_
  -- region 13
  obtain ⟨v18, hv18, h⟩ := bind_some h
  obtain ⟨v19, hv19, h⟩ := bind_some h
  refine VW.wds tau_ok ((Sound.none.add 54 (l_toDoubling_ok hv18) rfl).add 55 (l_eqDoubling_ok hv19) rfl) try_mixed [some 52, some 53, some 54, some 55, some 56] [(1, .val (dI a1)), (2, .val (.ptr [i64 a0_0, dI a0_1])), (6, .ref 6 [] true (.ptr [dM v8.1.1, dM v8.1.2.1, dM v8.1.2.2])), (7, .val (i64 v8.2)), (8, .ref 8 [] true (.ptr [i64 v9.1, dI v9.2])), (9, .ref 9 [] true (dI v10)), (10, .ref 10 [] true (.ptr [dM v11.1.1, dM v11.1.2.1, dM v11.1.2.2])), (11, .val (i64 v11.2)), (56, .val (.bool (!v19)))] 5 rfl (by kernel_rfl) (by rfl) ?_ ?_
  · simp <;> simp [ieq, ilt, ile]
  refine VW.cond rfl (fun hb20 => ?_) (fun hb20 => ?_)
  ·
    replace hb20 : v19 = false := by simpa [ieq, ilt, ile] using hb20
    rw [if_pos hb20] at h
    -- region 14
    refine VW.ws tau_ok Sound.none [some 4] [(4, .val (.bool false))] rfl ?_ ?_
    · simp <;> simp [ieq, ilt, ile]
    cases h
    refine VW.ret ?_
    simp [Post, PostM, PostC, PostC2, Nx, Bk]
  replace hb20 : ¬ (v19 = false) := by simpa [ieq, ilt, ile] using hb20
  rw [if_neg hb20] at h
  refine VW.skip ?_
  refine hK17 _ ?_
  refine VW.sqc fun K21 hK21 hCK21 => ?_
  -- region 15
  obtain ⟨v22, hv22, h⟩ := bind_some h
  obtain ⟨v23, hv23, h⟩ := bind_some h
  refine VW.ws tau_ok ((Sound.none.add 59 (l_toInt64S_ok hv22) rfl).add 60 (l_eqInt64S_ok hv23) rfl) [some 57, some 58, some 59, some 60, some 61] [(1, .val (dI a1)), (2, .val (.ptr [i64 a0_0, dI a0_1])), (6, .ref 6 [] true (.ptr [dM v8.1.1, dM v8.1.2.1, dM v8.1.2.2])), (7, .val (i64 v8.2)), (8, .ref 8 [] true (.ptr [i64 v9.1, dI v9.2])), (9, .ref 9 [] true (dI v10)), (10, .ref 10 [] true (.ptr [dM v11.1.1, dM v11.1.2.1, dM v11.1.2.2])), (11, .val (i64 v11.2)), (61, .val (.bool (!v23)))] rfl ?_ ?_
  · simp <;> simp [ieq, ilt, ile]
  refine VW.cond rfl (fun hb24 => ?_) (fun hb24 => ?_)
  ·
    replace hb24 : v23 = false := by simpa [ieq, ilt, ile] using hb24
    rw [if_pos hb24] at h
    -- region 16
    refine VW.ws tau_ok Sound.none [some 4] [(4, .val (.bool false))] rfl ?_ ?_
    · simp <;> simp [ieq, ilt, ile]
    cases h
    refine VW.ret ?_
    simp [Post, PostM, PostC, PostC2, Nx, Bk]
  replace hb24 : ¬ (v23 = false) := by simpa [ieq, ilt, ile] using hb24
  rw [if_neg hb24] at h
  refine VW.skip ?_
  refine hK21 _ ?_
  -- region 17
  refine VW.ws tau_ok Sound.none [some 12] [(1, .val (dI a1)), (2, .val (.ptr [i64 a0_0, dI a0_1])), (6, .ref 6 [] true (.ptr [dM v8.1.1, dM v8.1.2.1, dM v8.1.2.2])), (7, .val (i64 v8.2)), (8, .ref 8 [] true (.ptr [i64 v9.1, dI v9.2])), (9, .ref 9 [] true (dI v10)), (10, .ref 10 [] true (.ptr [dM v11.1.1, dM v11.1.2.1, dM v11.1.2.2])), (11, .val (i64 v11.2)), (12, .val (i64 1))] rfl ?_ ?_
  · simp <;> simp [ieq, ilt, ile]
  -- region 18
  obtain ⟨v25, hv25, h⟩ := bind_some h
  refine VW.ws tau_ok (Sound.none.spoilc 64 (l_markDoubling_ok hv25)) [some 62, some 63, some 64, some 12] [(1, .val (dI a1)), (2, .val (.ptr [i64 a0_0, dI a0_1])), (6, .ref 6 [] true (.ptr [dM v8.1.1, dM v8.1.2.1, dM v8.1.2.2])), (7, .val (i64 v8.2)), (9, .ref 9 [] true (dI v10)), (10, .ref 10 [] true (.ptr [dM v11.1.1, dM v11.1.2.1, dM v11.1.2.2])), (11, .val (i64 v11.2)), (12, .val (i64 v25))] rfl ?_ ?_
  · simp <;> simp [ieq, ilt, ile]
  -- region 19
  obtain ⟨v26, hv26, h⟩ := bind_some h
  refine VW.ws tau_ok (Sound.none.mutc 67 (l_markInt64S_ok hv26)) [some 65, some 66, some 67, some 12] [(1, .val (dI a1)), (2, .val (.ptr [i64 a0_0, dI a0_1])), (6, .ref 6 [] true (.ptr [dM v8.1.1, dM v8.1.2.1, dM v8.1.2.2])), (7, .val (i64 v8.2)), (10, .ref 10 [] true (.ptr [dM v11.1.1, dM v11.1.2.1, dM v11.1.2.2])), (11, .val (i64 v11.2)), (12, .val (i64 v26.1))] rfl ?_ ?_
  · simp <;> simp [ieq, ilt, ile]
  refine VW.sqc fun K27 hK27 hCK27 => ?_
  -- region 20
  obtain ⟨x31, hx31, h⟩ := bind_some h
  refine VW.cut [(1, .val (dI a1)), (2, .val (.ptr [i64 a0_0, dI a0_1])), (6, .ref 6 [] true (.ptr [dM v8.1.1, dM v8.1.2.1, dM v8.1.2.2])), (7, .val (i64 v8.2)), (10, .ref 10 [] true (.ptr [dM v11.1.1, dM v11.1.2.1, dM v11.1.2.2])), (80, .val (.bool x31))] ?_ fun hy => ?_
  rotate_left
  · clear h
    by_cases hp28 : v26.1 < 0
    · rw [if_pos hp28] at hx31
      have hp28b : ilt v26.1 0 = true := by simpa [ieq, ilt, ile] using hp28
      have hp28s := hp28b
      try simp at hp28s
      cases hx31
      refine VW.ws tau_ok Sound.none [some 68, some 69, some 70, some 71, some 72, some 73, some 74, some 75, some 76, some 77, some 78, some 79, some 80] _ rfl ?_ hy
      simp [hp28b, hp28s] <;> simp [ieq, ilt, ile]
    · rw [if_neg hp28] at hx31
      have hp28b : ilt v26.1 0 = false := by simpa [ieq, ilt, ile] using hp28
      have hp28s := hp28b
      try simp at hp28s
      obtain ⟨v29, hv29, hx31⟩ := bind_some hx31
      by_cases hp30 : v29 = false
      · rw [if_pos hp30] at hx31
        have hp30b : v29 = false := by simpa [ieq, ilt, ile] using hp30
        have hp30s := hp30b
        try simp at hp30s
        cases hx31
        refine VW.ws tau_ok (Sound.none.add 73 (l_eqTriple_ok hv29) rfl) [some 68, some 69, some 70, some 71, some 72, some 73, some 74, some 75, some 76, some 77, some 78, some 79, some 80] _ rfl ?_ hy
        simp [hp28b, hp28s, hp30b, hp30s] <;> simp [ieq, ilt, ile]
      · rw [if_neg hp30] at hx31
        have hp30b : v29 = true := by simpa [ieq, ilt, ile] using hp30
        have hp30s := hp30b
        try simp at hp30s
        cases hx31
        refine VW.ws tau_ok (Sound.none.add 73 (l_eqTriple_ok hv29) rfl) [some 68, some 69, some 70, some 71, some 72, some 73, some 74, some 75, some 76, some 77, some 78, some 79, some 80] _ rfl ?_ hy
        simp [hp28b, hp28s, hp30b, hp30s] <;> simp [ieq, ilt, ile]
  refine VW.cond rfl (fun hb32 => ?_) (fun hb32 => ?_)
  ·
    replace hb32 : x31 = true := by simpa [ieq, ilt, ile] using hb32
    rw [if_pos hb32] at h
    -- region 21
    refine VW.ws tau_ok Sound.none [some 4] [(4, .val (.bool false))] rfl ?_ ?_
    · simp <;> simp [ieq, ilt, ile]
    cases h
    refine VW.ret ?_
    simp [Post, PostM, PostC, PostC2, Nx, Bk]
  replace hb32 : ¬ (x31 = true) := by simpa [ieq, ilt, ile] using hb32
  rw [if_neg hb32] at h
  refine VW.skip ?_
  refine hK27 _ ?_
  -- region 22
  refine VW.ws tau_ok Sound.none [some 13] [(1, .val (dI a1)), (2, .val (.ptr [i64 a0_0, dI a0_1])), (6, .ref 6 [] true (.ptr [dM v8.1.1, dM v8.1.2.1, dM v8.1.2.2])), (7, .val (i64 v8.2)), (10, .ref 10 [] true (.ptr [dM v11.1.1, dM v11.1.2.1, dM v11.1.2.2])), (13, .val (i64 1))] rfl ?_ ?_
  · simp <;> simp [ieq, ilt, ile]
  -- region 23
  obtain ⟨v33, hv33, h⟩ := bind_some h
  refine VW.ws tau_ok (Sound.none.mutc 83 (l_markTriple_m_ok hv33)) [some 81, some 82, some 83, some 13] [(1, .val (dI a1)), (2, .val (.ptr [i64 a0_0, dI a0_1])), (6, .ref 6 [] true (.ptr [dM v8.1.1, dM v8.1.2.1, dM v8.1.2.2])), (7, .val (i64 v8.2)), (10, .ref 10 [] true (.ptr [dM v33.2.1, dM v33.2.2.1, dM v33.2.2.2])), (13, .val (i64 v33.1))] rfl ?_ ?_
  · simp <;> simp [ieq, ilt, ile]
  -- region 24
  refine VW.ws tau_ok Sound.none [some 14] [(1, .val (dI a1)), (2, .val (.ptr [i64 a0_0, dI a0_1])), (6, .ref 6 [] true (.ptr [dM v8.1.1, dM v8.1.2.1, dM v8.1.2.2])), (7, .val (i64 v8.2)), (10, .ref 10 [] true (.ptr [dM v33.2.1, dM v33.2.2.1, dM v33.2.2.2])), (13, .val (i64 v33.1)), (14, .val (i64 1))] rfl ?_ ?_
  · simp <;> simp [ieq, ilt, ile]
  -- region 25
  obtain ⟨v34, hv34, h⟩ := bind_some h
  refine VW.ws tau_ok (Sound.none.add 86 (l_heldTriple_ok hv34) rfl) [some 84, some 85, some 86, some 14] [(1, .val (dI a1)), (2, .val (.ptr [i64 a0_0, dI a0_1])), (6, .ref 6 [] true (.ptr [dM v8.1.1, dM v8.1.2.1, dM v8.1.2.2])), (7, .val (i64 v8.2)), (10, .ref 10 [] true (.ptr [dM v33.2.1, dM v33.2.2.1, dM v33.2.2.2])), (13, .val (i64 v33.1)), (14, .val (i64 v34))] rfl ?_ ?_
  · simp <;> simp [ieq, ilt, ile]
  refine VW.sqc fun K35 hK35 hCK35 => ?_
  -- region 26
  refine VW.ws tau_ok Sound.none [some 87, some 88] [(1, .val (dI a1)), (2, .val (.ptr [i64 a0_0, dI a0_1])), (6, .ref 6 [] true (.ptr [dM v8.1.1, dM v8.1.2.1, dM v8.1.2.2])), (7, .val (i64 v8.2)), (10, .ref 10 [] true (.ptr [dM v33.2.1, dM v33.2.2.1, dM v33.2.2.2])), (13, .val (i64 v33.1)), (14, .val (i64 v34)), (88, .val (.bool (ilt v34 0)))] rfl ?_ ?_
  · simp <;> simp [ieq, ilt, ile]
  refine VW.cond rfl (fun hb36 => ?_) (fun hb36 => ?_)
  ·
    replace hb36 : v34 < 0 := by simpa [ieq, ilt, ile] using hb36
    rw [if_pos hb36] at h
    -- region 27
    refine VW.ws tau_ok Sound.none [some 4] [(4, .val (.bool false))] rfl ?_ ?_
    · simp <;> simp [ieq, ilt, ile]
    cases h
    refine VW.ret ?_
    simp [Post, PostM, PostC, PostC2, Nx, Bk]
  replace hb36 : ¬ (v34 < 0) := by simpa [ieq, ilt, ile] using hb36
  rw [if_neg hb36] at h
  refine VW.skip ?_
  refine hK35 _ ?_
  refine VW.sqc fun K37 hK37 hCK37 => ?_
  -- region 28
  refine VW.ws tau_ok Sound.none [some 89, some 90, some 91] [(1, .val (dI a1)), (2, .val (.ptr [i64 a0_0, dI a0_1])), (6, .ref 6 [] true (.ptr [dM v8.1.1, dM v8.1.2.1, dM v8.1.2.2])), (7, .val (i64 v8.2)), (10, .ref 10 [] true (.ptr [dM v33.2.1, dM v33.2.2.1, dM v33.2.2.2])), (13, .val (i64 v33.1)), (91, .val (.bool (!(ieq v34 v33.1))))] rfl ?_ ?_
  · simp <;> simp [ieq, ilt, ile]
  refine VW.cond rfl (fun hb38 => ?_) (fun hb38 => ?_)
  ·
    replace hb38 : ¬ v34 = v33.1 := by simpa [ieq, ilt, ile] using hb38
    rw [if_pos hb38] at h
    -- region 29
    refine VW.ws tau_ok Sound.none [some 4] [(4, .val (.bool false))] rfl ?_ ?_
    · simp <;> simp [ieq, ilt, ile]
    cases h
    refine VW.ret ?_
    simp [Post, PostM, PostC, PostC2, Nx, Bk]
  replace hb38 : ¬ (¬ v34 = v33.1) := by simpa [ieq, ilt, ile] using hb38
  rw [if_neg hb38] at h
  refine VW.skip ?_
  refine hK37 _ ?_
  -- region 30
  obtain ⟨v39, hv39, h⟩ := bind_some h
  obtain ⟨v40, hv40, h⟩ := bind_some h
  obtain ⟨v41, hv41, h⟩ := bind_some h
  refine VW.ws tau_ok (((Sound.none.add 94 (l_toDoubling_ok hv39) rfl).add 96 (l_toInt64S_ok hv40) rfl).add 97 (i_UnitTriple_ok hv41) rfl) [some 93, some 94, some 95, some 96, some 97, some 92, some 98, some 99, some 15, none, some 16] [(6, .ref 6 [] true (.ptr [dM v8.1.1, dM v8.1.2.1, dM v8.1.2.2])), (7, .val (i64 v8.2)), (10, .ref 10 [] true (.ptr [dM v33.2.1, dM v33.2.2.1, dM v33.2.2.2])), (13, .val (i64 v33.1)), (15, .ref 15 [] true (.ptr [dM v41.1.1, dM v41.1.2.1, dM v41.1.2.2])), (16, .val (i64 v41.2))] rfl ?_ ?_
  · simp <;> simp [ieq, ilt, ile]
  refine VW.sqc fun K42 hK42 hCK42 => ?_
  -- region 31
  obtain ⟨x45, hx45, h⟩ := bind_some h
  refine VW.cut [(10, .ref 10 [] true (.ptr [dM v33.2.1, dM v33.2.2.1, dM v33.2.2.2])), (13, .val (i64 v33.1)), (108, .val (.bool x45))] ?_ fun hy => ?_
  rotate_left
  · clear h
    obtain ⟨v43, hv43, hx45⟩ := bind_some hx45
    by_cases hp44 : v43 = false
    · rw [if_pos hp44] at hx45
      have hp44b : v43 = false := by simpa [ieq, ilt, ile] using hp44
      have hp44s := hp44b
      try simp at hp44s
      cases hx45
      refine VW.ws tau_ok (Sound.none.add 102 (l_eqTriple_ok hv43) rfl) [some 100, some 101, some 102, some 103, some 104, some 105, some 106, some 107, some 108] _ rfl ?_ hy
      simp [hp44b, hp44s] <;> simp [ieq, ilt, ile]
    · rw [if_neg hp44] at hx45
      have hp44b : v43 = true := by simpa [ieq, ilt, ile] using hp44
      have hp44s := hp44b
      try simp at hp44s
      cases hx45
      refine VW.ws tau_ok (Sound.none.add 102 (l_eqTriple_ok hv43) rfl) [some 100, some 101, some 102, some 103, some 104, some 105, some 106, some 107, some 108] _ rfl ?_ hy
      simp [hp44b, hp44s] <;> simp [ieq, ilt, ile]
  refine VW.cond rfl (fun hb46 => ?_) (fun hb46 => ?_)
  ·
    replace hb46 : x45 = true := by simpa [ieq, ilt, ile] using hb46
    rw [if_pos hb46] at h
    -- region 32
    refine VW.ws tau_ok Sound.none [some 4] [(4, .val (.bool false))] rfl ?_ ?_
    · simp <;> simp [ieq, ilt, ile]
    cases h
    refine VW.ret ?_
    simp [Post, PostM, PostC, PostC2, Nx, Bk]
  replace hb46 : ¬ (x45 = true) := by simpa [ieq, ilt, ile] using hb46
  rw [if_neg hb46] at h
  refine VW.skip ?_
  refine hK42 _ ?_
  -- region 33
  refine VW.ws tau_ok Sound.none [some 14] [(10, .ref 10 [] true (.ptr [dM v33.2.1, dM v33.2.2.1, dM v33.2.2.2])), (13, .val (i64 v33.1)), (14, .val (i64 1))] rfl ?_ ?_
  · simp <;> simp [ieq, ilt, ile]
  -- region 34
  obtain ⟨v47, hv47, h⟩ := bind_some h
  refine VW.ws tau_ok (Sound.none.add 111 (l_heldTriple_ok hv47) rfl) [some 109, some 110, some 111, some 14] [(13, .val (i64 v33.1)), (14, .val (i64 v47))] rfl ?_ ?_
  · simp <;> simp [ieq, ilt, ile]
  refine VW.sqc fun K48 hK48 hCK48 => ?_
  -- region 35
  refine VW.ws tau_ok Sound.none [some 112, some 113] [(13, .val (i64 v33.1)), (14, .val (i64 v47)), (113, .val (.bool (ilt v47 0)))] rfl ?_ ?_
  · simp <;> simp [ieq, ilt, ile]
  refine VW.cond rfl (fun hb49 => ?_) (fun hb49 => ?_)
  ·
    replace hb49 : v47 < 0 := by simpa [ieq, ilt, ile] using hb49
    rw [if_pos hb49] at h
    -- region 36
    refine VW.ws tau_ok Sound.none [some 4] [(4, .val (.bool false))] rfl ?_ ?_
    · simp <;> simp [ieq, ilt, ile]
    cases h
    refine VW.ret ?_
    simp [Post, PostM, PostC, PostC2, Nx, Bk]
  replace hb49 : ¬ (v47 < 0) := by simpa [ieq, ilt, ile] using hb49
  rw [if_neg hb49] at h
  refine VW.skip ?_
  refine hK48 _ ?_
  refine VW.sqc fun K50 hK50 hCK50 => ?_
  -- region 37
  refine VW.ws tau_ok Sound.none [some 114, some 115, some 116] [(116, .val (.bool (!(ieq v47 v33.1))))] rfl ?_ ?_
  · simp <;> simp [ieq, ilt, ile]
  refine VW.cond rfl (fun hb51 => ?_) (fun hb51 => ?_)
  ·
    replace hb51 : ¬ v47 = v33.1 := by simpa [ieq, ilt, ile] using hb51
    rw [if_pos hb51] at h
    -- region 38
    refine VW.ws tau_ok Sound.none [some 4] [(4, .val (.bool false))] rfl ?_ ?_
    · simp <;> simp [ieq, ilt, ile]
    cases h
    refine VW.ret ?_
    simp [Post, PostM, PostC, PostC2, Nx, Bk]
  replace hb51 : ¬ (¬ v47 = v33.1) := by simpa [ieq, ilt, ile] using hb51
  rw [if_neg hb51] at h
  refine VW.skip ?_
  refine hK50 _ ?_
  -- region 39
  refine VW.ws tau_ok Sound.none [some 4] [(4, .val (.bool true))] rfl ?_ ?_
  · simp <;> simp [ieq, ilt, ile]
  cases h
  refine VW.ret ?_
  simp [Post, PostM, PostC, PostC2, Nx, Bk]
end Go.Vam
