import Derived.Test.YtdoimfkonaeceaaR5T
import Derived.Test.YtdoimfkonaeceaaFnD
import Derived.Test.YtdoimfkonaeceaaR5W3
import Derived.Test.YtdoimfkonaeceaaR5W4
import Derived.Test.YtdoimfkonaeceaaR5W5
namespace Go.Vam
open Go Go.RowKit Go.Proofs
set_option maxRecDepth 100000
set_option linter.unusedSimpArgs false
set_option linter.unusedVariables false

theorem i_field_conjugate_ok {a0 : Int} {a1 : List Int} {r : List Int} (h : i_field_conjugate a0 a1 = some r) :
    VCall Try.prog 231 [i64 a0, dI a1] [.own true (dI r)] := by
  unfold i_field_conjugate at h
  refine VCall.enter Try.call231 Try.func231 rfl 15 Try.ntmps231 (by simp) [.tmp 4] rfl ?_
  show VW _ _ _ (mk [(0, .val (i64 a0)), (1, .val (dI a1))]) _
  -- region 0
  refine VW.ws tau_ok Sound.none [some 4] [(0, .val (i64 a0)), (1, .val (dI a1))] rfl ?_ ?_
  · simp <;> simp [ieq, ilt, ile]
  -- region 1
  obtain ⟨v1, hv1, h⟩ := bind_some h
  refine VW.ws tau_ok (Sound.none.add 8 (i_field_scaled_ok hv1) rfl) [some 6, some 7, some 8, some 5] [(1, .val (dI a1)), (5, .ref 5 [] true (dI v1))] rfl ?_ ?_
  · simp <;> simp [ieq, ilt, ile]
  -- region 2
  obtain ⟨v2, hv2, h⟩ := bind_some h
  obtain ⟨hv2a, hv2b, hv2c, hv2d⟩ := idx_some hv2
  replace hv2b : 0 < a1.length := hv2b
  replace hv2c : a1[0]? = some v2 := hv2c
  replace hv2d : ∀ h, a1[0]'h = v2 := hv2d
  obtain ⟨v3, hv3, h⟩ := bind_some h
  obtain ⟨hv3a, hv3b, hv3c, hv3d⟩ := idx_some hv3
  replace hv3b : 0 < v1.length := hv3b
  replace hv3c : v1[0]? = some v3 := hv3c
  replace hv3d : ∀ h, v1[0]'h = v3 := hv3d
  refine VW.ws tau_ok Sound.none [some 9, some 10, some 11, some 12, some 13, none] [(5, .ref 5 [] true (dI (v1.set 0 v2)))] rfl ?_ ?_
  · simp [hv2a, hv2b, hv2c, hv2d, hv3a, hv3b, hv3c, hv3d] <;> simp [ieq, ilt, ile]
  -- region 3
  refine VW.ws tau_ok Sound.none [some 14, some 4] [(4, .ref 4 [] true (dI (v1.set 0 v2)))] rfl ?_ ?_
  · simp <;> simp [ieq, ilt, ile]
  cases h
  refine VW.ret ?_
  simp [Post, PostM, PostC, PostC2, Nx, Bk]

theorem i_field_doubled_b_ok {self : Int → (List Int) → (List Int) → (List Int) → Option (List Int)} (hself : ∀ {a0 a1 a2 a3} {r : List Int}, self a0 a1 a2 a3 = some r → VCall Try.prog 223 [i64 a0, dI a1, dI a2, dI a3] [.own true (dI r)]) {a0 : Int} {a1 : List Int} {a2 : List Int} {a3 : List Int} {r : List Int} (h : i_field_doubled_b self a0 a1 a2 a3 = some r) :
    VCall Try.prog 223 [i64 a0, dI a1, dI a2, dI a3] [.own true (dI r)] := by
  unfold i_field_doubled_b at h
  refine VCall.enter Try.call223 Try.func223 rfl 87 Try.ntmps223 (by simp) [.tmp 8] rfl ?_
  show VW _ _ _ (mk [(0, .val (i64 a0)), (1, .val (dI a1)), (2, .val (dI a2)), (3, .val (dI a3))]) _
  -- region 0
  refine VW.ws tau_ok Sound.none [some 8] [(0, .val (i64 a0)), (1, .val (dI a1)), (2, .val (dI a2)), (3, .val (dI a3))] rfl ?_ ?_
  · simp <;> simp [ieq, ilt, ile]
  refine VW.sqc fun K1 hK1 hCK1 => ?_
  -- region 1
  refine VW.ws tau_ok Sound.none [some 18, some 19, some 20] [(0, .val (i64 a0)), (1, .val (dI a1)), (2, .val (dI a2)), (3, .val (dI a3)), (20, .val (.bool (ieq (a1.length : Int) 0)))] rfl ?_ ?_
  · simp <;> simp [ieq, ilt, ile]
  refine VW.cond rfl (fun hb2 => ?_) (fun hb2 => ?_)
  ·
    replace hb2 : (a1.length : Int) = 0 := by simpa [ieq, ilt, ile] using hb2
    rw [if_pos hb2] at h
    -- region 2
    obtain ⟨v3, hv3, h⟩ := bind_some h
    obtain ⟨hv3a, hv3b, hv3c, hv3d⟩ := idx_some hv3
    replace hv3b : 0 < a2.length := hv3b
    replace hv3c : a2[0]? = some v3 := hv3c
    replace hv3d : ∀ h, a2[0]'h = v3 := hv3d
    obtain ⟨v4, hv4, h⟩ := bind_some h
    obtain ⟨hv4a, hv4b, hv4c, hv4d⟩ := idx_some hv4
    replace hv4b : 0 < a3.length := hv4b
    replace hv4c : a3[0]? = some v4 := hv4c
    replace hv4d : ∀ h, a3[0]'h = v4 := hv4d
    obtain ⟨v5, hv5, h⟩ := bind_some h
    refine VW.wds tau_ok (Sound.none.add 29 (i_field_num_ok hv5) rfl) try_mixed [some 21, some 22, some 23, some 24, some 25, some 26, some 27, some 28, some 29, some 30, some 8] [(8, .ref 8 [] true (dI [v5]))] 10 rfl (by kernel_rfl) (by rfl) ?_ ?_
    · simp [hv3a, hv3b, hv3c, hv3d, hv4a, hv4b, hv4c, hv4d] <;> simp [ieq, ilt, ile]
    cases h
    refine VW.ret ?_
    simp [Post, PostM, PostC, PostC2, Nx, Bk]
  replace hb2 : ¬ ((a1.length : Int) = 0) := by simpa [ieq, ilt, ile] using hb2
  rw [if_neg hb2] at h
  refine VW.skip ?_
  refine hK1 _ ?_
  -- region 3
  refine VW.ws tau_ok Sound.none [some 31, some 32, some 33, some 34, some 35, some 36, some 9, some 10] [(0, .val (i64 a0)), (1, .val (dI a1)), (2, .val (dI a2)), (3, .val (dI a3)), (9, .val (i64 (w64 ((a1.length : Int) - 1)))), (10, .val (i64 (w64 ((a2.length : Int).tdiv 2))))] rfl ?_ ?_
  · simp <;> simp [ieq, ilt, ile]
  -- region 4
  obtain ⟨hc6, h⟩ := chk_some h
  have hc6s := hc6
  try simp at hc6s
  obtain ⟨hc7, h⟩ := chk_some h
  have hc7s := hc7
  try simp at hc7s
  obtain ⟨hc8, h⟩ := chk_some h
  have hc8s := hc8
  try simp at hc8s
  obtain ⟨hc9, h⟩ := chk_some h
  have hc9s := hc9
  try simp at hc9s
  refine VW.wds tau_ok Sound.none try_mixed [some 37, some 38, some 39, some 40, some 41, some 42, some 43, some 44, some 45, some 46, some 47, some 48, some 11, some 12, some 13, some 14] [(0, .val (i64 a0)), (1, .val (dI a1)), (9, .val (i64 (w64 ((a1.length : Int) - 1)))), (11, .val (dI (a2.take (w64 ((a2.length : Int).tdiv 2)).toNat))), (12, .val (dI (a2.drop (w64 ((a2.length : Int).tdiv 2)).toNat))), (13, .val (dI (a3.take (w64 ((a2.length : Int).tdiv 2)).toNat))), (14, .val (dI (a3.drop (w64 ((a2.length : Int).tdiv 2)).toNat)))] 16 rfl (by kernel_rfl) (by rfl) ?_ ?_
  · simp [hc6, hc6s, hc7, hc7s, hc8, hc8s, hc9, hc9s] <;> simp [ieq, ilt, ile]
  -- region 5
  obtain ⟨hc10, h⟩ := chk_some h
  have hc10s := hc10
  try simp at hc10s
  refine VW.ws tau_ok Sound.none [some 49, some 50, some 51, some 15] [(0, .val (i64 a0)), (1, .val (dI a1)), (9, .val (i64 (w64 ((a1.length : Int) - 1)))), (11, .val (dI (a2.take (w64 ((a2.length : Int).tdiv 2)).toNat))), (12, .val (dI (a2.drop (w64 ((a2.length : Int).tdiv 2)).toNat))), (13, .val (dI (a3.take (w64 ((a2.length : Int).tdiv 2)).toNat))), (14, .val (dI (a3.drop (w64 ((a2.length : Int).tdiv 2)).toNat))), (15, .val (dI (a1.take (w64 ((a1.length : Int) - 1)).toNat)))] rfl ?_ ?_
  · simp [hc10, hc10s] <;> simp [ieq, ilt, ile]
  -- region 6
  obtain ⟨v11, hv11, h⟩ := bind_some h
  obtain ⟨v12, hv12, h⟩ := bind_some h
  obtain ⟨v13, hv13, h⟩ := bind_some h
  obtain ⟨v14, hv14, h⟩ := bind_some h
  obtain ⟨hv14a, hv14b, hv14c, hv14d⟩ := idx_some hv14
  obtain ⟨v15, hv15, h⟩ := bind_some h
  refine VW.wds tau_ok ((((Sound.none.add 57 (hself hv11) rfl).add 62 (i_field_conjugate_ok hv12) rfl).add 64 (hself hv13) rfl).add 69 (i_field_plus_ok hv15) rfl) try_mixed [some 52, some 53, some 54, some 55, some 56, some 57, some 58, some 59, some 60, some 61, some 62, some 63, some 64, some 65, some 66, some 67, some 68, some 69, some 16] [(0, .val (i64 a0)), (11, .val (dI (a2.take (w64 ((a2.length : Int).tdiv 2)).toNat))), (12, .val (dI (a2.drop (w64 ((a2.length : Int).tdiv 2)).toNat))), (13, .val (dI (a3.take (w64 ((a2.length : Int).tdiv 2)).toNat))), (14, .val (dI (a3.drop (w64 ((a2.length : Int).tdiv 2)).toNat))), (15, .val (dI (a1.take (w64 ((a1.length : Int) - 1)).toNat))), (16, .ref 16 [] true (dI v15))] 18 rfl (by kernel_rfl) (by rfl) ?_ ?_
  · simp [hv14a, hv14b, hv14c, hv14d] <;> simp [ieq, ilt, ile]
  -- region 7
  obtain ⟨v16, hv16, h⟩ := bind_some h
  obtain ⟨v17, hv17, h⟩ := bind_some h
  obtain ⟨v18, hv18, h⟩ := bind_some h
  obtain ⟨v19, hv19, h⟩ := bind_some h
  refine VW.ws tau_ok ((((Sound.none.add 75 (hself hv16) rfl).add 81 (i_field_conjugate_ok hv17) rfl).add 82 (hself hv18) rfl).add 83 (i_field_plus_ok hv19) rfl) [some 70, some 71, some 72, some 73, some 74, some 75, some 76, some 77, some 78, some 79, some 80, some 81, some 82, some 83, some 17] [(16, .ref 16 [] true (dI v15)), (17, .ref 17 [] true (dI v19))] rfl ?_ ?_
  · simp <;> simp [ieq, ilt, ile]
  -- region 8
  obtain ⟨hc20, h⟩ := chk_some h
  have hc20s := hc20
  try simp at hc20s
  refine VW.ws tau_ok Sound.none [some 84, some 85, some 86, some 8] [(8, .ref 8 [] true (dI (v15 ++ v19)))] rfl ?_ ?_
  · simp [hc20, hc20s] <;> simp [ieq, ilt, ile]
  cases h
  refine VW.ret ?_
  simp [Post, PostM, PostC, PostC2, Nx, Bk]
theorem i_field_doubled_ok : ∀ {n : Nat} {a0 : Int} {a1 : List Int} {a2 : List Int} {a3 : List Int} {r : List Int} (_ : i_field_doubled n a0 a1 a2 a3 = some r),
    VCall Try.prog 223 [i64 a0, dI a1, dI a2, dI a3] [.own true (dI r)]
  | 0, _, _, _, _, _, h => by cases h
  | n + 1, _, _, _, _, _, h => i_field_doubled_b_ok (fun h => i_field_doubled_ok (n := n) h) h

theorem i_Doubling_times_ok {a0_0 : Int} {a0_1 : List Int} {a1 : List Int} {a2 : List Int} {r : List Int} (h : i_Doubling_times a0_0 a0_1 a1 a2 = some r) :
    VCall Try.prog 128 [.agg [i64 a0_0, dI a0_1], dI a1, dI a2] [.own true (dI r)] := by
  unfold i_Doubling_times at h
  refine VCall.enter Try.call128 Try.func128 rfl 14 Try.ntmps128 (by simp) [.tmp 6] rfl ?_
  show VW _ _ _ (mk [(0, .val (.agg [i64 a0_0, dI a0_1])), (1, .val (dI a1)), (2, .val (dI a2))]) _
  -- region 0
  refine VW.ws tau_ok Sound.none [some 3, some 6] [(1, .val (dI a1)), (2, .val (dI a2)), (3, .val (.ptr [i64 a0_0, dI a0_1]))] rfl ?_ ?_
  · simp <;> simp [ieq, ilt, ile]
  -- region 1
  obtain ⟨v1, hv1, h⟩ := bind_some h
  obtain ⟨v2, hv2, h⟩ := bind_some h
  refine VW.wds tau_ok ((Sound.none.add 8 (i_Doubling_field_ok hv1) rfl).add 13 (i_field_doubled_ok (n := BIG) hv2) rfl) try_mixed [some 7, some 8, some 9, some 10, some 11, some 12, some 13, some 6] [(6, .ref 6 [] true (dI v2))] 7 rfl (by kernel_rfl) (by rfl) ?_ ?_
  · simp <;> simp [ieq, ilt, ile]
  cases h
  refine VW.ret ?_
  simp [Post, PostM, PostC, PostC2, Nx, Bk]

theorem i_field_dot_ok {a0 : Int} {a1 : List Int} {a2 : List Int} {r : Int} (h : i_field_dot a0 a1 a2 = some r) :
    VCall Try.prog 207 [i64 a0, dI a1, dI a2] [.sc (i64 r)] := by
  unfold i_field_dot at h
  refine VCall.enter Try.call207 Try.func207 rfl 29 Try.ntmps207 (by simp) [.tmp 6] rfl ?_
  show VW _ _ _ (mk [(0, .val (i64 a0)), (1, .val (dI a1)), (2, .val (dI a2))]) _
  -- region 0
  refine VW.ws tau_ok Sound.none [some 6] [(0, .val (i64 a0)), (1, .val (dI a1)), (2, .val (dI a2))] rfl ?_ ?_
  · simp <;> simp [ieq, ilt, ile]
  -- region 1
  refine VW.ws tau_ok Sound.none [some 7] [(0, .val (i64 a0)), (1, .val (dI a1)), (2, .val (dI a2)), (7, .val (i64 0))] rfl ?_ ?_
  · simp <;> simp [ieq, ilt, ile]
  refine VW.sqc fun K1 hK1 hCK1 => ?_
  -- region 2
  refine VW.ws tau_ok Sound.none [some 10, some 11, some 12] [(0, .val (i64 a0)), (2, .val (dI a2)), (7, .val (i64 0)), (10, .val (dI a1)), (11, .val (i64 (a1.length : Int))), (12, .val (i64 0))] rfl ?_ ?_
  · simp <;> simp [ieq, ilt, ile]
  obtain ⟨x2, hx2, h⟩ := bind_some h
  refine VW.tlE [(0, .val (i64 a0)), (7, .val (i64 x2))] (hCK1) ?_ ?_
  · clear hx2
    refine hK1 _ ?_
    -- region 7
    obtain ⟨v9, hv9, h⟩ := bind_some h
    refine VW.ws tau_ok (Sound.none.add 28 (i_field_num_ok hv9) rfl) [some 26, some 27, some 28, some 6] [(6, .val (i64 v9))] rfl ?_ ?_
    · simp <;> simp [ieq, ilt, ile]
    cases h
    refine VW.ret ?_
    simp [Post, PostM, PostC, PostC2, Nx, Bk]
  refine VW.block ?_
  refine VW.loopF (i_field_dot_L0 a1 a2) (fun s2 => [(0, .val (i64 a0)), (2, .val (dI a2)), (7, .val (i64 s2.1)), (10, .val (dI a1)), (11, .val (i64 (a1.length : Int))), (12, .val (i64 s2.2))]) hx2 (Fits.of rfl) ?_
  clear hx2
  intro s2 ox2 hx2o hx2b
  unfold i_field_dot_L0 at hx2o
  -- region 3
  refine VW.ws tau_ok Sound.none [some 13] [(0, .val (i64 a0)), (2, .val (dI a2)), (7, .val (i64 s2.1)), (10, .val (dI a1)), (11, .val (i64 (a1.length : Int))), (12, .val (i64 s2.2)), (13, .val (.bool (ilt s2.2 (a1.length : Int))))] rfl ?_ ?_
  · simp <;> simp [ieq, ilt, ile]
  refine VW.sqc fun K4 hK4 hCK4 => ?_
  refine VW.cond rfl (fun hb5 => ?_) (fun hb5 => ?_)
  rotate_left
  ·
    replace hb5 : ¬ (s2.2 < (a1.length : Int)) := by simpa [ieq, ilt, ile] using hb5
    rw [if_neg hb5] at hx2o
    refine VW.exit ?_
    cases hx2o
    have hq := hx2b _ rfl
    subst hq
    exact Fits.of rfl
  replace hb5 : s2.2 < (a1.length : Int) := by simpa [ieq, ilt, ile] using hb5
  rw [if_pos hb5] at hx2o
  refine VW.skip ?_
  refine hK4 _ ?_
  refine VW.sqc fun K6 hK6 hCK6 => ?_
  refine VW.block ?_
  -- region 4
  obtain ⟨v7, hv7, hx2o⟩ := bind_some hx2o
  obtain ⟨hv7a, hv7b, hv7c, hv7d⟩ := idx_some hv7
  refine VW.ws tau_ok Sound.none [some 14, some 15, some 16, some 8, some 9] [(0, .val (i64 a0)), (2, .val (dI a2)), (7, .val (i64 s2.1)), (8, .val (i64 s2.2)), (9, .val (i64 v7)), (10, .val (dI a1)), (11, .val (i64 (a1.length : Int))), (12, .val (i64 s2.2))] rfl ?_ ?_
  · simp [hv7a, hv7b, hv7c, hv7d] <;> simp [ieq, ilt, ile]
  -- region 5
  obtain ⟨v8, hv8, hx2o⟩ := bind_some hx2o
  obtain ⟨hv8a, hv8b, hv8c, hv8d⟩ := idx_some hv8
  refine VW.wr tau_ok Sound.none [some 17, some 18, some 19, some 20, some 21, some 22, some 23, some 24, some 7] [(0, .val (i64 a0)), (2, .val (dI a2)), (7, .val (i64 (w64 (s2.1 + (w64 (v7 * v8)))))), (10, .val (dI a1)), (11, .val (i64 (a1.length : Int))), (12, .val (i64 s2.2))] rfl ?_ ?_
  · simp [hv8a, hv8b, hv8c, hv8d] <;> simp [ieq, ilt, ile]
  refine hK6 _ ?_
  -- region 6
  refine VW.wr tau_ok Sound.none [some 25, some 12] [(0, .val (i64 a0)), (2, .val (dI a2)), (7, .val (i64 (w64 (s2.1 + (w64 (v7 * v8)))))), (10, .val (dI a1)), (11, .val (i64 (a1.length : Int))), (12, .val (i64 (w64 (s2.2 + 1))))] rfl ?_ ?_
  · simp <;> simp [ieq, ilt, ile]
  cases hx2o
  exact ⟨_, rfl, Fits.of rfl⟩

theorem i_field_apply_ok {a0 : Int} {a1 : List (List Int)} {a2 : List Int} {r : List Int} (h : i_field_apply a0 a1 a2 = some r) :
    VCall Try.prog 111 [i64 a0, dM a1, dI a2] [.own true (dI r)] := by
  unfold i_field_apply at h
  refine VCall.enter Try.call111 Try.func111 rfl 26 Try.ntmps111 (by simp) [.tmp 6] rfl ?_
  show VW _ _ _ (mk [(0, .val (i64 a0)), (1, .val (dM a1)), (2, .val (dI a2))]) _
  -- region 0
  refine VW.ws tau_ok Sound.none [some 6] [(0, .val (i64 a0)), (1, .val (dM a1)), (2, .val (dI a2))] rfl ?_ ?_
  · simp <;> simp [ieq, ilt, ile]
  -- region 1
  refine VW.ws tau_ok Sound.none [some 10, some 7] [(0, .val (i64 a0)), (1, .val (dM a1)), (2, .val (dI a2)), (7, .ref 7 [] true (dI []))] rfl ?_ ?_
  · simp <;> simp [ieq, ilt, ile]
  refine VW.sqc fun K1 hK1 hCK1 => ?_
  -- region 2
  refine VW.ws tau_ok Sound.none [some 11, some 12, some 13] [(0, .val (i64 a0)), (2, .val (dI a2)), (7, .ref 7 [] true (dI [])), (11, .val (dM a1)), (12, .val (i64 (a1.length : Int))), (13, .val (i64 0))] rfl ?_ ?_
  · simp <;> simp [ieq, ilt, ile]
  obtain ⟨x2, hx2, h⟩ := bind_some h
  refine VW.tlE [(7, .ref 7 [] true (dI x2))] (hCK1) ?_ ?_
  · clear hx2
    refine hK1 _ ?_
    -- region 7
    refine VW.ws tau_ok Sound.none [some 25, some 6] [(6, .ref 6 [] true (dI x2))] rfl ?_ ?_
    · simp <;> simp [ieq, ilt, ile]
    cases h
    refine VW.ret ?_
    simp [Post, PostM, PostC, PostC2, Nx, Bk]
  refine VW.block ?_
  refine VW.loopF (i_field_apply_L0 a0 a1 a2) (fun s2 => [(0, .val (i64 a0)), (2, .val (dI a2)), (7, .ref 7 [] true (dI s2.1)), (11, .val (dM a1)), (12, .val (i64 (a1.length : Int))), (13, .val (i64 s2.2))]) hx2 (Fits.of rfl) ?_
  clear hx2
  intro s2 ox2 hx2o hx2b
  unfold i_field_apply_L0 at hx2o
  -- region 3
  refine VW.ws tau_ok Sound.none [some 14] [(0, .val (i64 a0)), (2, .val (dI a2)), (7, .ref 7 [] true (dI s2.1)), (11, .val (dM a1)), (12, .val (i64 (a1.length : Int))), (13, .val (i64 s2.2)), (14, .val (.bool (ilt s2.2 (a1.length : Int))))] rfl ?_ ?_
  · simp <;> simp [ieq, ilt, ile]
  refine VW.sqc fun K4 hK4 hCK4 => ?_
  refine VW.cond rfl (fun hb5 => ?_) (fun hb5 => ?_)
  rotate_left
  ·
    replace hb5 : ¬ (s2.2 < (a1.length : Int)) := by simpa [ieq, ilt, ile] using hb5
    rw [if_neg hb5] at hx2o
    refine VW.exit ?_
    cases hx2o
    have hq := hx2b _ rfl
    subst hq
    exact Fits.of rfl
  replace hb5 : s2.2 < (a1.length : Int) := by simpa [ieq, ilt, ile] using hb5
  rw [if_pos hb5] at hx2o
  refine VW.skip ?_
  refine hK4 _ ?_
  refine VW.sqc fun K6 hK6 hCK6 => ?_
  refine VW.block ?_
  -- region 4
  obtain ⟨v7, hv7, hx2o⟩ := bind_some hx2o
  obtain ⟨hv7a, hv7b, hv7c, hv7d⟩ := idx_some hv7
  refine VW.ws tau_ok Sound.none [some 15, some 16, some 9] [(0, .val (i64 a0)), (2, .val (dI a2)), (7, .ref 7 [] true (dI s2.1)), (9, .val (dI v7)), (11, .val (dM a1)), (12, .val (i64 (a1.length : Int))), (13, .val (i64 s2.2))] rfl ?_ ?_
  · simp [hv7a, hv7b, hv7c, hv7d] <;> simp [ieq, ilt, ile]
  -- region 5
  obtain ⟨v8, hv8, hx2o⟩ := bind_some hx2o
  obtain ⟨hc9, hx2o⟩ := chk_some hx2o
  have hc9s := hc9
  try simp at hc9s
  refine VW.wr tau_ok (Sound.none.add 21 (i_field_dot_ok hv8) rfl) [some 17, some 18, some 19, some 20, some 21, some 22, some 23, some 7] [(0, .val (i64 a0)), (2, .val (dI a2)), (7, .ref 7 [] true (dI (s2.1 ++ [v8]))), (11, .val (dM a1)), (12, .val (i64 (a1.length : Int))), (13, .val (i64 s2.2))] rfl ?_ ?_
  · simp [hc9, hc9s] <;> simp [ieq, ilt, ile]
  refine hK6 _ ?_
  -- region 6
  refine VW.wr tau_ok Sound.none [some 24, some 13] [(0, .val (i64 a0)), (2, .val (dI a2)), (7, .ref 7 [] true (dI (s2.1 ++ [v8]))), (11, .val (dM a1)), (12, .val (i64 (a1.length : Int))), (13, .val (i64 (w64 (s2.2 + 1))))] rfl ?_ ?_
  · simp <;> simp [ieq, ilt, ile]
  cases hx2o
  exact ⟨_, rfl, Fits.of rfl⟩

theorem i_column_ok {a0 : List (List Int)} {a1 : Int} {r : List Int} (h : i_column a0 a1 = some r) :
    VCall Try.prog 198 [dM a0, i64 a1] [.own true (dI r)] := by
  unfold i_column at h
  refine VCall.enter Try.call198 Try.func198 rfl 24 Try.ntmps198 (by simp) [.tmp 4] rfl ?_
  show VW _ _ _ (mk [(0, .val (dM a0)), (1, .val (i64 a1))]) _
  -- region 0
  refine VW.ws tau_ok Sound.none [some 4] [(0, .val (dM a0)), (1, .val (i64 a1))] rfl ?_ ?_
  · simp <;> simp [ieq, ilt, ile]
  -- region 1
  refine VW.ws tau_ok Sound.none [some 8, some 5] [(0, .val (dM a0)), (1, .val (i64 a1)), (5, .ref 5 [] true (dI []))] rfl ?_ ?_
  · simp <;> simp [ieq, ilt, ile]
  refine VW.sqc fun K1 hK1 hCK1 => ?_
  -- region 2
  refine VW.ws tau_ok Sound.none [some 9, some 10, some 11] [(1, .val (i64 a1)), (5, .ref 5 [] true (dI [])), (9, .val (dM a0)), (10, .val (i64 (a0.length : Int))), (11, .val (i64 0))] rfl ?_ ?_
  · simp <;> simp [ieq, ilt, ile]
  obtain ⟨x2, hx2, h⟩ := bind_some h
  refine VW.tlE [(5, .ref 5 [] true (dI x2))] (hCK1) ?_ ?_
  · clear hx2
    refine hK1 _ ?_
    -- region 7
    refine VW.ws tau_ok Sound.none [some 23, some 4] [(4, .ref 4 [] true (dI x2))] rfl ?_ ?_
    · simp <;> simp [ieq, ilt, ile]
    cases h
    refine VW.ret ?_
    simp [Post, PostM, PostC, PostC2, Nx, Bk]
  refine VW.block ?_
  refine VW.loopF (i_column_L0 a0 a1) (fun s2 => [(1, .val (i64 a1)), (5, .ref 5 [] true (dI s2.1)), (9, .val (dM a0)), (10, .val (i64 (a0.length : Int))), (11, .val (i64 s2.2))]) hx2 (Fits.of rfl) ?_
  clear hx2
  intro s2 ox2 hx2o hx2b
  unfold i_column_L0 at hx2o
  -- region 3
  refine VW.ws tau_ok Sound.none [some 12] [(1, .val (i64 a1)), (5, .ref 5 [] true (dI s2.1)), (9, .val (dM a0)), (10, .val (i64 (a0.length : Int))), (11, .val (i64 s2.2)), (12, .val (.bool (ilt s2.2 (a0.length : Int))))] rfl ?_ ?_
  · simp <;> simp [ieq, ilt, ile]
  refine VW.sqc fun K4 hK4 hCK4 => ?_
  refine VW.cond rfl (fun hb5 => ?_) (fun hb5 => ?_)
  rotate_left
  ·
    replace hb5 : ¬ (s2.2 < (a0.length : Int)) := by simpa [ieq, ilt, ile] using hb5
    rw [if_neg hb5] at hx2o
    refine VW.exit ?_
    cases hx2o
    have hq := hx2b _ rfl
    subst hq
    exact Fits.of rfl
  replace hb5 : s2.2 < (a0.length : Int) := by simpa [ieq, ilt, ile] using hb5
  rw [if_pos hb5] at hx2o
  refine VW.skip ?_
  refine hK4 _ ?_
  refine VW.sqc fun K6 hK6 hCK6 => ?_
  refine VW.block ?_
  -- region 4
  obtain ⟨v7, hv7, hx2o⟩ := bind_some hx2o
  obtain ⟨hv7a, hv7b, hv7c, hv7d⟩ := idx_some hv7
  refine VW.ws tau_ok Sound.none [some 13, some 14, some 7] [(1, .val (i64 a1)), (5, .ref 5 [] true (dI s2.1)), (7, .val (dI v7)), (9, .val (dM a0)), (10, .val (i64 (a0.length : Int))), (11, .val (i64 s2.2))] rfl ?_ ?_
  · simp [hv7a, hv7b, hv7c, hv7d] <;> simp [ieq, ilt, ile]
  -- region 5
  obtain ⟨v8, hv8, hx2o⟩ := bind_some hx2o
  obtain ⟨hv8a, hv8b, hv8c, hv8d⟩ := idx_some hv8
  obtain ⟨hc9, hx2o⟩ := chk_some hx2o
  have hc9s := hc9
  try simp at hc9s
  refine VW.wr tau_ok Sound.none [some 15, some 16, some 17, some 18, some 19, some 20, some 21, some 5] [(1, .val (i64 a1)), (5, .ref 5 [] true (dI (s2.1 ++ [v8]))), (9, .val (dM a0)), (10, .val (i64 (a0.length : Int))), (11, .val (i64 s2.2))] rfl ?_ ?_
  · simp [hv8a, hv8b, hv8c, hv8d, hc9, hc9s] <;> simp [ieq, ilt, ile]
  refine hK6 _ ?_
  -- region 6
  refine VW.wr tau_ok Sound.none [some 22, some 11] [(1, .val (i64 a1)), (5, .ref 5 [] true (dI (s2.1 ++ [v8]))), (9, .val (dM a0)), (10, .val (i64 (a0.length : Int))), (11, .val (i64 (w64 (s2.2 + 1))))] rfl ?_ ?_
  · simp <;> simp [ieq, ilt, ile]
  cases hx2o
  exact ⟨_, rfl, Fits.of rfl⟩

theorem g_slices_Equal_LI_I_ok {a0 : List Int} {a1 : List Int} {r : Bool} (h : g_slices_Equal_LI_I a0 a1 = some r) :
    VCall Try.prog 131 [dI a0, dI a1] [.sc (.bool r)] := by
  unfold g_slices_Equal_LI_I at h
  refine VCall.enter Try.call131 Try.func131 rfl 26 Try.ntmps131 (by simp) [.tmp 4] rfl ?_
  show VW _ _ _ (mk [(0, .val (dI a0)), (1, .val (dI a1))]) _
  -- region 0
  refine VW.ws tau_ok Sound.none [some 4] [(0, .val (dI a0)), (1, .val (dI a1))] rfl ?_ ?_
  · simp <;> simp [ieq, ilt, ile]
  refine VW.sqc fun K1 hK1 hCK1 => ?_
  -- region 1
  refine VW.ws tau_ok Sound.none [some 6, some 7, some 8, some 9, some 10] [(0, .val (dI a0)), (1, .val (dI a1)), (10, .val (.bool (!(ieq (a0.length : Int) (a1.length : Int)))))] rfl ?_ ?_
  · simp <;> simp [ieq, ilt, ile]
  refine VW.cond rfl (fun hb2 => ?_) (fun hb2 => ?_)
  ·
    replace hb2 : ¬ (a0.length : Int) = (a1.length : Int) := by simpa [ieq, ilt, ile] using hb2
    rw [if_pos hb2] at h
    -- region 2
    refine VW.ws tau_ok Sound.none [some 4] [(4, .val (.bool false))] rfl ?_ ?_
    · simp <;> simp [ieq, ilt, ile]
    cases h
    refine VW.ret ?_
    simp [Post, PostM, PostC, PostC2, Nx, Bk]
  replace hb2 : ¬ (¬ (a0.length : Int) = (a1.length : Int)) := by simpa [ieq, ilt, ile] using hb2
  rw [if_neg hb2] at h
  refine VW.skip ?_
  refine hK1 _ ?_
  refine VW.sqc fun K3 hK3 hCK3 => ?_
  -- region 3
  refine VW.ws tau_ok Sound.none [some 11, some 12, some 13] [(0, .val (dI a0)), (1, .val (dI a1)), (12, .val (i64 (a0.length : Int))), (13, .val (i64 0))] rfl ?_ ?_
  · simp <;> simp [ieq, ilt, ile]
  obtain ⟨x4, hx4, h⟩ := bind_some h
  refine VW.tlO (fun y6 => []) x4 (hCK3) ?_ ?_
  · clear hx4
    rintro y6 rfl
    dsimp only at h
    refine hK3 _ ?_
    -- region 9
    refine VW.ws tau_ok Sound.none [some 4] [(4, .val (.bool true))] rfl ?_ ?_
    · simp <;> simp [ieq, ilt, ile]
    cases h
    refine VW.ret ?_
    simp [Post, PostM, PostC, PostC2, Nx, Bk]
  refine VW.block ?_
  refine VW.loopF (g_slices_Equal_LI_I_L0 a0 a1) (fun s4 => [(0, .val (dI a0)), (1, .val (dI a1)), (12, .val (i64 (a0.length : Int))), (13, .val (i64 s4))]) hx4 (Fits.of rfl) ?_
  clear hx4
  intro s4 ox4 hx4o hx4b
  unfold g_slices_Equal_LI_I_L0 at hx4o
  -- region 4
  refine VW.ws tau_ok Sound.none [some 14] [(0, .val (dI a0)), (1, .val (dI a1)), (12, .val (i64 (a0.length : Int))), (13, .val (i64 s4)), (14, .val (.bool (ilt s4 (a0.length : Int))))] rfl ?_ ?_
  · simp <;> simp [ieq, ilt, ile]
  refine VW.sqc fun K7 hK7 hCK7 => ?_
  refine VW.cond rfl (fun hb8 => ?_) (fun hb8 => ?_)
  rotate_left
  ·
    replace hb8 : ¬ (s4 < (a0.length : Int)) := by simpa [ieq, ilt, ile] using hb8
    rw [if_neg hb8] at hx4o
    refine VW.exit ?_
    cases hx4o
    have hq := hx4b _ rfl
    subst hq
    exact ⟨_, rfl, Fits.of rfl⟩
  replace hb8 : s4 < (a0.length : Int) := by simpa [ieq, ilt, ile] using hb8
  rw [if_pos hb8] at hx4o
  refine VW.skip ?_
  refine hK7 _ ?_
  refine VW.sqc fun K9 hK9 hCK9 => ?_
  refine VW.block ?_
  -- region 5
  refine VW.ws tau_ok Sound.none [some 15, some 5] [(0, .val (dI a0)), (1, .val (dI a1)), (5, .val (i64 s4)), (12, .val (i64 (a0.length : Int))), (13, .val (i64 s4))] rfl ?_ ?_
  · simp <;> simp [ieq, ilt, ile]
  -- region 6
  obtain ⟨v10, hv10, hx4o⟩ := bind_some hx4o
  obtain ⟨hv10a, hv10b, hv10c, hv10d⟩ := idx_some hv10
  obtain ⟨v11, hv11, hx4o⟩ := bind_some hx4o
  obtain ⟨hv11a, hv11b, hv11c, hv11d⟩ := idx_some hv11
  refine VW.wds tau_ok Sound.none try_mixed [some 16, some 17, some 18, some 19, some 20, some 21, some 22, some 23, some 24] [(0, .val (dI a0)), (1, .val (dI a1)), (12, .val (i64 (a0.length : Int))), (13, .val (i64 s4)), (24, .val (.bool (!(ieq v10 v11))))] 9 rfl (by kernel_rfl) (by rfl) ?_ ?_
  · simp [hv10a, hv10b, hv10c, hv10d, hv11a, hv11b, hv11c, hv11d] <;> simp [ieq, ilt, ile]
  refine VW.cond rfl (fun hb12 => ?_) (fun hb12 => ?_)
  rotate_left
  ·
    replace hb12 : ¬ (¬ v10 = v11) := by simpa [ieq, ilt, ile] using hb12
    rw [if_neg hb12] at hx4o
    refine VW.skip ?_
    refine hK9 _ ?_
    -- region 8
    refine VW.wr tau_ok Sound.none [some 25, some 13] [(0, .val (dI a0)), (1, .val (dI a1)), (12, .val (i64 (a0.length : Int))), (13, .val (i64 (w64 (s4 + 1))))] rfl ?_ ?_
    · simp <;> simp [ieq, ilt, ile]
    cases hx4o
    exact ⟨_, rfl, Fits.of rfl⟩
  replace hb12 : ¬ v10 = v11 := by simpa [ieq, ilt, ile] using hb12
  rw [if_pos hb12] at hx4o
  -- region 7
  refine VW.ws tau_ok Sound.none [some 4] [(4, .val (.bool false))] rfl ?_ ?_
  · simp <;> simp [ieq, ilt, ile]
  cases hx4o
  have hq := hx4b _ rfl
  subst hq
  dsimp only at h
  cases h
  refine VW.ret ?_
  simp [Post, PostM, PostC, PostC2, Nx, Bk]

theorem i_Doubling_isAutomorphism_ok {a0_0 : Int} {a0_1 : List Int} {a1 : List (List Int)} {r : Bool} (h : i_Doubling_isAutomorphism a0_0 a0_1 a1 = some r) :
    VCall Try.prog 94 [.agg [i64 a0_0, dI a0_1], dM a1] [.sc (.bool r)] := by
  unfold i_Doubling_isAutomorphism at h
  refine VCall.enter Try.call94 Try.func94 rfl 53 Try.ntmps94 (by simp) [.tmp 4] rfl ?_
  show VW _ _ _ (mk [(0, .val (.agg [i64 a0_0, dI a0_1])), (1, .val (dM a1))]) _
  -- region 0
  refine VW.ws tau_ok Sound.none [some 2, some 4] [(1, .val (dM a1)), (2, .val (.ptr [i64 a0_0, dI a0_1]))] rfl ?_ ?_
  · simp <;> simp [ieq, ilt, ile]
  -- region 1
  obtain ⟨v1, hv1, h⟩ := bind_some h
  refine VW.ws tau_ok (Sound.none.add 11 (i_Doubling_field_ok hv1) rfl) [some 10, some 11, some 5] [(1, .val (dM a1)), (2, .val (.ptr [i64 a0_0, dI a0_1])), (5, .val (i64 v1))] rfl ?_ ?_
  · simp <;> simp [ieq, ilt, ile]
  refine VW.sqc fun K2 hK2 hCK2 => ?_
  -- region 2
  obtain ⟨v3, hv3, h⟩ := bind_some h
  refine VW.ws tau_ok (Sound.none.add 14 (i_field_determinant_ok hv3) rfl) [some 12, some 13, some 14, some 15] [(1, .val (dM a1)), (2, .val (.ptr [i64 a0_0, dI a0_1])), (5, .val (i64 v1)), (15, .val (.bool (ieq v3 0)))] rfl ?_ ?_
  · simp <;> simp [ieq, ilt, ile]
  refine VW.cond rfl (fun hb4 => ?_) (fun hb4 => ?_)
  ·
    replace hb4 : v3 = 0 := by simpa [ieq, ilt, ile] using hb4
    rw [if_pos hb4] at h
    -- region 3
    refine VW.ws tau_ok Sound.none [some 4] [(4, .val (.bool false))] rfl ?_ ?_
    · simp <;> simp [ieq, ilt, ile]
    cases h
    refine VW.ret ?_
    simp [Post, PostM, PostC, PostC2, Nx, Bk]
  replace hb4 : ¬ (v3 = 0) := by simpa [ieq, ilt, ile] using hb4
  rw [if_neg hb4] at h
  refine VW.skip ?_
  refine hK2 _ ?_
  refine VW.sqc fun K5 hK5 hCK5 => ?_
  -- region 4
  obtain ⟨v6, hv6, h⟩ := bind_some h
  obtain ⟨v7, hv7, h⟩ := bind_some h
  refine VW.ws tau_ok ((Sound.none.add 17 (i_Doubling_size_ok hv6) rfl).add 18 (i_unit_ok hv7) rfl) [some 16, some 17, some 18, some 19, some 20] [(1, .val (dM a1)), (2, .val (.ptr [i64 a0_0, dI a0_1])), (5, .val (i64 v1)), (18, .ref 18 [] true (dM v7)), (19, .val (i64 (v7.length : Int))), (20, .val (i64 0))] rfl ?_ ?_
  · simp <;> simp [ieq, ilt, ile]
  obtain ⟨x8, hx8, h⟩ := bind_some h
  refine VW.tlO (fun y10 => []) x8 (hCK5) ?_ ?_
  · clear hx8
    rintro y10 rfl
    dsimp only at h
    refine hK5 _ ?_
    -- region 14
    refine VW.ws tau_ok Sound.none [some 4] [(4, .val (.bool true))] rfl ?_ ?_
    · simp <;> simp [ieq, ilt, ile]
    cases h
    refine VW.ret ?_
    simp [Post, PostM, PostC, PostC2, Nx, Bk]
  refine VW.block ?_
  refine VW.loopF (i_Doubling_isAutomorphism_L0 a0_0 a0_1 a1 v1 v7) (fun s8 => [(1, .val (dM a1)), (2, .val (.ptr [i64 a0_0, dI a0_1])), (5, .val (i64 v1)), (18, .ref 18 [] true (dM v7)), (19, .val (i64 (v7.length : Int))), (20, .val (i64 s8))]) hx8 (Fits.of rfl) ?_
  clear hx8
  intro s8 ox8 hx8o hx8b
  unfold i_Doubling_isAutomorphism_L0 at hx8o
  -- region 5
  refine VW.ws tau_ok Sound.none [some 21] [(1, .val (dM a1)), (2, .val (.ptr [i64 a0_0, dI a0_1])), (5, .val (i64 v1)), (18, .ref 18 [] true (dM v7)), (19, .val (i64 (v7.length : Int))), (20, .val (i64 s8)), (21, .val (.bool (ilt s8 (v7.length : Int))))] rfl ?_ ?_
  · simp <;> simp [ieq, ilt, ile]
  refine VW.sqc fun K11 hK11 hCK11 => ?_
  refine VW.cond rfl (fun hb12 => ?_) (fun hb12 => ?_)
  rotate_left
  ·
    replace hb12 : ¬ (s8 < (v7.length : Int)) := by simpa [ieq, ilt, ile] using hb12
    rw [if_neg hb12] at hx8o
    refine VW.exit ?_
    cases hx8o
    have hq := hx8b _ rfl
    subst hq
    exact ⟨_, rfl, Fits.of rfl⟩
  replace hb12 : s8 < (v7.length : Int) := by simpa [ieq, ilt, ile] using hb12
  rw [if_pos hb12] at hx8o
  refine VW.skip ?_
  refine hK11 _ ?_
  refine VW.sqc fun K13 hK13 hCK13 => ?_
  refine VW.block ?_
  -- region 6
  obtain ⟨v14, hv14, hx8o⟩ := bind_some hx8o
  obtain ⟨hv14a, hv14b, hv14c, hv14d⟩ := idx_some hv14
  refine VW.ws tau_ok Sound.none [some 22, some 23, some 24, some 6, some 7] [(1, .val (dM a1)), (2, .val (.ptr [i64 a0_0, dI a0_1])), (5, .val (i64 v1)), (6, .val (i64 s8)), (7, .ref 18 [s8.toNat] true (dI v14)), (18, .ref 18 [] true (dM v7)), (19, .val (i64 (v7.length : Int))), (20, .val (i64 s8))] rfl ?_ ?_
  · simp [hv14a, hv14b, hv14c, hv14d] <;> simp [ieq, ilt, ile]
  -- region 7
  obtain ⟨v15, hv15, hx8o⟩ := bind_some hx8o
  obtain ⟨v16, hv16, hx8o⟩ := bind_some hx8o
  refine VW.ws tau_ok ((Sound.none.add 26 (i_Doubling_size_ok hv15) rfl).add 27 (i_unit_ok hv16) rfl) [some 25, some 26, some 27, some 28, some 29] [(1, .val (dM a1)), (2, .val (.ptr [i64 a0_0, dI a0_1])), (5, .val (i64 v1)), (6, .val (i64 s8)), (7, .ref 18 [s8.toNat] true (dI v14)), (18, .ref 18 [] true (dM v7)), (19, .val (i64 (v7.length : Int))), (20, .val (i64 s8)), (27, .ref 27 [] true (dM v16)), (28, .val (i64 (v16.length : Int))), (29, .val (i64 0))] rfl ?_ ?_
  · simp <;> simp [ieq, ilt, ile]
  obtain ⟨x17, hx17, hx8o⟩ := bind_some hx8o
  refine VW.tlO (fun y19 => [(1, .val (dM a1)), (2, .val (.ptr [i64 a0_0, dI a0_1])), (5, .val (i64 v1)), (18, .ref 18 [] true (dM v7)), (19, .val (i64 (v7.length : Int))), (20, .val (i64 s8))]) x17 (hCK13) ?_ ?_
  · clear hx17
    rintro y19 rfl
    dsimp only at hx8o
    refine hK13 _ ?_
    -- region 13
    refine VW.wr tau_ok Sound.none [some 52, some 20] [(1, .val (dM a1)), (2, .val (.ptr [i64 a0_0, dI a0_1])), (5, .val (i64 v1)), (18, .ref 18 [] true (dM v7)), (19, .val (i64 (v7.length : Int))), (20, .val (i64 (w64 (s8 + 1))))] rfl ?_ ?_
    · simp <;> simp [ieq, ilt, ile]
    cases hx8o
    exact ⟨_, rfl, Fits.of rfl⟩
  refine VW.block ?_
  refine VW.loopF (i_Doubling_isAutomorphism_L1 a0_0 a0_1 a1 v1 s8 v14 v16) (fun s17 => [(1, .val (dM a1)), (2, .val (.ptr [i64 a0_0, dI a0_1])), (5, .val (i64 v1)), (6, .val (i64 s8)), (7, .ref 18 [s8.toNat] true (dI v14)), (18, .ref 18 [] true (dM v7)), (19, .val (i64 (v7.length : Int))), (20, .val (i64 s8)), (27, .ref 27 [] true (dM v16)), (28, .val (i64 (v16.length : Int))), (29, .val (i64 s17))]) hx17 (Fits.of rfl) ?_
  clear hx17
  intro s17 ox17 hx17o hx17b
  unfold i_Doubling_isAutomorphism_L1 at hx17o
  -- region 8
  refine VW.ws tau_ok Sound.none [some 30] [(1, .val (dM a1)), (2, .val (.ptr [i64 a0_0, dI a0_1])), (5, .val (i64 v1)), (6, .val (i64 s8)), (7, .ref 18 [s8.toNat] true (dI v14)), (18, .ref 18 [] true (dM v7)), (19, .val (i64 (v7.length : Int))), (20, .val (i64 s8)), (27, .ref 27 [] true (dM v16)), (28, .val (i64 (v16.length : Int))), (29, .val (i64 s17)), (30, .val (.bool (ilt s17 (v16.length : Int))))] rfl ?_ ?_
  · simp <;> simp [ieq, ilt, ile]
  refine VW.sqc fun K20 hK20 hCK20 => ?_
  refine VW.cond rfl (fun hb21 => ?_) (fun hb21 => ?_)
  rotate_left
  ·
    replace hb21 : ¬ (s17 < (v16.length : Int)) := by simpa [ieq, ilt, ile] using hb21
    rw [if_neg hb21] at hx17o
    refine VW.exit ?_
    cases hx17o
    have hq := hx17b _ rfl
    subst hq
    exact ⟨_, rfl, Fits.of rfl⟩
  replace hb21 : s17 < (v16.length : Int) := by simpa [ieq, ilt, ile] using hb21
  rw [if_pos hb21] at hx17o
  refine VW.skip ?_
  refine hK20 _ ?_
  refine VW.sqc fun K22 hK22 hCK22 => ?_
  refine VW.block ?_
  -- region 9
  obtain ⟨v23, hv23, hx17o⟩ := bind_some hx17o
  obtain ⟨hv23a, hv23b, hv23c, hv23d⟩ := idx_some hv23
  refine VW.ws tau_ok Sound.none [some 31, some 32, some 33, some 8, some 9] [(1, .val (dM a1)), (2, .val (.ptr [i64 a0_0, dI a0_1])), (5, .val (i64 v1)), (6, .val (i64 s8)), (7, .ref 18 [s8.toNat] true (dI v14)), (8, .val (i64 s17)), (9, .ref 27 [s17.toNat] true (dI v23)), (18, .ref 18 [] true (dM v7)), (19, .val (i64 (v7.length : Int))), (20, .val (i64 s8)), (27, .ref 27 [] true (dM v16)), (28, .val (i64 (v16.length : Int))), (29, .val (i64 s17))] rfl ?_ ?_
  · simp [hv23a, hv23b, hv23c, hv23d] <;> simp [ieq, ilt, ile]
  -- region 10
  obtain ⟨v24, hv24, hx17o⟩ := bind_some hx17o
  obtain ⟨v25, hv25, hx17o⟩ := bind_some hx17o
  obtain ⟨v26, hv26, hx17o⟩ := bind_some hx17o
  obtain ⟨v27, hv27, hx17o⟩ := bind_some hx17o
  obtain ⟨v28, hv28, hx17o⟩ := bind_some hx17o
  obtain ⟨v29, hv29, hx17o⟩ := bind_some hx17o
  refine VW.wds tau_ok ((((((Sound.none.add 39 (i_Doubling_times_ok hv24) rfl).add 40 (i_field_apply_ok hv25) rfl).add 44 (i_column_ok hv26) rfl).add 47 (i_column_ok hv27) rfl).add 48 (i_Doubling_times_ok hv28) rfl).add 49 (g_slices_Equal_LI_I_ok hv29) rfl) try_mixed [some 34, some 35, some 36, some 37, some 38, some 39, some 40, some 41, some 42, some 43, some 44, some 45, some 46, some 47, some 48, some 49, some 50] [(1, .val (dM a1)), (2, .val (.ptr [i64 a0_0, dI a0_1])), (5, .val (i64 v1)), (6, .val (i64 s8)), (7, .ref 18 [s8.toNat] true (dI v14)), (18, .ref 18 [] true (dM v7)), (19, .val (i64 (v7.length : Int))), (20, .val (i64 s8)), (27, .ref 27 [] true (dM v16)), (28, .val (i64 (v16.length : Int))), (29, .val (i64 s17)), (50, .val (.bool (!v29)))] 17 rfl (by kernel_rfl) (by rfl) ?_ ?_
  · simp <;> simp [ieq, ilt, ile]
  refine VW.cond rfl (fun hb30 => ?_) (fun hb30 => ?_)
  rotate_left
  ·
    replace hb30 : ¬ (v29 = false) := by simpa [ieq, ilt, ile] using hb30
    rw [if_neg hb30] at hx17o
    refine VW.skip ?_
    refine hK22 _ ?_
    -- region 12
    refine VW.wr tau_ok Sound.none [some 51, some 29] [(1, .val (dM a1)), (2, .val (.ptr [i64 a0_0, dI a0_1])), (5, .val (i64 v1)), (6, .val (i64 s8)), (7, .ref 18 [s8.toNat] true (dI v14)), (18, .ref 18 [] true (dM v7)), (19, .val (i64 (v7.length : Int))), (20, .val (i64 s8)), (27, .ref 27 [] true (dM v16)), (28, .val (i64 (v16.length : Int))), (29, .val (i64 (w64 (s17 + 1))))] rfl ?_ ?_
    · simp <;> simp [ieq, ilt, ile]
    cases hx17o
    exact ⟨_, rfl, Fits.of rfl⟩
  replace hb30 : v29 = false := by simpa [ieq, ilt, ile] using hb30
  rw [if_pos hb30] at hx17o
  -- region 11
  refine VW.ws tau_ok Sound.none [some 4] [(4, .val (.bool false))] rfl ?_ ?_
  · simp <;> simp [ieq, ilt, ile]
  cases hx17o
  have hq := hx17b _ rfl
  subst hq
  dsimp only at hx8o
  cases hx8o
  have hq := hx8b _ rfl
  subst hq
  dsimp only at h
  cases h
  refine VW.ret ?_
  simp [Post, PostM, PostC, PostC2, Nx, Bk]

theorem i_IsAutomorphism_ok {a0_0 : Int} {a0_1 : List Int} {a1 : List (List Int)} {r : Bool × Int} (h : i_IsAutomorphism a0_0 a0_1 a1 = some r) :
    VCall Try.prog 20 [.agg [i64 a0_0, dI a0_1], dM a1] [.sc (.bool r.1), .sc (i64 r.2)] := by
  unfold i_IsAutomorphism at h
  refine VCall.enter Try.call20 Try.func20 rfl 17 Try.ntmps20 (by simp) [.tmp 4, .tmp 5] rfl ?_
  show VW _ _ _ (mk [(0, .val (.agg [i64 a0_0, dI a0_1])), (1, .val (dM a1))]) _
  -- region 0
  refine VW.ws tau_ok Sound.none [some 2, some 4, some 5] [(1, .val (dM a1)), (2, .val (.ptr [i64 a0_0, dI a0_1]))] rfl ?_ ?_
  · simp <;> simp [ieq, ilt, ile]
  refine VW.sqc fun K1 hK1 hCK1 => ?_
  -- region 1
  obtain ⟨v2, hv2, h⟩ := bind_some h
  refine VW.ws tau_ok (Sound.none.add 10 (i_checkThree_ok hv2) rfl) [some 7, some 8, some 9, some 10, some 6] [(1, .val (dM a1)), (2, .val (.ptr [i64 a0_0, dI a0_1])), (6, .val (i64 v2))] rfl ?_ ?_
  · simp <;> simp [ieq, ilt, ile]
  -- region 2
  refine VW.ws tau_ok Sound.none [some 11, some 12] [(1, .val (dM a1)), (2, .val (.ptr [i64 a0_0, dI a0_1])), (6, .val (i64 v2)), (12, .val (.bool (!(ieq v2 0))))] rfl ?_ ?_
  · simp <;> simp [ieq, ilt, ile]
  refine VW.cond rfl (fun hb3 => ?_) (fun hb3 => ?_)
  ·
    replace hb3 : ¬ v2 = 0 := by simpa [ieq, ilt, ile] using hb3
    rw [if_pos hb3] at h
    -- region 3
    refine VW.ws tau_ok Sound.none [some 13, some 4, some 5] [(4, .val (.bool false)), (5, .val (i64 v2))] rfl ?_ ?_
    · simp <;> simp [ieq, ilt, ile]
    cases h
    refine VW.ret ?_
    simp [Post, PostM, PostC, PostC2, Nx, Bk]
  replace hb3 : ¬ (¬ v2 = 0) := by simpa [ieq, ilt, ile] using hb3
  rw [if_neg hb3] at h
  refine VW.skip ?_
  refine hK1 _ ?_
  -- region 4
  obtain ⟨v4, hv4, h⟩ := bind_some h
  refine VW.ws tau_ok (Sound.none.add 16 (i_Doubling_isAutomorphism_ok hv4) rfl) [some 14, some 15, some 16, some 4, some 5] [(4, .val (.bool v4)), (5, .val (i64 0))] rfl ?_ ?_
  · simp <;> simp [ieq, ilt, ile]
  cases h
  refine VW.ret ?_
  simp [Post, PostM, PostC, PostC2, Nx, Bk]
end Go.Vam
