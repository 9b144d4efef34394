import Derived.Test.YtbbkiinopmnapaaR3T
import Derived.Test.YtbbkiinopmnapaaFnD
import Derived.Test.YtbbkiinopmnapaaR3W2
import Derived.Test.YtbbkiinopmnapaaR3W3
import Derived.Test.YtbbkiinopmnapaaR3W4
namespace Go.Vam
open Go Go.RowKit Go.Proofs
set_option maxRecDepth 100000
set_option linter.unusedSimpArgs false
set_option linter.unusedVariables false

theorem i_field_scaled_ok {a0 : Int} {a1 : List Int} {a2 : Int} {r : List Int} (h : i_field_scaled a0 a1 a2 = some r) :
    VCall Try.prog 227 [i64 a0, dI a1, i64 a2] [.own true (dI r)] := by
  unfold i_field_scaled at h
  refine VCall.enter Try.call227 Try.func227 rfl 27 Try.ntmps227 (by simp) [.tmp 6] rfl ?_
  show VW _ _ _ (mk [(0, .val (i64 a0)), (1, .val (dI a1)), (2, .val (i64 a2))]) _
  -- region 0
  refine VW.ws tau_ok Sound.none [some 6] [(0, .val (i64 a0)), (1, .val (dI a1)), (2, .val (i64 a2))] rfl ?_ ?_
  · simp <;> simp [ieq, ilt, ile]
  -- region 1
  refine VW.ws tau_ok Sound.none [some 10, some 7] [(0, .val (i64 a0)), (1, .val (dI a1)), (2, .val (i64 a2)), (7, .ref 7 [] true (dI []))] rfl ?_ ?_
  · simp <;> simp [ieq, ilt, ile]
  refine VW.sqc fun K1 hK1 hCK1 => ?_
  -- region 2
  refine VW.ws tau_ok Sound.none [some 11, some 12, some 13] [(0, .val (i64 a0)), (2, .val (i64 a2)), (7, .ref 7 [] true (dI [])), (11, .val (dI a1)), (12, .val (i64 (a1.length : Int))), (13, .val (i64 0))] rfl ?_ ?_
  · simp <;> simp [ieq, ilt, ile]
  obtain ⟨x2, hx2, h⟩ := bind_some h
  refine VW.tlE [(7, .ref 7 [] true (dI x2))] (hCK1) ?_ ?_
  · clear hx2
    refine hK1 _ ?_
    -- region 7
    refine VW.ws tau_ok Sound.none [some 26, some 6] [(6, .ref 6 [] true (dI x2))] rfl ?_ ?_
    · simp <;> simp [ieq, ilt, ile]
    cases h
    refine VW.ret ?_
    simp [Post, PostM, PostC, PostC2, Nx, Bk]
  refine VW.block ?_
  refine VW.loopF (i_field_scaled_L0 a0 a1 a2) (fun s2 => [(0, .val (i64 a0)), (2, .val (i64 a2)), (7, .ref 7 [] true (dI s2.1)), (11, .val (dI a1)), (12, .val (i64 (a1.length : Int))), (13, .val (i64 s2.2))]) hx2 (Fits.of rfl) ?_
  clear hx2
  intro s2 ox2 hx2o hx2b
  unfold i_field_scaled_L0 at hx2o
  -- region 3
  refine VW.ws tau_ok Sound.none [some 14] [(0, .val (i64 a0)), (2, .val (i64 a2)), (7, .ref 7 [] true (dI s2.1)), (11, .val (dI a1)), (12, .val (i64 (a1.length : Int))), (13, .val (i64 s2.2)), (14, .val (.bool (ilt s2.2 (a1.length : Int))))] rfl ?_ ?_
  · simp <;> simp [ieq, ilt, ile]
  refine VW.sqc fun K4 hK4 hCK4 => ?_
  refine VW.cond rfl (fun hb5 => ?_) (fun hb5 => ?_)
  rotate_left
  ·
    replace hb5 : ¬ (s2.2 < (a1.length : Int)) := by simpa [ieq, ilt, ile] using hb5
    rw [if_neg hb5] at hx2o
    refine VW.exit ?_
    cases hx2o
    have hq := hx2b _ rfl
    subst hq
    exact Fits.of rfl
  replace hb5 : s2.2 < (a1.length : Int) := by simpa [ieq, ilt, ile] using hb5
  rw [if_pos hb5] at hx2o
  refine VW.skip ?_
  refine hK4 _ ?_
  refine VW.sqc fun K6 hK6 hCK6 => ?_
  refine VW.block ?_
  -- region 4
  obtain ⟨v7, hv7, hx2o⟩ := bind_some hx2o
  obtain ⟨hv7a, hv7b, hv7c, hv7d⟩ := idx_some hv7
  refine VW.ws tau_ok Sound.none [some 15, some 16, some 9] [(0, .val (i64 a0)), (2, .val (i64 a2)), (7, .ref 7 [] true (dI s2.1)), (9, .val (i64 v7)), (11, .val (dI a1)), (12, .val (i64 (a1.length : Int))), (13, .val (i64 s2.2))] rfl ?_ ?_
  · simp [hv7a, hv7b, hv7c, hv7d] <;> simp [ieq, ilt, ile]
  -- region 5
  obtain ⟨v8, hv8, hx2o⟩ := bind_some hx2o
  obtain ⟨hc9, hx2o⟩ := chk_some hx2o
  have hc9s := hc9
  try simp at hc9s
  refine VW.wr tau_ok (Sound.none.add 22 (i_field_num_ok hv8) rfl) [some 17, some 18, some 19, some 20, some 21, some 22, some 23, some 24, some 7] [(0, .val (i64 a0)), (2, .val (i64 a2)), (7, .ref 7 [] true (dI (s2.1 ++ [v8]))), (11, .val (dI a1)), (12, .val (i64 (a1.length : Int))), (13, .val (i64 s2.2))] rfl ?_ ?_
  · simp [hc9, hc9s] <;> simp [ieq, ilt, ile]
  refine hK6 _ ?_
  -- region 6
  refine VW.wr tau_ok Sound.none [some 25, some 13] [(0, .val (i64 a0)), (2, .val (i64 a2)), (7, .ref 7 [] true (dI (s2.1 ++ [v8]))), (11, .val (dI a1)), (12, .val (i64 (a1.length : Int))), (13, .val (i64 (w64 (s2.2 + 1))))] rfl ?_ ?_
  · simp <;> simp [ieq, ilt, ile]
  cases hx2o
  exact ⟨_, rfl, Fits.of rfl⟩

theorem i_field_conjugate_ok {a0 : Int} {a1 : List Int} {r : List Int} (h : i_field_conjugate a0 a1 = some r) :
    VCall Try.prog 252 [i64 a0, dI a1] [.own true (dI r)] := by
  unfold i_field_conjugate at h
  refine VCall.enter Try.call252 Try.func252 rfl 15 Try.ntmps252 (by simp) [.tmp 4] rfl ?_
  show VW _ _ _ (mk [(0, .val (i64 a0)), (1, .val (dI a1))]) _
  -- region 0
  refine VW.ws tau_ok Sound.none [some 4] [(0, .val (i64 a0)), (1, .val (dI a1))] rfl ?_ ?_
  · simp <;> simp [ieq, ilt, ile]
  -- region 1
  obtain ⟨v1, hv1, h⟩ := bind_some h
  refine VW.ws tau_ok (Sound.none.add 8 (i_field_scaled_ok hv1) rfl) [some 6, some 7, some 8, some 5] [(1, .val (dI a1)), (5, .ref 5 [] true (dI v1))] rfl ?_ ?_
  · simp <;> simp [ieq, ilt, ile]
  -- region 2
  obtain ⟨v2, hv2, h⟩ := bind_some h
  obtain ⟨hv2a, hv2b, hv2c, hv2d⟩ := idx_some hv2
  replace hv2b : 0 < a1.length := hv2b
  replace hv2c : a1[0]? = some v2 := hv2c
  replace hv2d : ∀ h, a1[0]'h = v2 := hv2d
  obtain ⟨v3, hv3, h⟩ := bind_some h
  obtain ⟨hv3a, hv3b, hv3c, hv3d⟩ := idx_some hv3
  replace hv3b : 0 < v1.length := hv3b
  replace hv3c : v1[0]? = some v3 := hv3c
  replace hv3d : ∀ h, v1[0]'h = v3 := hv3d
  refine VW.ws tau_ok Sound.none [some 9, some 10, some 11, some 12, some 13, none] [(5, .ref 5 [] true (dI (v1.set 0 v2)))] rfl ?_ ?_
  · simp [hv2a, hv2b, hv2c, hv2d, hv3a, hv3b, hv3c, hv3d] <;> simp [ieq, ilt, ile]
  -- region 3
  refine VW.ws tau_ok Sound.none [some 14, some 4] [(4, .ref 4 [] true (dI (v1.set 0 v2)))] rfl ?_ ?_
  · simp <;> simp [ieq, ilt, ile]
  cases h
  refine VW.ret ?_
  simp [Post, PostM, PostC, PostC2, Nx, Bk]

theorem i_field_plus_ok {a0 : Int} {a1 : List Int} {a2 : List Int} {a3 : Int} {r : List Int} (h : i_field_plus a0 a1 a2 a3 = some r) :
    VCall Try.prog 138 [i64 a0, dI a1, dI a2, i64 a3] [.own true (dI r)] := by
  unfold i_field_plus at h
  refine VCall.enter Try.call138 Try.func138 rfl 35 Try.ntmps138 (by simp) [.tmp 8] rfl ?_
  show VW _ _ _ (mk [(0, .val (i64 a0)), (1, .val (dI a1)), (2, .val (dI a2)), (3, .val (i64 a3))]) _
  -- region 0
  refine VW.ws tau_ok Sound.none [some 8] [(0, .val (i64 a0)), (1, .val (dI a1)), (2, .val (dI a2)), (3, .val (i64 a3))] rfl ?_ ?_
  · simp <;> simp [ieq, ilt, ile]
  -- region 1
  refine VW.ws tau_ok Sound.none [some 12, some 9] [(0, .val (i64 a0)), (1, .val (dI a1)), (2, .val (dI a2)), (3, .val (i64 a3)), (9, .ref 9 [] true (dI []))] rfl ?_ ?_
  · simp <;> simp [ieq, ilt, ile]
  refine VW.sqc fun K1 hK1 hCK1 => ?_
  -- region 2
  refine VW.ws tau_ok Sound.none [some 13, some 14, some 15] [(0, .val (i64 a0)), (2, .val (dI a2)), (3, .val (i64 a3)), (9, .ref 9 [] true (dI [])), (13, .val (dI a1)), (14, .val (i64 (a1.length : Int))), (15, .val (i64 0))] rfl ?_ ?_
  · simp <;> simp [ieq, ilt, ile]
  obtain ⟨x2, hx2, h⟩ := bind_some h
  refine VW.tlE [(9, .ref 9 [] true (dI x2))] (hCK1) ?_ ?_
  · clear hx2
    refine hK1 _ ?_
    -- region 7
    refine VW.ws tau_ok Sound.none [some 34, some 8] [(8, .ref 8 [] true (dI x2))] rfl ?_ ?_
    · simp <;> simp [ieq, ilt, ile]
    cases h
    refine VW.ret ?_
    simp [Post, PostM, PostC, PostC2, Nx, Bk]
  refine VW.block ?_
  refine VW.loopF (i_field_plus_L0 a0 a1 a2 a3) (fun s2 => [(0, .val (i64 a0)), (2, .val (dI a2)), (3, .val (i64 a3)), (9, .ref 9 [] true (dI s2.1)), (13, .val (dI a1)), (14, .val (i64 (a1.length : Int))), (15, .val (i64 s2.2))]) hx2 (Fits.of rfl) ?_
  clear hx2
  intro s2 ox2 hx2o hx2b
  unfold i_field_plus_L0 at hx2o
  -- region 3
  refine VW.ws tau_ok Sound.none [some 16] [(0, .val (i64 a0)), (2, .val (dI a2)), (3, .val (i64 a3)), (9, .ref 9 [] true (dI s2.1)), (13, .val (dI a1)), (14, .val (i64 (a1.length : Int))), (15, .val (i64 s2.2)), (16, .val (.bool (ilt s2.2 (a1.length : Int))))] rfl ?_ ?_
  · simp <;> simp [ieq, ilt, ile]
  refine VW.sqc fun K4 hK4 hCK4 => ?_
  refine VW.cond rfl (fun hb5 => ?_) (fun hb5 => ?_)
  rotate_left
  ·
    replace hb5 : ¬ (s2.2 < (a1.length : Int)) := by simpa [ieq, ilt, ile] using hb5
    rw [if_neg hb5] at hx2o
    refine VW.exit ?_
    cases hx2o
    have hq := hx2b _ rfl
    subst hq
    exact Fits.of rfl
  replace hb5 : s2.2 < (a1.length : Int) := by simpa [ieq, ilt, ile] using hb5
  rw [if_pos hb5] at hx2o
  refine VW.skip ?_
  refine hK4 _ ?_
  refine VW.sqc fun K6 hK6 hCK6 => ?_
  refine VW.block ?_
  -- region 4
  obtain ⟨v7, hv7, hx2o⟩ := bind_some hx2o
  obtain ⟨hv7a, hv7b, hv7c, hv7d⟩ := idx_some hv7
  refine VW.ws tau_ok Sound.none [some 17, some 18, some 19, some 10, some 11] [(0, .val (i64 a0)), (2, .val (dI a2)), (3, .val (i64 a3)), (9, .ref 9 [] true (dI s2.1)), (10, .val (i64 s2.2)), (11, .val (i64 v7)), (13, .val (dI a1)), (14, .val (i64 (a1.length : Int))), (15, .val (i64 s2.2))] rfl ?_ ?_
  · simp [hv7a, hv7b, hv7c, hv7d] <;> simp [ieq, ilt, ile]
  -- region 5
  obtain ⟨v8, hv8, hx2o⟩ := bind_some hx2o
  obtain ⟨hv8a, hv8b, hv8c, hv8d⟩ := idx_some hv8
  obtain ⟨v9, hv9, hx2o⟩ := bind_some hx2o
  obtain ⟨hc10, hx2o⟩ := chk_some hx2o
  have hc10s := hc10
  try simp at hc10s
  refine VW.wr tau_ok (Sound.none.add 30 (i_field_num_ok hv9) rfl) [some 20, some 21, some 22, some 23, some 24, some 25, some 26, some 27, some 28, some 29, some 30, some 31, some 32, some 9] [(0, .val (i64 a0)), (2, .val (dI a2)), (3, .val (i64 a3)), (9, .ref 9 [] true (dI (s2.1 ++ [v9]))), (13, .val (dI a1)), (14, .val (i64 (a1.length : Int))), (15, .val (i64 s2.2))] rfl ?_ ?_
  · simp [hv8a, hv8b, hv8c, hv8d, hc10, hc10s] <;> simp [ieq, ilt, ile]
  refine hK6 _ ?_
  -- region 6
  refine VW.wr tau_ok Sound.none [some 33, some 15] [(0, .val (i64 a0)), (2, .val (dI a2)), (3, .val (i64 a3)), (9, .ref 9 [] true (dI (s2.1 ++ [v9]))), (13, .val (dI a1)), (14, .val (i64 (a1.length : Int))), (15, .val (i64 (w64 (s2.2 + 1))))] rfl ?_ ?_
  · simp <;> simp [ieq, ilt, ile]
  cases hx2o
  exact ⟨_, rfl, Fits.of rfl⟩

theorem i_field_doubled_b_ok {self : Int → (List Int) → (List Int) → (List Int) → Option (List Int)} (hself : ∀ {a0 a1 a2 a3} {r : List Int}, self a0 a1 a2 a3 = some r → VCall Try.prog 235 [i64 a0, dI a1, dI a2, dI a3] [.own true (dI r)]) {a0 : Int} {a1 : List Int} {a2 : List Int} {a3 : List Int} {r : List Int} (h : i_field_doubled_b self a0 a1 a2 a3 = some r) :
    VCall Try.prog 235 [i64 a0, dI a1, dI a2, dI a3] [.own true (dI r)] := by
  unfold i_field_doubled_b at h
  refine VCall.enter Try.call235 Try.func235 rfl 87 Try.ntmps235 (by simp) [.tmp 8] rfl ?_
  show VW _ _ _ (mk [(0, .val (i64 a0)), (1, .val (dI a1)), (2, .val (dI a2)), (3, .val (dI a3))]) _
  -- region 0
  refine VW.ws tau_ok Sound.none [some 8] [(0, .val (i64 a0)), (1, .val (dI a1)), (2, .val (dI a2)), (3, .val (dI a3))] rfl ?_ ?_
  · simp <;> simp [ieq, ilt, ile]
  refine VW.sqc fun K1 hK1 hCK1 => ?_
  -- region 1
  refine VW.ws tau_ok Sound.none [some 18, some 19, some 20] [(0, .val (i64 a0)), (1, .val (dI a1)), (2, .val (dI a2)), (3, .val (dI a3)), (20, .val (.bool (ieq (a1.length : Int) 0)))] rfl ?_ ?_
  · simp <;> simp [ieq, ilt, ile]
  refine VW.cond rfl (fun hb2 => ?_) (fun hb2 => ?_)
  ·
    replace hb2 : (a1.length : Int) = 0 := by simpa [ieq, ilt, ile] using hb2
    rw [if_pos hb2] at h
    -- region 2
    obtain ⟨v3, hv3, h⟩ := bind_some h
    obtain ⟨hv3a, hv3b, hv3c, hv3d⟩ := idx_some hv3
    replace hv3b : 0 < a2.length := hv3b
    replace hv3c : a2[0]? = some v3 := hv3c
    replace hv3d : ∀ h, a2[0]'h = v3 := hv3d
    obtain ⟨v4, hv4, h⟩ := bind_some h
    obtain ⟨hv4a, hv4b, hv4c, hv4d⟩ := idx_some hv4
    replace hv4b : 0 < a3.length := hv4b
    replace hv4c : a3[0]? = some v4 := hv4c
    replace hv4d : ∀ h, a3[0]'h = v4 := hv4d
    obtain ⟨v5, hv5, h⟩ := bind_some h
    refine VW.wds tau_ok (Sound.none.add 29 (i_field_num_ok hv5) rfl) try_mixed [some 21, some 22, some 23, some 24, some 25, some 26, some 27, some 28, some 29, some 30, some 8] [(8, .ref 8 [] true (dI [v5]))] 10 rfl (by kernel_rfl) (by rfl) ?_ ?_
    · simp [hv3a, hv3b, hv3c, hv3d, hv4a, hv4b, hv4c, hv4d] <;> simp [ieq, ilt, ile]
    cases h
    refine VW.ret ?_
    simp [Post, PostM, PostC, PostC2, Nx, Bk]
  replace hb2 : ¬ ((a1.length : Int) = 0) := by simpa [ieq, ilt, ile] using hb2
  rw [if_neg hb2] at h
  refine VW.skip ?_
  refine hK1 _ ?_
  -- region 3
  refine VW.ws tau_ok Sound.none [some 31, some 32, some 33, some 34, some 35, some 36, some 9, some 10] [(0, .val (i64 a0)), (1, .val (dI a1)), (2, .val (dI a2)), (3, .val (dI a3)), (9, .val (i64 (w64 ((a1.length : Int) - 1)))), (10, .val (i64 (w64 ((a2.length : Int).tdiv 2))))] rfl ?_ ?_
  · simp <;> simp [ieq, ilt, ile]
  -- region 4
  obtain ⟨hc6, h⟩ := chk_some h
  have hc6s := hc6
  try simp at hc6s
  obtain ⟨hc7, h⟩ := chk_some h
  have hc7s := hc7
  try simp at hc7s
  obtain ⟨hc8, h⟩ := chk_some h
  have hc8s := hc8
  try simp at hc8s
  obtain ⟨hc9, h⟩ := chk_some h
  have hc9s := hc9
  try simp at hc9s
  refine VW.wds tau_ok Sound.none try_mixed [some 37, some 38, some 39, some 40, some 41, some 42, some 43, some 44, some 45, some 46, some 47, some 48, some 11, some 12, some 13, some 14] [(0, .val (i64 a0)), (1, .val (dI a1)), (9, .val (i64 (w64 ((a1.length : Int) - 1)))), (11, .val (dI (a2.take (w64 ((a2.length : Int).tdiv 2)).toNat))), (12, .val (dI (a2.drop (w64 ((a2.length : Int).tdiv 2)).toNat))), (13, .val (dI (a3.take (w64 ((a2.length : Int).tdiv 2)).toNat))), (14, .val (dI (a3.drop (w64 ((a2.length : Int).tdiv 2)).toNat)))] 16 rfl (by kernel_rfl) (by rfl) ?_ ?_
  · simp [hc6, hc6s, hc7, hc7s, hc8, hc8s, hc9, hc9s] <;> simp [ieq, ilt, ile]
  -- region 5
  obtain ⟨hc10, h⟩ := chk_some h
  have hc10s := hc10
  try simp at hc10s
  refine VW.ws tau_ok Sound.none [some 49, some 50, some 51, some 15] [(0, .val (i64 a0)), (1, .val (dI a1)), (9, .val (i64 (w64 ((a1.length : Int) - 1)))), (11, .val (dI (a2.take (w64 ((a2.length : Int).tdiv 2)).toNat))), (12, .val (dI (a2.drop (w64 ((a2.length : Int).tdiv 2)).toNat))), (13, .val (dI (a3.take (w64 ((a2.length : Int).tdiv 2)).toNat))), (14, .val (dI (a3.drop (w64 ((a2.length : Int).tdiv 2)).toNat))), (15, .val (dI (a1.take (w64 ((a1.length : Int) - 1)).toNat)))] rfl ?_ ?_
  · simp [hc10, hc10s] <;> simp [ieq, ilt, ile]
  -- region 6
  obtain ⟨v11, hv11, h⟩ := bind_some h
  obtain ⟨v12, hv12, h⟩ := bind_some h
  obtain ⟨v13, hv13, h⟩ := bind_some h
  obtain ⟨v14, hv14, h⟩ := bind_some h
  obtain ⟨hv14a, hv14b, hv14c, hv14d⟩ := idx_some hv14
  obtain ⟨v15, hv15, h⟩ := bind_some h
  refine VW.wds tau_ok ((((Sound.none.add 57 (hself hv11) rfl).add 62 (i_field_conjugate_ok hv12) rfl).add 64 (hself hv13) rfl).add 69 (i_field_plus_ok hv15) rfl) try_mixed [some 52, some 53, some 54, some 55, some 56, some 57, some 58, some 59, some 60, some 61, some 62, some 63, some 64, some 65, some 66, some 67, some 68, some 69, some 16] [(0, .val (i64 a0)), (11, .val (dI (a2.take (w64 ((a2.length : Int).tdiv 2)).toNat))), (12, .val (dI (a2.drop (w64 ((a2.length : Int).tdiv 2)).toNat))), (13, .val (dI (a3.take (w64 ((a2.length : Int).tdiv 2)).toNat))), (14, .val (dI (a3.drop (w64 ((a2.length : Int).tdiv 2)).toNat))), (15, .val (dI (a1.take (w64 ((a1.length : Int) - 1)).toNat))), (16, .ref 16 [] true (dI v15))] 18 rfl (by kernel_rfl) (by rfl) ?_ ?_
  · simp [hv14a, hv14b, hv14c, hv14d] <;> simp [ieq, ilt, ile]
  -- region 7
  obtain ⟨v16, hv16, h⟩ := bind_some h
  obtain ⟨v17, hv17, h⟩ := bind_some h
  obtain ⟨v18, hv18, h⟩ := bind_some h
  obtain ⟨v19, hv19, h⟩ := bind_some h
  refine VW.ws tau_ok ((((Sound.none.add 75 (hself hv16) rfl).add 81 (i_field_conjugate_ok hv17) rfl).add 82 (hself hv18) rfl).add 83 (i_field_plus_ok hv19) rfl) [some 70, some 71, some 72, some 73, some 74, some 75, some 76, some 77, some 78, some 79, some 80, some 81, some 82, some 83, some 17] [(16, .ref 16 [] true (dI v15)), (17, .ref 17 [] true (dI v19))] rfl ?_ ?_
  · simp <;> simp [ieq, ilt, ile]
  -- region 8
  obtain ⟨hc20, h⟩ := chk_some h
  have hc20s := hc20
  try simp at hc20s
  refine VW.ws tau_ok Sound.none [some 84, some 85, some 86, some 8] [(8, .ref 8 [] true (dI (v15 ++ v19)))] rfl ?_ ?_
  · simp [hc20, hc20s] <;> simp [ieq, ilt, ile]
  cases h
  refine VW.ret ?_
  simp [Post, PostM, PostC, PostC2, Nx, Bk]
theorem i_field_doubled_ok : ∀ {n : Nat} {a0 : Int} {a1 : List Int} {a2 : List Int} {a3 : List Int} {r : List Int} (_ : i_field_doubled n a0 a1 a2 a3 = some r),
    VCall Try.prog 235 [i64 a0, dI a1, dI a2, dI a3] [.own true (dI r)]
  | 0, _, _, _, _, _, h => by cases h
  | n + 1, _, _, _, _, _, h => i_field_doubled_b_ok (fun h => i_field_doubled_ok (n := n) h) h

theorem i_Doubling_times_ok {a0_0 : Int} {a0_1 : List Int} {a1 : List Int} {a2 : List Int} {r : List Int} (h : i_Doubling_times a0_0 a0_1 a1 a2 = some r) :
    VCall Try.prog 211 [.agg [i64 a0_0, dI a0_1], dI a1, dI a2] [.own true (dI r)] := by
  unfold i_Doubling_times at h
  refine VCall.enter Try.call211 Try.func211 rfl 14 Try.ntmps211 (by simp) [.tmp 6] rfl ?_
  show VW _ _ _ (mk [(0, .val (.agg [i64 a0_0, dI a0_1])), (1, .val (dI a1)), (2, .val (dI a2))]) _
  -- region 0
  refine VW.ws tau_ok Sound.none [some 3, some 6] [(1, .val (dI a1)), (2, .val (dI a2)), (3, .val (.ptr [i64 a0_0, dI a0_1]))] rfl ?_ ?_
  · simp <;> simp [ieq, ilt, ile]
  -- region 1
  obtain ⟨v1, hv1, h⟩ := bind_some h
  obtain ⟨v2, hv2, h⟩ := bind_some h
  refine VW.wds tau_ok ((Sound.none.add 8 (i_Doubling_field_ok hv1) rfl).add 13 (i_field_doubled_ok (n := BIG) hv2) rfl) try_mixed [some 7, some 8, some 9, some 10, some 11, some 12, some 13, some 6] [(6, .ref 6 [] true (dI v2))] 7 rfl (by kernel_rfl) (by rfl) ?_ ?_
  · simp <;> simp [ieq, ilt, ile]
  cases h
  refine VW.ret ?_
  simp [Post, PostM, PostC, PostC2, Nx, Bk]

theorem i_Doubling_norm_ok {a0_0 : Int} {a0_1 : List Int} {a1 : List Int} {r : Int} (h : i_Doubling_norm a0_0 a0_1 a1 = some r) :
    VCall Try.prog 224 [.agg [i64 a0_0, dI a0_1], dI a1] [.sc (i64 r)] := by
  unfold i_Doubling_norm at h
  refine VCall.enter Try.call224 Try.func224 rfl 14 Try.ntmps224 (by simp) [.tmp 4] rfl ?_
  show VW _ _ _ (mk [(0, .val (.agg [i64 a0_0, dI a0_1])), (1, .val (dI a1))]) _
  -- region 0
  refine VW.ws tau_ok Sound.none [some 2, some 4] [(1, .val (dI a1)), (2, .val (.ptr [i64 a0_0, dI a0_1]))] rfl ?_ ?_
  · simp <;> simp [ieq, ilt, ile]
  -- region 1
  obtain ⟨v1, hv1, h⟩ := bind_some h
  obtain ⟨v2, hv2, h⟩ := bind_some h
  obtain ⟨v3, hv3, h⟩ := bind_some h
  obtain ⟨v4, hv4, h⟩ := bind_some h
  obtain ⟨hv4a, hv4b, hv4c, hv4d⟩ := idx_some hv4
  replace hv4b : 0 < v3.length := hv4b
  replace hv4c : v3[0]? = some v4 := hv4c
  replace hv4d : ∀ h, v3[0]'h = v4 := hv4d
  refine VW.wds tau_ok (((Sound.none.add 8 (i_Doubling_field_ok hv1) rfl).add 10 (i_field_conjugate_ok hv2) rfl).add 11 (i_Doubling_times_ok hv3) rfl) try_mixed [some 5, some 6, some 7, some 8, some 9, some 10, some 11, some 12, some 13, some 4] [(4, .val (i64 v4))] 10 rfl (by kernel_rfl) (by rfl) ?_ ?_
  · simp [hv4a, hv4b, hv4c, hv4d] <;> simp [ieq, ilt, ile]
  cases h
  refine VW.ret ?_
  simp [Post, PostM, PostC, PostC2, Nx, Bk]

theorem i_Doubling_diagonal_ok {a0_0 : Int} {a0_1 : List Int} {r : List Int} (h : i_Doubling_diagonal a0_0 a0_1 = some r) :
    VCall Try.prog 179 [.agg [i64 a0_0, dI a0_1]] [.own true (dI r)] := by
  unfold i_Doubling_diagonal at h
  refine VCall.enter Try.call179 Try.func179 rfl 23 Try.ntmps179 (by simp) [.tmp 2] rfl ?_
  show VW _ _ _ (mk [(0, .val (.agg [i64 a0_0, dI a0_1]))]) _
  -- region 0
  refine VW.ws tau_ok Sound.none [some 1, some 2] [(1, .val (.ptr [i64 a0_0, dI a0_1]))] rfl ?_ ?_
  · simp <;> simp [ieq, ilt, ile]
  -- region 1
  refine VW.ws tau_ok Sound.none [some 6, some 3] [(1, .val (.ptr [i64 a0_0, dI a0_1])), (3, .ref 3 [] true (dI []))] rfl ?_ ?_
  · simp <;> simp [ieq, ilt, ile]
  refine VW.sqc fun K1 hK1 hCK1 => ?_
  -- region 2
  obtain ⟨v2, hv2, h⟩ := bind_some h
  obtain ⟨v3, hv3, h⟩ := bind_some h
  refine VW.ws tau_ok ((Sound.none.add 8 (i_Doubling_size_ok hv2) rfl).add 9 (i_unit_ok hv3) rfl) [some 7, some 8, some 9, some 10, some 11] [(1, .val (.ptr [i64 a0_0, dI a0_1])), (3, .ref 3 [] true (dI [])), (9, .ref 9 [] true (dM v3)), (10, .val (i64 (v3.length : Int))), (11, .val (i64 0))] rfl ?_ ?_
  · simp <;> simp [ieq, ilt, ile]
  obtain ⟨x4, hx4, h⟩ := bind_some h
  refine VW.tlE [(3, .ref 3 [] true (dI x4))] (hCK1) ?_ ?_
  · clear hx4
    refine hK1 _ ?_
    -- region 7
    refine VW.ws tau_ok Sound.none [some 22, some 2] [(2, .ref 2 [] true (dI x4))] rfl ?_ ?_
    · simp <;> simp [ieq, ilt, ile]
    cases h
    refine VW.ret ?_
    simp [Post, PostM, PostC, PostC2, Nx, Bk]
  refine VW.block ?_
  refine VW.loopF (i_Doubling_diagonal_L0 a0_0 a0_1 v3) (fun s4 => [(1, .val (.ptr [i64 a0_0, dI a0_1])), (3, .ref 3 [] true (dI s4.1)), (9, .ref 9 [] true (dM v3)), (10, .val (i64 (v3.length : Int))), (11, .val (i64 s4.2))]) hx4 (Fits.of rfl) ?_
  clear hx4
  intro s4 ox4 hx4o hx4b
  unfold i_Doubling_diagonal_L0 at hx4o
  -- region 3
  refine VW.ws tau_ok Sound.none [some 12] [(1, .val (.ptr [i64 a0_0, dI a0_1])), (3, .ref 3 [] true (dI s4.1)), (9, .ref 9 [] true (dM v3)), (10, .val (i64 (v3.length : Int))), (11, .val (i64 s4.2)), (12, .val (.bool (ilt s4.2 (v3.length : Int))))] rfl ?_ ?_
  · simp <;> simp [ieq, ilt, ile]
  refine VW.sqc fun K6 hK6 hCK6 => ?_
  refine VW.cond rfl (fun hb7 => ?_) (fun hb7 => ?_)
  rotate_left
  ·
    replace hb7 : ¬ (s4.2 < (v3.length : Int)) := by simpa [ieq, ilt, ile] using hb7
    rw [if_neg hb7] at hx4o
    refine VW.exit ?_
    cases hx4o
    have hq := hx4b _ rfl
    subst hq
    exact Fits.of rfl
  replace hb7 : s4.2 < (v3.length : Int) := by simpa [ieq, ilt, ile] using hb7
  rw [if_pos hb7] at hx4o
  refine VW.skip ?_
  refine hK6 _ ?_
  refine VW.sqc fun K8 hK8 hCK8 => ?_
  refine VW.block ?_
  -- region 4
  obtain ⟨v9, hv9, hx4o⟩ := bind_some hx4o
  obtain ⟨hv9a, hv9b, hv9c, hv9d⟩ := idx_some hv9
  refine VW.ws tau_ok Sound.none [some 13, some 14, some 5] [(1, .val (.ptr [i64 a0_0, dI a0_1])), (3, .ref 3 [] true (dI s4.1)), (5, .ref 9 [s4.2.toNat] true (dI v9)), (9, .ref 9 [] true (dM v3)), (10, .val (i64 (v3.length : Int))), (11, .val (i64 s4.2))] rfl ?_ ?_
  · simp [hv9a, hv9b, hv9c, hv9d] <;> simp [ieq, ilt, ile]
  -- region 5
  obtain ⟨v10, hv10, hx4o⟩ := bind_some hx4o
  obtain ⟨hc11, hx4o⟩ := chk_some hx4o
  have hc11s := hc11
  try simp at hc11s
  refine VW.wr tau_ok (Sound.none.add 18 (i_Doubling_norm_ok hv10) rfl) [some 15, some 16, some 17, some 18, some 19, some 20, some 3] [(1, .val (.ptr [i64 a0_0, dI a0_1])), (3, .ref 3 [] true (dI (s4.1 ++ [v10]))), (9, .ref 9 [] true (dM v3)), (10, .val (i64 (v3.length : Int))), (11, .val (i64 s4.2))] rfl ?_ ?_
  · simp [hc11, hc11s] <;> simp [ieq, ilt, ile]
  refine hK8 _ ?_
  -- region 6
  refine VW.wr tau_ok Sound.none [some 21, some 11] [(1, .val (.ptr [i64 a0_0, dI a0_1])), (3, .ref 3 [] true (dI (s4.1 ++ [v10]))), (9, .ref 9 [] true (dM v3)), (10, .val (i64 (v3.length : Int))), (11, .val (i64 (w64 (s4.2 + 1))))] rfl ?_ ?_
  · simp <;> simp [ieq, ilt, ile]
  cases hx4o
  exact ⟨_, rfl, Fits.of rfl⟩

theorem i_Doubling_keepsNorm_ok {a0_0 : Int} {a0_1 : List Int} {a1 : List (List Int)} {r : Bool} (h : i_Doubling_keepsNorm a0_0 a0_1 a1 = some r) :
    VCall Try.prog 110 [.agg [i64 a0_0, dI a0_1], dM a1] [.sc (.bool r)] := by
  unfold i_Doubling_keepsNorm at h
  refine VCall.enter Try.call110 Try.func110 rfl 69 Try.ntmps110 (by simp) [.tmp 4] rfl ?_
  show VW _ _ _ (mk [(0, .val (.agg [i64 a0_0, dI a0_1])), (1, .val (dM a1))]) _
  -- region 0
  refine VW.ws tau_ok Sound.none [some 2, some 4] [(1, .val (dM a1)), (2, .val (.ptr [i64 a0_0, dI a0_1]))] rfl ?_ ?_
  · simp <;> simp [ieq, ilt, ile]
  -- region 1
  obtain ⟨v1, hv1, h⟩ := bind_some h
  refine VW.ws tau_ok (Sound.none.add 11 (i_Doubling_diagonal_ok hv1) rfl) [some 10, some 11, some 5] [(1, .val (dM a1)), (2, .val (.ptr [i64 a0_0, dI a0_1])), (5, .ref 5 [] true (dI v1))] rfl ?_ ?_
  · simp <;> simp [ieq, ilt, ile]
  refine VW.sqc fun K2 hK2 hCK2 => ?_
  -- region 2
  refine VW.ws tau_ok Sound.none [some 12, some 13, some 14] [(1, .val (dM a1)), (2, .val (.ptr [i64 a0_0, dI a0_1])), (5, .ref 5 [] true (dI v1)), (13, .val (i64 (a1.length : Int))), (14, .val (i64 0))] rfl ?_ ?_
  · simp <;> simp [ieq, ilt, ile]
  obtain ⟨x3, hx3, h⟩ := bind_some h
  refine VW.tlO (fun y5 => []) x3 (hCK2) ?_ ?_
  · clear hx3
    rintro y5 rfl
    dsimp only at h
    refine hK2 _ ?_
    -- region 20
    refine VW.ws tau_ok Sound.none [some 4] [(4, .val (.bool true))] rfl ?_ ?_
    · simp <;> simp [ieq, ilt, ile]
    cases h
    refine VW.ret ?_
    simp [Post, PostM, PostC, PostC2, Nx, Bk]
  refine VW.block ?_
  refine VW.loopF (i_Doubling_keepsNorm_L0 a0_0 a0_1 a1 v1) (fun s3 => [(1, .val (dM a1)), (2, .val (.ptr [i64 a0_0, dI a0_1])), (5, .ref 5 [] true (dI v1)), (13, .val (i64 (a1.length : Int))), (14, .val (i64 s3))]) hx3 (Fits.of rfl) ?_
  clear hx3
  intro s3 ox3 hx3o hx3b
  unfold i_Doubling_keepsNorm_L0 at hx3o
  -- region 3
  refine VW.ws tau_ok Sound.none [some 15] [(1, .val (dM a1)), (2, .val (.ptr [i64 a0_0, dI a0_1])), (5, .ref 5 [] true (dI v1)), (13, .val (i64 (a1.length : Int))), (14, .val (i64 s3)), (15, .val (.bool (ilt s3 (a1.length : Int))))] rfl ?_ ?_
  · simp <;> simp [ieq, ilt, ile]
  refine VW.sqc fun K6 hK6 hCK6 => ?_
  refine VW.cond rfl (fun hb7 => ?_) (fun hb7 => ?_)
  rotate_left
  ·
    replace hb7 : ¬ (s3 < (a1.length : Int)) := by simpa [ieq, ilt, ile] using hb7
    rw [if_neg hb7] at hx3o
    refine VW.exit ?_
    cases hx3o
    have hq := hx3b _ rfl
    subst hq
    exact ⟨_, rfl, Fits.of rfl⟩
  replace hb7 : s3 < (a1.length : Int) := by simpa [ieq, ilt, ile] using hb7
  rw [if_pos hb7] at hx3o
  refine VW.skip ?_
  refine hK6 _ ?_
  refine VW.sqc fun K8 hK8 hCK8 => ?_
  refine VW.block ?_
  -- region 4
  refine VW.ws tau_ok Sound.none [some 16, some 6] [(1, .val (dM a1)), (2, .val (.ptr [i64 a0_0, dI a0_1])), (5, .ref 5 [] true (dI v1)), (6, .val (i64 s3)), (13, .val (i64 (a1.length : Int))), (14, .val (i64 s3))] rfl ?_ ?_
  · simp <;> simp [ieq, ilt, ile]
  -- region 5
  refine VW.ws tau_ok Sound.none [some 17, some 18, some 19] [(1, .val (dM a1)), (2, .val (.ptr [i64 a0_0, dI a0_1])), (5, .ref 5 [] true (dI v1)), (6, .val (i64 s3)), (13, .val (i64 (a1.length : Int))), (14, .val (i64 s3)), (18, .val (i64 (a1.length : Int))), (19, .val (i64 0))] rfl ?_ ?_
  · simp <;> simp [ieq, ilt, ile]
  obtain ⟨x9, hx9, hx3o⟩ := bind_some hx3o
  refine VW.tlO (fun y11 => [(1, .val (dM a1)), (2, .val (.ptr [i64 a0_0, dI a0_1])), (5, .ref 5 [] true (dI v1)), (13, .val (i64 (a1.length : Int))), (14, .val (i64 s3))]) x9 (hCK8) ?_ ?_
  · clear hx9
    rintro y11 rfl
    dsimp only at hx3o
    refine hK8 _ ?_
    -- region 19
    refine VW.wr tau_ok Sound.none [some 68, some 14] [(1, .val (dM a1)), (2, .val (.ptr [i64 a0_0, dI a0_1])), (5, .ref 5 [] true (dI v1)), (13, .val (i64 (a1.length : Int))), (14, .val (i64 (w64 (s3 + 1))))] rfl ?_ ?_
    · simp <;> simp [ieq, ilt, ile]
    cases hx3o
    exact ⟨_, rfl, Fits.of rfl⟩
  refine VW.block ?_
  refine VW.loopF (i_Doubling_keepsNorm_L1 a0_0 a0_1 a1 v1 s3) (fun s9 => [(1, .val (dM a1)), (2, .val (.ptr [i64 a0_0, dI a0_1])), (5, .ref 5 [] true (dI v1)), (6, .val (i64 s3)), (13, .val (i64 (a1.length : Int))), (14, .val (i64 s3)), (18, .val (i64 (a1.length : Int))), (19, .val (i64 s9))]) hx9 (Fits.of rfl) ?_
  clear hx9
  intro s9 ox9 hx9o hx9b
  unfold i_Doubling_keepsNorm_L1 at hx9o
  -- region 6
  refine VW.ws tau_ok Sound.none [some 20] [(1, .val (dM a1)), (2, .val (.ptr [i64 a0_0, dI a0_1])), (5, .ref 5 [] true (dI v1)), (6, .val (i64 s3)), (13, .val (i64 (a1.length : Int))), (14, .val (i64 s3)), (18, .val (i64 (a1.length : Int))), (19, .val (i64 s9)), (20, .val (.bool (ilt s9 (a1.length : Int))))] rfl ?_ ?_
  · simp <;> simp [ieq, ilt, ile]
  refine VW.sqc fun K12 hK12 hCK12 => ?_
  refine VW.cond rfl (fun hb13 => ?_) (fun hb13 => ?_)
  rotate_left
  ·
    replace hb13 : ¬ (s9 < (a1.length : Int)) := by simpa [ieq, ilt, ile] using hb13
    rw [if_neg hb13] at hx9o
    refine VW.exit ?_
    cases hx9o
    have hq := hx9b _ rfl
    subst hq
    exact ⟨_, rfl, Fits.of rfl⟩
  replace hb13 : s9 < (a1.length : Int) := by simpa [ieq, ilt, ile] using hb13
  rw [if_pos hb13] at hx9o
  refine VW.skip ?_
  refine hK12 _ ?_
  refine VW.sqc fun K14 hK14 hCK14 => ?_
  refine VW.block ?_
  -- region 7
  refine VW.ws tau_ok Sound.none [some 21, some 7] [(1, .val (dM a1)), (2, .val (.ptr [i64 a0_0, dI a0_1])), (5, .ref 5 [] true (dI v1)), (6, .val (i64 s3)), (7, .val (i64 s9)), (13, .val (i64 (a1.length : Int))), (14, .val (i64 s3)), (18, .val (i64 (a1.length : Int))), (19, .val (i64 s9))] rfl ?_ ?_
  · simp <;> simp [ieq, ilt, ile]
  -- region 8
  refine VW.ws tau_ok Sound.none [some 8] [(1, .val (dM a1)), (2, .val (.ptr [i64 a0_0, dI a0_1])), (5, .ref 5 [] true (dI v1)), (6, .val (i64 s3)), (7, .val (i64 s9)), (8, .val (i64 0)), (13, .val (i64 (a1.length : Int))), (14, .val (i64 s3)), (18, .val (i64 (a1.length : Int))), (19, .val (i64 s9))] rfl ?_ ?_
  · simp <;> simp [ieq, ilt, ile]
  refine VW.sqc fun K15 hK15 hCK15 => ?_
  -- region 9
  refine VW.ws tau_ok Sound.none [some 22, some 23, some 24] [(1, .val (dM a1)), (2, .val (.ptr [i64 a0_0, dI a0_1])), (5, .ref 5 [] true (dI v1)), (6, .val (i64 s3)), (7, .val (i64 s9)), (8, .val (i64 0)), (13, .val (i64 (a1.length : Int))), (14, .val (i64 s3)), (18, .val (i64 (a1.length : Int))), (19, .val (i64 s9)), (23, .val (i64 (a1.length : Int))), (24, .val (i64 0))] rfl ?_ ?_
  · simp <;> simp [ieq, ilt, ile]
  obtain ⟨x16, hx16, hx9o⟩ := bind_some hx9o
  refine VW.tlE [(1, .val (dM a1)), (2, .val (.ptr [i64 a0_0, dI a0_1])), (5, .ref 5 [] true (dI v1)), (6, .val (i64 s3)), (7, .val (i64 s9)), (8, .val (i64 x16)), (13, .val (i64 (a1.length : Int))), (14, .val (i64 s3)), (18, .val (i64 (a1.length : Int))), (19, .val (i64 s9))] (hCK15) ?_ ?_
  · clear hx16
    refine hK15 _ ?_
    refine VW.sqc fun K27 hK27 hCK27 => ?_
    -- region 14
    refine VW.ws tau_ok Sound.none [some 53, some 54, some 55] [(1, .val (dM a1)), (2, .val (.ptr [i64 a0_0, dI a0_1])), (5, .ref 5 [] true (dI v1)), (6, .val (i64 s3)), (8, .val (i64 x16)), (13, .val (i64 (a1.length : Int))), (14, .val (i64 s3)), (18, .val (i64 (a1.length : Int))), (19, .val (i64 s9)), (55, .val (.bool (ieq s3 s9)))] rfl ?_ ?_
    · simp <;> simp [ieq, ilt, ile]
    obtain ⟨x28, hx28, hx9o⟩ := bind_some hx9o
    refine VW.tlE [(1, .val (dM a1)), (2, .val (.ptr [i64 a0_0, dI a0_1])), (5, .ref 5 [] true (dI v1)), (6, .val (i64 s3)), (8, .val (i64 x28)), (13, .val (i64 (a1.length : Int))), (14, .val (i64 s3)), (18, .val (i64 (a1.length : Int))), (19, .val (i64 s9))] (hCK27) ?_ ?_
    · clear hx28
      refine hK27 _ ?_
      -- region 16
      obtain ⟨v32, hv32, hx9o⟩ := bind_some hx9o
      obtain ⟨v33, hv33, hx9o⟩ := bind_some hx9o
      refine VW.ws tau_ok ((Sound.none.add 63 (i_Doubling_field_ok hv32) rfl).add 65 (i_field_num_ok hv33) rfl) [some 62, some 63, some 64, some 65, some 66] [(1, .val (dM a1)), (2, .val (.ptr [i64 a0_0, dI a0_1])), (5, .ref 5 [] true (dI v1)), (6, .val (i64 s3)), (13, .val (i64 (a1.length : Int))), (14, .val (i64 s3)), (18, .val (i64 (a1.length : Int))), (19, .val (i64 s9)), (66, .val (.bool (!(ieq v33 0))))] rfl ?_ ?_
      · simp <;> simp [ieq, ilt, ile]
      refine VW.cond rfl (fun hb34 => ?_) (fun hb34 => ?_)
      rotate_left
      ·
        replace hb34 : ¬ (¬ v33 = 0) := by simpa [ieq, ilt, ile] using hb34
        rw [if_neg hb34] at hx9o
        refine VW.skip ?_
        refine hK14 _ ?_
        -- region 18
        refine VW.wr tau_ok Sound.none [some 67, some 19] [(1, .val (dM a1)), (2, .val (.ptr [i64 a0_0, dI a0_1])), (5, .ref 5 [] true (dI v1)), (6, .val (i64 s3)), (13, .val (i64 (a1.length : Int))), (14, .val (i64 s3)), (18, .val (i64 (a1.length : Int))), (19, .val (i64 (w64 (s9 + 1))))] rfl ?_ ?_
        · simp <;> simp [ieq, ilt, ile]
        cases hx9o
        exact ⟨_, rfl, Fits.of rfl⟩
      replace hb34 : ¬ v33 = 0 := by simpa [ieq, ilt, ile] using hb34
      rw [if_pos hb34] at hx9o
      -- region 17
      refine VW.ws tau_ok Sound.none [some 4] [(4, .val (.bool false))] rfl ?_ ?_
      · simp <;> simp [ieq, ilt, ile]
      cases hx9o
      have hq := hx9b _ rfl
      subst hq
      dsimp only at hx3o
      cases hx3o
      have hq := hx3b _ rfl
      subst hq
      dsimp only at h
      cases h
      refine VW.ret ?_
      simp [Post, PostM, PostC, PostC2, Nx, Bk]
    refine VW.cond rfl (fun hb30 => ?_) (fun hb30 => ?_)
    rotate_left
    ·
      replace hb30 : ¬ (s3 = s9) := by simpa [ieq, ilt, ile] using hb30
      rw [if_neg hb30] at hx28
      refine VW.skip ?_
      cases hx28
      exact Fits.of rfl
    replace hb30 : s3 = s9 := by simpa [ieq, ilt, ile] using hb30
    rw [if_pos hb30] at hx28
    -- region 15
    obtain ⟨v31, hv31, hx28⟩ := bind_some hx28
    obtain ⟨hv31a, hv31b, hv31c, hv31d⟩ := idx_some hv31
    refine VW.wr tau_ok Sound.none [some 56, some 57, some 58, some 59, some 60, some 61, some 8] [(1, .val (dM a1)), (2, .val (.ptr [i64 a0_0, dI a0_1])), (5, .ref 5 [] true (dI v1)), (6, .val (i64 s3)), (8, .val (i64 (w64 (x16 - v31)))), (13, .val (i64 (a1.length : Int))), (14, .val (i64 s3)), (18, .val (i64 (a1.length : Int))), (19, .val (i64 s9))] rfl ?_ ?_
    · simp [hv31a, hv31b, hv31c, hv31d] <;> simp [ieq, ilt, ile]
    cases hx28
    exact Fits.of rfl
  refine VW.block ?_
  refine VW.loopF (i_Doubling_keepsNorm_L2 a0_0 a0_1 a1 v1 s3 s9) (fun s16 => [(1, .val (dM a1)), (2, .val (.ptr [i64 a0_0, dI a0_1])), (5, .ref 5 [] true (dI v1)), (6, .val (i64 s3)), (7, .val (i64 s9)), (8, .val (i64 s16.1)), (13, .val (i64 (a1.length : Int))), (14, .val (i64 s3)), (18, .val (i64 (a1.length : Int))), (19, .val (i64 s9)), (23, .val (i64 (a1.length : Int))), (24, .val (i64 s16.2))]) hx16 (Fits.of rfl) ?_
  clear hx16
  intro s16 ox16 hx16o hx16b
  unfold i_Doubling_keepsNorm_L2 at hx16o
  -- region 10
  refine VW.ws tau_ok Sound.none [some 25] [(1, .val (dM a1)), (2, .val (.ptr [i64 a0_0, dI a0_1])), (5, .ref 5 [] true (dI v1)), (6, .val (i64 s3)), (7, .val (i64 s9)), (8, .val (i64 s16.1)), (13, .val (i64 (a1.length : Int))), (14, .val (i64 s3)), (18, .val (i64 (a1.length : Int))), (19, .val (i64 s9)), (23, .val (i64 (a1.length : Int))), (24, .val (i64 s16.2)), (25, .val (.bool (ilt s16.2 (a1.length : Int))))] rfl ?_ ?_
  · simp <;> simp [ieq, ilt, ile]
  refine VW.sqc fun K18 hK18 hCK18 => ?_
  refine VW.cond rfl (fun hb19 => ?_) (fun hb19 => ?_)
  rotate_left
  ·
    replace hb19 : ¬ (s16.2 < (a1.length : Int)) := by simpa [ieq, ilt, ile] using hb19
    rw [if_neg hb19] at hx16o
    refine VW.exit ?_
    cases hx16o
    have hq := hx16b _ rfl
    subst hq
    exact Fits.of rfl
  replace hb19 : s16.2 < (a1.length : Int) := by simpa [ieq, ilt, ile] using hb19
  rw [if_pos hb19] at hx16o
  refine VW.skip ?_
  refine hK18 _ ?_
  refine VW.sqc fun K20 hK20 hCK20 => ?_
  refine VW.block ?_
  -- region 11
  refine VW.ws tau_ok Sound.none [some 26, some 9] [(1, .val (dM a1)), (2, .val (.ptr [i64 a0_0, dI a0_1])), (5, .ref 5 [] true (dI v1)), (6, .val (i64 s3)), (7, .val (i64 s9)), (8, .val (i64 s16.1)), (9, .val (i64 s16.2)), (13, .val (i64 (a1.length : Int))), (14, .val (i64 s3)), (18, .val (i64 (a1.length : Int))), (19, .val (i64 s9)), (23, .val (i64 (a1.length : Int))), (24, .val (i64 s16.2))] rfl ?_ ?_
  · simp <;> simp [ieq, ilt, ile]
  -- region 12
  obtain ⟨v21, hv21, hx16o⟩ := bind_some hx16o
  obtain ⟨v22, hv22, hx16o⟩ := bind_some hx16o
  obtain ⟨hv22a, hv22b, hv22c, hv22d⟩ := idx_some hv22
  obtain ⟨v23, hv23, hx16o⟩ := bind_some hx16o
  obtain ⟨hv23a, hv23b, hv23c, hv23d⟩ := idx_some hv23
  obtain ⟨v24, hv24, hx16o⟩ := bind_some hx16o
  obtain ⟨hv24a, hv24b, hv24c, hv24d⟩ := idx_some hv24
  obtain ⟨v25, hv25, hx16o⟩ := bind_some hx16o
  obtain ⟨v26, hv26, hx16o⟩ := bind_some hx16o
  obtain ⟨hv26a, hv26b, hv26c, hv26d⟩ := idx_some hv26
  refine VW.wdr tau_ok ((Sound.none.add 29 (i_Doubling_field_ok hv21) rfl).add 45 (i_field_num_ok hv25) rfl) try_mixed [some 27, some 28, some 29, some 30, some 31, some 32, some 33, some 34, some 35, some 36, some 37, some 38, some 39, some 40, some 41, some 42, some 43, some 44, some 45, some 46, some 47, some 48, some 49, some 50, some 51, some 8] [(1, .val (dM a1)), (2, .val (.ptr [i64 a0_0, dI a0_1])), (5, .ref 5 [] true (dI v1)), (6, .val (i64 s3)), (7, .val (i64 s9)), (8, .val (i64 (w64 (s16.1 + (w64 (v25 * v26)))))), (13, .val (i64 (a1.length : Int))), (14, .val (i64 s3)), (18, .val (i64 (a1.length : Int))), (19, .val (i64 s9)), (23, .val (i64 (a1.length : Int))), (24, .val (i64 s16.2))] 26 rfl (by kernel_rfl) (by rfl) ?_ ?_
  · simp [hv22a, hv22b, hv22c, hv22d, hv23a, hv23b, hv23c, hv23d, hv24a, hv24b, hv24c, hv24d, hv26a, hv26b, hv26c, hv26d] <;> simp [ieq, ilt, ile]
  refine hK20 _ ?_
  -- region 13
  refine VW.wr tau_ok Sound.none [some 52, some 24] [(1, .val (dM a1)), (2, .val (.ptr [i64 a0_0, dI a0_1])), (5, .ref 5 [] true (dI v1)), (6, .val (i64 s3)), (7, .val (i64 s9)), (8, .val (i64 (w64 (s16.1 + (w64 (v25 * v26)))))), (13, .val (i64 (a1.length : Int))), (14, .val (i64 s3)), (18, .val (i64 (a1.length : Int))), (19, .val (i64 s9)), (23, .val (i64 (a1.length : Int))), (24, .val (i64 (w64 (s16.2 + 1))))] rfl ?_ ?_
  · simp <;> simp [ieq, ilt, ile]
  cases hx16o
  exact ⟨_, rfl, Fits.of rfl⟩

theorem i_KeepsNorm_ok {a0_0 : Int} {a0_1 : List Int} {a1 : List (List Int)} {r : Bool × Int} (h : i_KeepsNorm a0_0 a0_1 a1 = some r) :
    VCall Try.prog 50 [.agg [i64 a0_0, dI a0_1], dM a1] [.sc (.bool r.1), .sc (i64 r.2)] := by
  unfold i_KeepsNorm at h
  refine VCall.enter Try.call50 Try.func50 rfl 17 Try.ntmps50 (by simp) [.tmp 4, .tmp 5] rfl ?_
  show VW _ _ _ (mk [(0, .val (.agg [i64 a0_0, dI a0_1])), (1, .val (dM a1))]) _
  -- region 0
  refine VW.ws tau_ok Sound.none [some 2, some 4, some 5] [(1, .val (dM a1)), (2, .val (.ptr [i64 a0_0, dI a0_1]))] rfl ?_ ?_
  · simp <;> simp [ieq, ilt, ile]
  refine VW.sqc fun K1 hK1 hCK1 => ?_
  -- region 1
  obtain ⟨v2, hv2, h⟩ := bind_some h
  refine VW.ws tau_ok (Sound.none.add 10 (i_checkThree_ok hv2) rfl) [some 7, some 8, some 9, some 10, some 6] [(1, .val (dM a1)), (2, .val (.ptr [i64 a0_0, dI a0_1])), (6, .val (i64 v2))] rfl ?_ ?_
  · simp <;> simp [ieq, ilt, ile]
  -- region 2
  refine VW.ws tau_ok Sound.none [some 11, some 12] [(1, .val (dM a1)), (2, .val (.ptr [i64 a0_0, dI a0_1])), (6, .val (i64 v2)), (12, .val (.bool (!(ieq v2 0))))] rfl ?_ ?_
  · simp <;> simp [ieq, ilt, ile]
  refine VW.cond rfl (fun hb3 => ?_) (fun hb3 => ?_)
  ·
    replace hb3 : ¬ v2 = 0 := by simpa [ieq, ilt, ile] using hb3
    rw [if_pos hb3] at h
    -- region 3
    refine VW.ws tau_ok Sound.none [some 13, some 4, some 5] [(4, .val (.bool false)), (5, .val (i64 v2))] rfl ?_ ?_
    · simp <;> simp [ieq, ilt, ile]
    cases h
    refine VW.ret ?_
    simp [Post, PostM, PostC, PostC2, Nx, Bk]
  replace hb3 : ¬ (¬ v2 = 0) := by simpa [ieq, ilt, ile] using hb3
  rw [if_neg hb3] at h
  refine VW.skip ?_
  refine hK1 _ ?_
  -- region 4
  obtain ⟨v4, hv4, h⟩ := bind_some h
  refine VW.ws tau_ok (Sound.none.add 16 (i_Doubling_keepsNorm_ok hv4) rfl) [some 14, some 15, some 16, some 4, some 5] [(4, .val (.bool v4)), (5, .val (i64 0))] rfl ?_ ?_
  · simp <;> simp [ieq, ilt, ile]
  cases h
  refine VW.ret ?_
  simp [Post, PostM, PostC, PostC2, Nx, Bk]
end Go.Vam
