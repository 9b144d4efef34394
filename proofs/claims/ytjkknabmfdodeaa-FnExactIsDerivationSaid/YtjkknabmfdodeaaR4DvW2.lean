import Derived.Test.YtjkknabmfdodeaaR4T
import Derived.Test.YtjkknabmfdodeaaFnD
import Derived.Test.YtjkknabmfdodeaaR4DvW1
namespace Go.Vam
open Go Go.RowKit Go.Proofs
set_option maxRecDepth 100000
set_option linter.unusedSimpArgs false
set_option linter.unusedVariables false

theorem i_column_ok {a0 : List (List Int)} {a1 : Int} {r : List Int} (h : i_column a0 a1 = some r) :
    VCall Try.prog 187 [dM a0, i64 a1] [.own true (dI r)] := by
  unfold i_column at h
  refine VCall.enter Try.call187 Try.func187 rfl 24 Try.ntmps187 (by simp) [.tmp 4] rfl ?_
  show VW _ _ _ (mk [(0, .val (dM a0)), (1, .val (i64 a1))]) _
  -- region 0
  refine VW.ws tau_ok Sound.none [some 4] [(0, .val (dM a0)), (1, .val (i64 a1))] rfl ?_ ?_
  · simp <;> simp [ieq, ilt, ile]
  -- region 1
  refine VW.ws tau_ok Sound.none [some 8, some 5] [(0, .val (dM a0)), (1, .val (i64 a1)), (5, .ref 5 [] true (dI []))] rfl ?_ ?_
  · simp <;> simp [ieq, ilt, ile]
  refine VW.sqc fun K1 hK1 hCK1 => ?_
  -- region 2
  refine VW.ws tau_ok Sound.none [some 9, some 10, some 11] [(1, .val (i64 a1)), (5, .ref 5 [] true (dI [])), (9, .val (dM a0)), (10, .val (i64 (a0.length : Int))), (11, .val (i64 0))] rfl ?_ ?_
  · simp <;> simp [ieq, ilt, ile]
  obtain ⟨x2, hx2, h⟩ := bind_some h
  refine VW.tlE [(5, .ref 5 [] true (dI x2))] (hCK1) ?_ ?_
  · clear hx2
    refine hK1 _ ?_
    -- region 7
    refine VW.ws tau_ok Sound.none [some 23, some 4] [(4, .ref 4 [] true (dI x2))] rfl ?_ ?_
    · simp <;> simp [ieq, ilt, ile]
    cases h
    refine VW.ret ?_
    simp [Post, PostM, PostC, PostC2, Nx, Bk]
  refine VW.block ?_
  refine VW.loopF (i_column_L0 a0 a1) (fun s2 => [(1, .val (i64 a1)), (5, .ref 5 [] true (dI s2.1)), (9, .val (dM a0)), (10, .val (i64 (a0.length : Int))), (11, .val (i64 s2.2))]) hx2 (Fits.of rfl) ?_
  clear hx2
  intro s2 ox2 hx2o hx2b
  unfold i_column_L0 at hx2o
  -- region 3
  refine VW.ws tau_ok Sound.none [some 12] [(1, .val (i64 a1)), (5, .ref 5 [] true (dI s2.1)), (9, .val (dM a0)), (10, .val (i64 (a0.length : Int))), (11, .val (i64 s2.2)), (12, .val (.bool (ilt s2.2 (a0.length : Int))))] rfl ?_ ?_
  · simp <;> simp [ieq, ilt, ile]
  refine VW.sqc fun K4 hK4 hCK4 => ?_
  refine VW.cond rfl (fun hb5 => ?_) (fun hb5 => ?_)
  rotate_left
  ·
    replace hb5 : ¬ (s2.2 < (a0.length : Int)) := by simpa [ieq, ilt, ile] using hb5
    rw [if_neg hb5] at hx2o
    refine VW.exit ?_
    cases hx2o
    have hq := hx2b _ rfl
    subst hq
    exact Fits.of rfl
  replace hb5 : s2.2 < (a0.length : Int) := by simpa [ieq, ilt, ile] using hb5
  rw [if_pos hb5] at hx2o
  refine VW.skip ?_
  refine hK4 _ ?_
  refine VW.sqc fun K6 hK6 hCK6 => ?_
  refine VW.block ?_
  -- region 4
  obtain ⟨v7, hv7, hx2o⟩ := bind_some hx2o
  obtain ⟨hv7a, hv7b, hv7c, hv7d⟩ := idx_some hv7
  refine VW.ws tau_ok Sound.none [some 13, some 14, some 7] [(1, .val (i64 a1)), (5, .ref 5 [] true (dI s2.1)), (7, .val (dI v7)), (9, .val (dM a0)), (10, .val (i64 (a0.length : Int))), (11, .val (i64 s2.2))] rfl ?_ ?_
  · simp [hv7a, hv7b, hv7c, hv7d] <;> simp [ieq, ilt, ile]
  -- region 5
  obtain ⟨v8, hv8, hx2o⟩ := bind_some hx2o
  obtain ⟨hv8a, hv8b, hv8c, hv8d⟩ := idx_some hv8
  obtain ⟨hc9, hx2o⟩ := chk_some hx2o
  have hc9s := hc9
  try simp at hc9s
  refine VW.wr tau_ok Sound.none [some 15, some 16, some 17, some 18, some 19, some 20, some 21, some 5] [(1, .val (i64 a1)), (5, .ref 5 [] true (dI (s2.1 ++ [v8]))), (9, .val (dM a0)), (10, .val (i64 (a0.length : Int))), (11, .val (i64 s2.2))] rfl ?_ ?_
  · simp [hv8a, hv8b, hv8c, hv8d, hc9, hc9s] <;> simp [ieq, ilt, ile]
  refine hK6 _ ?_
  -- region 6
  refine VW.wr tau_ok Sound.none [some 22, some 11] [(1, .val (i64 a1)), (5, .ref 5 [] true (dI (s2.1 ++ [v8]))), (9, .val (dM a0)), (10, .val (i64 (a0.length : Int))), (11, .val (i64 (w64 (s2.2 + 1))))] rfl ?_ ?_
  · simp <;> simp [ieq, ilt, ile]
  cases hx2o
  exact ⟨_, rfl, Fits.of rfl⟩

theorem i_field_num_ok {a0 : Int} {a1 : Int} {r : Int} (h : i_field_num a0 a1 = some r) :
    VCall Try.prog 201 [i64 a0, i64 a1] [.sc (i64 r)] := by
  unfold i_field_num at h
  refine VCall.enter Try.call201 Try.func201 rfl 14 Try.ntmps201 (by simp) [.tmp 4] rfl ?_
  show VW _ _ _ (mk [(0, .val (i64 a0)), (1, .val (i64 a1))]) _
  -- region 0
  refine VW.ws tau_ok Sound.none [some 4] [(0, .val (i64 a0)), (1, .val (i64 a1))] rfl ?_ ?_
  · simp <;> simp [ieq, ilt, ile]
  -- region 1
  refine VW.ws tau_ok Sound.none [some 6, some 5] [(1, .val (i64 a1)), (5, .val (i64 a0))] rfl ?_ ?_
  · simp <;> simp [ieq, ilt, ile]
  -- region 2
  obtain ⟨hc1, h⟩ := chk_some h
  have hc1s := hc1
  try simp at hc1s
  obtain ⟨hc2, h⟩ := chk_some h
  have hc2s := hc2
  try simp at hc2s
  refine VW.ws tau_ok Sound.none [some 7, some 8, some 9, some 10, some 11, some 12, some 13, some 4] [(4, .val (i64 ((w64 ((a1.tmod a0) + a0)).tmod a0)))] rfl ?_ ?_
  · simp [hc1, hc1s, hc2, hc2s] <;> simp [ieq, ilt, ile]
  cases h
  refine VW.ret ?_
  simp [Post, PostM, PostC, PostC2, Nx, Bk]

theorem i_field_scaled_ok {a0 : Int} {a1 : List Int} {a2 : Int} {r : List Int} (h : i_field_scaled a0 a1 a2 = some r) :
    VCall Try.prog 193 [i64 a0, dI a1, i64 a2] [.own true (dI r)] := by
  unfold i_field_scaled at h
  refine VCall.enter Try.call193 Try.func193 rfl 27 Try.ntmps193 (by simp) [.tmp 6] rfl ?_
  show VW _ _ _ (mk [(0, .val (i64 a0)), (1, .val (dI a1)), (2, .val (i64 a2))]) _
  -- region 0
  refine VW.ws tau_ok Sound.none [some 6] [(0, .val (i64 a0)), (1, .val (dI a1)), (2, .val (i64 a2))] rfl ?_ ?_
  · simp <;> simp [ieq, ilt, ile]
  -- region 1
  refine VW.ws tau_ok Sound.none [some 10, some 7] [(0, .val (i64 a0)), (1, .val (dI a1)), (2, .val (i64 a2)), (7, .ref 7 [] true (dI []))] rfl ?_ ?_
  · simp <;> simp [ieq, ilt, ile]
  refine VW.sqc fun K1 hK1 hCK1 => ?_
  -- region 2
  refine VW.ws tau_ok Sound.none [some 11, some 12, some 13] [(0, .val (i64 a0)), (2, .val (i64 a2)), (7, .ref 7 [] true (dI [])), (11, .val (dI a1)), (12, .val (i64 (a1.length : Int))), (13, .val (i64 0))] rfl ?_ ?_
  · simp <;> simp [ieq, ilt, ile]
  obtain ⟨x2, hx2, h⟩ := bind_some h
  refine VW.tlE [(7, .ref 7 [] true (dI x2))] (hCK1) ?_ ?_
  · clear hx2
    refine hK1 _ ?_
    -- region 7
    refine VW.ws tau_ok Sound.none [some 26, some 6] [(6, .ref 6 [] true (dI x2))] rfl ?_ ?_
    · simp <;> simp [ieq, ilt, ile]
    cases h
    refine VW.ret ?_
    simp [Post, PostM, PostC, PostC2, Nx, Bk]
  refine VW.block ?_
  refine VW.loopF (i_field_scaled_L0 a0 a1 a2) (fun s2 => [(0, .val (i64 a0)), (2, .val (i64 a2)), (7, .ref 7 [] true (dI s2.1)), (11, .val (dI a1)), (12, .val (i64 (a1.length : Int))), (13, .val (i64 s2.2))]) hx2 (Fits.of rfl) ?_
  clear hx2
  intro s2 ox2 hx2o hx2b
  unfold i_field_scaled_L0 at hx2o
  -- region 3
  refine VW.ws tau_ok Sound.none [some 14] [(0, .val (i64 a0)), (2, .val (i64 a2)), (7, .ref 7 [] true (dI s2.1)), (11, .val (dI a1)), (12, .val (i64 (a1.length : Int))), (13, .val (i64 s2.2)), (14, .val (.bool (ilt s2.2 (a1.length : Int))))] rfl ?_ ?_
  · simp <;> simp [ieq, ilt, ile]
  refine VW.sqc fun K4 hK4 hCK4 => ?_
  refine VW.cond rfl (fun hb5 => ?_) (fun hb5 => ?_)
  rotate_left
  ·
    replace hb5 : ¬ (s2.2 < (a1.length : Int)) := by simpa [ieq, ilt, ile] using hb5
    rw [if_neg hb5] at hx2o
    refine VW.exit ?_
    cases hx2o
    have hq := hx2b _ rfl
    subst hq
    exact Fits.of rfl
  replace hb5 : s2.2 < (a1.length : Int) := by simpa [ieq, ilt, ile] using hb5
  rw [if_pos hb5] at hx2o
  refine VW.skip ?_
  refine hK4 _ ?_
  refine VW.sqc fun K6 hK6 hCK6 => ?_
  refine VW.block ?_
  -- region 4
  obtain ⟨v7, hv7, hx2o⟩ := bind_some hx2o
  obtain ⟨hv7a, hv7b, hv7c, hv7d⟩ := idx_some hv7
  refine VW.ws tau_ok Sound.none [some 15, some 16, some 9] [(0, .val (i64 a0)), (2, .val (i64 a2)), (7, .ref 7 [] true (dI s2.1)), (9, .val (i64 v7)), (11, .val (dI a1)), (12, .val (i64 (a1.length : Int))), (13, .val (i64 s2.2))] rfl ?_ ?_
  · simp [hv7a, hv7b, hv7c, hv7d] <;> simp [ieq, ilt, ile]
  -- region 5
  obtain ⟨v8, hv8, hx2o⟩ := bind_some hx2o
  obtain ⟨hc9, hx2o⟩ := chk_some hx2o
  have hc9s := hc9
  try simp at hc9s
  refine VW.wr tau_ok (Sound.none.add 22 (i_field_num_ok hv8) rfl) [some 17, some 18, some 19, some 20, some 21, some 22, some 23, some 24, some 7] [(0, .val (i64 a0)), (2, .val (i64 a2)), (7, .ref 7 [] true (dI (s2.1 ++ [v8]))), (11, .val (dI a1)), (12, .val (i64 (a1.length : Int))), (13, .val (i64 s2.2))] rfl ?_ ?_
  · simp [hc9, hc9s] <;> simp [ieq, ilt, ile]
  refine hK6 _ ?_
  -- region 6
  refine VW.wr tau_ok Sound.none [some 25, some 13] [(0, .val (i64 a0)), (2, .val (i64 a2)), (7, .ref 7 [] true (dI (s2.1 ++ [v8]))), (11, .val (dI a1)), (12, .val (i64 (a1.length : Int))), (13, .val (i64 (w64 (s2.2 + 1))))] rfl ?_ ?_
  · simp <;> simp [ieq, ilt, ile]
  cases hx2o
  exact ⟨_, rfl, Fits.of rfl⟩

theorem i_field_conjugate_ok {a0 : Int} {a1 : List Int} {r : List Int} (h : i_field_conjugate a0 a1 = some r) :
    VCall Try.prog 156 [i64 a0, dI a1] [.own true (dI r)] := by
  unfold i_field_conjugate at h
  refine VCall.enter Try.call156 Try.func156 rfl 15 Try.ntmps156 (by simp) [.tmp 4] rfl ?_
  show VW _ _ _ (mk [(0, .val (i64 a0)), (1, .val (dI a1))]) _
  -- region 0
  refine VW.ws tau_ok Sound.none [some 4] [(0, .val (i64 a0)), (1, .val (dI a1))] rfl ?_ ?_
  · simp <;> simp [ieq, ilt, ile]
  -- region 1
  obtain ⟨v1, hv1, h⟩ := bind_some h
  refine VW.ws tau_ok (Sound.none.add 8 (i_field_scaled_ok hv1) rfl) [some 6, some 7, some 8, some 5] [(1, .val (dI a1)), (5, .ref 5 [] true (dI v1))] rfl ?_ ?_
  · simp <;> simp [ieq, ilt, ile]
  -- region 2
  obtain ⟨v2, hv2, h⟩ := bind_some h
  obtain ⟨hv2a, hv2b, hv2c, hv2d⟩ := idx_some hv2
  replace hv2b : 0 < a1.length := hv2b
  replace hv2c : a1[0]? = some v2 := hv2c
  replace hv2d : ∀ h, a1[0]'h = v2 := hv2d
  obtain ⟨v3, hv3, h⟩ := bind_some h
  obtain ⟨hv3a, hv3b, hv3c, hv3d⟩ := idx_some hv3
  replace hv3b : 0 < v1.length := hv3b
  replace hv3c : v1[0]? = some v3 := hv3c
  replace hv3d : ∀ h, v1[0]'h = v3 := hv3d
  refine VW.ws tau_ok Sound.none [some 9, some 10, some 11, some 12, some 13, none] [(5, .ref 5 [] true (dI (v1.set 0 v2)))] rfl ?_ ?_
  · simp [hv2a, hv2b, hv2c, hv2d, hv3a, hv3b, hv3c, hv3d] <;> simp [ieq, ilt, ile]
  -- region 3
  refine VW.ws tau_ok Sound.none [some 14, some 4] [(4, .ref 4 [] true (dI (v1.set 0 v2)))] rfl ?_ ?_
  · simp <;> simp [ieq, ilt, ile]
  cases h
  refine VW.ret ?_
  simp [Post, PostM, PostC, PostC2, Nx, Bk]

theorem i_field_plus_ok {a0 : Int} {a1 : List Int} {a2 : List Int} {a3 : Int} {r : List Int} (h : i_field_plus a0 a1 a2 a3 = some r) :
    VCall Try.prog 186 [i64 a0, dI a1, dI a2, i64 a3] [.own true (dI r)] := by
  unfold i_field_plus at h
  refine VCall.enter Try.call186 Try.func186 rfl 35 Try.ntmps186 (by simp) [.tmp 8] rfl ?_
  show VW _ _ _ (mk [(0, .val (i64 a0)), (1, .val (dI a1)), (2, .val (dI a2)), (3, .val (i64 a3))]) _
  -- region 0
  refine VW.ws tau_ok Sound.none [some 8] [(0, .val (i64 a0)), (1, .val (dI a1)), (2, .val (dI a2)), (3, .val (i64 a3))] rfl ?_ ?_
  · simp <;> simp [ieq, ilt, ile]
  -- region 1
  refine VW.ws tau_ok Sound.none [some 12, some 9] [(0, .val (i64 a0)), (1, .val (dI a1)), (2, .val (dI a2)), (3, .val (i64 a3)), (9, .ref 9 [] true (dI []))] rfl ?_ ?_
  · simp <;> simp [ieq, ilt, ile]
  refine VW.sqc fun K1 hK1 hCK1 => ?_
  -- region 2
  refine VW.ws tau_ok Sound.none [some 13, some 14, some 15] [(0, .val (i64 a0)), (2, .val (dI a2)), (3, .val (i64 a3)), (9, .ref 9 [] true (dI [])), (13, .val (dI a1)), (14, .val (i64 (a1.length : Int))), (15, .val (i64 0))] rfl ?_ ?_
  · simp <;> simp [ieq, ilt, ile]
  obtain ⟨x2, hx2, h⟩ := bind_some h
  refine VW.tlE [(9, .ref 9 [] true (dI x2))] (hCK1) ?_ ?_
  · clear hx2
    refine hK1 _ ?_
    -- region 7
    refine VW.ws tau_ok Sound.none [some 34, some 8] [(8, .ref 8 [] true (dI x2))] rfl ?_ ?_
    · simp <;> simp [ieq, ilt, ile]
    cases h
    refine VW.ret ?_
    simp [Post, PostM, PostC, PostC2, Nx, Bk]
  refine VW.block ?_
  refine VW.loopF (i_field_plus_L0 a0 a1 a2 a3) (fun s2 => [(0, .val (i64 a0)), (2, .val (dI a2)), (3, .val (i64 a3)), (9, .ref 9 [] true (dI s2.1)), (13, .val (dI a1)), (14, .val (i64 (a1.length : Int))), (15, .val (i64 s2.2))]) hx2 (Fits.of rfl) ?_
  clear hx2
  intro s2 ox2 hx2o hx2b
  unfold i_field_plus_L0 at hx2o
  -- region 3
  refine VW.ws tau_ok Sound.none [some 16] [(0, .val (i64 a0)), (2, .val (dI a2)), (3, .val (i64 a3)), (9, .ref 9 [] true (dI s2.1)), (13, .val (dI a1)), (14, .val (i64 (a1.length : Int))), (15, .val (i64 s2.2)), (16, .val (.bool (ilt s2.2 (a1.length : Int))))] rfl ?_ ?_
  · simp <;> simp [ieq, ilt, ile]
  refine VW.sqc fun K4 hK4 hCK4 => ?_
  refine VW.cond rfl (fun hb5 => ?_) (fun hb5 => ?_)
  rotate_left
  ·
    replace hb5 : ¬ (s2.2 < (a1.length : Int)) := by simpa [ieq, ilt, ile] using hb5
    rw [if_neg hb5] at hx2o
    refine VW.exit ?_
    cases hx2o
    have hq := hx2b _ rfl
    subst hq
    exact Fits.of rfl
  replace hb5 : s2.2 < (a1.length : Int) := by simpa [ieq, ilt, ile] using hb5
  rw [if_pos hb5] at hx2o
  refine VW.skip ?_
  refine hK4 _ ?_
  refine VW.sqc fun K6 hK6 hCK6 => ?_
  refine VW.block ?_
  -- region 4
  obtain ⟨v7, hv7, hx2o⟩ := bind_some hx2o
  obtain ⟨hv7a, hv7b, hv7c, hv7d⟩ := idx_some hv7
  refine VW.ws tau_ok Sound.none [some 17, some 18, some 19, some 10, some 11] [(0, .val (i64 a0)), (2, .val (dI a2)), (3, .val (i64 a3)), (9, .ref 9 [] true (dI s2.1)), (10, .val (i64 s2.2)), (11, .val (i64 v7)), (13, .val (dI a1)), (14, .val (i64 (a1.length : Int))), (15, .val (i64 s2.2))] rfl ?_ ?_
  · simp [hv7a, hv7b, hv7c, hv7d] <;> simp [ieq, ilt, ile]
  -- region 5
  obtain ⟨v8, hv8, hx2o⟩ := bind_some hx2o
  obtain ⟨hv8a, hv8b, hv8c, hv8d⟩ := idx_some hv8
  obtain ⟨v9, hv9, hx2o⟩ := bind_some hx2o
  obtain ⟨hc10, hx2o⟩ := chk_some hx2o
  have hc10s := hc10
  try simp at hc10s
  refine VW.wr tau_ok (Sound.none.add 30 (i_field_num_ok hv9) rfl) [some 20, some 21, some 22, some 23, some 24, some 25, some 26, some 27, some 28, some 29, some 30, some 31, some 32, some 9] [(0, .val (i64 a0)), (2, .val (dI a2)), (3, .val (i64 a3)), (9, .ref 9 [] true (dI (s2.1 ++ [v9]))), (13, .val (dI a1)), (14, .val (i64 (a1.length : Int))), (15, .val (i64 s2.2))] rfl ?_ ?_
  · simp [hv8a, hv8b, hv8c, hv8d, hc10, hc10s] <;> simp [ieq, ilt, ile]
  refine hK6 _ ?_
  -- region 6
  refine VW.wr tau_ok Sound.none [some 33, some 15] [(0, .val (i64 a0)), (2, .val (dI a2)), (3, .val (i64 a3)), (9, .ref 9 [] true (dI (s2.1 ++ [v9]))), (13, .val (dI a1)), (14, .val (i64 (a1.length : Int))), (15, .val (i64 (w64 (s2.2 + 1))))] rfl ?_ ?_
  · simp <;> simp [ieq, ilt, ile]
  cases hx2o
  exact ⟨_, rfl, Fits.of rfl⟩

theorem i_field_doubled_b_ok {self : Int → (List Int) → (List Int) → (List Int) → Option (List Int)} (hself : ∀ {a0 a1 a2 a3} {r : List Int}, self a0 a1 a2 a3 = some r → VCall Try.prog 195 [i64 a0, dI a1, dI a2, dI a3] [.own true (dI r)]) {a0 : Int} {a1 : List Int} {a2 : List Int} {a3 : List Int} {r : List Int} (h : i_field_doubled_b self a0 a1 a2 a3 = some r) :
    VCall Try.prog 195 [i64 a0, dI a1, dI a2, dI a3] [.own true (dI r)] := by
  unfold i_field_doubled_b at h
  refine VCall.enter Try.call195 Try.func195 rfl 87 Try.ntmps195 (by simp) [.tmp 8] rfl ?_
  show VW _ _ _ (mk [(0, .val (i64 a0)), (1, .val (dI a1)), (2, .val (dI a2)), (3, .val (dI a3))]) _
  -- region 0
  refine VW.ws tau_ok Sound.none [some 8] [(0, .val (i64 a0)), (1, .val (dI a1)), (2, .val (dI a2)), (3, .val (dI a3))] rfl ?_ ?_
  · simp <;> simp [ieq, ilt, ile]
  refine VW.sqc fun K1 hK1 hCK1 => ?_
  -- region 1
  refine VW.ws tau_ok Sound.none [some 18, some 19, some 20] [(0, .val (i64 a0)), (1, .val (dI a1)), (2, .val (dI a2)), (3, .val (dI a3)), (20, .val (.bool (ieq (a1.length : Int) 0)))] rfl ?_ ?_
  · simp <;> simp [ieq, ilt, ile]
  refine VW.cond rfl (fun hb2 => ?_) (fun hb2 => ?_)
  ·
    replace hb2 : (a1.length : Int) = 0 := by simpa [ieq, ilt, ile] using hb2
    rw [if_pos hb2] at h
    -- region 2
    obtain ⟨v3, hv3, h⟩ := bind_some h
    obtain ⟨hv3a, hv3b, hv3c, hv3d⟩ := idx_some hv3
    replace hv3b : 0 < a2.length := hv3b
    replace hv3c : a2[0]? = some v3 := hv3c
    replace hv3d : ∀ h, a2[0]'h = v3 := hv3d
    obtain ⟨v4, hv4, h⟩ := bind_some h
    obtain ⟨hv4a, hv4b, hv4c, hv4d⟩ := idx_some hv4
    replace hv4b : 0 < a3.length := hv4b
    replace hv4c : a3[0]? = some v4 := hv4c
    replace hv4d : ∀ h, a3[0]'h = v4 := hv4d
    obtain ⟨v5, hv5, h⟩ := bind_some h
    refine VW.wds tau_ok (Sound.none.add 29 (i_field_num_ok hv5) rfl) try_mixed [some 21, some 22, some 23, some 24, some 25, some 26, some 27, some 28, some 29, some 30, some 8] [(8, .ref 8 [] true (dI [v5]))] 10 rfl (by kernel_rfl) (by rfl) ?_ ?_
    · simp [hv3a, hv3b, hv3c, hv3d, hv4a, hv4b, hv4c, hv4d] <;> simp [ieq, ilt, ile]
    cases h
    refine VW.ret ?_
    simp [Post, PostM, PostC, PostC2, Nx, Bk]
  replace hb2 : ¬ ((a1.length : Int) = 0) := by simpa [ieq, ilt, ile] using hb2
  rw [if_neg hb2] at h
  refine VW.skip ?_
  refine hK1 _ ?_
  -- region 3
  refine VW.ws tau_ok Sound.none [some 31, some 32, some 33, some 34, some 35, some 36, some 9, some 10] [(0, .val (i64 a0)), (1, .val (dI a1)), (2, .val (dI a2)), (3, .val (dI a3)), (9, .val (i64 (w64 ((a1.length : Int) - 1)))), (10, .val (i64 (w64 ((a2.length : Int).tdiv 2))))] rfl ?_ ?_
  · simp <;> simp [ieq, ilt, ile]
  -- region 4
  obtain ⟨hc6, h⟩ := chk_some h
  have hc6s := hc6
  try simp at hc6s
  obtain ⟨hc7, h⟩ := chk_some h
  have hc7s := hc7
  try simp at hc7s
  obtain ⟨hc8, h⟩ := chk_some h
  have hc8s := hc8
  try simp at hc8s
  obtain ⟨hc9, h⟩ := chk_some h
  have hc9s := hc9
  try simp at hc9s
  refine VW.wds tau_ok Sound.none try_mixed [some 37, some 38, some 39, some 40, some 41, some 42, some 43, some 44, some 45, some 46, some 47, some 48, some 11, some 12, some 13, some 14] [(0, .val (i64 a0)), (1, .val (dI a1)), (9, .val (i64 (w64 ((a1.length : Int) - 1)))), (11, .val (dI (a2.take (w64 ((a2.length : Int).tdiv 2)).toNat))), (12, .val (dI (a2.drop (w64 ((a2.length : Int).tdiv 2)).toNat))), (13, .val (dI (a3.take (w64 ((a2.length : Int).tdiv 2)).toNat))), (14, .val (dI (a3.drop (w64 ((a2.length : Int).tdiv 2)).toNat)))] 16 rfl (by kernel_rfl) (by rfl) ?_ ?_
  · simp [hc6, hc6s, hc7, hc7s, hc8, hc8s, hc9, hc9s] <;> simp [ieq, ilt, ile]
  -- region 5
  obtain ⟨hc10, h⟩ := chk_some h
  have hc10s := hc10
  try simp at hc10s
  refine VW.ws tau_ok Sound.none [some 49, some 50, some 51, some 15] [(0, .val (i64 a0)), (1, .val (dI a1)), (9, .val (i64 (w64 ((a1.length : Int) - 1)))), (11, .val (dI (a2.take (w64 ((a2.length : Int).tdiv 2)).toNat))), (12, .val (dI (a2.drop (w64 ((a2.length : Int).tdiv 2)).toNat))), (13, .val (dI (a3.take (w64 ((a2.length : Int).tdiv 2)).toNat))), (14, .val (dI (a3.drop (w64 ((a2.length : Int).tdiv 2)).toNat))), (15, .val (dI (a1.take (w64 ((a1.length : Int) - 1)).toNat)))] rfl ?_ ?_
  · simp [hc10, hc10s] <;> simp [ieq, ilt, ile]
  -- region 6
  obtain ⟨v11, hv11, h⟩ := bind_some h
  obtain ⟨v12, hv12, h⟩ := bind_some h
  obtain ⟨v13, hv13, h⟩ := bind_some h
  obtain ⟨v14, hv14, h⟩ := bind_some h
  obtain ⟨hv14a, hv14b, hv14c, hv14d⟩ := idx_some hv14
  obtain ⟨v15, hv15, h⟩ := bind_some h
  refine VW.wds tau_ok ((((Sound.none.add 57 (hself hv11) rfl).add 62 (i_field_conjugate_ok hv12) rfl).add 64 (hself hv13) rfl).add 69 (i_field_plus_ok hv15) rfl) try_mixed [some 52, some 53, some 54, some 55, some 56, some 57, some 58, some 59, some 60, some 61, some 62, some 63, some 64, some 65, some 66, some 67, some 68, some 69, some 16] [(0, .val (i64 a0)), (11, .val (dI (a2.take (w64 ((a2.length : Int).tdiv 2)).toNat))), (12, .val (dI (a2.drop (w64 ((a2.length : Int).tdiv 2)).toNat))), (13, .val (dI (a3.take (w64 ((a2.length : Int).tdiv 2)).toNat))), (14, .val (dI (a3.drop (w64 ((a2.length : Int).tdiv 2)).toNat))), (15, .val (dI (a1.take (w64 ((a1.length : Int) - 1)).toNat))), (16, .ref 16 [] true (dI v15))] 18 rfl (by kernel_rfl) (by rfl) ?_ ?_
  · simp [hv14a, hv14b, hv14c, hv14d] <;> simp [ieq, ilt, ile]
  -- region 7
  obtain ⟨v16, hv16, h⟩ := bind_some h
  obtain ⟨v17, hv17, h⟩ := bind_some h
  obtain ⟨v18, hv18, h⟩ := bind_some h
  obtain ⟨v19, hv19, h⟩ := bind_some h
  refine VW.ws tau_ok ((((Sound.none.add 75 (hself hv16) rfl).add 81 (i_field_conjugate_ok hv17) rfl).add 82 (hself hv18) rfl).add 83 (i_field_plus_ok hv19) rfl) [some 70, some 71, some 72, some 73, some 74, some 75, some 76, some 77, some 78, some 79, some 80, some 81, some 82, some 83, some 17] [(16, .ref 16 [] true (dI v15)), (17, .ref 17 [] true (dI v19))] rfl ?_ ?_
  · simp <;> simp [ieq, ilt, ile]
  -- region 8
  obtain ⟨hc20, h⟩ := chk_some h
  have hc20s := hc20
  try simp at hc20s
  refine VW.ws tau_ok Sound.none [some 84, some 85, some 86, some 8] [(8, .ref 8 [] true (dI (v15 ++ v19)))] rfl ?_ ?_
  · simp [hc20, hc20s] <;> simp [ieq, ilt, ile]
  cases h
  refine VW.ret ?_
  simp [Post, PostM, PostC, PostC2, Nx, Bk]
theorem i_field_doubled_ok : ∀ {n : Nat} {a0 : Int} {a1 : List Int} {a2 : List Int} {a3 : List Int} {r : List Int} (_ : i_field_doubled n a0 a1 a2 a3 = some r),
    VCall Try.prog 195 [i64 a0, dI a1, dI a2, dI a3] [.own true (dI r)]
  | 0, _, _, _, _, _, h => by cases h
  | n + 1, _, _, _, _, _, h => i_field_doubled_b_ok (fun h => i_field_doubled_ok (n := n) h) h

theorem i_Doubling_times_ok {a0_0 : Int} {a0_1 : List Int} {a1 : List Int} {a2 : List Int} {r : List Int} (h : i_Doubling_times a0_0 a0_1 a1 a2 = some r) :
    VCall Try.prog 109 [.agg [i64 a0_0, dI a0_1], dI a1, dI a2] [.own true (dI r)] := by
  unfold i_Doubling_times at h
  refine VCall.enter Try.call109 Try.func109 rfl 14 Try.ntmps109 (by simp) [.tmp 6] rfl ?_
  show VW _ _ _ (mk [(0, .val (.agg [i64 a0_0, dI a0_1])), (1, .val (dI a1)), (2, .val (dI a2))]) _
  -- region 0
  refine VW.ws tau_ok Sound.none [some 3, some 6] [(1, .val (dI a1)), (2, .val (dI a2)), (3, .val (.ptr [i64 a0_0, dI a0_1]))] rfl ?_ ?_
  · simp <;> simp [ieq, ilt, ile]
  -- region 1
  obtain ⟨v1, hv1, h⟩ := bind_some h
  obtain ⟨v2, hv2, h⟩ := bind_some h
  refine VW.wds tau_ok ((Sound.none.add 8 (i_Doubling_field_ok hv1) rfl).add 13 (i_field_doubled_ok (n := BIG) hv2) rfl) try_mixed [some 7, some 8, some 9, some 10, some 11, some 12, some 13, some 6] [(6, .ref 6 [] true (dI v2))] 7 rfl (by kernel_rfl) (by rfl) ?_ ?_
  · simp <;> simp [ieq, ilt, ile]
  cases h
  refine VW.ret ?_
  simp [Post, PostM, PostC, PostC2, Nx, Bk]

theorem i_field_dot_ok {a0 : Int} {a1 : List Int} {a2 : List Int} {r : Int} (h : i_field_dot a0 a1 a2 = some r) :
    VCall Try.prog 215 [i64 a0, dI a1, dI a2] [.sc (i64 r)] := by
  unfold i_field_dot at h
  refine VCall.enter Try.call215 Try.func215 rfl 29 Try.ntmps215 (by simp) [.tmp 6] rfl ?_
  show VW _ _ _ (mk [(0, .val (i64 a0)), (1, .val (dI a1)), (2, .val (dI a2))]) _
  -- region 0
  refine VW.ws tau_ok Sound.none [some 6] [(0, .val (i64 a0)), (1, .val (dI a1)), (2, .val (dI a2))] rfl ?_ ?_
  · simp <;> simp [ieq, ilt, ile]
  -- region 1
  refine VW.ws tau_ok Sound.none [some 7] [(0, .val (i64 a0)), (1, .val (dI a1)), (2, .val (dI a2)), (7, .val (i64 0))] rfl ?_ ?_
  · simp <;> simp [ieq, ilt, ile]
  refine VW.sqc fun K1 hK1 hCK1 => ?_
  -- region 2
  refine VW.ws tau_ok Sound.none [some 10, some 11, some 12] [(0, .val (i64 a0)), (2, .val (dI a2)), (7, .val (i64 0)), (10, .val (dI a1)), (11, .val (i64 (a1.length : Int))), (12, .val (i64 0))] rfl ?_ ?_
  · simp <;> simp [ieq, ilt, ile]
  obtain ⟨x2, hx2, h⟩ := bind_some h
  refine VW.tlE [(0, .val (i64 a0)), (7, .val (i64 x2))] (hCK1) ?_ ?_
  · clear hx2
    refine hK1 _ ?_
    -- region 7
    obtain ⟨v9, hv9, h⟩ := bind_some h
    refine VW.ws tau_ok (Sound.none.add 28 (i_field_num_ok hv9) rfl) [some 26, some 27, some 28, some 6] [(6, .val (i64 v9))] rfl ?_ ?_
    · simp <;> simp [ieq, ilt, ile]
    cases h
    refine VW.ret ?_
    simp [Post, PostM, PostC, PostC2, Nx, Bk]
  refine VW.block ?_
  refine VW.loopF (i_field_dot_L0 a1 a2) (fun s2 => [(0, .val (i64 a0)), (2, .val (dI a2)), (7, .val (i64 s2.1)), (10, .val (dI a1)), (11, .val (i64 (a1.length : Int))), (12, .val (i64 s2.2))]) hx2 (Fits.of rfl) ?_
  clear hx2
  intro s2 ox2 hx2o hx2b
  unfold i_field_dot_L0 at hx2o
  -- region 3
  refine VW.ws tau_ok Sound.none [some 13] [(0, .val (i64 a0)), (2, .val (dI a2)), (7, .val (i64 s2.1)), (10, .val (dI a1)), (11, .val (i64 (a1.length : Int))), (12, .val (i64 s2.2)), (13, .val (.bool (ilt s2.2 (a1.length : Int))))] rfl ?_ ?_
  · simp <;> simp [ieq, ilt, ile]
  refine VW.sqc fun K4 hK4 hCK4 => ?_
  refine VW.cond rfl (fun hb5 => ?_) (fun hb5 => ?_)
  rotate_left
  ·
    replace hb5 : ¬ (s2.2 < (a1.length : Int)) := by simpa [ieq, ilt, ile] using hb5
    rw [if_neg hb5] at hx2o
    refine VW.exit ?_
    cases hx2o
    have hq := hx2b _ rfl
    subst hq
    exact Fits.of rfl
  replace hb5 : s2.2 < (a1.length : Int) := by simpa [ieq, ilt, ile] using hb5
  rw [if_pos hb5] at hx2o
  refine VW.skip ?_
  refine hK4 _ ?_
  refine VW.sqc fun K6 hK6 hCK6 => ?_
  refine VW.block ?_
  -- region 4
  obtain ⟨v7, hv7, hx2o⟩ := bind_some hx2o
  obtain ⟨hv7a, hv7b, hv7c, hv7d⟩ := idx_some hv7
  refine VW.ws tau_ok Sound.none [some 14, some 15, some 16, some 8, some 9] [(0, .val (i64 a0)), (2, .val (dI a2)), (7, .val (i64 s2.1)), (8, .val (i64 s2.2)), (9, .val (i64 v7)), (10, .val (dI a1)), (11, .val (i64 (a1.length : Int))), (12, .val (i64 s2.2))] rfl ?_ ?_
  · simp [hv7a, hv7b, hv7c, hv7d] <;> simp [ieq, ilt, ile]
  -- region 5
  obtain ⟨v8, hv8, hx2o⟩ := bind_some hx2o
  obtain ⟨hv8a, hv8b, hv8c, hv8d⟩ := idx_some hv8
  refine VW.wr tau_ok Sound.none [some 17, some 18, some 19, some 20, some 21, some 22, some 23, some 24, some 7] [(0, .val (i64 a0)), (2, .val (dI a2)), (7, .val (i64 (w64 (s2.1 + (w64 (v7 * v8)))))), (10, .val (dI a1)), (11, .val (i64 (a1.length : Int))), (12, .val (i64 s2.2))] rfl ?_ ?_
  · simp [hv8a, hv8b, hv8c, hv8d] <;> simp [ieq, ilt, ile]
  refine hK6 _ ?_
  -- region 6
  refine VW.wr tau_ok Sound.none [some 25, some 12] [(0, .val (i64 a0)), (2, .val (dI a2)), (7, .val (i64 (w64 (s2.1 + (w64 (v7 * v8)))))), (10, .val (dI a1)), (11, .val (i64 (a1.length : Int))), (12, .val (i64 (w64 (s2.2 + 1))))] rfl ?_ ?_
  · simp <;> simp [ieq, ilt, ile]
  cases hx2o
  exact ⟨_, rfl, Fits.of rfl⟩

theorem i_field_apply_ok {a0 : Int} {a1 : List (List Int)} {a2 : List Int} {r : List Int} (h : i_field_apply a0 a1 a2 = some r) :
    VCall Try.prog 146 [i64 a0, dM a1, dI a2] [.own true (dI r)] := by
  unfold i_field_apply at h
  refine VCall.enter Try.call146 Try.func146 rfl 26 Try.ntmps146 (by simp) [.tmp 6] rfl ?_
  show VW _ _ _ (mk [(0, .val (i64 a0)), (1, .val (dM a1)), (2, .val (dI a2))]) _
  -- region 0
  refine VW.ws tau_ok Sound.none [some 6] [(0, .val (i64 a0)), (1, .val (dM a1)), (2, .val (dI a2))] rfl ?_ ?_
  · simp <;> simp [ieq, ilt, ile]
  -- region 1
  refine VW.ws tau_ok Sound.none [some 10, some 7] [(0, .val (i64 a0)), (1, .val (dM a1)), (2, .val (dI a2)), (7, .ref 7 [] true (dI []))] rfl ?_ ?_
  · simp <;> simp [ieq, ilt, ile]
  refine VW.sqc fun K1 hK1 hCK1 => ?_
  -- region 2
  refine VW.ws tau_ok Sound.none [some 11, some 12, some 13] [(0, .val (i64 a0)), (2, .val (dI a2)), (7, .ref 7 [] true (dI [])), (11, .val (dM a1)), (12, .val (i64 (a1.length : Int))), (13, .val (i64 0))] rfl ?_ ?_
  · simp <;> simp [ieq, ilt, ile]
  obtain ⟨x2, hx2, h⟩ := bind_some h
  refine VW.tlE [(7, .ref 7 [] true (dI x2))] (hCK1) ?_ ?_
  · clear hx2
    refine hK1 _ ?_
    -- region 7
    refine VW.ws tau_ok Sound.none [some 25, some 6] [(6, .ref 6 [] true (dI x2))] rfl ?_ ?_
    · simp <;> simp [ieq, ilt, ile]
    cases h
    refine VW.ret ?_
    simp [Post, PostM, PostC, PostC2, Nx, Bk]
  refine VW.block ?_
  refine VW.loopF (i_field_apply_L0 a0 a1 a2) (fun s2 => [(0, .val (i64 a0)), (2, .val (dI a2)), (7, .ref 7 [] true (dI s2.1)), (11, .val (dM a1)), (12, .val (i64 (a1.length : Int))), (13, .val (i64 s2.2))]) hx2 (Fits.of rfl) ?_
  clear hx2
  intro s2 ox2 hx2o hx2b
  unfold i_field_apply_L0 at hx2o
  -- region 3
  refine VW.ws tau_ok Sound.none [some 14] [(0, .val (i64 a0)), (2, .val (dI a2)), (7, .ref 7 [] true (dI s2.1)), (11, .val (dM a1)), (12, .val (i64 (a1.length : Int))), (13, .val (i64 s2.2)), (14, .val (.bool (ilt s2.2 (a1.length : Int))))] rfl ?_ ?_
  · simp <;> simp [ieq, ilt, ile]
  refine VW.sqc fun K4 hK4 hCK4 => ?_
  refine VW.cond rfl (fun hb5 => ?_) (fun hb5 => ?_)
  rotate_left
  ·
    replace hb5 : ¬ (s2.2 < (a1.length : Int)) := by simpa [ieq, ilt, ile] using hb5
    rw [if_neg hb5] at hx2o
    refine VW.exit ?_
    cases hx2o
    have hq := hx2b _ rfl
    subst hq
    exact Fits.of rfl
  replace hb5 : s2.2 < (a1.length : Int) := by simpa [ieq, ilt, ile] using hb5
  rw [if_pos hb5] at hx2o
  refine VW.skip ?_
  refine hK4 _ ?_
  refine VW.sqc fun K6 hK6 hCK6 => ?_
  refine VW.block ?_
  -- region 4
  obtain ⟨v7, hv7, hx2o⟩ := bind_some hx2o
  obtain ⟨hv7a, hv7b, hv7c, hv7d⟩ := idx_some hv7
  refine VW.ws tau_ok Sound.none [some 15, some 16, some 9] [(0, .val (i64 a0)), (2, .val (dI a2)), (7, .ref 7 [] true (dI s2.1)), (9, .val (dI v7)), (11, .val (dM a1)), (12, .val (i64 (a1.length : Int))), (13, .val (i64 s2.2))] rfl ?_ ?_
  · simp [hv7a, hv7b, hv7c, hv7d] <;> simp [ieq, ilt, ile]
  -- region 5
  obtain ⟨v8, hv8, hx2o⟩ := bind_some hx2o
  obtain ⟨hc9, hx2o⟩ := chk_some hx2o
  have hc9s := hc9
  try simp at hc9s
  refine VW.wr tau_ok (Sound.none.add 21 (i_field_dot_ok hv8) rfl) [some 17, some 18, some 19, some 20, some 21, some 22, some 23, some 7] [(0, .val (i64 a0)), (2, .val (dI a2)), (7, .ref 7 [] true (dI (s2.1 ++ [v8]))), (11, .val (dM a1)), (12, .val (i64 (a1.length : Int))), (13, .val (i64 s2.2))] rfl ?_ ?_
  · simp [hc9, hc9s] <;> simp [ieq, ilt, ile]
  refine hK6 _ ?_
  -- region 6
  refine VW.wr tau_ok Sound.none [some 24, some 13] [(0, .val (i64 a0)), (2, .val (dI a2)), (7, .ref 7 [] true (dI (s2.1 ++ [v8]))), (11, .val (dM a1)), (12, .val (i64 (a1.length : Int))), (13, .val (i64 (w64 (s2.2 + 1))))] rfl ?_ ?_
  · simp <;> simp [ieq, ilt, ile]
  cases hx2o
  exact ⟨_, rfl, Fits.of rfl⟩

theorem i_lead_ok {a0 : List Int} {r : Int} (h : i_lead a0 = some r) :
    VCall Try.prog 205 [dI a0] [.sc (i64 r)] := by
  unfold i_lead at h
  refine VCall.enter Try.call205 Try.func205 rfl 18 Try.ntmps205 (by simp) [.tmp 2] rfl ?_
  show VW _ _ _ (mk [(0, .val (dI a0))]) _
  -- region 0
  refine VW.ws tau_ok Sound.none [some 2] [(0, .val (dI a0))] rfl ?_ ?_
  · simp <;> simp [ieq, ilt, ile]
  -- region 1
  refine VW.ws tau_ok Sound.none [some 3] [(0, .val (dI a0)), (3, .val (i64 0))] rfl ?_ ?_
  · simp <;> simp [ieq, ilt, ile]
  refine VW.sqc fun K1 hK1 hCK1 => ?_
  obtain ⟨x2, hx2, h⟩ := bind_some h
  refine VW.tlE [(3, .val (i64 x2))] (hCK1) ?_ ?_
  · clear hx2
    refine hK1 _ ?_
    -- region 4
    refine VW.ws tau_ok Sound.none [some 17, some 2] [(2, .val (i64 x2))] rfl ?_ ?_
    · simp <;> simp [ieq, ilt, ile]
    cases h
    refine VW.ret ?_
    simp [Post, PostM, PostC, PostC2, Nx, Bk]
  refine VW.block ?_
  refine VW.loopF (i_lead_L0 a0) (fun s2 => [(0, .val (dI a0)), (3, .val (i64 s2))]) hx2 (Fits.of rfl) ?_
  clear hx2
  intro s2 ox2 hx2o hx2b
  unfold i_lead_L0 at hx2o
  refine VW.sqc fun K4 hK4 hCK4 => ?_
  -- region 2
  obtain ⟨x7, hx7, hx2o⟩ := bind_some hx2o
  refine VW.cut [(0, .val (dI a0)), (3, .val (i64 s2)), (14, .val (.bool x7))] ?_ fun hy => ?_
  rotate_left
  · clear hx2o
    by_cases hp5 : s2 < (a0.length : Int)
    · rw [if_pos hp5] at hx7
      have hp5b : ilt s2 (a0.length : Int) = true := by simpa [ieq, ilt, ile] using hp5
      have hp5s := hp5b
      try simp at hp5s
      obtain ⟨v6, hv6, hx7⟩ := bind_some hx7
      obtain ⟨hv6a, hv6b, hv6c, hv6d⟩ := idx_some hv6
      cases hx7
      refine VW.ws tau_ok Sound.none [some 4, some 5, some 6, some 7, some 8, some 9, some 10, some 11, some 12, some 13, some 14] _ rfl ?_ hy
      simp [hp5b, hp5s, hv6a, hv6b, hv6c, hv6d] <;> simp [ieq, ilt, ile]
    · rw [if_neg hp5] at hx7
      have hp5b : ilt s2 (a0.length : Int) = false := by simpa [ieq, ilt, ile] using hp5
      have hp5s := hp5b
      try simp at hp5s
      cases hx7
      refine VW.ws tau_ok Sound.none [some 4, some 5, some 6, some 7, some 8, some 9, some 10, some 11, some 12, some 13, some 14] _ rfl ?_ hy
      simp [hp5b, hp5s] <;> simp [ieq, ilt, ile]
  refine VW.cond rfl (fun hb8 => ?_) (fun hb8 => ?_)
  rotate_left
  ·
    replace hb8 : ¬ (x7 = true) := by simpa [ieq, ilt, ile] using hb8
    rw [if_neg hb8] at hx2o
    refine VW.exit ?_
    cases hx2o
    have hq := hx2b _ rfl
    subst hq
    exact Fits.of rfl
  replace hb8 : x7 = true := by simpa [ieq, ilt, ile] using hb8
  rw [if_pos hb8] at hx2o
  refine VW.skip ?_
  refine hK4 _ ?_
  refine VW.block ?_
  -- region 3
  refine VW.wr tau_ok Sound.none [some 15, some 16, some 3] [(0, .val (dI a0)), (3, .val (i64 (w64 (s2 + 1))))] rfl ?_ ?_
  · simp <;> simp [ieq, ilt, ile]
  cases hx2o
  exact ⟨_, rfl, Fits.of rfl⟩

theorem i_isZero_ok {a0 : List Int} {r : Bool} (h : i_isZero a0 = some r) :
    VCall Try.prog 188 [dI a0] [.sc (.bool r)] := by
  unfold i_isZero at h
  refine VCall.enter Try.call188 Try.func188 rfl 8 Try.ntmps188 (by simp) [.tmp 2] rfl ?_
  show VW _ _ _ (mk [(0, .val (dI a0))]) _
  -- region 0
  refine VW.ws tau_ok Sound.none [some 2] [(0, .val (dI a0))] rfl ?_ ?_
  · simp <;> simp [ieq, ilt, ile]
  -- region 1
  obtain ⟨v1, hv1, h⟩ := bind_some h
  refine VW.ws tau_ok (Sound.none.add 4 (i_lead_ok hv1) rfl) [some 3, some 4, some 5, some 6, some 7, some 2] [(2, .val (.bool (ieq v1 (a0.length : Int))))] rfl ?_ ?_
  · simp <;> simp [ieq, ilt, ile]
  cases h
  refine VW.ret ?_
  simp [Post, PostM, PostC, PostC2, Nx, Bk]

theorem i_Doubling_isDerivation_ok {a0_0 : Int} {a0_1 : List Int} {a1 : List (List Int)} {r : Bool} (h : i_Doubling_isDerivation a0_0 a0_1 a1 = some r) :
    VCall Try.prog 91 [.agg [i64 a0_0, dI a0_1], dM a1] [.sc (.bool r)] := by
  unfold i_Doubling_isDerivation at h
  refine VCall.enter Try.call91 Try.func91 rfl 59 Try.ntmps91 (by simp) [.tmp 4] rfl ?_
  show VW _ _ _ (mk [(0, .val (.agg [i64 a0_0, dI a0_1])), (1, .val (dM a1))]) _
  -- region 0
  refine VW.ws tau_ok Sound.none [some 2, some 4] [(1, .val (dM a1)), (2, .val (.ptr [i64 a0_0, dI a0_1]))] rfl ?_ ?_
  · simp <;> simp [ieq, ilt, ile]
  -- region 1
  obtain ⟨v1, hv1, h⟩ := bind_some h
  refine VW.ws tau_ok (Sound.none.add 12 (i_Doubling_field_ok hv1) rfl) [some 11, some 12, some 5] [(1, .val (dM a1)), (2, .val (.ptr [i64 a0_0, dI a0_1])), (5, .val (i64 v1))] rfl ?_ ?_
  · simp <;> simp [ieq, ilt, ile]
  refine VW.sqc fun K2 hK2 hCK2 => ?_
  -- region 2
  obtain ⟨v3, hv3, h⟩ := bind_some h
  obtain ⟨v4, hv4, h⟩ := bind_some h
  refine VW.ws tau_ok ((Sound.none.add 14 (i_Doubling_size_ok hv3) rfl).add 15 (i_unit_ok hv4) rfl) [some 13, some 14, some 15, some 16, some 17] [(1, .val (dM a1)), (2, .val (.ptr [i64 a0_0, dI a0_1])), (5, .val (i64 v1)), (15, .ref 15 [] true (dM v4)), (16, .val (i64 (v4.length : Int))), (17, .val (i64 0))] rfl ?_ ?_
  · simp <;> simp [ieq, ilt, ile]
  obtain ⟨x5, hx5, h⟩ := bind_some h
  refine VW.tlO (fun y7 => []) x5 (hCK2) ?_ ?_
  · clear hx5
    rintro y7 rfl
    dsimp only at h
    refine hK2 _ ?_
    -- region 13
    refine VW.ws tau_ok Sound.none [some 4] [(4, .val (.bool true))] rfl ?_ ?_
    · simp <;> simp [ieq, ilt, ile]
    cases h
    refine VW.ret ?_
    simp [Post, PostM, PostC, PostC2, Nx, Bk]
  refine VW.block ?_
  refine VW.loopF (i_Doubling_isDerivation_L0 a0_0 a0_1 a1 v1 v4) (fun s5 => [(1, .val (dM a1)), (2, .val (.ptr [i64 a0_0, dI a0_1])), (5, .val (i64 v1)), (15, .ref 15 [] true (dM v4)), (16, .val (i64 (v4.length : Int))), (17, .val (i64 s5))]) hx5 (Fits.of rfl) ?_
  clear hx5
  intro s5 ox5 hx5o hx5b
  unfold i_Doubling_isDerivation_L0 at hx5o
  -- region 3
  refine VW.ws tau_ok Sound.none [some 18] [(1, .val (dM a1)), (2, .val (.ptr [i64 a0_0, dI a0_1])), (5, .val (i64 v1)), (15, .ref 15 [] true (dM v4)), (16, .val (i64 (v4.length : Int))), (17, .val (i64 s5)), (18, .val (.bool (ilt s5 (v4.length : Int))))] rfl ?_ ?_
  · simp <;> simp [ieq, ilt, ile]
  refine VW.sqc fun K8 hK8 hCK8 => ?_
  refine VW.cond rfl (fun hb9 => ?_) (fun hb9 => ?_)
  rotate_left
  ·
    replace hb9 : ¬ (s5 < (v4.length : Int)) := by simpa [ieq, ilt, ile] using hb9
    rw [if_neg hb9] at hx5o
    refine VW.exit ?_
    cases hx5o
    have hq := hx5b _ rfl
    subst hq
    exact ⟨_, rfl, Fits.of rfl⟩
  replace hb9 : s5 < (v4.length : Int) := by simpa [ieq, ilt, ile] using hb9
  rw [if_pos hb9] at hx5o
  refine VW.skip ?_
  refine hK8 _ ?_
  refine VW.sqc fun K10 hK10 hCK10 => ?_
  refine VW.block ?_
  -- region 4
  obtain ⟨v11, hv11, hx5o⟩ := bind_some hx5o
  obtain ⟨hv11a, hv11b, hv11c, hv11d⟩ := idx_some hv11
  refine VW.ws tau_ok Sound.none [some 19, some 20, some 21, some 6, some 7] [(1, .val (dM a1)), (2, .val (.ptr [i64 a0_0, dI a0_1])), (5, .val (i64 v1)), (6, .val (i64 s5)), (7, .ref 15 [s5.toNat] true (dI v11)), (15, .ref 15 [] true (dM v4)), (16, .val (i64 (v4.length : Int))), (17, .val (i64 s5))] rfl ?_ ?_
  · simp [hv11a, hv11b, hv11c, hv11d] <;> simp [ieq, ilt, ile]
  -- region 5
  obtain ⟨v12, hv12, hx5o⟩ := bind_some hx5o
  obtain ⟨v13, hv13, hx5o⟩ := bind_some hx5o
  refine VW.ws tau_ok ((Sound.none.add 23 (i_Doubling_size_ok hv12) rfl).add 24 (i_unit_ok hv13) rfl) [some 22, some 23, some 24, some 25, some 26] [(1, .val (dM a1)), (2, .val (.ptr [i64 a0_0, dI a0_1])), (5, .val (i64 v1)), (6, .val (i64 s5)), (7, .ref 15 [s5.toNat] true (dI v11)), (15, .ref 15 [] true (dM v4)), (16, .val (i64 (v4.length : Int))), (17, .val (i64 s5)), (24, .ref 24 [] true (dM v13)), (25, .val (i64 (v13.length : Int))), (26, .val (i64 0))] rfl ?_ ?_
  · simp <;> simp [ieq, ilt, ile]
  obtain ⟨x14, hx14, hx5o⟩ := bind_some hx5o
  refine VW.tlO (fun y16 => [(1, .val (dM a1)), (2, .val (.ptr [i64 a0_0, dI a0_1])), (5, .val (i64 v1)), (15, .ref 15 [] true (dM v4)), (16, .val (i64 (v4.length : Int))), (17, .val (i64 s5))]) x14 (hCK10) ?_ ?_
  · clear hx14
    rintro y16 rfl
    dsimp only at hx5o
    refine hK10 _ ?_
    -- region 12
    refine VW.wr tau_ok Sound.none [some 58, some 17] [(1, .val (dM a1)), (2, .val (.ptr [i64 a0_0, dI a0_1])), (5, .val (i64 v1)), (15, .ref 15 [] true (dM v4)), (16, .val (i64 (v4.length : Int))), (17, .val (i64 (w64 (s5 + 1))))] rfl ?_ ?_
    · simp <;> simp [ieq, ilt, ile]
    cases hx5o
    exact ⟨_, rfl, Fits.of rfl⟩
  refine VW.block ?_
  refine VW.loopF (i_Doubling_isDerivation_L1 a0_0 a0_1 a1 v1 s5 v11 v13) (fun s14 => [(1, .val (dM a1)), (2, .val (.ptr [i64 a0_0, dI a0_1])), (5, .val (i64 v1)), (6, .val (i64 s5)), (7, .ref 15 [s5.toNat] true (dI v11)), (15, .ref 15 [] true (dM v4)), (16, .val (i64 (v4.length : Int))), (17, .val (i64 s5)), (24, .ref 24 [] true (dM v13)), (25, .val (i64 (v13.length : Int))), (26, .val (i64 s14))]) hx14 (Fits.of rfl) ?_
  clear hx14
  intro s14 ox14 hx14o hx14b
  unfold i_Doubling_isDerivation_L1 at hx14o
  -- region 6
  refine VW.ws tau_ok Sound.none [some 27] [(1, .val (dM a1)), (2, .val (.ptr [i64 a0_0, dI a0_1])), (5, .val (i64 v1)), (6, .val (i64 s5)), (7, .ref 15 [s5.toNat] true (dI v11)), (15, .ref 15 [] true (dM v4)), (16, .val (i64 (v4.length : Int))), (17, .val (i64 s5)), (24, .ref 24 [] true (dM v13)), (25, .val (i64 (v13.length : Int))), (26, .val (i64 s14)), (27, .val (.bool (ilt s14 (v13.length : Int))))] rfl ?_ ?_
  · simp <;> simp [ieq, ilt, ile]
  refine VW.sqc fun K17 hK17 hCK17 => ?_
  refine VW.cond rfl (fun hb18 => ?_) (fun hb18 => ?_)
  rotate_left
  ·
    replace hb18 : ¬ (s14 < (v13.length : Int)) := by simpa [ieq, ilt, ile] using hb18
    rw [if_neg hb18] at hx14o
    refine VW.exit ?_
    cases hx14o
    have hq := hx14b _ rfl
    subst hq
    exact ⟨_, rfl, Fits.of rfl⟩
  replace hb18 : s14 < (v13.length : Int) := by simpa [ieq, ilt, ile] using hb18
  rw [if_pos hb18] at hx14o
  refine VW.skip ?_
  refine hK17 _ ?_
  refine VW.sqc fun K19 hK19 hCK19 => ?_
  refine VW.block ?_
  -- region 7
  obtain ⟨v20, hv20, hx14o⟩ := bind_some hx14o
  obtain ⟨hv20a, hv20b, hv20c, hv20d⟩ := idx_some hv20
  refine VW.ws tau_ok Sound.none [some 28, some 29, some 30, some 8, some 9] [(1, .val (dM a1)), (2, .val (.ptr [i64 a0_0, dI a0_1])), (5, .val (i64 v1)), (6, .val (i64 s5)), (7, .ref 15 [s5.toNat] true (dI v11)), (8, .val (i64 s14)), (9, .ref 24 [s14.toNat] true (dI v20)), (15, .ref 15 [] true (dM v4)), (16, .val (i64 (v4.length : Int))), (17, .val (i64 s5)), (24, .ref 24 [] true (dM v13)), (25, .val (i64 (v13.length : Int))), (26, .val (i64 s14))] rfl ?_ ?_
  · simp [hv20a, hv20b, hv20c, hv20d] <;> simp [ieq, ilt, ile]
  -- region 8
  obtain ⟨v21, hv21, hx14o⟩ := bind_some hx14o
  obtain ⟨v22, hv22, hx14o⟩ := bind_some hx14o
  obtain ⟨v23, hv23, hx14o⟩ := bind_some hx14o
  obtain ⟨v24, hv24, hx14o⟩ := bind_some hx14o
  obtain ⟨v25, hv25, hx14o⟩ := bind_some hx14o
  refine VW.wds tau_ok (((((Sound.none.add 35 (i_column_ok hv21) rfl).add 37 (i_Doubling_times_ok hv22) rfl).add 42 (i_column_ok hv23) rfl).add 43 (i_Doubling_times_ok hv24) rfl).add 44 (i_field_plus_ok hv25) rfl) try_mixed [some 31, some 32, some 33, some 34, some 35, some 36, some 37, some 38, some 39, some 40, some 41, some 42, some 43, some 44, some 10] [(1, .val (dM a1)), (2, .val (.ptr [i64 a0_0, dI a0_1])), (5, .val (i64 v1)), (6, .val (i64 s5)), (7, .ref 15 [s5.toNat] true (dI v11)), (9, .ref 24 [s14.toNat] true (dI v20)), (10, .ref 10 [] true (dI v25)), (15, .ref 15 [] true (dM v4)), (16, .val (i64 (v4.length : Int))), (17, .val (i64 s5)), (24, .ref 24 [] true (dM v13)), (25, .val (i64 (v13.length : Int))), (26, .val (i64 s14))] 14 rfl (by kernel_rfl) (by rfl) ?_ ?_
  · simp <;> simp [ieq, ilt, ile]
  -- region 9
  obtain ⟨v26, hv26, hx14o⟩ := bind_some hx14o
  obtain ⟨v27, hv27, hx14o⟩ := bind_some hx14o
  obtain ⟨v28, hv28, hx14o⟩ := bind_some hx14o
  obtain ⟨v29, hv29, hx14o⟩ := bind_some hx14o
  refine VW.ws tau_ok ((((Sound.none.add 52 (i_Doubling_times_ok hv26) rfl).add 53 (i_field_apply_ok hv27) rfl).add 54 (i_field_plus_ok hv28) rfl).add 55 (i_isZero_ok hv29) rfl) [some 45, some 46, some 47, some 48, some 49, some 50, some 51, some 52, some 53, some 54, some 55, some 56] [(1, .val (dM a1)), (2, .val (.ptr [i64 a0_0, dI a0_1])), (5, .val (i64 v1)), (6, .val (i64 s5)), (7, .ref 15 [s5.toNat] true (dI v11)), (15, .ref 15 [] true (dM v4)), (16, .val (i64 (v4.length : Int))), (17, .val (i64 s5)), (24, .ref 24 [] true (dM v13)), (25, .val (i64 (v13.length : Int))), (26, .val (i64 s14)), (56, .val (.bool (!v29)))] rfl ?_ ?_
  · simp <;> simp [ieq, ilt, ile]
  refine VW.cond rfl (fun hb30 => ?_) (fun hb30 => ?_)
  rotate_left
  ·
    replace hb30 : ¬ (v29 = false) := by simpa [ieq, ilt, ile] using hb30
    rw [if_neg hb30] at hx14o
    refine VW.skip ?_
    refine hK19 _ ?_
    -- region 11
    refine VW.wr tau_ok Sound.none [some 57, some 26] [(1, .val (dM a1)), (2, .val (.ptr [i64 a0_0, dI a0_1])), (5, .val (i64 v1)), (6, .val (i64 s5)), (7, .ref 15 [s5.toNat] true (dI v11)), (15, .ref 15 [] true (dM v4)), (16, .val (i64 (v4.length : Int))), (17, .val (i64 s5)), (24, .ref 24 [] true (dM v13)), (25, .val (i64 (v13.length : Int))), (26, .val (i64 (w64 (s14 + 1))))] rfl ?_ ?_
    · simp <;> simp [ieq, ilt, ile]
    cases hx14o
    exact ⟨_, rfl, Fits.of rfl⟩
  replace hb30 : v29 = false := by simpa [ieq, ilt, ile] using hb30
  rw [if_pos hb30] at hx14o
  -- region 10
  refine VW.ws tau_ok Sound.none [some 4] [(4, .val (.bool false))] rfl ?_ ?_
  · simp <;> simp [ieq, ilt, ile]
  cases hx14o
  have hq := hx14b _ rfl
  subst hq
  dsimp only at hx5o
  cases hx5o
  have hq := hx5b _ rfl
  subst hq
  dsimp only at h
  cases h
  refine VW.ret ?_
  simp [Post, PostM, PostC, PostC2, Nx, Bk]

theorem i_IsDerivation_ok {a0_0 : Int} {a0_1 : List Int} {a1 : List (List Int)} {r : Bool × Int} (h : i_IsDerivation a0_0 a0_1 a1 = some r) :
    VCall Try.prog 20 [.agg [i64 a0_0, dI a0_1], dM a1] [.sc (.bool r.1), .sc (i64 r.2)] := by
  unfold i_IsDerivation at h
  refine VCall.enter Try.call20 Try.func20 rfl 17 Try.ntmps20 (by simp) [.tmp 4, .tmp 5] rfl ?_
  show VW _ _ _ (mk [(0, .val (.agg [i64 a0_0, dI a0_1])), (1, .val (dM a1))]) _
  -- region 0
  refine VW.ws tau_ok Sound.none [some 2, some 4, some 5] [(1, .val (dM a1)), (2, .val (.ptr [i64 a0_0, dI a0_1]))] rfl ?_ ?_
  · simp <;> simp [ieq, ilt, ile]
  refine VW.sqc fun K1 hK1 hCK1 => ?_
  -- region 1
  obtain ⟨v2, hv2, h⟩ := bind_some h
  refine VW.ws tau_ok (Sound.none.add 10 (i_checkThree_ok hv2) rfl) [some 7, some 8, some 9, some 10, some 6] [(1, .val (dM a1)), (2, .val (.ptr [i64 a0_0, dI a0_1])), (6, .val (i64 v2))] rfl ?_ ?_
  · simp <;> simp [ieq, ilt, ile]
  -- region 2
  refine VW.ws tau_ok Sound.none [some 11, some 12] [(1, .val (dM a1)), (2, .val (.ptr [i64 a0_0, dI a0_1])), (6, .val (i64 v2)), (12, .val (.bool (!(ieq v2 0))))] rfl ?_ ?_
  · simp <;> simp [ieq, ilt, ile]
  refine VW.cond rfl (fun hb3 => ?_) (fun hb3 => ?_)
  ·
    replace hb3 : ¬ v2 = 0 := by simpa [ieq, ilt, ile] using hb3
    rw [if_pos hb3] at h
    -- region 3
    refine VW.ws tau_ok Sound.none [some 13, some 4, some 5] [(4, .val (.bool false)), (5, .val (i64 v2))] rfl ?_ ?_
    · simp <;> simp [ieq, ilt, ile]
    cases h
    refine VW.ret ?_
    simp [Post, PostM, PostC, PostC2, Nx, Bk]
  replace hb3 : ¬ (¬ v2 = 0) := by simpa [ieq, ilt, ile] using hb3
  rw [if_neg hb3] at h
  refine VW.skip ?_
  refine hK1 _ ?_
  -- region 4
  obtain ⟨v4, hv4, h⟩ := bind_some h
  refine VW.ws tau_ok (Sound.none.add 16 (i_Doubling_isDerivation_ok hv4) rfl) [some 14, some 15, some 16, some 4, some 5] [(4, .val (.bool v4)), (5, .val (i64 0))] rfl ?_ ?_
  · simp <;> simp [ieq, ilt, ile]
  cases h
  refine VW.ret ?_
  simp [Post, PostM, PostC, PostC2, Nx, Bk]

theorem l_eqInt64S_ok {a0 : List Int} {a1 : List Int} {r : Bool} (h : l_eqInt64S a0 a1 = some r) :
    VCall Try.prog 34 [dI a0, dI a1] [.sc (.bool r)] := by
  unfold l_eqInt64S at h
  refine VCall.enter Try.call34 Try.func34 rfl 26 Try.ntmps34 (by simp) [.tmp 4] rfl ?_
  show VW _ _ _ (mk [(0, .val (dI a0)), (1, .val (dI a1))]) _
  -- region 0
  refine VW.ws tau_ok Sound.none [some 4] [(0, .val (dI a0)), (1, .val (dI a1))] rfl ?_ ?_
  · simp <;> simp [ieq, ilt, ile]
  refine VW.sqc fun K1 hK1 hCK1 => ?_
  -- region 1
  refine VW.ws tau_ok Sound.none [some 6, some 7, some 8, some 9, some 10] [(0, .val (dI a0)), (1, .val (dI a1)), (10, .val (.bool (!(ieq (a0.length : Int) (a1.length : Int)))))] rfl ?_ ?_
  · simp <;> simp [ieq, ilt, ile]
  refine VW.cond rfl (fun hb2 => ?_) (fun hb2 => ?_)
  ·
    replace hb2 : ¬ (a0.length : Int) = (a1.length : Int) := by simpa [ieq, ilt, ile] using hb2
    rw [if_pos hb2] at h
    -- region 2
    refine VW.ws tau_ok Sound.none [some 4] [(4, .val (.bool false))] rfl ?_ ?_
    · simp <;> simp [ieq, ilt, ile]
    cases h
    refine VW.ret ?_
    simp [Post, PostM, PostC, PostC2, Nx, Bk]
  replace hb2 : ¬ (¬ (a0.length : Int) = (a1.length : Int)) := by simpa [ieq, ilt, ile] using hb2
  rw [if_neg hb2] at h
  refine VW.skip ?_
  refine hK1 _ ?_
  refine VW.sqc fun K3 hK3 hCK3 => ?_
  -- region 3
  refine VW.ws tau_ok Sound.none [some 5] [(0, .val (dI a0)), (1, .val (dI a1)), (5, .val (i64 0))] rfl ?_ ?_
  · simp <;> simp [ieq, ilt, ile]
  obtain ⟨x4, hx4, h⟩ := bind_some h
  refine VW.tlO (fun y6 => []) x4 (hCK3) ?_ ?_
  · clear hx4
    rintro y6 rfl
    dsimp only at h
    refine hK3 _ ?_
    -- region 8
    refine VW.ws tau_ok Sound.none [some 4] [(4, .val (.bool true))] rfl ?_ ?_
    · simp <;> simp [ieq, ilt, ile]
    cases h
    refine VW.ret ?_
    simp [Post, PostM, PostC, PostC2, Nx, Bk]
  refine VW.block ?_
  refine VW.loopF (l_eqInt64S_L0 a0 a1) (fun s4 => [(0, .val (dI a0)), (1, .val (dI a1)), (5, .val (i64 s4))]) hx4 (Fits.of rfl) ?_
  clear hx4
  intro s4 ox4 hx4o hx4b
  unfold l_eqInt64S_L0 at hx4o
  refine VW.sqc fun K7 hK7 hCK7 => ?_
  -- region 4
  refine VW.ws tau_ok Sound.none [some 11, some 12, some 13, some 14] [(0, .val (dI a0)), (1, .val (dI a1)), (5, .val (i64 s4)), (14, .val (.bool (ilt s4 (a0.length : Int))))] rfl ?_ ?_
  · simp <;> simp [ieq, ilt, ile]
  refine VW.cond rfl (fun hb8 => ?_) (fun hb8 => ?_)
  rotate_left
  ·
    replace hb8 : ¬ (s4 < (a0.length : Int)) := by simpa [ieq, ilt, ile] using hb8
    rw [if_neg hb8] at hx4o
    refine VW.exit ?_
    cases hx4o
    have hq := hx4b _ rfl
    subst hq
    exact ⟨_, rfl, Fits.of rfl⟩
  replace hb8 : s4 < (a0.length : Int) := by simpa [ieq, ilt, ile] using hb8
  rw [if_pos hb8] at hx4o
  refine VW.skip ?_
  refine hK7 _ ?_
  refine VW.sqc fun K9 hK9 hCK9 => ?_
  refine VW.block ?_
  -- region 6
  obtain ⟨v10, hv10, hx4o⟩ := bind_some hx4o
  obtain ⟨hv10a, hv10b, hv10c, hv10d⟩ := idx_some hv10
  obtain ⟨v11, hv11, hx4o⟩ := bind_some hx4o
  obtain ⟨hv11a, hv11b, hv11c, hv11d⟩ := idx_some hv11
  refine VW.wds tau_ok Sound.none try_mixed [some 17, some 18, some 19, some 20, some 21, some 22, some 23, some 24, some 25] [(0, .val (dI a0)), (1, .val (dI a1)), (5, .val (i64 s4)), (25, .val (.bool (!(ieq v10 v11))))] 9 rfl (by kernel_rfl) (by rfl) ?_ ?_
  · simp [hv10a, hv10b, hv10c, hv10d, hv11a, hv11b, hv11c, hv11d] <;> simp [ieq, ilt, ile]
  refine VW.cond rfl (fun hb12 => ?_) (fun hb12 => ?_)
  rotate_left
  ·
    replace hb12 : ¬ (¬ v10 = v11) := by simpa [ieq, ilt, ile] using hb12
    rw [if_neg hb12] at hx4o
    refine VW.skip ?_
    refine hK9 _ ?_
    -- region 5
    refine VW.wr tau_ok Sound.none [some 15, some 16, some 5] [(0, .val (dI a0)), (1, .val (dI a1)), (5, .val (i64 (w64 (s4 + 1))))] rfl ?_ ?_
    · simp <;> simp [ieq, ilt, ile]
    cases hx4o
    exact ⟨_, rfl, Fits.of rfl⟩
  replace hb12 : ¬ v10 = v11 := by simpa [ieq, ilt, ile] using hb12
  rw [if_pos hb12] at hx4o
  -- region 7
  refine VW.ws tau_ok Sound.none [some 4] [(4, .val (.bool false))] rfl ?_ ?_
  · simp <;> simp [ieq, ilt, ile]
  cases hx4o
  have hq := hx4b _ rfl
  subst hq
  dsimp only at h
  cases h
  refine VW.ret ?_
  simp [Post, PostM, PostC, PostC2, Nx, Bk]

theorem l_eqDoubling_ok {a0_0 : Int} {a0_1 : List Int} {a1_0 : Int} {a1_1 : List Int} {r : Bool} (h : l_eqDoubling a0_0 a0_1 a1_0 a1_1 = some r) :
    VCall Try.prog 21 [.agg [i64 a0_0, dI a0_1], .agg [i64 a1_0, dI a1_1]] [.sc (.bool r)] := by
  unfold l_eqDoubling at h
  refine VCall.enter Try.call21 Try.func21 rfl 16 Try.ntmps21 (by simp) [.tmp 4] rfl ?_
  show VW _ _ _ (mk [(0, .val (.agg [i64 a0_0, dI a0_1])), (1, .val (.agg [i64 a1_0, dI a1_1]))]) _
  -- region 0
  refine VW.ws tau_ok Sound.none [some 2, some 3, some 4] [(2, .val (.ptr [i64 a0_0, dI a0_1])), (3, .val (.ptr [i64 a1_0, dI a1_1]))] rfl ?_ ?_
  · simp <;> simp [ieq, ilt, ile]
  refine VW.sqc fun K1 hK1 hCK1 => ?_
  -- region 1
  refine VW.ws tau_ok Sound.none [some 5, some 6, some 7, some 8, some 9] [(2, .val (.ptr [i64 a0_0, dI a0_1])), (3, .val (.ptr [i64 a1_0, dI a1_1])), (9, .val (.bool (!(ieq a0_0 a1_0))))] rfl ?_ ?_
  · simp <;> simp [ieq, ilt, ile]
  refine VW.cond rfl (fun hb2 => ?_) (fun hb2 => ?_)
  ·
    replace hb2 : ¬ a0_0 = a1_0 := by simpa [ieq, ilt, ile] using hb2
    rw [if_pos hb2] at h
    -- region 2
    refine VW.ws tau_ok Sound.none [some 4] [(4, .val (.bool false))] rfl ?_ ?_
    · simp <;> simp [ieq, ilt, ile]
    cases h
    refine VW.ret ?_
    simp [Post, PostM, PostC, PostC2, Nx, Bk]
  replace hb2 : ¬ (¬ a0_0 = a1_0) := by simpa [ieq, ilt, ile] using hb2
  rw [if_neg hb2] at h
  refine VW.skip ?_
  refine hK1 _ ?_
  refine VW.sqc fun K3 hK3 hCK3 => ?_
  -- region 3
  obtain ⟨v4, hv4, h⟩ := bind_some h
  refine VW.ws tau_ok (Sound.none.add 14 (l_eqInt64S_ok hv4) rfl) [some 10, some 11, some 12, some 13, some 14, some 15] [(15, .val (.bool (!v4)))] rfl ?_ ?_
  · simp <;> simp [ieq, ilt, ile]
  refine VW.cond rfl (fun hb5 => ?_) (fun hb5 => ?_)
  ·
    replace hb5 : v4 = false := by simpa [ieq, ilt, ile] using hb5
    rw [if_pos hb5] at h
    -- region 4
    refine VW.ws tau_ok Sound.none [some 4] [(4, .val (.bool false))] rfl ?_ ?_
    · simp <;> simp [ieq, ilt, ile]
    cases h
    refine VW.ret ?_
    simp [Post, PostM, PostC, PostC2, Nx, Bk]
  replace hb5 : ¬ (v4 = false) := by simpa [ieq, ilt, ile] using hb5
  rw [if_neg hb5] at h
  refine VW.skip ?_
  refine hK3 _ ?_
  -- region 5
  refine VW.ws tau_ok Sound.none [some 4] [(4, .val (.bool true))] rfl ?_ ?_
  · simp <;> simp [ieq, ilt, ile]
  cases h
  refine VW.ret ?_
  simp [Post, PostM, PostC, PostC2, Nx, Bk]

theorem l_eqInt64SS_ok {a0 : List (List Int)} {a1 : List (List Int)} {r : Bool} (h : l_eqInt64SS a0 a1 = some r) :
    VCall Try.prog 22 [dM a0, dM a1] [.sc (.bool r)] := by
  unfold l_eqInt64SS at h
  refine VCall.enter Try.call22 Try.func22 rfl 27 Try.ntmps22 (by simp) [.tmp 4] rfl ?_
  show VW _ _ _ (mk [(0, .val (dM a0)), (1, .val (dM a1))]) _
  -- region 0
  refine VW.ws tau_ok Sound.none [some 4] [(0, .val (dM a0)), (1, .val (dM a1))] rfl ?_ ?_
  · simp <;> simp [ieq, ilt, ile]
  refine VW.sqc fun K1 hK1 hCK1 => ?_
  -- region 1
  refine VW.ws tau_ok Sound.none [some 6, some 7, some 8, some 9, some 10] [(0, .val (dM a0)), (1, .val (dM a1)), (10, .val (.bool (!(ieq (a0.length : Int) (a1.length : Int)))))] rfl ?_ ?_
  · simp <;> simp [ieq, ilt, ile]
  refine VW.cond rfl (fun hb2 => ?_) (fun hb2 => ?_)
  ·
    replace hb2 : ¬ (a0.length : Int) = (a1.length : Int) := by simpa [ieq, ilt, ile] using hb2
    rw [if_pos hb2] at h
    -- region 2
    refine VW.ws tau_ok Sound.none [some 4] [(4, .val (.bool false))] rfl ?_ ?_
    · simp <;> simp [ieq, ilt, ile]
    cases h
    refine VW.ret ?_
    simp [Post, PostM, PostC, PostC2, Nx, Bk]
  replace hb2 : ¬ (¬ (a0.length : Int) = (a1.length : Int)) := by simpa [ieq, ilt, ile] using hb2
  rw [if_neg hb2] at h
  refine VW.skip ?_
  refine hK1 _ ?_
  refine VW.sqc fun K3 hK3 hCK3 => ?_
  -- region 3
  refine VW.ws tau_ok Sound.none [some 5] [(0, .val (dM a0)), (1, .val (dM a1)), (5, .val (i64 0))] rfl ?_ ?_
  · simp <;> simp [ieq, ilt, ile]
  obtain ⟨x4, hx4, h⟩ := bind_some h
  refine VW.tlO (fun y6 => []) x4 (hCK3) ?_ ?_
  · clear hx4
    rintro y6 rfl
    dsimp only at h
    refine hK3 _ ?_
    -- region 8
    refine VW.ws tau_ok Sound.none [some 4] [(4, .val (.bool true))] rfl ?_ ?_
    · simp <;> simp [ieq, ilt, ile]
    cases h
    refine VW.ret ?_
    simp [Post, PostM, PostC, PostC2, Nx, Bk]
  refine VW.block ?_
  refine VW.loopF (l_eqInt64SS_L0 a0 a1) (fun s4 => [(0, .val (dM a0)), (1, .val (dM a1)), (5, .val (i64 s4))]) hx4 (Fits.of rfl) ?_
  clear hx4
  intro s4 ox4 hx4o hx4b
  unfold l_eqInt64SS_L0 at hx4o
  refine VW.sqc fun K7 hK7 hCK7 => ?_
  -- region 4
  refine VW.ws tau_ok Sound.none [some 11, some 12, some 13, some 14] [(0, .val (dM a0)), (1, .val (dM a1)), (5, .val (i64 s4)), (14, .val (.bool (ilt s4 (a0.length : Int))))] rfl ?_ ?_
  · simp <;> simp [ieq, ilt, ile]
  refine VW.cond rfl (fun hb8 => ?_) (fun hb8 => ?_)
  rotate_left
  ·
    replace hb8 : ¬ (s4 < (a0.length : Int)) := by simpa [ieq, ilt, ile] using hb8
    rw [if_neg hb8] at hx4o
    refine VW.exit ?_
    cases hx4o
    have hq := hx4b _ rfl
    subst hq
    exact ⟨_, rfl, Fits.of rfl⟩
  replace hb8 : s4 < (a0.length : Int) := by simpa [ieq, ilt, ile] using hb8
  rw [if_pos hb8] at hx4o
  refine VW.skip ?_
  refine hK7 _ ?_
  refine VW.sqc fun K9 hK9 hCK9 => ?_
  refine VW.block ?_
  -- region 6
  obtain ⟨v10, hv10, hx4o⟩ := bind_some hx4o
  obtain ⟨hv10a, hv10b, hv10c, hv10d⟩ := idx_some hv10
  obtain ⟨v11, hv11, hx4o⟩ := bind_some hx4o
  obtain ⟨hv11a, hv11b, hv11c, hv11d⟩ := idx_some hv11
  obtain ⟨v12, hv12, hx4o⟩ := bind_some hx4o
  refine VW.wds tau_ok (Sound.none.add 25 (l_eqInt64S_ok hv12) rfl) try_mixed [some 17, some 18, some 19, some 20, some 21, some 22, some 23, some 24, some 25, some 26] [(0, .val (dM a0)), (1, .val (dM a1)), (5, .val (i64 s4)), (26, .val (.bool (!v12)))] 10 rfl (by kernel_rfl) (by rfl) ?_ ?_
  · simp [hv10a, hv10b, hv10c, hv10d, hv11a, hv11b, hv11c, hv11d] <;> simp [ieq, ilt, ile]
  refine VW.cond rfl (fun hb13 => ?_) (fun hb13 => ?_)
  rotate_left
  ·
    replace hb13 : ¬ (v12 = false) := by simpa [ieq, ilt, ile] using hb13
    rw [if_neg hb13] at hx4o
    refine VW.skip ?_
    refine hK9 _ ?_
    -- region 5
    refine VW.wr tau_ok Sound.none [some 15, some 16, some 5] [(0, .val (dM a0)), (1, .val (dM a1)), (5, .val (i64 (w64 (s4 + 1))))] rfl ?_ ?_
    · simp <;> simp [ieq, ilt, ile]
    cases hx4o
    exact ⟨_, rfl, Fits.of rfl⟩
  replace hb13 : v12 = false := by simpa [ieq, ilt, ile] using hb13
  rw [if_pos hb13] at hx4o
  -- region 7
  refine VW.ws tau_ok Sound.none [some 4] [(4, .val (.bool false))] rfl ?_ ?_
  · simp <;> simp [ieq, ilt, ile]
  cases hx4o
  have hq := hx4b _ rfl
  subst hq
  dsimp only at h
  cases h
  refine VW.ret ?_
  simp [Post, PostM, PostC, PostC2, Nx, Bk]

theorem l_FnExactIsDerivation_ok {a0_0 : Int} {a0_1 : List Int} {a1 : List (List Int)} {r : Bool} (h : l_FnExactIsDerivation a0_0 a0_1 a1 = some r) :
    VCall Try.prog 3 [.agg [i64 a0_0, dI a0_1], dM a1] [.sc (.bool r)] := by
  unfold l_FnExactIsDerivation at h
  refine VCall.enter Try.call3 Try.func3 rfl 58 Try.ntmps3 (by simp) [.tmp 4] rfl ?_
  show VW _ _ _ (mk [(0, .val (.agg [i64 a0_0, dI a0_1])), (1, .val (dM a1))]) _
  -- region 0
  refine VW.ws tau_ok Sound.none [some 2, some 4] [(1, .val (dM a1)), (2, .val (.ptr [i64 a0_0, dI a0_1]))] rfl ?_ ?_
  · simp <;> simp [ieq, ilt, ile]
  -- region 1
  refine VW.ws tau_ok Sound.none [some 5] [(1, .val (dM a1)), (2, .val (.ptr [i64 a0_0, dI a0_1])), (5, .val (i64 1048576))] rfl ?_ ?_
  · simp <;> simp [ieq, ilt, ile]
  -- region 2
  obtain ⟨v1, hv1, h⟩ := bind_some h
  refine VW.ws tau_ok (Sound.none.add 14 (l_szDoubling_ok hv1) rfl) [some 12, some 13, some 14, some 5] [(1, .val (dM a1)), (2, .val (.ptr [i64 a0_0, dI a0_1])), (5, .val (i64 v1))] rfl ?_ ?_
  · simp <;> simp [ieq, ilt, ile]
  refine VW.sqc fun K2 hK2 hCK2 => ?_
  -- region 3
  refine VW.ws tau_ok Sound.none [some 15, some 16] [(1, .val (dM a1)), (2, .val (.ptr [i64 a0_0, dI a0_1])), (5, .val (i64 v1)), (16, .val (.bool (ilt v1 0)))] rfl ?_ ?_
  · simp <;> simp [ieq, ilt, ile]
  refine VW.cond rfl (fun hb3 => ?_) (fun hb3 => ?_)
  ·
    replace hb3 : v1 < 0 := by simpa [ieq, ilt, ile] using hb3
    rw [if_pos hb3] at h
    -- region 4
    refine VW.ws tau_ok Sound.none [some 4] [(4, .val (.bool true))] rfl ?_ ?_
    · simp <;> simp [ieq, ilt, ile]
    cases h
    refine VW.ret ?_
    simp [Post, PostM, PostC, PostC2, Nx, Bk]
  replace hb3 : ¬ (v1 < 0) := by simpa [ieq, ilt, ile] using hb3
  rw [if_neg hb3] at h
  refine VW.skip ?_
  refine hK2 _ ?_
  -- region 5
  obtain ⟨v4, hv4, h⟩ := bind_some h
  refine VW.ws tau_ok (Sound.none.add 19 (l_szInt64SS_ok hv4) rfl) [some 17, some 18, some 19, some 5] [(1, .val (dM a1)), (2, .val (.ptr [i64 a0_0, dI a0_1])), (5, .val (i64 v4))] rfl ?_ ?_
  · simp <;> simp [ieq, ilt, ile]
  refine VW.sqc fun K5 hK5 hCK5 => ?_
  -- region 6
  refine VW.ws tau_ok Sound.none [some 20, some 21] [(1, .val (dM a1)), (2, .val (.ptr [i64 a0_0, dI a0_1])), (21, .val (.bool (ilt v4 0)))] rfl ?_ ?_
  · simp <;> simp [ieq, ilt, ile]
  refine VW.cond rfl (fun hb6 => ?_) (fun hb6 => ?_)
  ·
    replace hb6 : v4 < 0 := by simpa [ieq, ilt, ile] using hb6
    rw [if_pos hb6] at h
    -- region 7
    refine VW.ws tau_ok Sound.none [some 4] [(4, .val (.bool true))] rfl ?_ ?_
    · simp <;> simp [ieq, ilt, ile]
    cases h
    refine VW.ret ?_
    simp [Post, PostM, PostC, PostC2, Nx, Bk]
  replace hb6 : ¬ (v4 < 0) := by simpa [ieq, ilt, ile] using hb6
  rw [if_neg hb6] at h
  refine VW.skip ?_
  refine hK5 _ ?_
  -- region 8
  obtain ⟨v7, hv7, h⟩ := bind_some h
  obtain ⟨v8, hv8, h⟩ := bind_some h
  obtain ⟨v9, hv9, h⟩ := bind_some h
  refine VW.ws tau_ok (((Sound.none.add 24 (l_toDoubling_ok hv7) rfl).add 26 (l_toInt64SS_ok hv8) rfl).add 27 (s_IsDerivation_ok hv9) rfl) [some 23, some 24, some 25, some 26, some 27, some 22, some 28, some 29, some 6, some 7] [(1, .val (dM a1)), (2, .val (.ptr [i64 a0_0, dI a0_1])), (6, .val (.bool v9.1)), (7, .val (i64 v9.2))] rfl ?_ ?_
  · simp <;> simp [ieq, ilt, ile]
  -- region 9
  obtain ⟨v10, hv10, h⟩ := bind_some h
  refine VW.ws tau_ok (Sound.none.add 31 (l_toDoubling_ok hv10) rfl) [some 30, some 31, some 8, none] [(1, .val (dM a1)), (2, .val (.ptr [i64 a0_0, dI a0_1])), (6, .val (.bool v9.1)), (7, .val (i64 v9.2)), (8, .ref 8 [] true (.ptr [i64 v10.1, dI v10.2]))] rfl ?_ ?_
  · simp <;> simp [ieq, ilt, ile]
  -- region 10
  obtain ⟨v11, hv11, h⟩ := bind_some h
  refine VW.ws tau_ok (Sound.none.add 33 (l_toInt64SS_ok hv11) rfl) [some 32, some 33, some 9] [(1, .val (dM a1)), (2, .val (.ptr [i64 a0_0, dI a0_1])), (6, .val (.bool v9.1)), (7, .val (i64 v9.2)), (8, .ref 8 [] true (.ptr [i64 v10.1, dI v10.2])), (9, .ref 9 [] true (dM v11))] rfl ?_ ?_
  · simp <;> simp [ieq, ilt, ile]
  -- region 11
  obtain ⟨v12, hv12, h⟩ := bind_some h
  refine VW.ws tau_ok (Sound.none.add 37 (i_IsDerivation_ok hv12) rfl) [some 35, some 36, some 37, some 34, some 38, some 39, some 10, some 11] [(1, .val (dM a1)), (2, .val (.ptr [i64 a0_0, dI a0_1])), (6, .val (.bool v9.1)), (7, .val (i64 v9.2)), (8, .ref 8 [] true (.ptr [i64 v10.1, dI v10.2])), (9, .ref 9 [] true (dM v11)), (10, .val (.bool v12.1)), (11, .val (i64 v12.2))] rfl ?_ ?_
  · simp <;> simp [ieq, ilt, ile]
  refine VW.sqc fun K13 hK13 hCK13 => ?_
  -- region 12
  obtain ⟨x15, hx15, h⟩ := bind_some h
  refine VW.cut [(1, .val (dM a1)), (2, .val (.ptr [i64 a0_0, dI a0_1])), (8, .ref 8 [] true (.ptr [i64 v10.1, dI v10.2])), (9, .ref 9 [] true (dM v11)), (47, .val (.bool x15))] ?_ fun hy => ?_
  rotate_left
  · clear h
    by_cases hp14 : (v12.1 != v9.1) = true
    · rw [if_pos hp14] at hx15
      have hp14b : (v12.1 != v9.1) = true := by simpa [ieq, ilt, ile] using hp14
      have hp14s := hp14b
      try simp at hp14s
      cases hx15
      refine VW.ws tau_ok Sound.none [some 40, some 41, some 42, some 43, some 44, some 45, some 46, some 47] _ rfl ?_ hy
      simp [hp14b, hp14s] <;> simp [ieq, ilt, ile]
    · rw [if_neg hp14] at hx15
      have hp14b : (v12.1 != v9.1) = false := by simpa [ieq, ilt, ile] using hp14
      have hp14s := hp14b
      try simp at hp14s
      cases hx15
      refine VW.ws tau_ok Sound.none [some 40, some 41, some 42, some 43, some 44, some 45, some 46, some 47] _ rfl ?_ hy
      simp [hp14b, hp14s] <;> simp [ieq, ilt, ile]
  refine VW.cond rfl (fun hb16 => ?_) (fun hb16 => ?_)
  ·
    replace hb16 : x15 = true := by simpa [ieq, ilt, ile] using hb16
    rw [if_pos hb16] at h
    -- region 13
    refine VW.ws tau_ok Sound.none [some 4] [(4, .val (.bool false))] rfl ?_ ?_
    · simp <;> simp [ieq, ilt, ile]
    cases h
    refine VW.ret ?_
    simp [Post, PostM, PostC, PostC2, Nx, Bk]
  replace hb16 : ¬ (x15 = true) := by simpa [ieq, ilt, ile] using hb16
  rw [if_neg hb16] at h
  refine VW.skip ?_
  refine hK13 _ ?_
  refine VW.sqc fun K17 hK17 hCK17 => ?_
  -- region 14
  obtain ⟨v18, hv18, h⟩ := bind_some h
  obtain ⟨v19, hv19, h⟩ := bind_some h
  refine VW.wds tau_ok ((Sound.none.add 50 (l_toDoubling_ok hv18) rfl).add 51 (l_eqDoubling_ok hv19) rfl) try_mixed [some 48, some 49, some 50, some 51, some 52] [(1, .val (dM a1)), (9, .ref 9 [] true (dM v11)), (52, .val (.bool (!v19)))] 5 rfl (by kernel_rfl) (by rfl) ?_ ?_
  · simp <;> simp [ieq, ilt, ile]
  refine VW.cond rfl (fun hb20 => ?_) (fun hb20 => ?_)
  ·
    replace hb20 : v19 = false := by simpa [ieq, ilt, ile] using hb20
    rw [if_pos hb20] at h
    -- region 15
    refine VW.ws tau_ok Sound.none [some 4] [(4, .val (.bool false))] rfl ?_ ?_
    · simp <;> simp [ieq, ilt, ile]
    cases h
    refine VW.ret ?_
    simp [Post, PostM, PostC, PostC2, Nx, Bk]
  replace hb20 : ¬ (v19 = false) := by simpa [ieq, ilt, ile] using hb20
  rw [if_neg hb20] at h
  refine VW.skip ?_
  refine hK17 _ ?_
  refine VW.sqc fun K21 hK21 hCK21 => ?_
  -- region 16
  obtain ⟨v22, hv22, h⟩ := bind_some h
  obtain ⟨v23, hv23, h⟩ := bind_some h
  refine VW.ws tau_ok ((Sound.none.add 55 (l_toInt64SS_ok hv22) rfl).add 56 (l_eqInt64SS_ok hv23) rfl) [some 53, some 54, some 55, some 56, some 57] [(57, .val (.bool (!v23)))] rfl ?_ ?_
  · simp <;> simp [ieq, ilt, ile]
  refine VW.cond rfl (fun hb24 => ?_) (fun hb24 => ?_)
  ·
    replace hb24 : v23 = false := by simpa [ieq, ilt, ile] using hb24
    rw [if_pos hb24] at h
    -- region 17
    refine VW.ws tau_ok Sound.none [some 4] [(4, .val (.bool false))] rfl ?_ ?_
    · simp <;> simp [ieq, ilt, ile]
    cases h
    refine VW.ret ?_
    simp [Post, PostM, PostC, PostC2, Nx, Bk]
  replace hb24 : ¬ (v23 = false) := by simpa [ieq, ilt, ile] using hb24
  rw [if_neg hb24] at h
  refine VW.skip ?_
  refine hK21 _ ?_
  -- region 18
  refine VW.ws tau_ok Sound.none [some 4] [(4, .val (.bool true))] rfl ?_ ?_
  · simp <;> simp [ieq, ilt, ile]
  cases h
  refine VW.ret ?_
  simp [Post, PostM, PostC, PostC2, Nx, Bk]
end Go.Vam
