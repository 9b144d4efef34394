import Derived.Test.YteafapgnelhmmaaR2T
import Derived.Test.YteafapgnelhmmaaFnD
import Derived.Test.YteafapgnelhmmaaR2W1
namespace Go.Vam
open Go Go.RowKit Go.Proofs
set_option maxRecDepth 100000
set_option linter.unusedSimpArgs false
set_option linter.unusedVariables false

theorem s_l11Scale_ok {a0 : Int} {a1 : Int} {a2 : List Int} {r : List Int} (h : s_l11Scale a0 a1 a2 = some r) :
    VCall Try.prog 67 [i64 a0, i64 a1, dI a2] [.own true (dI r)] := by
  unfold s_l11Scale at h
  refine VCall.enter Try.call67 Try.func67 rfl 28 Try.ntmps67 (by simp) [.tmp 6] rfl ?_
  show VW _ _ _ (mk [(0, .val (i64 a0)), (1, .val (i64 a1)), (2, .val (dI a2))]) _
  -- region 0
  refine VW.ws tau_ok Sound.none [some 6] [(0, .val (i64 a0)), (1, .val (i64 a1)), (2, .val (dI a2))] rfl ?_ ?_
  · simp <;> simp [ieq, ilt, ile]
  -- region 1
  refine VW.ws tau_ok Sound.none [some 9, some 7] [(0, .val (i64 a0)), (1, .val (i64 a1)), (2, .val (dI a2)), (7, .ref 7 [] true (dI []))] rfl ?_ ?_
  · simp <;> simp [ieq, ilt, ile]
  refine VW.sqc fun K1 hK1 hCK1 => ?_
  -- region 2
  refine VW.ws tau_ok Sound.none [some 8] [(0, .val (i64 a0)), (1, .val (i64 a1)), (2, .val (dI a2)), (7, .ref 7 [] true (dI [])), (8, .val (i64 0))] rfl ?_ ?_
  · simp <;> simp [ieq, ilt, ile]
  obtain ⟨x2, hx2, h⟩ := bind_some h
  refine VW.tlE [(7, .ref 7 [] true (dI x2))] (hCK1) ?_ ?_
  · clear hx2
    refine hK1 _ ?_
    -- region 6
    refine VW.ws tau_ok Sound.none [some 27, some 6] [(6, .ref 6 [] true (dI x2))] rfl ?_ ?_
    · simp <;> simp [ieq, ilt, ile]
    cases h
    refine VW.ret ?_
    simp [Post, PostM, PostC, PostC2, Nx, Bk]
  refine VW.block ?_
  refine VW.loopF (s_l11Scale_L0 a0 a1 a2) (fun s2 => [(0, .val (i64 a0)), (1, .val (i64 a1)), (2, .val (dI a2)), (7, .ref 7 [] true (dI s2.1)), (8, .val (i64 s2.2))]) hx2 (Fits.of rfl) ?_
  clear hx2
  intro s2 ox2 hx2o hx2b
  unfold s_l11Scale_L0 at hx2o
  refine VW.sqc fun K4 hK4 hCK4 => ?_
  -- region 3
  refine VW.ws tau_ok Sound.none [some 10, some 11, some 12, some 13] [(0, .val (i64 a0)), (1, .val (i64 a1)), (2, .val (dI a2)), (7, .ref 7 [] true (dI s2.1)), (8, .val (i64 s2.2)), (13, .val (.bool (ilt s2.2 (a2.length : Int))))] rfl ?_ ?_
  · simp <;> simp [ieq, ilt, ile]
  refine VW.cond rfl (fun hb5 => ?_) (fun hb5 => ?_)
  rotate_left
  ·
    replace hb5 : ¬ (s2.2 < (a2.length : Int)) := by simpa [ieq, ilt, ile] using hb5
    rw [if_neg hb5] at hx2o
    refine VW.exit ?_
    cases hx2o
    have hq := hx2b _ rfl
    subst hq
    exact Fits.of rfl
  replace hb5 : s2.2 < (a2.length : Int) := by simpa [ieq, ilt, ile] using hb5
  rw [if_pos hb5] at hx2o
  refine VW.skip ?_
  refine hK4 _ ?_
  refine VW.sqc fun K6 hK6 hCK6 => ?_
  refine VW.block ?_
  -- region 5
  obtain ⟨v7, hv7, hx2o⟩ := bind_some hx2o
  obtain ⟨hv7a, hv7b, hv7c, hv7d⟩ := idx_some hv7
  obtain ⟨v8, hv8, hx2o⟩ := bind_some hx2o
  obtain ⟨hc9, hx2o⟩ := chk_some hx2o
  have hc9s := hc9
  try simp at hc9s
  refine VW.wr tau_ok (Sound.none.add 24 (s_l01Mod_ok hv8) rfl) [some 16, some 17, some 18, some 19, some 20, some 21, some 22, some 23, some 24, some 25, some 26, some 7] [(0, .val (i64 a0)), (1, .val (i64 a1)), (2, .val (dI a2)), (7, .ref 7 [] true (dI (s2.1 ++ [v8]))), (8, .val (i64 s2.2))] rfl ?_ ?_
  · simp [hv7a, hv7b, hv7c, hv7d, hc9, hc9s] <;> simp [ieq, ilt, ile]
  refine hK6 _ ?_
  -- region 4
  refine VW.wr tau_ok Sound.none [some 14, some 15, some 8] [(0, .val (i64 a0)), (1, .val (i64 a1)), (2, .val (dI a2)), (7, .ref 7 [] true (dI (s2.1 ++ [v8]))), (8, .val (i64 (w64 (s2.2 + 1))))] rfl ?_ ?_
  · simp <;> simp [ieq, ilt, ile]
  cases hx2o
  exact ⟨_, rfl, Fits.of rfl⟩

theorem s_l11Star_ok {a0 : Int} {a1 : List Int} {r : List Int} (h : s_l11Star a0 a1 = some r) :
    VCall Try.prog 187 [i64 a0, dI a1] [.own true (dI r)] := by
  unfold s_l11Star at h
  refine VCall.enter Try.call187 Try.func187 rfl 17 Try.ntmps187 (by simp) [.tmp 4] rfl ?_
  show VW _ _ _ (mk [(0, .val (i64 a0)), (1, .val (dI a1))]) _
  -- region 0
  refine VW.ws tau_ok Sound.none [some 4] [(0, .val (i64 a0)), (1, .val (dI a1))] rfl ?_ ?_
  · simp <;> simp [ieq, ilt, ile]
  -- region 1
  obtain ⟨v1, hv1, h⟩ := bind_some h
  refine VW.ws tau_ok (Sound.none.add 10 (s_l11Scale_ok hv1) rfl) [some 6, some 7, some 8, some 9, some 10, some 5] [(1, .val (dI a1)), (5, .ref 5 [] true (dI v1))] rfl ?_ ?_
  · simp <;> simp [ieq, ilt, ile]
  -- region 2
  obtain ⟨v2, hv2, h⟩ := bind_some h
  obtain ⟨hv2a, hv2b, hv2c, hv2d⟩ := idx_some hv2
  replace hv2b : 0 < a1.length := hv2b
  replace hv2c : a1[0]? = some v2 := hv2c
  replace hv2d : ∀ h, a1[0]'h = v2 := hv2d
  obtain ⟨v3, hv3, h⟩ := bind_some h
  obtain ⟨hv3a, hv3b, hv3c, hv3d⟩ := idx_some hv3
  replace hv3b : 0 < v1.length := hv3b
  replace hv3c : v1[0]? = some v3 := hv3c
  replace hv3d : ∀ h, v1[0]'h = v3 := hv3d
  refine VW.ws tau_ok Sound.none [some 11, some 12, some 13, some 14, some 15, none] [(5, .ref 5 [] true (dI (v1.set 0 v2)))] rfl ?_ ?_
  · simp [hv2a, hv2b, hv2c, hv2d, hv3a, hv3b, hv3c, hv3d] <;> simp [ieq, ilt, ile]
  -- region 3
  refine VW.ws tau_ok Sound.none [some 16, some 4] [(4, .ref 4 [] true (dI (v1.set 0 v2)))] rfl ?_ ?_
  · simp <;> simp [ieq, ilt, ile]
  cases h
  refine VW.ret ?_
  simp [Post, PostM, PostC, PostC2, Nx, Bk]

theorem s_l11Add_ok {a0 : Int} {a1 : List Int} {a2 : List Int} {r : List Int} (h : s_l11Add a0 a1 a2 = some r) :
    VCall Try.prog 186 [i64 a0, dI a1, dI a2] [.own true (dI r)] := by
  unfold s_l11Add at h
  refine VCall.enter Try.call186 Try.func186 rfl 31 Try.ntmps186 (by simp) [.tmp 6] rfl ?_
  show VW _ _ _ (mk [(0, .val (i64 a0)), (1, .val (dI a1)), (2, .val (dI a2))]) _
  -- region 0
  refine VW.ws tau_ok Sound.none [some 6] [(0, .val (i64 a0)), (1, .val (dI a1)), (2, .val (dI a2))] rfl ?_ ?_
  · simp <;> simp [ieq, ilt, ile]
  -- region 1
  refine VW.ws tau_ok Sound.none [some 9, some 7] [(0, .val (i64 a0)), (1, .val (dI a1)), (2, .val (dI a2)), (7, .ref 7 [] true (dI []))] rfl ?_ ?_
  · simp <;> simp [ieq, ilt, ile]
  refine VW.sqc fun K1 hK1 hCK1 => ?_
  -- region 2
  refine VW.ws tau_ok Sound.none [some 8] [(0, .val (i64 a0)), (1, .val (dI a1)), (2, .val (dI a2)), (7, .ref 7 [] true (dI [])), (8, .val (i64 0))] rfl ?_ ?_
  · simp <;> simp [ieq, ilt, ile]
  obtain ⟨x2, hx2, h⟩ := bind_some h
  refine VW.tlE [(7, .ref 7 [] true (dI x2))] (hCK1) ?_ ?_
  · clear hx2
    refine hK1 _ ?_
    -- region 6
    refine VW.ws tau_ok Sound.none [some 30, some 6] [(6, .ref 6 [] true (dI x2))] rfl ?_ ?_
    · simp <;> simp [ieq, ilt, ile]
    cases h
    refine VW.ret ?_
    simp [Post, PostM, PostC, PostC2, Nx, Bk]
  refine VW.block ?_
  refine VW.loopF (s_l11Add_L0 a0 a1 a2) (fun s2 => [(0, .val (i64 a0)), (1, .val (dI a1)), (2, .val (dI a2)), (7, .ref 7 [] true (dI s2.1)), (8, .val (i64 s2.2))]) hx2 (Fits.of rfl) ?_
  clear hx2
  intro s2 ox2 hx2o hx2b
  unfold s_l11Add_L0 at hx2o
  refine VW.sqc fun K4 hK4 hCK4 => ?_
  -- region 3
  refine VW.ws tau_ok Sound.none [some 10, some 11, some 12, some 13] [(0, .val (i64 a0)), (1, .val (dI a1)), (2, .val (dI a2)), (7, .ref 7 [] true (dI s2.1)), (8, .val (i64 s2.2)), (13, .val (.bool (ilt s2.2 (a1.length : Int))))] rfl ?_ ?_
  · simp <;> simp [ieq, ilt, ile]
  refine VW.cond rfl (fun hb5 => ?_) (fun hb5 => ?_)
  rotate_left
  ·
    replace hb5 : ¬ (s2.2 < (a1.length : Int)) := by simpa [ieq, ilt, ile] using hb5
    rw [if_neg hb5] at hx2o
    refine VW.exit ?_
    cases hx2o
    have hq := hx2b _ rfl
    subst hq
    exact Fits.of rfl
  replace hb5 : s2.2 < (a1.length : Int) := by simpa [ieq, ilt, ile] using hb5
  rw [if_pos hb5] at hx2o
  refine VW.skip ?_
  refine hK4 _ ?_
  refine VW.sqc fun K6 hK6 hCK6 => ?_
  refine VW.block ?_
  -- region 5
  obtain ⟨v7, hv7, hx2o⟩ := bind_some hx2o
  obtain ⟨hv7a, hv7b, hv7c, hv7d⟩ := idx_some hv7
  obtain ⟨v8, hv8, hx2o⟩ := bind_some hx2o
  obtain ⟨hv8a, hv8b, hv8c, hv8d⟩ := idx_some hv8
  obtain ⟨v9, hv9, hx2o⟩ := bind_some hx2o
  obtain ⟨hc10, hx2o⟩ := chk_some hx2o
  have hc10s := hc10
  try simp at hc10s
  refine VW.wdr tau_ok (Sound.none.add 27 (s_l01Mod_ok hv9) rfl) try_mixed [some 16, some 17, some 18, some 19, some 20, some 21, some 22, some 23, some 24, some 25, some 26, some 27, some 28, some 29, some 7] [(0, .val (i64 a0)), (1, .val (dI a1)), (2, .val (dI a2)), (7, .ref 7 [] true (dI (s2.1 ++ [v9]))), (8, .val (i64 s2.2))] 13 rfl (by kernel_rfl) (by rfl) ?_ ?_
  · simp [hv7a, hv7b, hv7c, hv7d, hv8a, hv8b, hv8c, hv8d, hc10, hc10s] <;> simp [ieq, ilt, ile]
  refine hK6 _ ?_
  -- region 4
  refine VW.wr tau_ok Sound.none [some 14, some 15, some 8] [(0, .val (i64 a0)), (1, .val (dI a1)), (2, .val (dI a2)), (7, .ref 7 [] true (dI (s2.1 ++ [v9]))), (8, .val (i64 (w64 (s2.2 + 1))))] rfl ?_ ?_
  · simp <;> simp [ieq, ilt, ile]
  cases hx2o
  exact ⟨_, rfl, Fits.of rfl⟩

theorem s_l11Mul_b_ok {self : Int → (List Int) → (List Int) → (List Int) → Option (List Int)} (hself : ∀ {a0 a1 a2 a3} {r : List Int}, self a0 a1 a2 a3 = some r → VCall Try.prog 141 [i64 a0, dI a1, dI a2, dI a3] [.own true (dI r)]) {a0 : Int} {a1 : List Int} {a2 : List Int} {a3 : List Int} {r : List Int} (h : s_l11Mul_b self a0 a1 a2 a3 = some r) :
    VCall Try.prog 141 [i64 a0, dI a1, dI a2, dI a3] [.own true (dI r)] := by
  unfold s_l11Mul_b at h
  refine VCall.enter Try.call141 Try.func141 rfl 91 Try.ntmps141 (by simp) [.tmp 8] rfl ?_
  show VW _ _ _ (mk [(0, .val (i64 a0)), (1, .val (dI a1)), (2, .val (dI a2)), (3, .val (dI a3))]) _
  -- region 0
  refine VW.ws tau_ok Sound.none [some 8] [(0, .val (i64 a0)), (1, .val (dI a1)), (2, .val (dI a2)), (3, .val (dI a3))] rfl ?_ ?_
  · simp <;> simp [ieq, ilt, ile]
  refine VW.sqc fun K1 hK1 hCK1 => ?_
  -- region 1
  refine VW.ws tau_ok Sound.none [some 19, some 20, some 21] [(0, .val (i64 a0)), (1, .val (dI a1)), (2, .val (dI a2)), (3, .val (dI a3)), (21, .val (.bool (ieq (a1.length : Int) 0)))] rfl ?_ ?_
  · simp <;> simp [ieq, ilt, ile]
  refine VW.cond rfl (fun hb2 => ?_) (fun hb2 => ?_)
  ·
    replace hb2 : (a1.length : Int) = 0 := by simpa [ieq, ilt, ile] using hb2
    rw [if_pos hb2] at h
    -- region 2
    obtain ⟨v3, hv3, h⟩ := bind_some h
    obtain ⟨hv3a, hv3b, hv3c, hv3d⟩ := idx_some hv3
    replace hv3b : 0 < a2.length := hv3b
    replace hv3c : a2[0]? = some v3 := hv3c
    replace hv3d : ∀ h, a2[0]'h = v3 := hv3d
    obtain ⟨v4, hv4, h⟩ := bind_some h
    obtain ⟨hv4a, hv4b, hv4c, hv4d⟩ := idx_some hv4
    replace hv4b : 0 < a3.length := hv4b
    replace hv4c : a3[0]? = some v4 := hv4c
    replace hv4d : ∀ h, a3[0]'h = v4 := hv4d
    obtain ⟨v5, hv5, h⟩ := bind_some h
    refine VW.wds tau_ok (Sound.none.add 30 (s_l01Mod_ok hv5) rfl) try_mixed [some 22, some 23, some 24, some 25, some 26, some 27, some 28, some 29, some 30, some 31, some 8] [(8, .ref 8 [] true (dI [v5]))] 10 rfl (by kernel_rfl) (by rfl) ?_ ?_
    · simp [hv3a, hv3b, hv3c, hv3d, hv4a, hv4b, hv4c, hv4d] <;> simp [ieq, ilt, ile]
    cases h
    refine VW.ret ?_
    simp [Post, PostM, PostC, PostC2, Nx, Bk]
  replace hb2 : ¬ ((a1.length : Int) = 0) := by simpa [ieq, ilt, ile] using hb2
  rw [if_neg hb2] at h
  refine VW.skip ?_
  refine hK1 _ ?_
  -- region 3
  refine VW.ws tau_ok Sound.none [some 32, some 33, some 34, some 9] [(0, .val (i64 a0)), (1, .val (dI a1)), (2, .val (dI a2)), (3, .val (dI a3)), (9, .val (i64 (w64 ((a1.length : Int) - 1))))] rfl ?_ ?_
  · simp <;> simp [ieq, ilt, ile]
  -- region 4
  obtain ⟨hc6, h⟩ := chk_some h
  have hc6s := hc6
  try simp at hc6s
  obtain ⟨v7, hv7, h⟩ := bind_some h
  obtain ⟨hv7a, hv7b, hv7c, hv7d⟩ := idx_some hv7
  refine VW.wds tau_ok Sound.none try_mixed [some 35, some 36, some 37, some 38, some 39, some 40, some 41, some 42, some 43, some 44, some 10, some 11, some 12] [(0, .val (i64 a0)), (2, .val (dI a2)), (3, .val (dI a3)), (10, .val (i64 (w64 ((a2.length : Int).tdiv 2)))), (11, .val (dI (a1.take (w64 ((a1.length : Int) - 1)).toNat))), (12, .val (i64 v7))] 13 rfl (by kernel_rfl) (by rfl) ?_ ?_
  · simp [hc6, hc6s, hv7a, hv7b, hv7c, hv7d] <;> simp [ieq, ilt, ile]
  -- region 5
  obtain ⟨hc8, h⟩ := chk_some h
  have hc8s := hc8
  try simp at hc8s
  obtain ⟨hc9, h⟩ := chk_some h
  have hc9s := hc9
  try simp at hc9s
  obtain ⟨hc10, h⟩ := chk_some h
  have hc10s := hc10
  try simp at hc10s
  obtain ⟨hc11, h⟩ := chk_some h
  have hc11s := hc11
  try simp at hc11s
  refine VW.wds tau_ok Sound.none try_mixed [some 45, some 46, some 47, some 48, some 49, some 50, some 51, some 52, some 53, some 54, some 55, some 56, some 13, some 14, some 15, some 16] [(0, .val (i64 a0)), (11, .val (dI (a1.take (w64 ((a1.length : Int) - 1)).toNat))), (12, .val (i64 v7)), (13, .val (dI (a2.take (w64 ((a2.length : Int).tdiv 2)).toNat))), (14, .val (dI (a2.drop (w64 ((a2.length : Int).tdiv 2)).toNat))), (15, .val (dI (a3.take (w64 ((a2.length : Int).tdiv 2)).toNat))), (16, .val (dI (a3.drop (w64 ((a2.length : Int).tdiv 2)).toNat)))] 16 rfl (by kernel_rfl) (by rfl) ?_ ?_
  · simp [hc8, hc8s, hc9, hc9s, hc10, hc10s, hc11, hc11s] <;> simp [ieq, ilt, ile]
  -- region 6
  obtain ⟨v12, hv12, h⟩ := bind_some h
  obtain ⟨v13, hv13, h⟩ := bind_some h
  obtain ⟨v14, hv14, h⟩ := bind_some h
  obtain ⟨v15, hv15, h⟩ := bind_some h
  obtain ⟨v16, hv16, h⟩ := bind_some h
  refine VW.ws tau_ok (((((Sound.none.add 62 (hself hv12) rfl).add 69 (s_l11Star_ok hv13) rfl).add 71 (hself hv14) rfl).add 72 (s_l11Scale_ok hv15) rfl).add 73 (s_l11Add_ok hv16) rfl) [some 57, some 58, some 59, some 60, some 61, some 62, some 63, some 64, some 65, some 66, some 67, some 68, some 69, some 70, some 71, some 72, some 73, some 17] [(0, .val (i64 a0)), (11, .val (dI (a1.take (w64 ((a1.length : Int) - 1)).toNat))), (13, .val (dI (a2.take (w64 ((a2.length : Int).tdiv 2)).toNat))), (14, .val (dI (a2.drop (w64 ((a2.length : Int).tdiv 2)).toNat))), (15, .val (dI (a3.take (w64 ((a2.length : Int).tdiv 2)).toNat))), (16, .val (dI (a3.drop (w64 ((a2.length : Int).tdiv 2)).toNat))), (17, .ref 17 [] true (dI v16))] rfl ?_ ?_
  · simp <;> simp [ieq, ilt, ile]
  -- region 7
  obtain ⟨v17, hv17, h⟩ := bind_some h
  obtain ⟨v18, hv18, h⟩ := bind_some h
  obtain ⟨v19, hv19, h⟩ := bind_some h
  obtain ⟨v20, hv20, h⟩ := bind_some h
  refine VW.ws tau_ok ((((Sound.none.add 79 (hself hv17) rfl).add 85 (s_l11Star_ok hv18) rfl).add 86 (hself hv19) rfl).add 87 (s_l11Add_ok hv20) rfl) [some 74, some 75, some 76, some 77, some 78, some 79, some 80, some 81, some 82, some 83, some 84, some 85, some 86, some 87, some 18] [(17, .ref 17 [] true (dI v16)), (18, .ref 18 [] true (dI v20))] rfl ?_ ?_
  · simp <;> simp [ieq, ilt, ile]
  -- region 8
  obtain ⟨hc21, h⟩ := chk_some h
  have hc21s := hc21
  try simp at hc21s
  refine VW.ws tau_ok Sound.none [some 88, some 89, some 90, some 8] [(8, .ref 8 [] true (dI (v16 ++ v20)))] rfl ?_ ?_
  · simp [hc21, hc21s] <;> simp [ieq, ilt, ile]
  cases h
  refine VW.ret ?_
  simp [Post, PostM, PostC, PostC2, Nx, Bk]
theorem s_l11Mul_ok : ∀ {n : Nat} {a0 : Int} {a1 : List Int} {a2 : List Int} {a3 : List Int} {r : List Int} (_ : s_l11Mul n a0 a1 a2 a3 = some r),
    VCall Try.prog 141 [i64 a0, dI a1, dI a2, dI a3] [.own true (dI r)]
  | 0, _, _, _, _, _, h => by cases h
  | n + 1, _, _, _, _, _, h => s_l11Mul_b_ok (fun h => s_l11Mul_ok (n := n) h) h

theorem s_l11Times_ok {a0_0 : Int} {a0_1 : List Int} {a1 : List Int} {a2 : List Int} {r : List Int} (h : s_l11Times a0_0 a0_1 a1 a2 = some r) :
    VCall Try.prog 69 [.agg [i64 a0_0, dI a0_1], dI a1, dI a2] [.own true (dI r)] := by
  unfold s_l11Times at h
  refine VCall.enter Try.call69 Try.func69 rfl 14 Try.ntmps69 (by simp) [.tmp 6] rfl ?_
  show VW _ _ _ (mk [(0, .val (.agg [i64 a0_0, dI a0_1])), (1, .val (dI a1)), (2, .val (dI a2))]) _
  -- region 0
  refine VW.ws tau_ok Sound.none [some 3, some 6] [(1, .val (dI a1)), (2, .val (dI a2)), (3, .val (.ptr [i64 a0_0, dI a0_1]))] rfl ?_ ?_
  · simp <;> simp [ieq, ilt, ile]
  -- region 1
  obtain ⟨v1, hv1, h⟩ := bind_some h
  refine VW.ws tau_ok (Sound.none.add 13 (s_l11Mul_ok (n := BIG) hv1) rfl) [some 7, some 8, some 9, some 10, some 11, some 12, some 13, some 6] [(6, .ref 6 [] true (dI v1))] rfl ?_ ?_
  · simp <;> simp [ieq, ilt, ile]
  cases h
  refine VW.ret ?_
  simp [Post, PostM, PostC, PostC2, Nx, Bk]

theorem s_l11Basis_ok {a0_0 : Int} {a0_1 : List Int} {r : List (List Int)} (h : s_l11Basis a0_0 a0_1 = some r) :
    VCall Try.prog 64 [.agg [i64 a0_0, dI a0_1]] [.own true (dM r)] := by
  unfold s_l11Basis at h
  refine VCall.enter Try.call64 Try.func64 rfl 42 Try.ntmps64 (by simp) [.tmp 2] rfl ?_
  show VW _ _ _ (mk [(0, .val (.agg [i64 a0_0, dI a0_1]))]) _
  -- region 0
  refine VW.ws tau_ok Sound.none [some 1, some 2] [(1, .val (.ptr [i64 a0_0, dI a0_1]))] rfl ?_ ?_
  · simp <;> simp [ieq, ilt, ile]
  -- region 1
  refine VW.ws tau_ok Sound.none [some 7, some 3] [(1, .val (.ptr [i64 a0_0, dI a0_1])), (3, .ref 3 [] true (dM []))] rfl ?_ ?_
  · simp <;> simp [ieq, ilt, ile]
  refine VW.sqc fun K1 hK1 hCK1 => ?_
  -- region 2
  refine VW.ws tau_ok Sound.none [some 4] [(1, .val (.ptr [i64 a0_0, dI a0_1])), (3, .ref 3 [] true (dM [])), (4, .val (i64 0))] rfl ?_ ?_
  · simp <;> simp [ieq, ilt, ile]
  obtain ⟨x2, hx2, h⟩ := bind_some h
  refine VW.tlE [(3, .ref 3 [] true (dM x2))] (hCK1) ?_ ?_
  · clear hx2
    refine hK1 _ ?_
    -- region 11
    refine VW.ws tau_ok Sound.none [some 41, some 2] [(2, .ref 2 [] true (dM x2))] rfl ?_ ?_
    · simp <;> simp [ieq, ilt, ile]
    cases h
    refine VW.ret ?_
    simp [Post, PostM, PostC, PostC2, Nx, Bk]
  refine VW.block ?_
  refine VW.loopF (s_l11Basis_L0 a0_0 a0_1) (fun s2 => [(1, .val (.ptr [i64 a0_0, dI a0_1])), (3, .ref 3 [] true (dM s2.1)), (4, .val (i64 s2.2))]) hx2 (Fits.of rfl) ?_
  clear hx2
  intro s2 ox2 hx2o hx2b
  unfold s_l11Basis_L0 at hx2o
  refine VW.sqc fun K4 hK4 hCK4 => ?_
  -- region 3
  obtain ⟨v5, hv5, hx2o⟩ := bind_some hx2o
  refine VW.ws tau_ok (Sound.none.add 10 (s_l11Size_ok hv5) rfl) [some 8, some 9, some 10, some 11] [(1, .val (.ptr [i64 a0_0, dI a0_1])), (3, .ref 3 [] true (dM s2.1)), (4, .val (i64 s2.2)), (11, .val (.bool (ilt s2.2 v5)))] rfl ?_ ?_
  · simp <;> simp [ieq, ilt, ile]
  refine VW.cond rfl (fun hb6 => ?_) (fun hb6 => ?_)
  rotate_left
  ·
    replace hb6 : ¬ (s2.2 < v5) := by simpa [ieq, ilt, ile] using hb6
    rw [if_neg hb6] at hx2o
    refine VW.exit ?_
    cases hx2o
    have hq := hx2b _ rfl
    subst hq
    exact Fits.of rfl
  replace hb6 : s2.2 < v5 := by simpa [ieq, ilt, ile] using hb6
  rw [if_pos hb6] at hx2o
  refine VW.skip ?_
  refine hK4 _ ?_
  refine VW.sqc fun K7 hK7 hCK7 => ?_
  refine VW.block ?_
  -- region 5
  refine VW.ws tau_ok Sound.none [some 14, some 5] [(1, .val (.ptr [i64 a0_0, dI a0_1])), (3, .ref 3 [] true (dM s2.1)), (4, .val (i64 s2.2)), (5, .ref 5 [] true (dI []))] rfl ?_ ?_
  · simp <;> simp [ieq, ilt, ile]
  refine VW.sqc fun K8 hK8 hCK8 => ?_
  -- region 6
  refine VW.ws tau_ok Sound.none [some 6] [(1, .val (.ptr [i64 a0_0, dI a0_1])), (3, .ref 3 [] true (dM s2.1)), (4, .val (i64 s2.2)), (5, .ref 5 [] true (dI [])), (6, .val (i64 0))] rfl ?_ ?_
  · simp <;> simp [ieq, ilt, ile]
  obtain ⟨x9, hx9, hx2o⟩ := bind_some hx2o
  refine VW.tlE [(1, .val (.ptr [i64 a0_0, dI a0_1])), (3, .ref 3 [] true (dM s2.1)), (4, .val (i64 s2.2)), (5, .ref 5 [] true (dI x9))] (hCK8) ?_ ?_
  · clear hx9
    refine hK8 _ ?_
    -- region 10
    obtain ⟨hc20, hx2o⟩ := chk_some hx2o
    have hc20s := hc20
    try simp at hc20s
    refine VW.wr tau_ok Sound.none [some 37, some 38, some 39, some 40, some 3] [(1, .val (.ptr [i64 a0_0, dI a0_1])), (3, .ref 3 [] true (dM (s2.1 ++ [x9]))), (4, .val (i64 s2.2))] rfl ?_ ?_
    · simp [hc20, hc20s] <;> simp [ieq, ilt, ile]
    refine hK7 _ ?_
    -- region 4
    refine VW.wr tau_ok Sound.none [some 12, some 13, some 4] [(1, .val (.ptr [i64 a0_0, dI a0_1])), (3, .ref 3 [] true (dM (s2.1 ++ [x9]))), (4, .val (i64 (w64 (s2.2 + 1))))] rfl ?_ ?_
    · simp <;> simp [ieq, ilt, ile]
    cases hx2o
    exact ⟨_, rfl, Fits.of rfl⟩
  refine VW.block ?_
  refine VW.loopF (s_l11Basis_L1 a0_0 a0_1 s2) (fun s9 => [(1, .val (.ptr [i64 a0_0, dI a0_1])), (3, .ref 3 [] true (dM s2.1)), (4, .val (i64 s2.2)), (5, .ref 5 [] true (dI s9.1)), (6, .val (i64 s9.2))]) hx9 (Fits.of rfl) ?_
  clear hx9
  intro s9 ox9 hx9o hx9b
  unfold s_l11Basis_L1 at hx9o
  refine VW.sqc fun K11 hK11 hCK11 => ?_
  -- region 7
  obtain ⟨v12, hv12, hx9o⟩ := bind_some hx9o
  refine VW.ws tau_ok (Sound.none.add 17 (s_l11Size_ok hv12) rfl) [some 15, some 16, some 17, some 18] [(1, .val (.ptr [i64 a0_0, dI a0_1])), (3, .ref 3 [] true (dM s2.1)), (4, .val (i64 s2.2)), (5, .ref 5 [] true (dI s9.1)), (6, .val (i64 s9.2)), (18, .val (.bool (ilt s9.2 v12)))] rfl ?_ ?_
  · simp <;> simp [ieq, ilt, ile]
  refine VW.cond rfl (fun hb13 => ?_) (fun hb13 => ?_)
  rotate_left
  ·
    replace hb13 : ¬ (s9.2 < v12) := by simpa [ieq, ilt, ile] using hb13
    rw [if_neg hb13] at hx9o
    refine VW.exit ?_
    cases hx9o
    have hq := hx9b _ rfl
    subst hq
    exact Fits.of rfl
  replace hb13 : s9.2 < v12 := by simpa [ieq, ilt, ile] using hb13
  rw [if_pos hb13] at hx9o
  refine VW.skip ?_
  refine hK11 _ ?_
  refine VW.sqc fun K14 hK14 hCK14 => ?_
  refine VW.block ?_
  -- region 9
  obtain ⟨v15, hv15, hx9o⟩ := bind_some hx9o
  obtain ⟨v16, hv16, hx9o⟩ := bind_some hx9o
  obtain ⟨v17, hv17, hx9o⟩ := bind_some hx9o
  obtain ⟨v18, hv18, hx9o⟩ := bind_some hx9o
  obtain ⟨hv18a, hv18b, hv18c, hv18d⟩ := idx_some hv18
  obtain ⟨hc19, hx9o⟩ := chk_some hx9o
  have hc19s := hc19
  try simp at hc19s
  refine VW.wdr tau_ok (((Sound.none.add 25 (s_l11One_ok hv15) rfl).add 28 (s_l11One_ok hv16) rfl).add 29 (s_l11Times_ok hv17) rfl) try_mixed [some 21, some 22, some 23, some 24, some 25, some 26, some 27, some 28, some 29, some 30, some 31, some 32, some 33, some 34, some 35, some 36, some 5] [(1, .val (.ptr [i64 a0_0, dI a0_1])), (3, .ref 3 [] true (dM s2.1)), (4, .val (i64 s2.2)), (5, .ref 5 [] true (dI (s9.1 ++ [v18]))), (6, .val (i64 s9.2))] 15 rfl (by kernel_rfl) (by rfl) ?_ ?_
  · simp [hv18a, hv18b, hv18c, hv18d, hc19, hc19s] <;> simp [ieq, ilt, ile]
  refine hK14 _ ?_
  -- region 8
  refine VW.wr tau_ok Sound.none [some 19, some 20, some 6] [(1, .val (.ptr [i64 a0_0, dI a0_1])), (3, .ref 3 [] true (dM s2.1)), (4, .val (i64 s2.2)), (5, .ref 5 [] true (dI (s9.1 ++ [v18]))), (6, .val (i64 (w64 (s9.2 + 1))))] rfl ?_ ?_
  · simp <;> simp [ieq, ilt, ile]
  cases hx9o
  exact ⟨_, rfl, Fits.of rfl⟩

theorem s_l01Own_ok {a0 : List Int} {r : List Int} (h : s_l01Own a0 = some r) :
    VCall Try.prog 66 [dI a0] [.own true (dI r)] := by
  unfold s_l01Own at h
  refine VCall.enter Try.call66 Try.func66 rfl 6 Try.ntmps66 (by simp) [.tmp 2] rfl ?_
  show VW _ _ _ (mk [(0, .val (dI a0))]) _
  -- region 0
  refine VW.ws tau_ok Sound.none [some 2] [(0, .val (dI a0))] rfl ?_ ?_
  · simp <;> simp [ieq, ilt, ile]
  -- region 1
  obtain ⟨hc1, h⟩ := chk_some h
  have hc1s := hc1
  try simp at hc1s
  refine VW.ws tau_ok Sound.none [some 3, some 4, some 5, some 2] [(2, .ref 2 [] true (dI (([] : List Int) ++ a0)))] rfl ?_ ?_
  · simp [hc1, hc1s] <;> simp [ieq, ilt, ile]
  cases h
  refine VW.ret ?_
  simp [Post, PostM, PostC, PostC2, Nx, Bk]

theorem s_l01Inv_ok {a0 : Int} {a1 : Int} {r : Int} (h : s_l01Inv a0 a1 = some r) :
    VCall Try.prog 68 [i64 a0, i64 a1] [.sc (i64 r)] := by
  unfold s_l01Inv at h
  refine VCall.enter Try.call68 Try.func68 rfl 15 Try.ntmps68 (by simp) [.tmp 4] rfl ?_
  show VW _ _ _ (mk [(0, .val (i64 a0)), (1, .val (i64 a1))]) _
  -- region 0
  refine VW.ws tau_ok Sound.none [some 4] [(0, .val (i64 a0)), (1, .val (i64 a1))] rfl ?_ ?_
  · simp <;> simp [ieq, ilt, ile]
  -- region 1
  refine VW.ws tau_ok Sound.none [some 5] [(0, .val (i64 a0)), (1, .val (i64 a1)), (5, .val (i64 1))] rfl ?_ ?_
  · simp <;> simp [ieq, ilt, ile]
  refine VW.sqc fun K1 hK1 hCK1 => ?_
  obtain ⟨x2, hx2, h⟩ := bind_some h
  refine VW.tlE [(5, .val (i64 x2))] (hCK1) ?_ ?_
  · clear hx2
    refine hK1 _ ?_
    -- region 4
    refine VW.ws tau_ok Sound.none [some 14, some 4] [(4, .val (i64 x2))] rfl ?_ ?_
    · simp <;> simp [ieq, ilt, ile]
    cases h
    refine VW.ret ?_
    simp [Post, PostM, PostC, PostC2, Nx, Bk]
  refine VW.block ?_
  refine VW.loopF (s_l01Inv_L0 a0 a1) (fun s2 => [(0, .val (i64 a0)), (1, .val (i64 a1)), (5, .val (i64 s2))]) hx2 (Fits.of rfl) ?_
  clear hx2
  intro s2 ox2 hx2o hx2b
  unfold s_l01Inv_L0 at hx2o
  refine VW.sqc fun K4 hK4 hCK4 => ?_
  -- region 2
  obtain ⟨hc5, hx2o⟩ := chk_some hx2o
  have hc5s := hc5
  try simp at hc5s
  refine VW.ws tau_ok Sound.none [some 6, some 7, some 8, some 9, some 10, some 11] [(0, .val (i64 a0)), (1, .val (i64 a1)), (5, .val (i64 s2)), (11, .val (.bool (!(ieq ((w64 (a1 * s2)).tmod a0) 1))))] rfl ?_ ?_
  · simp [hc5, hc5s] <;> simp [ieq, ilt, ile]
  refine VW.cond rfl (fun hb6 => ?_) (fun hb6 => ?_)
  rotate_left
  ·
    replace hb6 : ¬ (¬ ((w64 (a1 * s2)).tmod a0) = 1) := by simpa [ieq, ilt, ile] using hb6
    rw [if_neg hb6] at hx2o
    refine VW.exit ?_
    cases hx2o
    have hq := hx2b _ rfl
    subst hq
    exact Fits.of rfl
  replace hb6 : ¬ ((w64 (a1 * s2)).tmod a0) = 1 := by simpa [ieq, ilt, ile] using hb6
  rw [if_pos hb6] at hx2o
  refine VW.skip ?_
  refine hK4 _ ?_
  refine VW.block ?_
  -- region 3
  refine VW.wr tau_ok Sound.none [some 12, some 13, some 5] [(0, .val (i64 a0)), (1, .val (i64 a1)), (5, .val (i64 (w64 (s2 + 1))))] rfl ?_ ?_
  · simp <;> simp [ieq, ilt, ile]
  cases hx2o
  exact ⟨_, rfl, Fits.of rfl⟩

theorem i_IsPrime_ok {a0 : Int} {r : Bool} (h : i_IsPrime a0 = some r) :
    VCall Try.prog 159 [i64 a0] [.sc (.bool r)] := by
  unfold i_IsPrime at h
  refine VCall.enter Try.call159 Try.func159 rfl 10 Try.ntmps159 (by simp) [.tmp 2] rfl ?_
  show VW _ _ _ (mk [(0, .val (i64 a0))]) _
  -- region 0
  refine VW.ws tau_ok Sound.none [some 2] [(0, .val (i64 a0))] rfl ?_ ?_
  · simp <;> simp [ieq, ilt, ile]
  refine VW.sqc fun K1 hK1 hCK1 => ?_
  -- region 1
  refine VW.ws tau_ok Sound.none [some 3] [(3, .val (i64 a0))] rfl ?_ ?_
  · simp <;> simp [ieq, ilt, ile]
  refine VW.block ?_
  refine VW.sqc fun K2 hK2 hCK2 => ?_
  -- region 2
  refine VW.ws tau_ok Sound.none [some 5, some 4] [(3, .val (i64 a0)), (4, .val (.bool (ieq a0 3)))] rfl ?_ ?_
  · simp <;> simp [ieq, ilt, ile]
  obtain ⟨x3, hx3, h⟩ := bind_some h
  refine VW.tlE [(4, .val (.bool x3))] (hCK2) ?_ ?_
  · clear hx3
    refine hK2 _ ?_
    refine VW.cond rfl (fun hb9 => ?_) (fun hb9 => ?_)
    ·
      replace hb9 : x3 = true := by simpa [ieq, ilt, ile] using hb9
      rw [if_pos hb9] at h
      -- region 7
      refine VW.ws tau_ok Sound.none [some 2] [(2, .val (.bool true))] rfl ?_ ?_
      · simp <;> simp [ieq, ilt, ile]
      cases h
      refine VW.ret ?_
      simp [Post, PostM, PostC, PostC2, Nx, Bk]
    replace hb9 : ¬ (x3 = true) := by simpa [ieq, ilt, ile] using hb9
    rw [if_neg hb9] at h
    refine VW.skip ?_
    refine hK1 _ ?_
    -- region 8
    refine VW.ws tau_ok Sound.none [some 2] [(2, .val (.bool false))] rfl ?_ ?_
    · simp <;> simp [ieq, ilt, ile]
    cases h
    refine VW.ret ?_
    simp [Post, PostM, PostC, PostC2, Nx, Bk]
  refine VW.cond rfl (fun hb5 => ?_) (fun hb5 => ?_)
  ·
    replace hb5 : a0 = 3 := by simpa [ieq, ilt, ile] using hb5
    rw [if_pos hb5] at hx3
    refine VW.skip ?_
    cases hx3
    exact Fits.of rfl
  replace hb5 : ¬ (a0 = 3) := by simpa [ieq, ilt, ile] using hb5
  rw [if_neg hb5] at hx3
  -- region 3
  refine VW.ws tau_ok Sound.none [some 6, some 4] [(3, .val (i64 a0)), (4, .val (.bool (ieq a0 5)))] rfl ?_ ?_
  · simp <;> simp [ieq, ilt, ile]
  refine VW.cond rfl (fun hb6 => ?_) (fun hb6 => ?_)
  ·
    replace hb6 : a0 = 5 := by simpa [ieq, ilt, ile] using hb6
    rw [if_pos hb6] at hx3
    refine VW.skip ?_
    cases hx3
    exact Fits.of rfl
  replace hb6 : ¬ (a0 = 5) := by simpa [ieq, ilt, ile] using hb6
  rw [if_neg hb6] at hx3
  -- region 4
  refine VW.ws tau_ok Sound.none [some 7, some 4] [(3, .val (i64 a0)), (4, .val (.bool (ieq a0 7)))] rfl ?_ ?_
  · simp <;> simp [ieq, ilt, ile]
  refine VW.cond rfl (fun hb7 => ?_) (fun hb7 => ?_)
  ·
    replace hb7 : a0 = 7 := by simpa [ieq, ilt, ile] using hb7
    rw [if_pos hb7] at hx3
    refine VW.skip ?_
    cases hx3
    exact Fits.of rfl
  replace hb7 : ¬ (a0 = 7) := by simpa [ieq, ilt, ile] using hb7
  rw [if_neg hb7] at hx3
  -- region 5
  refine VW.ws tau_ok Sound.none [some 8, some 4] [(3, .val (i64 a0)), (4, .val (.bool (ieq a0 11)))] rfl ?_ ?_
  · simp <;> simp [ieq, ilt, ile]
  refine VW.cond rfl (fun hb8 => ?_) (fun hb8 => ?_)
  ·
    replace hb8 : a0 = 11 := by simpa [ieq, ilt, ile] using hb8
    rw [if_pos hb8] at hx3
    refine VW.skip ?_
    cases hx3
    exact Fits.of rfl
  replace hb8 : ¬ (a0 = 11) := by simpa [ieq, ilt, ile] using hb8
  rw [if_neg hb8] at hx3
  -- region 6
  refine VW.wr tau_ok Sound.none [some 9, some 4] [(4, .val (.bool (ieq a0 13)))] rfl ?_ ?_
  · simp <;> simp [ieq, ilt, ile]
  cases hx3
  exact Fits.of rfl

theorem i_Doubling_field_ok {a0_0 : Int} {a0_1 : List Int} {r : Int} (h : i_Doubling_field a0_0 a0_1 = some r) :
    VCall Try.prog 129 [.agg [i64 a0_0, dI a0_1]] [.sc (i64 r)] := by
  unfold i_Doubling_field at h
  refine VCall.enter Try.call129 Try.func129 rfl 5 Try.ntmps129 (by simp) [.tmp 2] rfl ?_
  show VW _ _ _ (mk [(0, .val (.agg [i64 a0_0, dI a0_1]))]) _
  -- region 0
  refine VW.ws tau_ok Sound.none [some 1, some 2] [(1, .val (.ptr [i64 a0_0, dI a0_1]))] rfl ?_ ?_
  · simp <;> simp [ieq, ilt, ile]
  -- region 1
  refine VW.ws tau_ok Sound.none [some 3, some 4, some 2] [(2, .val (i64 a0_0))] rfl ?_ ?_
  · simp <;> simp [ieq, ilt, ile]
  cases h
  refine VW.ret ?_
  simp [Post, PostM, PostC, PostC2, Nx, Bk]

theorem i_inRange_ok {a0 : Int} {a1 : Int} {a2 : Int} {r : Bool} (h : i_inRange a0 a1 a2 = some r) :
    VCall Try.prog 134 [i64 a0, i64 a1, i64 a2] [.sc (.bool r)] := by
  unfold i_inRange at h
  refine VCall.enter Try.call134 Try.func134 rfl 15 Try.ntmps134 (by simp) [.tmp 6] rfl ?_
  show VW _ _ _ (mk [(0, .val (i64 a0)), (1, .val (i64 a1)), (2, .val (i64 a2))]) _
  -- region 0
  refine VW.ws tau_ok Sound.none [some 6] [(0, .val (i64 a0)), (1, .val (i64 a1)), (2, .val (i64 a2))] rfl ?_ ?_
  · simp <;> simp [ieq, ilt, ile]
  -- region 1
  obtain ⟨x2, hx2, h⟩ := bind_some h
  refine VW.cut [(6, .val (.bool x2))] ?_ fun hy => ?_
  rotate_left
  · clear h
    by_cases hp1 : a1 ≤ a0
    · rw [if_pos hp1] at hx2
      have hp1b : ile a1 a0 = true := by simpa [ieq, ilt, ile] using hp1
      have hp1s := hp1b
      try simp at hp1s
      cases hx2
      refine VW.ws tau_ok Sound.none [some 7, some 8, some 9, some 10, some 11, some 12, some 13, some 14, some 6] _ rfl ?_ hy
      simp [hp1b, hp1s] <;> simp [ieq, ilt, ile]
    · rw [if_neg hp1] at hx2
      have hp1b : ile a1 a0 = false := by simpa [ieq, ilt, ile] using hp1
      have hp1s := hp1b
      try simp at hp1s
      cases hx2
      refine VW.ws tau_ok Sound.none [some 7, some 8, some 9, some 10, some 11, some 12, some 13, some 14, some 6] _ rfl ?_ hy
      simp [hp1b, hp1s] <;> simp [ieq, ilt, ile]
  cases h
  refine VW.ret ?_
  simp [Post, PostM, PostC, PostC2, Nx, Bk]

theorem i_field_is_ok {a0 : Int} {a1 : List Int} {r : Bool} (h : i_field_is a0 a1 = some r) :
    VCall Try.prog 173 [i64 a0, dI a1] [.sc (.bool r)] := by
  unfold i_field_is at h
  refine VCall.enter Try.call173 Try.func173 rfl 19 Try.ntmps173 (by simp) [.tmp 4] rfl ?_
  show VW _ _ _ (mk [(0, .val (i64 a0)), (1, .val (dI a1))]) _
  -- region 0
  refine VW.ws tau_ok Sound.none [some 4] [(0, .val (i64 a0)), (1, .val (dI a1))] rfl ?_ ?_
  · simp <;> simp [ieq, ilt, ile]
  refine VW.sqc fun K1 hK1 hCK1 => ?_
  -- region 1
  refine VW.ws tau_ok Sound.none [some 7, some 8, some 9] [(0, .val (i64 a0)), (7, .val (dI a1)), (8, .val (i64 (a1.length : Int))), (9, .val (i64 0))] rfl ?_ ?_
  · simp <;> simp [ieq, ilt, ile]
  obtain ⟨x2, hx2, h⟩ := bind_some h
  refine VW.tlO (fun y4 => []) x2 (hCK1) ?_ ?_
  · clear hx2
    rintro y4 rfl
    dsimp only at h
    refine hK1 _ ?_
    -- region 7
    refine VW.ws tau_ok Sound.none [some 4] [(4, .val (.bool true))] rfl ?_ ?_
    · simp <;> simp [ieq, ilt, ile]
    cases h
    refine VW.ret ?_
    simp [Post, PostM, PostC, PostC2, Nx, Bk]
  refine VW.block ?_
  refine VW.loopF (i_field_is_L0 a0 a1) (fun s2 => [(0, .val (i64 a0)), (7, .val (dI a1)), (8, .val (i64 (a1.length : Int))), (9, .val (i64 s2))]) hx2 (Fits.of rfl) ?_
  clear hx2
  intro s2 ox2 hx2o hx2b
  unfold i_field_is_L0 at hx2o
  -- region 2
  refine VW.ws tau_ok Sound.none [some 10] [(0, .val (i64 a0)), (7, .val (dI a1)), (8, .val (i64 (a1.length : Int))), (9, .val (i64 s2)), (10, .val (.bool (ilt s2 (a1.length : Int))))] rfl ?_ ?_
  · simp <;> simp [ieq, ilt, ile]
  refine VW.sqc fun K5 hK5 hCK5 => ?_
  refine VW.cond rfl (fun hb6 => ?_) (fun hb6 => ?_)
  rotate_left
  ·
    replace hb6 : ¬ (s2 < (a1.length : Int)) := by simpa [ieq, ilt, ile] using hb6
    rw [if_neg hb6] at hx2o
    refine VW.exit ?_
    cases hx2o
    have hq := hx2b _ rfl
    subst hq
    exact ⟨_, rfl, Fits.of rfl⟩
  replace hb6 : s2 < (a1.length : Int) := by simpa [ieq, ilt, ile] using hb6
  rw [if_pos hb6] at hx2o
  refine VW.skip ?_
  refine hK5 _ ?_
  refine VW.sqc fun K7 hK7 hCK7 => ?_
  refine VW.block ?_
  -- region 3
  obtain ⟨v8, hv8, hx2o⟩ := bind_some hx2o
  obtain ⟨hv8a, hv8b, hv8c, hv8d⟩ := idx_some hv8
  refine VW.ws tau_ok Sound.none [some 11, some 12, some 6] [(0, .val (i64 a0)), (6, .val (i64 v8)), (7, .val (dI a1)), (8, .val (i64 (a1.length : Int))), (9, .val (i64 s2))] rfl ?_ ?_
  · simp [hv8a, hv8b, hv8c, hv8d] <;> simp [ieq, ilt, ile]
  -- region 4
  obtain ⟨v9, hv9, hx2o⟩ := bind_some hx2o
  refine VW.ws tau_ok (Sound.none.add 16 (i_inRange_ok hv9) rfl) [some 13, some 14, some 15, some 16, some 17] [(0, .val (i64 a0)), (7, .val (dI a1)), (8, .val (i64 (a1.length : Int))), (9, .val (i64 s2)), (17, .val (.bool (!v9)))] rfl ?_ ?_
  · simp <;> simp [ieq, ilt, ile]
  refine VW.cond rfl (fun hb10 => ?_) (fun hb10 => ?_)
  rotate_left
  ·
    replace hb10 : ¬ (v9 = false) := by simpa [ieq, ilt, ile] using hb10
    rw [if_neg hb10] at hx2o
    refine VW.skip ?_
    refine hK7 _ ?_
    -- region 6
    refine VW.wr tau_ok Sound.none [some 18, some 9] [(0, .val (i64 a0)), (7, .val (dI a1)), (8, .val (i64 (a1.length : Int))), (9, .val (i64 (w64 (s2 + 1))))] rfl ?_ ?_
    · simp <;> simp [ieq, ilt, ile]
    cases hx2o
    exact ⟨_, rfl, Fits.of rfl⟩
  replace hb10 : v9 = false := by simpa [ieq, ilt, ile] using hb10
  rw [if_pos hb10] at hx2o
  -- region 5
  refine VW.ws tau_ok Sound.none [some 4] [(4, .val (.bool false))] rfl ?_ ?_
  · simp <;> simp [ieq, ilt, ile]
  cases hx2o
  have hq := hx2b _ rfl
  subst hq
  dsimp only at h
  cases h
  refine VW.ret ?_
  simp [Post, PostM, PostC, PostC2, Nx, Bk]

theorem g_slices_Index_LI_I_ok {a0 : List Int} {a1 : Int} {r : Int} (h : g_slices_Index_LI_I a0 a1 = some r) :
    VCall Try.prog 194 [dI a0, i64 a1] [.sc (i64 r)] := by
  unfold g_slices_Index_LI_I at h
  refine VCall.enter Try.call194 Try.func194 rfl 19 Try.ntmps194 (by simp) [.tmp 4] rfl ?_
  show VW _ _ _ (mk [(0, .val (dI a0)), (1, .val (i64 a1))]) _
  -- region 0
  refine VW.ws tau_ok Sound.none [some 4] [(0, .val (dI a0)), (1, .val (i64 a1))] rfl ?_ ?_
  · simp <;> simp [ieq, ilt, ile]
  refine VW.sqc fun K1 hK1 hCK1 => ?_
  -- region 1
  refine VW.ws tau_ok Sound.none [some 6, some 7, some 8] [(0, .val (dI a0)), (1, .val (i64 a1)), (7, .val (i64 (a0.length : Int))), (8, .val (i64 0))] rfl ?_ ?_
  · simp <;> simp [ieq, ilt, ile]
  obtain ⟨x2, hx2, h⟩ := bind_some h
  refine VW.tlO (fun y4 => []) x2 (hCK1) ?_ ?_
  · clear hx2
    rintro y4 rfl
    dsimp only at h
    refine hK1 _ ?_
    -- region 7
    refine VW.ws tau_ok Sound.none [some 4] [(4, .val (i64 (-1)))] rfl ?_ ?_
    · simp <;> simp [ieq, ilt, ile]
    cases h
    refine VW.ret ?_
    simp [Post, PostM, PostC, PostC2, Nx, Bk]
  refine VW.block ?_
  refine VW.loopF (g_slices_Index_LI_I_L0 a0 a1) (fun s2 => [(0, .val (dI a0)), (1, .val (i64 a1)), (7, .val (i64 (a0.length : Int))), (8, .val (i64 s2))]) hx2 (Fits.of rfl) ?_
  clear hx2
  intro s2 ox2 hx2o hx2b
  unfold g_slices_Index_LI_I_L0 at hx2o
  -- region 2
  refine VW.ws tau_ok Sound.none [some 9] [(0, .val (dI a0)), (1, .val (i64 a1)), (7, .val (i64 (a0.length : Int))), (8, .val (i64 s2)), (9, .val (.bool (ilt s2 (a0.length : Int))))] rfl ?_ ?_
  · simp <;> simp [ieq, ilt, ile]
  refine VW.sqc fun K5 hK5 hCK5 => ?_
  refine VW.cond rfl (fun hb6 => ?_) (fun hb6 => ?_)
  rotate_left
  ·
    replace hb6 : ¬ (s2 < (a0.length : Int)) := by simpa [ieq, ilt, ile] using hb6
    rw [if_neg hb6] at hx2o
    refine VW.exit ?_
    cases hx2o
    have hq := hx2b _ rfl
    subst hq
    exact ⟨_, rfl, Fits.of rfl⟩
  replace hb6 : s2 < (a0.length : Int) := by simpa [ieq, ilt, ile] using hb6
  rw [if_pos hb6] at hx2o
  refine VW.skip ?_
  refine hK5 _ ?_
  refine VW.sqc fun K7 hK7 hCK7 => ?_
  refine VW.block ?_
  -- region 3
  refine VW.ws tau_ok Sound.none [some 10, some 5] [(0, .val (dI a0)), (1, .val (i64 a1)), (5, .val (i64 s2)), (7, .val (i64 (a0.length : Int))), (8, .val (i64 s2))] rfl ?_ ?_
  · simp <;> simp [ieq, ilt, ile]
  -- region 4
  obtain ⟨v8, hv8, hx2o⟩ := bind_some hx2o
  obtain ⟨hv8a, hv8b, hv8c, hv8d⟩ := idx_some hv8
  refine VW.ws tau_ok Sound.none [some 11, some 12, some 13, some 14, some 15, some 16] [(0, .val (dI a0)), (1, .val (i64 a1)), (5, .val (i64 s2)), (7, .val (i64 (a0.length : Int))), (8, .val (i64 s2)), (16, .val (.bool (ieq a1 v8)))] rfl ?_ ?_
  · simp [hv8a, hv8b, hv8c, hv8d] <;> simp [ieq, ilt, ile]
  refine VW.cond rfl (fun hb9 => ?_) (fun hb9 => ?_)
  rotate_left
  ·
    replace hb9 : ¬ (a1 = v8) := by simpa [ieq, ilt, ile] using hb9
    rw [if_neg hb9] at hx2o
    refine VW.skip ?_
    refine hK7 _ ?_
    -- region 6
    refine VW.wr tau_ok Sound.none [some 18, some 8] [(0, .val (dI a0)), (1, .val (i64 a1)), (7, .val (i64 (a0.length : Int))), (8, .val (i64 (w64 (s2 + 1))))] rfl ?_ ?_
    · simp <;> simp [ieq, ilt, ile]
    cases hx2o
    exact ⟨_, rfl, Fits.of rfl⟩
  replace hb9 : a1 = v8 := by simpa [ieq, ilt, ile] using hb9
  rw [if_pos hb9] at hx2o
  -- region 5
  refine VW.ws tau_ok Sound.none [some 17, some 4] [(4, .val (i64 s2))] rfl ?_ ?_
  · simp <;> simp [ieq, ilt, ile]
  cases hx2o
  have hq := hx2b _ rfl
  subst hq
  dsimp only at h
  cases h
  refine VW.ret ?_
  simp [Post, PostM, PostC, PostC2, Nx, Bk]

theorem g_slices_Contains_LI_I_ok {a0 : List Int} {a1 : Int} {r : Bool} (h : g_slices_Contains_LI_I a0 a1 = some r) :
    VCall Try.prog 174 [dI a0, i64 a1] [.sc (.bool r)] := by
  unfold g_slices_Contains_LI_I at h
  refine VCall.enter Try.call174 Try.func174 rfl 9 Try.ntmps174 (by simp) [.tmp 4] rfl ?_
  show VW _ _ _ (mk [(0, .val (dI a0)), (1, .val (i64 a1))]) _
  -- region 0
  refine VW.ws tau_ok Sound.none [some 4] [(0, .val (dI a0)), (1, .val (i64 a1))] rfl ?_ ?_
  · simp <;> simp [ieq, ilt, ile]
  -- region 1
  obtain ⟨v1, hv1, h⟩ := bind_some h
  refine VW.ws tau_ok (Sound.none.add 7 (g_slices_Index_LI_I_ok hv1) rfl) [some 5, some 6, some 7, some 8, some 4] [(4, .val (.bool (ile 0 v1)))] rfl ?_ ?_
  · simp <;> simp [ieq, ilt, ile]
  cases h
  refine VW.ret ?_
  simp [Post, PostM, PostC, PostC2, Nx, Bk]
end Go.Vam
