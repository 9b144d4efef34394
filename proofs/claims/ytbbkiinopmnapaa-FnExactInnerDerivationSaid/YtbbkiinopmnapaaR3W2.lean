import Derived.Test.YtbbkiinopmnapaaR3T
import Derived.Test.YtbbkiinopmnapaaFnD
import Derived.Test.YtbbkiinopmnapaaR3W1
namespace Go.Vam
open Go Go.RowKit Go.Proofs
set_option maxRecDepth 100000
set_option linter.unusedSimpArgs false
set_option linter.unusedVariables false

theorem s_l11Is_ok {a0_0 : Int} {a0_1 : List Int} {r : Bool} (h : s_l11Is a0_0 a0_1 = some r) :
    VCall Try.prog 153 [.agg [i64 a0_0, dI a0_1]] [.sc (.bool r)] := by
  unfold s_l11Is at h
  refine VCall.enter Try.call153 Try.func153 rfl 31 Try.ntmps153 (by simp) [.tmp 2] rfl ?_
  show VW _ _ _ (mk [(0, .val (.agg [i64 a0_0, dI a0_1]))]) _
  -- region 0
  refine VW.ws tau_ok Sound.none [some 1, some 2] [(1, .val (.ptr [i64 a0_0, dI a0_1]))] rfl ?_ ?_
  · simp <;> simp [ieq, ilt, ile]
  refine VW.sqc fun K1 hK1 hCK1 => ?_
  -- region 1
  obtain ⟨x4, hx4, h⟩ := bind_some h
  refine VW.cut [(1, .val (.ptr [i64 a0_0, dI a0_1])), (13, .val (.bool x4))] ?_ fun hy => ?_
  rotate_left
  · clear h
    obtain ⟨v2, hv2, hx4⟩ := bind_some hx4
    by_cases hp3 : v2 = false
    · rw [if_pos hp3] at hx4
      have hp3b : v2 = false := by simpa [ieq, ilt, ile] using hp3
      have hp3s := hp3b
      try simp at hp3s
      cases hx4
      refine VW.ws tau_ok (Sound.none.add 6 (s_l01Prime_ok hv2) rfl) [some 4, some 5, some 6, some 7, some 8, some 9, some 10, some 11, some 12, some 13] _ rfl ?_ hy
      simp [hp3b, hp3s] <;> simp [ieq, ilt, ile]
    · rw [if_neg hp3] at hx4
      have hp3b : v2 = true := by simpa [ieq, ilt, ile] using hp3
      have hp3s := hp3b
      try simp at hp3s
      cases hx4
      refine VW.ws tau_ok (Sound.none.add 6 (s_l01Prime_ok hv2) rfl) [some 4, some 5, some 6, some 7, some 8, some 9, some 10, some 11, some 12, some 13] _ rfl ?_ hy
      simp [hp3b, hp3s] <;> simp [ieq, ilt, ile]
  refine VW.cond rfl (fun hb5 => ?_) (fun hb5 => ?_)
  ·
    replace hb5 : x4 = true := by simpa [ieq, ilt, ile] using hb5
    rw [if_pos hb5] at h
    -- region 2
    refine VW.ws tau_ok Sound.none [some 2] [(2, .val (.bool false))] rfl ?_ ?_
    · simp <;> simp [ieq, ilt, ile]
    cases h
    refine VW.ret ?_
    simp [Post, PostM, PostC, PostC2, Nx, Bk]
  replace hb5 : ¬ (x4 = true) := by simpa [ieq, ilt, ile] using hb5
  rw [if_neg hb5] at h
  refine VW.skip ?_
  refine hK1 _ ?_
  refine VW.sqc fun K6 hK6 hCK6 => ?_
  -- region 3
  refine VW.ws tau_ok Sound.none [some 3] [(1, .val (.ptr [i64 a0_0, dI a0_1])), (3, .val (i64 0))] rfl ?_ ?_
  · simp <;> simp [ieq, ilt, ile]
  obtain ⟨x7, hx7, h⟩ := bind_some h
  refine VW.tlO (fun y9 => []) x7 (hCK6) ?_ ?_
  · clear hx7
    rintro y9 rfl
    dsimp only at h
    refine hK6 _ ?_
    -- region 8
    refine VW.ws tau_ok Sound.none [some 2] [(2, .val (.bool true))] rfl ?_ ?_
    · simp <;> simp [ieq, ilt, ile]
    cases h
    refine VW.ret ?_
    simp [Post, PostM, PostC, PostC2, Nx, Bk]
  refine VW.block ?_
  refine VW.loopF (s_l11Is_L0 a0_0 a0_1) (fun s7 => [(1, .val (.ptr [i64 a0_0, dI a0_1])), (3, .val (i64 s7))]) hx7 (Fits.of rfl) ?_
  clear hx7
  intro s7 ox7 hx7o hx7b
  unfold s_l11Is_L0 at hx7o
  refine VW.sqc fun K10 hK10 hCK10 => ?_
  -- region 4
  refine VW.ws tau_ok Sound.none [some 14, some 15, some 16, some 17, some 18] [(1, .val (.ptr [i64 a0_0, dI a0_1])), (3, .val (i64 s7)), (18, .val (.bool (ilt s7 (a0_1.length : Int))))] rfl ?_ ?_
  · simp <;> simp [ieq, ilt, ile]
  refine VW.cond rfl (fun hb11 => ?_) (fun hb11 => ?_)
  rotate_left
  ·
    replace hb11 : ¬ (s7 < (a0_1.length : Int)) := by simpa [ieq, ilt, ile] using hb11
    rw [if_neg hb11] at hx7o
    refine VW.exit ?_
    cases hx7o
    have hq := hx7b _ rfl
    subst hq
    exact ⟨_, rfl, Fits.of rfl⟩
  replace hb11 : s7 < (a0_1.length : Int) := by simpa [ieq, ilt, ile] using hb11
  rw [if_pos hb11] at hx7o
  refine VW.skip ?_
  refine hK10 _ ?_
  refine VW.sqc fun K12 hK12 hCK12 => ?_
  refine VW.block ?_
  -- region 6
  obtain ⟨v13, hv13, hx7o⟩ := bind_some hx7o
  obtain ⟨hv13a, hv13b, hv13c, hv13d⟩ := idx_some hv13
  obtain ⟨v14, hv14, hx7o⟩ := bind_some hx7o
  refine VW.wds tau_ok (Sound.none.add 29 (s_l01In_ok hv14) rfl) try_mixed [some 21, some 22, some 23, some 24, some 25, some 26, some 27, some 28, some 29, some 30] [(1, .val (.ptr [i64 a0_0, dI a0_1])), (3, .val (i64 s7)), (30, .val (.bool (!v14)))] 10 rfl (by kernel_rfl) (by rfl) ?_ ?_
  · simp [hv13a, hv13b, hv13c, hv13d] <;> simp [ieq, ilt, ile]
  refine VW.cond rfl (fun hb15 => ?_) (fun hb15 => ?_)
  rotate_left
  ·
    replace hb15 : ¬ (v14 = false) := by simpa [ieq, ilt, ile] using hb15
    rw [if_neg hb15] at hx7o
    refine VW.skip ?_
    refine hK12 _ ?_
    -- region 5
    refine VW.wr tau_ok Sound.none [some 19, some 20, some 3] [(1, .val (.ptr [i64 a0_0, dI a0_1])), (3, .val (i64 (w64 (s7 + 1))))] rfl ?_ ?_
    · simp <;> simp [ieq, ilt, ile]
    cases hx7o
    exact ⟨_, rfl, Fits.of rfl⟩
  replace hb15 : v14 = false := by simpa [ieq, ilt, ile] using hb15
  rw [if_pos hb15] at hx7o
  -- region 7
  refine VW.ws tau_ok Sound.none [some 2] [(2, .val (.bool false))] rfl ?_ ?_
  · simp <;> simp [ieq, ilt, ile]
  cases hx7o
  have hq := hx7b _ rfl
  subst hq
  dsimp only at h
  cases h
  refine VW.ret ?_
  simp [Post, PostM, PostC, PostC2, Nx, Bk]

theorem s_l14Code_ok {a0_0 : Int} {a0_1 : List Int} {r : Int} (h : s_l14Code a0_0 a0_1 = some r) :
    VCall Try.prog 83 [.agg [i64 a0_0, dI a0_1]] [.sc (i64 r)] := by
  unfold s_l14Code at h
  refine VCall.enter Try.call83 Try.func83 rfl 12 Try.ntmps83 (by simp) [.tmp 2] rfl ?_
  show VW _ _ _ (mk [(0, .val (.agg [i64 a0_0, dI a0_1]))]) _
  -- region 0
  refine VW.ws tau_ok Sound.none [some 1, some 2] [(1, .val (.ptr [i64 a0_0, dI a0_1]))] rfl ?_ ?_
  · simp <;> simp [ieq, ilt, ile]
  refine VW.sqc fun K1 hK1 hCK1 => ?_
  refine VW.block ?_
  -- region 1
  obtain ⟨v2, hv2, h⟩ := bind_some h
  refine VW.ws tau_ok (Sound.none.add 5 (s_l11Is_ok hv2) rfl) [some 4, some 5, some 6, some 3] [(1, .val (.ptr [i64 a0_0, dI a0_1])), (3, .val (.bool (!v2)))] rfl ?_ ?_
  · simp <;> simp [ieq, ilt, ile]
  refine VW.cond rfl (fun hb3 => ?_) (fun hb3 => ?_)
  ·
    replace hb3 : v2 = false := by simpa [ieq, ilt, ile] using hb3
    rw [if_pos hb3] at h
    -- region 2
    refine VW.ws tau_ok Sound.none [some 2] [(2, .val (i64 1))] rfl ?_ ?_
    · simp <;> simp [ieq, ilt, ile]
    cases h
    refine VW.ret ?_
    simp [Post, PostM, PostC, PostC2, Nx, Bk]
  replace hb3 : ¬ (v2 = false) := by simpa [ieq, ilt, ile] using hb3
  rw [if_neg hb3] at h
  -- region 3
  refine VW.ws tau_ok Sound.none [some 8, some 9, some 10, some 11, some 7] [(7, .val (.bool (ilt 3 (a0_1.length : Int))))] rfl ?_ ?_
  · simp <;> simp [ieq, ilt, ile]
  refine VW.cond rfl (fun hb4 => ?_) (fun hb4 => ?_)
  ·
    replace hb4 : 3 < (a0_1.length : Int) := by simpa [ieq, ilt, ile] using hb4
    rw [if_pos hb4] at h
    -- region 4
    refine VW.ws tau_ok Sound.none [some 2] [(2, .val (i64 3))] rfl ?_ ?_
    · simp <;> simp [ieq, ilt, ile]
    cases h
    refine VW.ret ?_
    simp [Post, PostM, PostC, PostC2, Nx, Bk]
  replace hb4 : ¬ (3 < (a0_1.length : Int)) := by simpa [ieq, ilt, ile] using hb4
  rw [if_neg hb4] at h
  refine VW.skip ?_
  refine hK1 _ ?_
  -- region 5
  refine VW.ws tau_ok Sound.none [some 2] [(2, .val (i64 0))] rfl ?_ ?_
  · simp <;> simp [ieq, ilt, ile]
  cases h
  refine VW.ret ?_
  simp [Post, PostM, PostC, PostC2, Nx, Bk]

theorem s_l11Size_ok {a0_0 : Int} {a0_1 : List Int} {r : Int} (h : s_l11Size a0_0 a0_1 = some r) :
    VCall Try.prog 155 [.agg [i64 a0_0, dI a0_1]] [.sc (i64 r)] := by
  unfold s_l11Size at h
  refine VCall.enter Try.call155 Try.func155 rfl 8 Try.ntmps155 (by simp) [.tmp 2] rfl ?_
  show VW _ _ _ (mk [(0, .val (.agg [i64 a0_0, dI a0_1]))]) _
  -- region 0
  refine VW.ws tau_ok Sound.none [some 1, some 2] [(1, .val (.ptr [i64 a0_0, dI a0_1]))] rfl ?_ ?_
  · simp <;> simp [ieq, ilt, ile]
  -- region 1
  obtain ⟨hc1, h⟩ := chk_some h
  have hc1s := hc1
  try simp at hc1s
  refine VW.ws tau_ok Sound.none [some 3, some 4, some 5, some 6, some 7, some 2] [(2, .val (i64 (shl .i64 1 (IntKind.u64.wrap ((a0_1.length : Int))))))] rfl ?_ ?_
  · simp [hc1, hc1s] <;> simp [ieq, ilt, ile]
  cases h
  refine VW.ret ?_
  simp [Post, PostM, PostC, PostC2, Nx, Bk]

theorem s_l11One_ok {a0_0 : Int} {a0_1 : List Int} {a1 : Int} {r : List Int} (h : s_l11One a0_0 a0_1 a1 = some r) :
    VCall Try.prog 204 [.agg [i64 a0_0, dI a0_1], i64 a1] [.own true (dI r)] := by
  unfold s_l11One at h
  refine VCall.enter Try.call204 Try.func204 rfl 13 Try.ntmps204 (by simp) [.tmp 4] rfl ?_
  show VW _ _ _ (mk [(0, .val (.agg [i64 a0_0, dI a0_1])), (1, .val (i64 a1))]) _
  -- region 0
  refine VW.ws tau_ok Sound.none [some 2, some 4] [(1, .val (i64 a1)), (2, .val (.ptr [i64 a0_0, dI a0_1]))] rfl ?_ ?_
  · simp <;> simp [ieq, ilt, ile]
  -- region 1
  obtain ⟨v1, hv1, h⟩ := bind_some h
  obtain ⟨hc2, h⟩ := chk_some h
  have hc2s := hc2
  try simp at hc2s
  refine VW.ws tau_ok (Sound.none.add 7 (s_l11Size_ok hv1) rfl) [some 6, some 7, some 8, some 5] [(1, .val (i64 a1)), (5, .ref 5 [] true (dI (List.replicate v1.toNat 0)))] rfl ?_ ?_
  · simp [hc2, hc2s] <;> simp [ieq, ilt, ile]
  obtain ⟨l3, hl3, h⟩ := bind_some h
  rw [Option.some.inj hl3]
  -- region 2
  obtain ⟨v4, hv4, h⟩ := bind_some h
  obtain ⟨hv4a, hv4b, hv4c, hv4d⟩ := idx_some hv4
  refine VW.ws tau_ok Sound.none [some 9, some 10, some 11, none] [(5, .ref 5 [] true (dI (l3.set a1.toNat 1)))] rfl ?_ ?_
  · simp [hv4a, hv4b, hv4c, hv4d] <;> simp [ieq, ilt, ile]
  -- region 3
  refine VW.ws tau_ok Sound.none [some 12, some 4] [(4, .ref 4 [] true (dI (l3.set a1.toNat 1)))] rfl ?_ ?_
  · simp <;> simp [ieq, ilt, ile]
  cases h
  refine VW.ret ?_
  simp [Post, PostM, PostC, PostC2, Nx, Bk]

theorem s_l01Mod_ok {a0 : Int} {a1 : Int} {r : Int} (h : s_l01Mod a0 a1 = some r) :
    VCall Try.prog 214 [i64 a0, i64 a1] [.sc (i64 r)] := by
  unfold s_l01Mod at h
  refine VCall.enter Try.call214 Try.func214 rfl 12 Try.ntmps214 (by simp) [.tmp 4] rfl ?_
  show VW _ _ _ (mk [(0, .val (i64 a0)), (1, .val (i64 a1))]) _
  -- region 0
  refine VW.ws tau_ok Sound.none [some 4] [(0, .val (i64 a0)), (1, .val (i64 a1))] rfl ?_ ?_
  · simp <;> simp [ieq, ilt, ile]
  -- region 1
  obtain ⟨hc1, h⟩ := chk_some h
  have hc1s := hc1
  try simp at hc1s
  obtain ⟨hc2, h⟩ := chk_some h
  have hc2s := hc2
  try simp at hc2s
  refine VW.ws tau_ok Sound.none [some 5, some 6, some 7, some 8, some 9, some 10, some 11, some 4] [(4, .val (i64 ((w64 ((a1.tmod a0) + a0)).tmod a0)))] rfl ?_ ?_
  · simp [hc1, hc1s, hc2, hc2s] <;> simp [ieq, ilt, ile]
  cases h
  refine VW.ret ?_
  simp [Post, PostM, PostC, PostC2, Nx, Bk]

theorem s_l11Scale_ok {a0 : Int} {a1 : Int} {a2 : List Int} {r : List Int} (h : s_l11Scale a0 a1 a2 = some r) :
    VCall Try.prog 206 [i64 a0, i64 a1, dI a2] [.own true (dI r)] := by
  unfold s_l11Scale at h
  refine VCall.enter Try.call206 Try.func206 rfl 28 Try.ntmps206 (by simp) [.tmp 6] rfl ?_
  show VW _ _ _ (mk [(0, .val (i64 a0)), (1, .val (i64 a1)), (2, .val (dI a2))]) _
  -- region 0
  refine VW.ws tau_ok Sound.none [some 6] [(0, .val (i64 a0)), (1, .val (i64 a1)), (2, .val (dI a2))] rfl ?_ ?_
  · simp <;> simp [ieq, ilt, ile]
  -- region 1
  refine VW.ws tau_ok Sound.none [some 9, some 7] [(0, .val (i64 a0)), (1, .val (i64 a1)), (2, .val (dI a2)), (7, .ref 7 [] true (dI []))] rfl ?_ ?_
  · simp <;> simp [ieq, ilt, ile]
  refine VW.sqc fun K1 hK1 hCK1 => ?_
  -- region 2
  refine VW.ws tau_ok Sound.none [some 8] [(0, .val (i64 a0)), (1, .val (i64 a1)), (2, .val (dI a2)), (7, .ref 7 [] true (dI [])), (8, .val (i64 0))] rfl ?_ ?_
  · simp <;> simp [ieq, ilt, ile]
  obtain ⟨x2, hx2, h⟩ := bind_some h
  refine VW.tlE [(7, .ref 7 [] true (dI x2))] (hCK1) ?_ ?_
  · clear hx2
    refine hK1 _ ?_
    -- region 6
    refine VW.ws tau_ok Sound.none [some 27, some 6] [(6, .ref 6 [] true (dI x2))] rfl ?_ ?_
    · simp <;> simp [ieq, ilt, ile]
    cases h
    refine VW.ret ?_
    simp [Post, PostM, PostC, PostC2, Nx, Bk]
  refine VW.block ?_
  refine VW.loopF (s_l11Scale_L0 a0 a1 a2) (fun s2 => [(0, .val (i64 a0)), (1, .val (i64 a1)), (2, .val (dI a2)), (7, .ref 7 [] true (dI s2.1)), (8, .val (i64 s2.2))]) hx2 (Fits.of rfl) ?_
  clear hx2
  intro s2 ox2 hx2o hx2b
  unfold s_l11Scale_L0 at hx2o
  refine VW.sqc fun K4 hK4 hCK4 => ?_
  -- region 3
  refine VW.ws tau_ok Sound.none [some 10, some 11, some 12, some 13] [(0, .val (i64 a0)), (1, .val (i64 a1)), (2, .val (dI a2)), (7, .ref 7 [] true (dI s2.1)), (8, .val (i64 s2.2)), (13, .val (.bool (ilt s2.2 (a2.length : Int))))] rfl ?_ ?_
  · simp <;> simp [ieq, ilt, ile]
  refine VW.cond rfl (fun hb5 => ?_) (fun hb5 => ?_)
  rotate_left
  ·
    replace hb5 : ¬ (s2.2 < (a2.length : Int)) := by simpa [ieq, ilt, ile] using hb5
    rw [if_neg hb5] at hx2o
    refine VW.exit ?_
    cases hx2o
    have hq := hx2b _ rfl
    subst hq
    exact Fits.of rfl
  replace hb5 : s2.2 < (a2.length : Int) := by simpa [ieq, ilt, ile] using hb5
  rw [if_pos hb5] at hx2o
  refine VW.skip ?_
  refine hK4 _ ?_
  refine VW.sqc fun K6 hK6 hCK6 => ?_
  refine VW.block ?_
  -- region 5
  obtain ⟨v7, hv7, hx2o⟩ := bind_some hx2o
  obtain ⟨hv7a, hv7b, hv7c, hv7d⟩ := idx_some hv7
  obtain ⟨v8, hv8, hx2o⟩ := bind_some hx2o
  obtain ⟨hc9, hx2o⟩ := chk_some hx2o
  have hc9s := hc9
  try simp at hc9s
  refine VW.wr tau_ok (Sound.none.add 24 (s_l01Mod_ok hv8) rfl) [some 16, some 17, some 18, some 19, some 20, some 21, some 22, some 23, some 24, some 25, some 26, some 7] [(0, .val (i64 a0)), (1, .val (i64 a1)), (2, .val (dI a2)), (7, .ref 7 [] true (dI (s2.1 ++ [v8]))), (8, .val (i64 s2.2))] rfl ?_ ?_
  · simp [hv7a, hv7b, hv7c, hv7d, hc9, hc9s] <;> simp [ieq, ilt, ile]
  refine hK6 _ ?_
  -- region 4
  refine VW.wr tau_ok Sound.none [some 14, some 15, some 8] [(0, .val (i64 a0)), (1, .val (i64 a1)), (2, .val (dI a2)), (7, .ref 7 [] true (dI (s2.1 ++ [v8]))), (8, .val (i64 (w64 (s2.2 + 1))))] rfl ?_ ?_
  · simp <;> simp [ieq, ilt, ile]
  cases hx2o
  exact ⟨_, rfl, Fits.of rfl⟩

theorem s_l11Star_ok {a0 : Int} {a1 : List Int} {r : List Int} (h : s_l11Star a0 a1 = some r) :
    VCall Try.prog 253 [i64 a0, dI a1] [.own true (dI r)] := by
  unfold s_l11Star at h
  refine VCall.enter Try.call253 Try.func253 rfl 17 Try.ntmps253 (by simp) [.tmp 4] rfl ?_
  show VW _ _ _ (mk [(0, .val (i64 a0)), (1, .val (dI a1))]) _
  -- region 0
  refine VW.ws tau_ok Sound.none [some 4] [(0, .val (i64 a0)), (1, .val (dI a1))] rfl ?_ ?_
  · simp <;> simp [ieq, ilt, ile]
  -- region 1
  obtain ⟨v1, hv1, h⟩ := bind_some h
  refine VW.ws tau_ok (Sound.none.add 10 (s_l11Scale_ok hv1) rfl) [some 6, some 7, some 8, some 9, some 10, some 5] [(1, .val (dI a1)), (5, .ref 5 [] true (dI v1))] rfl ?_ ?_
  · simp <;> simp [ieq, ilt, ile]
  -- region 2
  obtain ⟨v2, hv2, h⟩ := bind_some h
  obtain ⟨hv2a, hv2b, hv2c, hv2d⟩ := idx_some hv2
  replace hv2b : 0 < a1.length := hv2b
  replace hv2c : a1[0]? = some v2 := hv2c
  replace hv2d : ∀ h, a1[0]'h = v2 := hv2d
  obtain ⟨v3, hv3, h⟩ := bind_some h
  obtain ⟨hv3a, hv3b, hv3c, hv3d⟩ := idx_some hv3
  replace hv3b : 0 < v1.length := hv3b
  replace hv3c : v1[0]? = some v3 := hv3c
  replace hv3d : ∀ h, v1[0]'h = v3 := hv3d
  refine VW.ws tau_ok Sound.none [some 11, some 12, some 13, some 14, some 15, none] [(5, .ref 5 [] true (dI (v1.set 0 v2)))] rfl ?_ ?_
  · simp [hv2a, hv2b, hv2c, hv2d, hv3a, hv3b, hv3c, hv3d] <;> simp [ieq, ilt, ile]
  -- region 3
  refine VW.ws tau_ok Sound.none [some 16, some 4] [(4, .ref 4 [] true (dI (v1.set 0 v2)))] rfl ?_ ?_
  · simp <;> simp [ieq, ilt, ile]
  cases h
  refine VW.ret ?_
  simp [Post, PostM, PostC, PostC2, Nx, Bk]

theorem s_l11Add_ok {a0 : Int} {a1 : List Int} {a2 : List Int} {r : List Int} (h : s_l11Add a0 a1 a2 = some r) :
    VCall Try.prog 234 [i64 a0, dI a1, dI a2] [.own true (dI r)] := by
  unfold s_l11Add at h
  refine VCall.enter Try.call234 Try.func234 rfl 31 Try.ntmps234 (by simp) [.tmp 6] rfl ?_
  show VW _ _ _ (mk [(0, .val (i64 a0)), (1, .val (dI a1)), (2, .val (dI a2))]) _
  -- region 0
  refine VW.ws tau_ok Sound.none [some 6] [(0, .val (i64 a0)), (1, .val (dI a1)), (2, .val (dI a2))] rfl ?_ ?_
  · simp <;> simp [ieq, ilt, ile]
  -- region 1
  refine VW.ws tau_ok Sound.none [some 9, some 7] [(0, .val (i64 a0)), (1, .val (dI a1)), (2, .val (dI a2)), (7, .ref 7 [] true (dI []))] rfl ?_ ?_
  · simp <;> simp [ieq, ilt, ile]
  refine VW.sqc fun K1 hK1 hCK1 => ?_
  -- region 2
  refine VW.ws tau_ok Sound.none [some 8] [(0, .val (i64 a0)), (1, .val (dI a1)), (2, .val (dI a2)), (7, .ref 7 [] true (dI [])), (8, .val (i64 0))] rfl ?_ ?_
  · simp <;> simp [ieq, ilt, ile]
  obtain ⟨x2, hx2, h⟩ := bind_some h
  refine VW.tlE [(7, .ref 7 [] true (dI x2))] (hCK1) ?_ ?_
  · clear hx2
    refine hK1 _ ?_
    -- region 6
    refine VW.ws tau_ok Sound.none [some 30, some 6] [(6, .ref 6 [] true (dI x2))] rfl ?_ ?_
    · simp <;> simp [ieq, ilt, ile]
    cases h
    refine VW.ret ?_
    simp [Post, PostM, PostC, PostC2, Nx, Bk]
  refine VW.block ?_
  refine VW.loopF (s_l11Add_L0 a0 a1 a2) (fun s2 => [(0, .val (i64 a0)), (1, .val (dI a1)), (2, .val (dI a2)), (7, .ref 7 [] true (dI s2.1)), (8, .val (i64 s2.2))]) hx2 (Fits.of rfl) ?_
  clear hx2
  intro s2 ox2 hx2o hx2b
  unfold s_l11Add_L0 at hx2o
  refine VW.sqc fun K4 hK4 hCK4 => ?_
  -- region 3
  refine VW.ws tau_ok Sound.none [some 10, some 11, some 12, some 13] [(0, .val (i64 a0)), (1, .val (dI a1)), (2, .val (dI a2)), (7, .ref 7 [] true (dI s2.1)), (8, .val (i64 s2.2)), (13, .val (.bool (ilt s2.2 (a1.length : Int))))] rfl ?_ ?_
  · simp <;> simp [ieq, ilt, ile]
  refine VW.cond rfl (fun hb5 => ?_) (fun hb5 => ?_)
  rotate_left
  ·
    replace hb5 : ¬ (s2.2 < (a1.length : Int)) := by simpa [ieq, ilt, ile] using hb5
    rw [if_neg hb5] at hx2o
    refine VW.exit ?_
    cases hx2o
    have hq := hx2b _ rfl
    subst hq
    exact Fits.of rfl
  replace hb5 : s2.2 < (a1.length : Int) := by simpa [ieq, ilt, ile] using hb5
  rw [if_pos hb5] at hx2o
  refine VW.skip ?_
  refine hK4 _ ?_
  refine VW.sqc fun K6 hK6 hCK6 => ?_
  refine VW.block ?_
  -- region 5
  obtain ⟨v7, hv7, hx2o⟩ := bind_some hx2o
  obtain ⟨hv7a, hv7b, hv7c, hv7d⟩ := idx_some hv7
  obtain ⟨v8, hv8, hx2o⟩ := bind_some hx2o
  obtain ⟨hv8a, hv8b, hv8c, hv8d⟩ := idx_some hv8
  obtain ⟨v9, hv9, hx2o⟩ := bind_some hx2o
  obtain ⟨hc10, hx2o⟩ := chk_some hx2o
  have hc10s := hc10
  try simp at hc10s
  refine VW.wdr tau_ok (Sound.none.add 27 (s_l01Mod_ok hv9) rfl) try_mixed [some 16, some 17, some 18, some 19, some 20, some 21, some 22, some 23, some 24, some 25, some 26, some 27, some 28, some 29, some 7] [(0, .val (i64 a0)), (1, .val (dI a1)), (2, .val (dI a2)), (7, .ref 7 [] true (dI (s2.1 ++ [v9]))), (8, .val (i64 s2.2))] 13 rfl (by kernel_rfl) (by rfl) ?_ ?_
  · simp [hv7a, hv7b, hv7c, hv7d, hv8a, hv8b, hv8c, hv8d, hc10, hc10s] <;> simp [ieq, ilt, ile]
  refine hK6 _ ?_
  -- region 4
  refine VW.wr tau_ok Sound.none [some 14, some 15, some 8] [(0, .val (i64 a0)), (1, .val (dI a1)), (2, .val (dI a2)), (7, .ref 7 [] true (dI (s2.1 ++ [v9]))), (8, .val (i64 (w64 (s2.2 + 1))))] rfl ?_ ?_
  · simp <;> simp [ieq, ilt, ile]
  cases hx2o
  exact ⟨_, rfl, Fits.of rfl⟩

theorem s_l11Mul_b_ok {self : Int → (List Int) → (List Int) → (List Int) → Option (List Int)} (hself : ∀ {a0 a1 a2 a3} {r : List Int}, self a0 a1 a2 a3 = some r → VCall Try.prog 236 [i64 a0, dI a1, dI a2, dI a3] [.own true (dI r)]) {a0 : Int} {a1 : List Int} {a2 : List Int} {a3 : List Int} {r : List Int} (h : s_l11Mul_b self a0 a1 a2 a3 = some r) :
    VCall Try.prog 236 [i64 a0, dI a1, dI a2, dI a3] [.own true (dI r)] := by
  unfold s_l11Mul_b at h
  refine VCall.enter Try.call236 Try.func236 rfl 91 Try.ntmps236 (by simp) [.tmp 8] rfl ?_
  show VW _ _ _ (mk [(0, .val (i64 a0)), (1, .val (dI a1)), (2, .val (dI a2)), (3, .val (dI a3))]) _
  -- region 0
  refine VW.ws tau_ok Sound.none [some 8] [(0, .val (i64 a0)), (1, .val (dI a1)), (2, .val (dI a2)), (3, .val (dI a3))] rfl ?_ ?_
  · simp <;> simp [ieq, ilt, ile]
  refine VW.sqc fun K1 hK1 hCK1 => ?_
  -- region 1
  refine VW.ws tau_ok Sound.none [some 19, some 20, some 21] [(0, .val (i64 a0)), (1, .val (dI a1)), (2, .val (dI a2)), (3, .val (dI a3)), (21, .val (.bool (ieq (a1.length : Int) 0)))] rfl ?_ ?_
  · simp <;> simp [ieq, ilt, ile]
  refine VW.cond rfl (fun hb2 => ?_) (fun hb2 => ?_)
  ·
    replace hb2 : (a1.length : Int) = 0 := by simpa [ieq, ilt, ile] using hb2
    rw [if_pos hb2] at h
    -- region 2
    obtain ⟨v3, hv3, h⟩ := bind_some h
    obtain ⟨hv3a, hv3b, hv3c, hv3d⟩ := idx_some hv3
    replace hv3b : 0 < a2.length := hv3b
    replace hv3c : a2[0]? = some v3 := hv3c
    replace hv3d : ∀ h, a2[0]'h = v3 := hv3d
    obtain ⟨v4, hv4, h⟩ := bind_some h
    obtain ⟨hv4a, hv4b, hv4c, hv4d⟩ := idx_some hv4
    replace hv4b : 0 < a3.length := hv4b
    replace hv4c : a3[0]? = some v4 := hv4c
    replace hv4d : ∀ h, a3[0]'h = v4 := hv4d
    obtain ⟨v5, hv5, h⟩ := bind_some h
    refine VW.wds tau_ok (Sound.none.add 30 (s_l01Mod_ok hv5) rfl) try_mixed [some 22, some 23, some 24, some 25, some 26, some 27, some 28, some 29, some 30, some 31, some 8] [(8, .ref 8 [] true (dI [v5]))] 10 rfl (by kernel_rfl) (by rfl) ?_ ?_
    · simp [hv3a, hv3b, hv3c, hv3d, hv4a, hv4b, hv4c, hv4d] <;> simp [ieq, ilt, ile]
    cases h
    refine VW.ret ?_
    simp [Post, PostM, PostC, PostC2, Nx, Bk]
  replace hb2 : ¬ ((a1.length : Int) = 0) := by simpa [ieq, ilt, ile] using hb2
  rw [if_neg hb2] at h
  refine VW.skip ?_
  refine hK1 _ ?_
  -- region 3
  refine VW.ws tau_ok Sound.none [some 32, some 33, some 34, some 9] [(0, .val (i64 a0)), (1, .val (dI a1)), (2, .val (dI a2)), (3, .val (dI a3)), (9, .val (i64 (w64 ((a1.length : Int) - 1))))] rfl ?_ ?_
  · simp <;> simp [ieq, ilt, ile]
  -- region 4
  obtain ⟨hc6, h⟩ := chk_some h
  have hc6s := hc6
  try simp at hc6s
  obtain ⟨v7, hv7, h⟩ := bind_some h
  obtain ⟨hv7a, hv7b, hv7c, hv7d⟩ := idx_some hv7
  refine VW.wds tau_ok Sound.none try_mixed [some 35, some 36, some 37, some 38, some 39, some 40, some 41, some 42, some 43, some 44, some 10, some 11, some 12] [(0, .val (i64 a0)), (2, .val (dI a2)), (3, .val (dI a3)), (10, .val (i64 (w64 ((a2.length : Int).tdiv 2)))), (11, .val (dI (a1.take (w64 ((a1.length : Int) - 1)).toNat))), (12, .val (i64 v7))] 13 rfl (by kernel_rfl) (by rfl) ?_ ?_
  · simp [hc6, hc6s, hv7a, hv7b, hv7c, hv7d] <;> simp [ieq, ilt, ile]
  -- region 5
  obtain ⟨hc8, h⟩ := chk_some h
  have hc8s := hc8
  try simp at hc8s
  obtain ⟨hc9, h⟩ := chk_some h
  have hc9s := hc9
  try simp at hc9s
  obtain ⟨hc10, h⟩ := chk_some h
  have hc10s := hc10
  try simp at hc10s
  obtain ⟨hc11, h⟩ := chk_some h
  have hc11s := hc11
  try simp at hc11s
  refine VW.wds tau_ok Sound.none try_mixed [some 45, some 46, some 47, some 48, some 49, some 50, some 51, some 52, some 53, some 54, some 55, some 56, some 13, some 14, some 15, some 16] [(0, .val (i64 a0)), (11, .val (dI (a1.take (w64 ((a1.length : Int) - 1)).toNat))), (12, .val (i64 v7)), (13, .val (dI (a2.take (w64 ((a2.length : Int).tdiv 2)).toNat))), (14, .val (dI (a2.drop (w64 ((a2.length : Int).tdiv 2)).toNat))), (15, .val (dI (a3.take (w64 ((a2.length : Int).tdiv 2)).toNat))), (16, .val (dI (a3.drop (w64 ((a2.length : Int).tdiv 2)).toNat)))] 16 rfl (by kernel_rfl) (by rfl) ?_ ?_
  · simp [hc8, hc8s, hc9, hc9s, hc10, hc10s, hc11, hc11s] <;> simp [ieq, ilt, ile]
  -- region 6
  obtain ⟨v12, hv12, h⟩ := bind_some h
  obtain ⟨v13, hv13, h⟩ := bind_some h
  obtain ⟨v14, hv14, h⟩ := bind_some h
  obtain ⟨v15, hv15, h⟩ := bind_some h
  obtain ⟨v16, hv16, h⟩ := bind_some h
  refine VW.ws tau_ok (((((Sound.none.add 62 (hself hv12) rfl).add 69 (s_l11Star_ok hv13) rfl).add 71 (hself hv14) rfl).add 72 (s_l11Scale_ok hv15) rfl).add 73 (s_l11Add_ok hv16) rfl) [some 57, some 58, some 59, some 60, some 61, some 62, some 63, some 64, some 65, some 66, some 67, some 68, some 69, some 70, some 71, some 72, some 73, some 17] [(0, .val (i64 a0)), (11, .val (dI (a1.take (w64 ((a1.length : Int) - 1)).toNat))), (13, .val (dI (a2.take (w64 ((a2.length : Int).tdiv 2)).toNat))), (14, .val (dI (a2.drop (w64 ((a2.length : Int).tdiv 2)).toNat))), (15, .val (dI (a3.take (w64 ((a2.length : Int).tdiv 2)).toNat))), (16, .val (dI (a3.drop (w64 ((a2.length : Int).tdiv 2)).toNat))), (17, .ref 17 [] true (dI v16))] rfl ?_ ?_
  · simp <;> simp [ieq, ilt, ile]
  -- region 7
  obtain ⟨v17, hv17, h⟩ := bind_some h
  obtain ⟨v18, hv18, h⟩ := bind_some h
  obtain ⟨v19, hv19, h⟩ := bind_some h
  obtain ⟨v20, hv20, h⟩ := bind_some h
  refine VW.ws tau_ok ((((Sound.none.add 79 (hself hv17) rfl).add 85 (s_l11Star_ok hv18) rfl).add 86 (hself hv19) rfl).add 87 (s_l11Add_ok hv20) rfl) [some 74, some 75, some 76, some 77, some 78, some 79, some 80, some 81, some 82, some 83, some 84, some 85, some 86, some 87, some 18] [(17, .ref 17 [] true (dI v16)), (18, .ref 18 [] true (dI v20))] rfl ?_ ?_
  · simp <;> simp [ieq, ilt, ile]
  -- region 8
  obtain ⟨hc21, h⟩ := chk_some h
  have hc21s := hc21
  try simp at hc21s
  refine VW.ws tau_ok Sound.none [some 88, some 89, some 90, some 8] [(8, .ref 8 [] true (dI (v16 ++ v20)))] rfl ?_ ?_
  · simp [hc21, hc21s] <;> simp [ieq, ilt, ile]
  cases h
  refine VW.ret ?_
  simp [Post, PostM, PostC, PostC2, Nx, Bk]
theorem s_l11Mul_ok : ∀ {n : Nat} {a0 : Int} {a1 : List Int} {a2 : List Int} {a3 : List Int} {r : List Int} (_ : s_l11Mul n a0 a1 a2 a3 = some r),
    VCall Try.prog 236 [i64 a0, dI a1, dI a2, dI a3] [.own true (dI r)]
  | 0, _, _, _, _, _, h => by cases h
  | n + 1, _, _, _, _, _, h => s_l11Mul_b_ok (fun h => s_l11Mul_ok (n := n) h) h

theorem s_l11Times_ok {a0_0 : Int} {a0_1 : List Int} {a1 : List Int} {a2 : List Int} {r : List Int} (h : s_l11Times a0_0 a0_1 a1 a2 = some r) :
    VCall Try.prog 213 [.agg [i64 a0_0, dI a0_1], dI a1, dI a2] [.own true (dI r)] := by
  unfold s_l11Times at h
  refine VCall.enter Try.call213 Try.func213 rfl 14 Try.ntmps213 (by simp) [.tmp 6] rfl ?_
  show VW _ _ _ (mk [(0, .val (.agg [i64 a0_0, dI a0_1])), (1, .val (dI a1)), (2, .val (dI a2))]) _
  -- region 0
  refine VW.ws tau_ok Sound.none [some 3, some 6] [(1, .val (dI a1)), (2, .val (dI a2)), (3, .val (.ptr [i64 a0_0, dI a0_1]))] rfl ?_ ?_
  · simp <;> simp [ieq, ilt, ile]
  -- region 1
  obtain ⟨v1, hv1, h⟩ := bind_some h
  refine VW.ws tau_ok (Sound.none.add 13 (s_l11Mul_ok (n := BIG) hv1) rfl) [some 7, some 8, some 9, some 10, some 11, some 12, some 13, some 6] [(6, .ref 6 [] true (dI v1))] rfl ?_ ?_
  · simp <;> simp [ieq, ilt, ile]
  cases h
  refine VW.ret ?_
  simp [Post, PostM, PostC, PostC2, Nx, Bk]

theorem s_l11Diagonal_ok {a0_0 : Int} {a0_1 : List Int} {r : List Int} (h : s_l11Diagonal a0_0 a0_1 = some r) :
    VCall Try.prog 156 [.agg [i64 a0_0, dI a0_1]] [.own true (dI r)] := by
  unfold s_l11Diagonal at h
  refine VCall.enter Try.call156 Try.func156 rfl 28 Try.ntmps156 (by simp) [.tmp 2] rfl ?_
  show VW _ _ _ (mk [(0, .val (.agg [i64 a0_0, dI a0_1]))]) _
  -- region 0
  refine VW.ws tau_ok Sound.none [some 1, some 2] [(1, .val (.ptr [i64 a0_0, dI a0_1]))] rfl ?_ ?_
  · simp <;> simp [ieq, ilt, ile]
  -- region 1
  refine VW.ws tau_ok Sound.none [some 5, some 3] [(1, .val (.ptr [i64 a0_0, dI a0_1])), (3, .ref 3 [] true (dI [1]))] rfl ?_ ?_
  · simp <;> simp [ieq, ilt, ile]
  refine VW.sqc fun K1 hK1 hCK1 => ?_
  -- region 2
  refine VW.ws tau_ok Sound.none [some 4] [(1, .val (.ptr [i64 a0_0, dI a0_1])), (3, .ref 3 [] true (dI [1])), (4, .val (i64 0))] rfl ?_ ?_
  · simp <;> simp [ieq, ilt, ile]
  obtain ⟨x2, hx2, h⟩ := bind_some h
  refine VW.tlE [(3, .ref 3 [] true (dI x2))] (hCK1) ?_ ?_
  · clear hx2
    refine hK1 _ ?_
    -- region 6
    refine VW.ws tau_ok Sound.none [some 27, some 2] [(2, .ref 2 [] true (dI x2))] rfl ?_ ?_
    · simp <;> simp [ieq, ilt, ile]
    cases h
    refine VW.ret ?_
    simp [Post, PostM, PostC, PostC2, Nx, Bk]
  refine VW.block ?_
  refine VW.loopF (s_l11Diagonal_L0 a0_0 a0_1) (fun s2 => [(1, .val (.ptr [i64 a0_0, dI a0_1])), (3, .ref 3 [] true (dI s2.1)), (4, .val (i64 s2.2))]) hx2 (Fits.of rfl) ?_
  clear hx2
  intro s2 ox2 hx2o hx2b
  unfold s_l11Diagonal_L0 at hx2o
  refine VW.sqc fun K4 hK4 hCK4 => ?_
  -- region 3
  refine VW.ws tau_ok Sound.none [some 6, some 7, some 8, some 9, some 10] [(1, .val (.ptr [i64 a0_0, dI a0_1])), (3, .ref 3 [] true (dI s2.1)), (4, .val (i64 s2.2)), (10, .val (.bool (ilt s2.2 (a0_1.length : Int))))] rfl ?_ ?_
  · simp <;> simp [ieq, ilt, ile]
  refine VW.cond rfl (fun hb5 => ?_) (fun hb5 => ?_)
  rotate_left
  ·
    replace hb5 : ¬ (s2.2 < (a0_1.length : Int)) := by simpa [ieq, ilt, ile] using hb5
    rw [if_neg hb5] at hx2o
    refine VW.exit ?_
    cases hx2o
    have hq := hx2b _ rfl
    subst hq
    exact Fits.of rfl
  replace hb5 : s2.2 < (a0_1.length : Int) := by simpa [ieq, ilt, ile] using hb5
  rw [if_pos hb5] at hx2o
  refine VW.skip ?_
  refine hK4 _ ?_
  refine VW.sqc fun K6 hK6 hCK6 => ?_
  refine VW.block ?_
  -- region 5
  obtain ⟨v7, hv7, hx2o⟩ := bind_some hx2o
  obtain ⟨hv7a, hv7b, hv7c, hv7d⟩ := idx_some hv7
  obtain ⟨v8, hv8, hx2o⟩ := bind_some hx2o
  obtain ⟨hc9, hx2o⟩ := chk_some hx2o
  have hc9s := hc9
  try simp at hc9s
  refine VW.wdr tau_ok (Sound.none.add 25 (s_l11Scale_ok hv8) rfl) try_mixed [some 13, some 14, some 15, some 16, some 17, some 18, some 19, some 20, some 21, some 22, some 23, some 24, some 25, some 26, some 3] [(1, .val (.ptr [i64 a0_0, dI a0_1])), (3, .ref 3 [] true (dI (s2.1 ++ v8))), (4, .val (i64 s2.2))] 13 rfl (by kernel_rfl) (by rfl) ?_ ?_
  · simp [hv7a, hv7b, hv7c, hv7d, hc9, hc9s] <;> simp [ieq, ilt, ile]
  refine hK6 _ ?_
  -- region 4
  refine VW.wr tau_ok Sound.none [some 11, some 12, some 4] [(1, .val (.ptr [i64 a0_0, dI a0_1])), (3, .ref 3 [] true (dI (s2.1 ++ v8))), (4, .val (i64 (w64 (s2.2 + 1))))] rfl ?_ ?_
  · simp <;> simp [ieq, ilt, ile]
  cases hx2o
  exact ⟨_, rfl, Fits.of rfl⟩

theorem s_l11Minus_ok {a0 : Int} {a1 : List Int} {a2 : List Int} {r : List Int} (h : s_l11Minus a0 a1 a2 = some r) :
    VCall Try.prog 205 [i64 a0, dI a1, dI a2] [.own true (dI r)] := by
  unfold s_l11Minus at h
  refine VCall.enter Try.call205 Try.func205 rfl 15 Try.ntmps205 (by simp) [.tmp 6] rfl ?_
  show VW _ _ _ (mk [(0, .val (i64 a0)), (1, .val (dI a1)), (2, .val (dI a2))]) _
  -- region 0
  refine VW.ws tau_ok Sound.none [some 6] [(0, .val (i64 a0)), (1, .val (dI a1)), (2, .val (dI a2))] rfl ?_ ?_
  · simp <;> simp [ieq, ilt, ile]
  -- region 1
  obtain ⟨v1, hv1, h⟩ := bind_some h
  obtain ⟨v2, hv2, h⟩ := bind_some h
  refine VW.ws tau_ok ((Sound.none.add 13 (s_l11Scale_ok hv1) rfl).add 14 (s_l11Add_ok hv2) rfl) [some 7, some 8, some 9, some 10, some 11, some 12, some 13, some 14, some 6] [(6, .ref 6 [] true (dI v2))] rfl ?_ ?_
  · simp <;> simp [ieq, ilt, ile]
  cases h
  refine VW.ret ?_
  simp [Post, PostM, PostC, PostC2, Nx, Bk]

theorem s_l01Inv_ok {a0 : Int} {a1 : Int} {r : Int} (h : s_l01Inv a0 a1 = some r) :
    VCall Try.prog 147 [i64 a0, i64 a1] [.sc (i64 r)] := by
  unfold s_l01Inv at h
  refine VCall.enter Try.call147 Try.func147 rfl 15 Try.ntmps147 (by simp) [.tmp 4] rfl ?_
  show VW _ _ _ (mk [(0, .val (i64 a0)), (1, .val (i64 a1))]) _
  -- region 0
  refine VW.ws tau_ok Sound.none [some 4] [(0, .val (i64 a0)), (1, .val (i64 a1))] rfl ?_ ?_
  · simp <;> simp [ieq, ilt, ile]
  -- region 1
  refine VW.ws tau_ok Sound.none [some 5] [(0, .val (i64 a0)), (1, .val (i64 a1)), (5, .val (i64 1))] rfl ?_ ?_
  · simp <;> simp [ieq, ilt, ile]
  refine VW.sqc fun K1 hK1 hCK1 => ?_
  obtain ⟨x2, hx2, h⟩ := bind_some h
  refine VW.tlE [(5, .val (i64 x2))] (hCK1) ?_ ?_
  · clear hx2
    refine hK1 _ ?_
    -- region 4
    refine VW.ws tau_ok Sound.none [some 14, some 4] [(4, .val (i64 x2))] rfl ?_ ?_
    · simp <;> simp [ieq, ilt, ile]
    cases h
    refine VW.ret ?_
    simp [Post, PostM, PostC, PostC2, Nx, Bk]
  refine VW.block ?_
  refine VW.loopF (s_l01Inv_L0 a0 a1) (fun s2 => [(0, .val (i64 a0)), (1, .val (i64 a1)), (5, .val (i64 s2))]) hx2 (Fits.of rfl) ?_
  clear hx2
  intro s2 ox2 hx2o hx2b
  unfold s_l01Inv_L0 at hx2o
  refine VW.sqc fun K4 hK4 hCK4 => ?_
  -- region 2
  obtain ⟨hc5, hx2o⟩ := chk_some hx2o
  have hc5s := hc5
  try simp at hc5s
  refine VW.ws tau_ok Sound.none [some 6, some 7, some 8, some 9, some 10, some 11] [(0, .val (i64 a0)), (1, .val (i64 a1)), (5, .val (i64 s2)), (11, .val (.bool (!(ieq ((w64 (a1 * s2)).tmod a0) 1))))] rfl ?_ ?_
  · simp [hc5, hc5s] <;> simp [ieq, ilt, ile]
  refine VW.cond rfl (fun hb6 => ?_) (fun hb6 => ?_)
  rotate_left
  ·
    replace hb6 : ¬ (¬ ((w64 (a1 * s2)).tmod a0) = 1) := by simpa [ieq, ilt, ile] using hb6
    rw [if_neg hb6] at hx2o
    refine VW.exit ?_
    cases hx2o
    have hq := hx2b _ rfl
    subst hq
    exact Fits.of rfl
  replace hb6 : ¬ ((w64 (a1 * s2)).tmod a0) = 1 := by simpa [ieq, ilt, ile] using hb6
  rw [if_pos hb6] at hx2o
  refine VW.skip ?_
  refine hK4 _ ?_
  refine VW.block ?_
  -- region 3
  refine VW.wr tau_ok Sound.none [some 12, some 13, some 5] [(0, .val (i64 a0)), (1, .val (i64 a1)), (5, .val (i64 (w64 (s2 + 1))))] rfl ?_ ?_
  · simp <;> simp [ieq, ilt, ile]
  cases hx2o
  exact ⟨_, rfl, Fits.of rfl⟩

theorem i_IsPrime_ok {a0 : Int} {r : Bool} (h : i_IsPrime a0 = some r) :
    VCall Try.prog 183 [i64 a0] [.sc (.bool r)] := by
  unfold i_IsPrime at h
  refine VCall.enter Try.call183 Try.func183 rfl 10 Try.ntmps183 (by simp) [.tmp 2] rfl ?_
  show VW _ _ _ (mk [(0, .val (i64 a0))]) _
  -- region 0
  refine VW.ws tau_ok Sound.none [some 2] [(0, .val (i64 a0))] rfl ?_ ?_
  · simp <;> simp [ieq, ilt, ile]
  refine VW.sqc fun K1 hK1 hCK1 => ?_
  -- region 1
  refine VW.ws tau_ok Sound.none [some 3] [(3, .val (i64 a0))] rfl ?_ ?_
  · simp <;> simp [ieq, ilt, ile]
  refine VW.block ?_
  refine VW.sqc fun K2 hK2 hCK2 => ?_
  -- region 2
  refine VW.ws tau_ok Sound.none [some 5, some 4] [(3, .val (i64 a0)), (4, .val (.bool (ieq a0 3)))] rfl ?_ ?_
  · simp <;> simp [ieq, ilt, ile]
  obtain ⟨x3, hx3, h⟩ := bind_some h
  refine VW.tlE [(4, .val (.bool x3))] (hCK2) ?_ ?_
  · clear hx3
    refine hK2 _ ?_
    refine VW.cond rfl (fun hb9 => ?_) (fun hb9 => ?_)
    ·
      replace hb9 : x3 = true := by simpa [ieq, ilt, ile] using hb9
      rw [if_pos hb9] at h
      -- region 7
      refine VW.ws tau_ok Sound.none [some 2] [(2, .val (.bool true))] rfl ?_ ?_
      · simp <;> simp [ieq, ilt, ile]
      cases h
      refine VW.ret ?_
      simp [Post, PostM, PostC, PostC2, Nx, Bk]
    replace hb9 : ¬ (x3 = true) := by simpa [ieq, ilt, ile] using hb9
    rw [if_neg hb9] at h
    refine VW.skip ?_
    refine hK1 _ ?_
    -- region 8
    refine VW.ws tau_ok Sound.none [some 2] [(2, .val (.bool false))] rfl ?_ ?_
    · simp <;> simp [ieq, ilt, ile]
    cases h
    refine VW.ret ?_
    simp [Post, PostM, PostC, PostC2, Nx, Bk]
  refine VW.cond rfl (fun hb5 => ?_) (fun hb5 => ?_)
  ·
    replace hb5 : a0 = 3 := by simpa [ieq, ilt, ile] using hb5
    rw [if_pos hb5] at hx3
    refine VW.skip ?_
    cases hx3
    exact Fits.of rfl
  replace hb5 : ¬ (a0 = 3) := by simpa [ieq, ilt, ile] using hb5
  rw [if_neg hb5] at hx3
  -- region 3
  refine VW.ws tau_ok Sound.none [some 6, some 4] [(3, .val (i64 a0)), (4, .val (.bool (ieq a0 5)))] rfl ?_ ?_
  · simp <;> simp [ieq, ilt, ile]
  refine VW.cond rfl (fun hb6 => ?_) (fun hb6 => ?_)
  ·
    replace hb6 : a0 = 5 := by simpa [ieq, ilt, ile] using hb6
    rw [if_pos hb6] at hx3
    refine VW.skip ?_
    cases hx3
    exact Fits.of rfl
  replace hb6 : ¬ (a0 = 5) := by simpa [ieq, ilt, ile] using hb6
  rw [if_neg hb6] at hx3
  -- region 4
  refine VW.ws tau_ok Sound.none [some 7, some 4] [(3, .val (i64 a0)), (4, .val (.bool (ieq a0 7)))] rfl ?_ ?_
  · simp <;> simp [ieq, ilt, ile]
  refine VW.cond rfl (fun hb7 => ?_) (fun hb7 => ?_)
  ·
    replace hb7 : a0 = 7 := by simpa [ieq, ilt, ile] using hb7
    rw [if_pos hb7] at hx3
    refine VW.skip ?_
    cases hx3
    exact Fits.of rfl
  replace hb7 : ¬ (a0 = 7) := by simpa [ieq, ilt, ile] using hb7
  rw [if_neg hb7] at hx3
  -- region 5
  refine VW.ws tau_ok Sound.none [some 8, some 4] [(3, .val (i64 a0)), (4, .val (.bool (ieq a0 11)))] rfl ?_ ?_
  · simp <;> simp [ieq, ilt, ile]
  refine VW.cond rfl (fun hb8 => ?_) (fun hb8 => ?_)
  ·
    replace hb8 : a0 = 11 := by simpa [ieq, ilt, ile] using hb8
    rw [if_pos hb8] at hx3
    refine VW.skip ?_
    cases hx3
    exact Fits.of rfl
  replace hb8 : ¬ (a0 = 11) := by simpa [ieq, ilt, ile] using hb8
  rw [if_neg hb8] at hx3
  -- region 6
  refine VW.wr tau_ok Sound.none [some 9, some 4] [(4, .val (.bool (ieq a0 13)))] rfl ?_ ?_
  · simp <;> simp [ieq, ilt, ile]
  cases hx3
  exact Fits.of rfl

theorem i_Doubling_field_ok {a0_0 : Int} {a0_1 : List Int} {r : Int} (h : i_Doubling_field a0_0 a0_1 = some r) :
    VCall Try.prog 137 [.agg [i64 a0_0, dI a0_1]] [.sc (i64 r)] := by
  unfold i_Doubling_field at h
  refine VCall.enter Try.call137 Try.func137 rfl 5 Try.ntmps137 (by simp) [.tmp 2] rfl ?_
  show VW _ _ _ (mk [(0, .val (.agg [i64 a0_0, dI a0_1]))]) _
  -- region 0
  refine VW.ws tau_ok Sound.none [some 1, some 2] [(1, .val (.ptr [i64 a0_0, dI a0_1]))] rfl ?_ ?_
  · simp <;> simp [ieq, ilt, ile]
  -- region 1
  refine VW.ws tau_ok Sound.none [some 3, some 4, some 2] [(2, .val (i64 a0_0))] rfl ?_ ?_
  · simp <;> simp [ieq, ilt, ile]
  cases h
  refine VW.ret ?_
  simp [Post, PostM, PostC, PostC2, Nx, Bk]

theorem i_inRange_ok {a0 : Int} {a1 : Int} {a2 : Int} {r : Bool} (h : i_inRange a0 a1 a2 = some r) :
    VCall Try.prog 167 [i64 a0, i64 a1, i64 a2] [.sc (.bool r)] := by
  unfold i_inRange at h
  refine VCall.enter Try.call167 Try.func167 rfl 15 Try.ntmps167 (by simp) [.tmp 6] rfl ?_
  show VW _ _ _ (mk [(0, .val (i64 a0)), (1, .val (i64 a1)), (2, .val (i64 a2))]) _
  -- region 0
  refine VW.ws tau_ok Sound.none [some 6] [(0, .val (i64 a0)), (1, .val (i64 a1)), (2, .val (i64 a2))] rfl ?_ ?_
  · simp <;> simp [ieq, ilt, ile]
  -- region 1
  obtain ⟨x2, hx2, h⟩ := bind_some h
  refine VW.cut [(6, .val (.bool x2))] ?_ fun hy => ?_
  rotate_left
  · clear h
    by_cases hp1 : a1 ≤ a0
    · rw [if_pos hp1] at hx2
      have hp1b : ile a1 a0 = true := by simpa [ieq, ilt, ile] using hp1
      have hp1s := hp1b
      try simp at hp1s
      cases hx2
      refine VW.ws tau_ok Sound.none [some 7, some 8, some 9, some 10, some 11, some 12, some 13, some 14, some 6] _ rfl ?_ hy
      simp [hp1b, hp1s] <;> simp [ieq, ilt, ile]
    · rw [if_neg hp1] at hx2
      have hp1b : ile a1 a0 = false := by simpa [ieq, ilt, ile] using hp1
      have hp1s := hp1b
      try simp at hp1s
      cases hx2
      refine VW.ws tau_ok Sound.none [some 7, some 8, some 9, some 10, some 11, some 12, some 13, some 14, some 6] _ rfl ?_ hy
      simp [hp1b, hp1s] <;> simp [ieq, ilt, ile]
  cases h
  refine VW.ret ?_
  simp [Post, PostM, PostC, PostC2, Nx, Bk]
end Go.Vam
