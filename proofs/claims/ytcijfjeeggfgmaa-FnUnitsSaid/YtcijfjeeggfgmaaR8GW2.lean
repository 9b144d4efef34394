import Derived.Test.YtcijfjeeggfgmaaR8T
import Derived.Test.YtcijfjeeggfgmaaFmG0
import Derived.Test.YtcijfjeeggfgmaaR8GW1
namespace Go.Vam
open Go Go.RowKit Go.Proofs
set_option maxRecDepth 100000
set_option linter.unusedSimpArgs false
set_option linter.unusedVariables false

theorem s_l12Counts_ok {a0 : Int} {a1 : List Int} {r : List Int} (h : s_l12Counts a0 a1 = some r) :
    VCall Try.prog 180 [i64 a0, dI a1] [.own true (dI r)] := by
  unfold s_l12Counts at h
  refine VCall.enter Try.call180 Try.func180 rfl 59 Try.ntmps180 (by simp) [.tmp 4] rfl ?_
  show VW _ _ _ (mk [(0, .val (i64 a0)), (1, .val (dI a1))]) _
  -- region 0
  refine VW.ws tau_ok Sound.none [some 4] [(0, .val (i64 a0)), (1, .val (dI a1))] rfl ?_ ?_
  · simp <;> simp [ieq, ilt, ile]
  -- region 1
  obtain ⟨hc1, h⟩ := chk_some h
  have hc1s := hc1
  try simp at hc1s
  refine VW.ws tau_ok Sound.none [some 11, some 12, some 5] [(0, .val (i64 a0)), (1, .val (dI a1)), (5, .ref 5 [] true (dI (List.replicate a0.toNat 0)))] rfl ?_ ?_
  · simp [hc1, hc1s] <;> simp [ieq, ilt, ile]
  obtain ⟨l2, hl2, h⟩ := bind_some h
  rw [Option.some.inj hl2]
  -- region 2
  obtain ⟨v3, hv3, h⟩ := bind_some h
  obtain ⟨hv3a, hv3b, hv3c, hv3d⟩ := idx_some hv3
  replace hv3b : 0 < l2.length := hv3b
  replace hv3c : l2[0]? = some v3 := hv3c
  replace hv3d : ∀ h, l2[0]'h = v3 := hv3d
  refine VW.ws tau_ok Sound.none [some 13, some 14, none] [(0, .val (i64 a0)), (1, .val (dI a1)), (5, .ref 5 [] true (dI (l2.set 0 1)))] rfl ?_ ?_
  · simp [hv3a, hv3b, hv3c, hv3d] <;> simp [ieq, ilt, ile]
  refine VW.sqc fun K4 hK4 hCK4 => ?_
  -- region 3
  refine VW.ws tau_ok Sound.none [some 6] [(0, .val (i64 a0)), (1, .val (dI a1)), (5, .ref 5 [] true (dI (l2.set 0 1))), (6, .val (i64 0))] rfl ?_ ?_
  · simp <;> simp [ieq, ilt, ile]
  obtain ⟨x5, hx5, h⟩ := bind_some h
  refine VW.tlE [(5, .ref 5 [] true (dI x5))] (hCK4) ?_ ?_
  · clear hx5
    refine hK4 _ ?_
    -- region 16
    refine VW.ws tau_ok Sound.none [some 58, some 4] [(4, .ref 4 [] true (dI x5))] rfl ?_ ?_
    · simp <;> simp [ieq, ilt, ile]
    cases h
    refine VW.ret ?_
    simp [Post, PostM, PostC, PostC2, Nx, Bk]
  refine VW.block ?_
  refine VW.loopF (s_l12Counts_L0 a0 a1) (fun s5 => [(0, .val (i64 a0)), (1, .val (dI a1)), (5, .ref 5 [] true (dI s5.1)), (6, .val (i64 s5.2))]) hx5 (Fits.of rfl) ?_
  clear hx5
  intro s5 ox5 hx5o hx5b
  unfold s_l12Counts_L0 at hx5o
  refine VW.sqc fun K7 hK7 hCK7 => ?_
  -- region 4
  refine VW.ws tau_ok Sound.none [some 15, some 16, some 17, some 18] [(0, .val (i64 a0)), (1, .val (dI a1)), (5, .ref 5 [] true (dI s5.1)), (6, .val (i64 s5.2)), (18, .val (.bool (ilt s5.2 (a1.length : Int))))] rfl ?_ ?_
  · simp <;> simp [ieq, ilt, ile]
  refine VW.cond rfl (fun hb8 => ?_) (fun hb8 => ?_)
  rotate_left
  ·
    replace hb8 : ¬ (s5.2 < (a1.length : Int)) := by simpa [ieq, ilt, ile] using hb8
    rw [if_neg hb8] at hx5o
    refine VW.exit ?_
    cases hx5o
    have hq := hx5b _ rfl
    subst hq
    exact Fits.of rfl
  replace hb8 : s5.2 < (a1.length : Int) := by simpa [ieq, ilt, ile] using hb8
  rw [if_pos hb8] at hx5o
  refine VW.skip ?_
  refine hK7 _ ?_
  refine VW.sqc fun K9 hK9 hCK9 => ?_
  refine VW.block ?_
  -- region 6
  obtain ⟨hc10, hx5o⟩ := chk_some hx5o
  have hc10s := hc10
  try simp at hc10s
  refine VW.ws tau_ok Sound.none [some 21, some 22, some 7] [(0, .val (i64 a0)), (1, .val (dI a1)), (5, .ref 5 [] true (dI s5.1)), (6, .val (i64 s5.2)), (7, .ref 7 [] true (dI (List.replicate a0.toNat 0)))] rfl ?_ ?_
  · simp [hc10, hc10s] <;> simp [ieq, ilt, ile]
  refine VW.sqc fun K11 hK11 hCK11 => ?_
  -- region 7
  refine VW.ws tau_ok Sound.none [some 8] [(0, .val (i64 a0)), (1, .val (dI a1)), (5, .ref 5 [] true (dI s5.1)), (6, .val (i64 s5.2)), (7, .ref 7 [] true (dI (List.replicate a0.toNat 0))), (8, .val (i64 0))] rfl ?_ ?_
  · simp <;> simp [ieq, ilt, ile]
  obtain ⟨x12, hx12, hx5o⟩ := bind_some hx5o
  refine VW.tlE [(0, .val (i64 a0)), (1, .val (dI a1)), (6, .val (i64 s5.2)), (7, .ref 7 [] true (dI x12))] (hCK11) ?_ ?_
  · clear hx12
    refine hK11 _ ?_
    -- region 15
    refine VW.wr tau_ok Sound.none [some 57, some 5] [(0, .val (i64 a0)), (1, .val (dI a1)), (5, .ref 5 [] true (dI x12)), (6, .val (i64 s5.2))] rfl ?_ ?_
    · simp <;> simp [ieq, ilt, ile]
    refine hK9 _ ?_
    -- region 5
    refine VW.wr tau_ok Sound.none [some 19, some 20, some 6] [(0, .val (i64 a0)), (1, .val (dI a1)), (5, .ref 5 [] true (dI x12)), (6, .val (i64 (w64 (s5.2 + 1))))] rfl ?_ ?_
    · simp <;> simp [ieq, ilt, ile]
    cases hx5o
    exact ⟨_, rfl, Fits.of rfl⟩
  refine VW.block ?_
  refine VW.loopF (s_l12Counts_L1 a0 a1 s5) (fun s12 => [(0, .val (i64 a0)), (1, .val (dI a1)), (5, .ref 5 [] true (dI s5.1)), (6, .val (i64 s5.2)), (7, .ref 7 [] true (dI s12.1)), (8, .val (i64 s12.2))]) hx12 (Fits.of rfl) ?_
  clear hx12
  intro s12 ox12 hx12o hx12b
  unfold s_l12Counts_L1 at hx12o
  refine VW.sqc fun K14 hK14 hCK14 => ?_
  -- region 8
  refine VW.ws tau_ok Sound.none [some 23, some 24, some 25] [(0, .val (i64 a0)), (1, .val (dI a1)), (5, .ref 5 [] true (dI s5.1)), (6, .val (i64 s5.2)), (7, .ref 7 [] true (dI s12.1)), (8, .val (i64 s12.2)), (25, .val (.bool (ilt s12.2 a0)))] rfl ?_ ?_
  · simp <;> simp [ieq, ilt, ile]
  refine VW.cond rfl (fun hb15 => ?_) (fun hb15 => ?_)
  rotate_left
  ·
    replace hb15 : ¬ (s12.2 < a0) := by simpa [ieq, ilt, ile] using hb15
    rw [if_neg hb15] at hx12o
    refine VW.exit ?_
    cases hx12o
    have hq := hx12b _ rfl
    subst hq
    exact Fits.of rfl
  replace hb15 : s12.2 < a0 := by simpa [ieq, ilt, ile] using hb15
  rw [if_pos hb15] at hx12o
  refine VW.skip ?_
  refine hK14 _ ?_
  refine VW.sqc fun K16 hK16 hCK16 => ?_
  refine VW.block ?_
  -- region 10
  refine VW.ws tau_ok Sound.none [some 9] [(0, .val (i64 a0)), (1, .val (dI a1)), (5, .ref 5 [] true (dI s5.1)), (6, .val (i64 s5.2)), (7, .ref 7 [] true (dI s12.1)), (8, .val (i64 s12.2)), (9, .val (i64 0))] rfl ?_ ?_
  · simp <;> simp [ieq, ilt, ile]
  obtain ⟨x17, hx17, hx12o⟩ := bind_some hx12o
  refine VW.tlE [(0, .val (i64 a0)), (1, .val (dI a1)), (5, .ref 5 [] true (dI s5.1)), (6, .val (i64 s5.2)), (7, .ref 7 [] true (dI x17)), (8, .val (i64 s12.2))] (hCK16) ?_ ?_
  · clear hx17
    refine hK16 _ ?_
    -- region 9
    refine VW.wr tau_ok Sound.none [some 26, some 27, some 8] [(0, .val (i64 a0)), (1, .val (dI a1)), (5, .ref 5 [] true (dI s5.1)), (6, .val (i64 s5.2)), (7, .ref 7 [] true (dI x17)), (8, .val (i64 (w64 (s12.2 + 1))))] rfl ?_ ?_
    · simp <;> simp [ieq, ilt, ile]
    cases hx12o
    exact ⟨_, rfl, Fits.of rfl⟩
  refine VW.block ?_
  refine VW.loopF (s_l12Counts_L2 a0 a1 s5 s12) (fun s17 => [(0, .val (i64 a0)), (1, .val (dI a1)), (5, .ref 5 [] true (dI s5.1)), (6, .val (i64 s5.2)), (7, .ref 7 [] true (dI s17.1)), (8, .val (i64 s12.2)), (9, .val (i64 s17.2))]) hx17 (Fits.of rfl) ?_
  clear hx17
  intro s17 ox17 hx17o hx17b
  unfold s_l12Counts_L2 at hx17o
  refine VW.sqc fun K19 hK19 hCK19 => ?_
  -- region 11
  refine VW.ws tau_ok Sound.none [some 28, some 29, some 30] [(0, .val (i64 a0)), (1, .val (dI a1)), (5, .ref 5 [] true (dI s5.1)), (6, .val (i64 s5.2)), (7, .ref 7 [] true (dI s17.1)), (8, .val (i64 s12.2)), (9, .val (i64 s17.2)), (30, .val (.bool (ilt s17.2 a0)))] rfl ?_ ?_
  · simp <;> simp [ieq, ilt, ile]
  refine VW.cond rfl (fun hb20 => ?_) (fun hb20 => ?_)
  rotate_left
  ·
    replace hb20 : ¬ (s17.2 < a0) := by simpa [ieq, ilt, ile] using hb20
    rw [if_neg hb20] at hx17o
    refine VW.exit ?_
    cases hx17o
    have hq := hx17b _ rfl
    subst hq
    exact Fits.of rfl
  replace hb20 : s17.2 < a0 := by simpa [ieq, ilt, ile] using hb20
  rw [if_pos hb20] at hx17o
  refine VW.skip ?_
  refine hK19 _ ?_
  refine VW.sqc fun K21 hK21 hCK21 => ?_
  refine VW.block ?_
  -- region 13
  obtain ⟨v22, hv22, hx17o⟩ := bind_some hx17o
  obtain ⟨hv22a, hv22b, hv22c, hv22d⟩ := idx_some hv22
  obtain ⟨v23, hv23, hx17o⟩ := bind_some hx17o
  refine VW.ws tau_ok (Sound.none.add 44 (s_l01Mod_ok hv23) rfl) [some 33, some 34, some 35, some 36, some 37, some 38, some 39, some 40, some 41, some 42, some 43, some 44, some 10] [(0, .val (i64 a0)), (1, .val (dI a1)), (5, .ref 5 [] true (dI s5.1)), (6, .val (i64 s5.2)), (7, .ref 7 [] true (dI s17.1)), (8, .val (i64 s12.2)), (9, .val (i64 s17.2)), (10, .val (i64 v23))] rfl ?_ ?_
  · simp [hv22a, hv22b, hv22c, hv22d] <;> simp [ieq, ilt, ile]
  -- region 14
  obtain ⟨v24, hv24, hx17o⟩ := bind_some hx17o
  obtain ⟨hv24a, hv24b, hv24c, hv24d⟩ := idx_some hv24
  obtain ⟨v25, hv25, hx17o⟩ := bind_some hx17o
  obtain ⟨hv25a, hv25b, hv25c, hv25d⟩ := idx_some hv25
  refine VW.wdr tau_ok Sound.none try_mixed [some 45, some 46, some 47, some 48, some 49, some 50, some 51, some 52, some 53, some 54, some 55, some 56, none] [(0, .val (i64 a0)), (1, .val (dI a1)), (5, .ref 5 [] true (dI s5.1)), (6, .val (i64 s5.2)), (7, .ref 7 [] true (dI (s17.1.set v23.toNat (w64 (v24 + v25))))), (8, .val (i64 s12.2)), (9, .val (i64 s17.2))] 12 rfl (by kernel_rfl) (by rfl) ?_ ?_
  · simp [hv24a, hv24b, hv24c, hv24d, hv25a, hv25b, hv25c, hv25d] <;> simp [ieq, ilt, ile]
  refine hK21 _ ?_
  -- region 12
  refine VW.wr tau_ok Sound.none [some 31, some 32, some 9] [(0, .val (i64 a0)), (1, .val (dI a1)), (5, .ref 5 [] true (dI s5.1)), (6, .val (i64 s5.2)), (7, .ref 7 [] true (dI (s17.1.set v23.toNat (w64 (v24 + v25))))), (8, .val (i64 s12.2)), (9, .val (i64 (w64 (s17.2 + 1))))] rfl ?_ ?_
  · simp <;> simp [ieq, ilt, ile]
  cases hx17o
  exact ⟨_, rfl, Fits.of rfl⟩

theorem s_l11Size_ok {a0_0 : Int} {a0_1 : List Int} {r : Int} (h : s_l11Size a0_0 a0_1 = some r) :
    VCall Try.prog 129 [.agg [i64 a0_0, dI a0_1]] [.sc (i64 r)] := by
  unfold s_l11Size at h
  refine VCall.enter Try.call129 Try.func129 rfl 8 Try.ntmps129 (by simp) [.tmp 2] rfl ?_
  show VW _ _ _ (mk [(0, .val (.agg [i64 a0_0, dI a0_1]))]) _
  -- region 0
  refine VW.ws tau_ok Sound.none [some 1, some 2] [(1, .val (.ptr [i64 a0_0, dI a0_1]))] rfl ?_ ?_
  · simp <;> simp [ieq, ilt, ile]
  -- region 1
  obtain ⟨hc1, h⟩ := chk_some h
  have hc1s := hc1
  try simp at hc1s
  refine VW.ws tau_ok Sound.none [some 3, some 4, some 5, some 6, some 7, some 2] [(2, .val (i64 (shl .i64 1 (IntKind.u64.wrap ((a0_1.length : Int))))))] rfl ?_ ?_
  · simp [hc1, hc1s] <;> simp [ieq, ilt, ile]
  cases h
  refine VW.ret ?_
  simp [Post, PostM, PostC, PostC2, Nx, Bk]

theorem s_l11One_ok {a0_0 : Int} {a0_1 : List Int} {a1 : Int} {r : List Int} (h : s_l11One a0_0 a0_1 a1 = some r) :
    VCall Try.prog 201 [.agg [i64 a0_0, dI a0_1], i64 a1] [.own true (dI r)] := by
  unfold s_l11One at h
  refine VCall.enter Try.call201 Try.func201 rfl 13 Try.ntmps201 (by simp) [.tmp 4] rfl ?_
  show VW _ _ _ (mk [(0, .val (.agg [i64 a0_0, dI a0_1])), (1, .val (i64 a1))]) _
  -- region 0
  refine VW.ws tau_ok Sound.none [some 2, some 4] [(1, .val (i64 a1)), (2, .val (.ptr [i64 a0_0, dI a0_1]))] rfl ?_ ?_
  · simp <;> simp [ieq, ilt, ile]
  -- region 1
  obtain ⟨v1, hv1, h⟩ := bind_some h
  obtain ⟨hc2, h⟩ := chk_some h
  have hc2s := hc2
  try simp at hc2s
  refine VW.ws tau_ok (Sound.none.add 7 (s_l11Size_ok hv1) rfl) [some 6, some 7, some 8, some 5] [(1, .val (i64 a1)), (5, .ref 5 [] true (dI (List.replicate v1.toNat 0)))] rfl ?_ ?_
  · simp [hc2, hc2s] <;> simp [ieq, ilt, ile]
  obtain ⟨l3, hl3, h⟩ := bind_some h
  rw [Option.some.inj hl3]
  -- region 2
  obtain ⟨v4, hv4, h⟩ := bind_some h
  obtain ⟨hv4a, hv4b, hv4c, hv4d⟩ := idx_some hv4
  refine VW.ws tau_ok Sound.none [some 9, some 10, some 11, none] [(5, .ref 5 [] true (dI (l3.set a1.toNat 1)))] rfl ?_ ?_
  · simp [hv4a, hv4b, hv4c, hv4d] <;> simp [ieq, ilt, ile]
  -- region 3
  refine VW.ws tau_ok Sound.none [some 12, some 4] [(4, .ref 4 [] true (dI (l3.set a1.toNat 1)))] rfl ?_ ?_
  · simp <;> simp [ieq, ilt, ile]
  cases h
  refine VW.ret ?_
  simp [Post, PostM, PostC, PostC2, Nx, Bk]

theorem s_l01Own_ok {a0 : List Int} {r : List Int} (h : s_l01Own a0 = some r) :
    VCall Try.prog 208 [dI a0] [.own true (dI r)] := by
  unfold s_l01Own at h
  refine VCall.enter Try.call208 Try.func208 rfl 6 Try.ntmps208 (by simp) [.tmp 2] rfl ?_
  show VW _ _ _ (mk [(0, .val (dI a0))]) _
  -- region 0
  refine VW.ws tau_ok Sound.none [some 2] [(0, .val (dI a0))] rfl ?_ ?_
  · simp <;> simp [ieq, ilt, ile]
  -- region 1
  obtain ⟨hc1, h⟩ := chk_some h
  have hc1s := hc1
  try simp at hc1s
  refine VW.ws tau_ok Sound.none [some 3, some 4, some 5, some 2] [(2, .ref 2 [] true (dI (([] : List Int) ++ a0)))] rfl ?_ ?_
  · simp [hc1, hc1s] <;> simp [ieq, ilt, ile]
  cases h
  refine VW.ret ?_
  simp [Post, PostM, PostC, PostC2, Nx, Bk]

theorem s_l13Search_b_ok {self : Int → (List Int) → Int → (List Int) → (List (List Int)) → Option (List (List Int))} (hself : ∀ {a0 a1 a2 a3 a4} {r : List (List Int)}, self a0 a1 a2 a3 a4 = some r → VTkW Try.prog 241 [i64 a0, dI a1, i64 a2, dI a3] (a4.map dI) (r.map dI)) {a0 : Int} {a1 : List Int} {a2 : Int} {a3 : List Int} {a4 : List (List Int)} {r : List (List Int)} (h : s_l13Search_b self a0 a1 a2 a3 a4 = some r) :
    VTkW Try.prog 241 [i64 a0, dI a1, i64 a2, dI a3] (a4.map dI) (r.map dI) := by
  unfold s_l13Search_b at h
  refine VTkW.enter Try.call241 Try.func241 rfl 69 Try.ntmps241 (by simp) 10 rfl ?_
  show VW _ _ _ (mk [(0, .val (i64 a0)), (1, .val (dI a1)), (2, .val (i64 a2)), (3, .val (dI a3)), (4, .ref 4 [] false (dM a4))]) _
  -- region 0
  refine VW.ws tau_ok Sound.none [some 10] [(0, .val (i64 a0)), (1, .val (dI a1)), (2, .val (i64 a2)), (3, .val (dI a3)), (4, .ref 4 [] false (dM a4))] rfl ?_ ?_
  · simp <;> simp [ieq, ilt, ile]
  refine VW.sqc fun K1 hK1 hCK1 => ?_
  -- region 1
  refine VW.ws tau_ok Sound.none [some 13, some 14, some 15] [(0, .val (i64 a0)), (1, .val (dI a1)), (2, .val (i64 a2)), (3, .val (dI a3)), (4, .ref 4 [] false (dM a4)), (15, .val (.bool (ilt 129 (a4.length : Int))))] rfl ?_ ?_
  · simp <;> simp [ieq, ilt, ile]
  refine VW.cond rfl (fun hb2 => ?_) (fun hb2 => ?_)
  ·
    replace hb2 : 129 < (a4.length : Int) := by simpa [ieq, ilt, ile] using hb2
    rw [if_pos hb2] at h
    -- region 2
    refine VW.ws tau_ok Sound.none [some 16, some 10] [(10, .ref 10 [] false (dM a4))] rfl ?_ ?_
    · simp <;> simp [ieq, ilt, ile]
    cases h
    refine VW.ret ?_
    simp [Post, PostM, PostC, PostC2, Nx, Bk]
  replace hb2 : ¬ (129 < (a4.length : Int)) := by simpa [ieq, ilt, ile] using hb2
  rw [if_neg hb2] at h
  refine VW.skip ?_
  refine hK1 _ ?_
  refine VW.sqc fun K3 hK3 hCK3 => ?_
  -- region 3
  refine VW.ws tau_ok Sound.none [some 17, some 18, some 19, some 20, some 21] [(0, .val (i64 a0)), (1, .val (dI a1)), (2, .val (i64 a2)), (3, .val (dI a3)), (4, .ref 4 [] false (dM a4)), (21, .val (.bool (ieq (a3.length : Int) (a1.length : Int))))] rfl ?_ ?_
  · simp <;> simp [ieq, ilt, ile]
  refine VW.cond rfl (fun hb4 => ?_) (fun hb4 => ?_)
  ·
    replace hb4 : (a3.length : Int) = (a1.length : Int) := by simpa [ieq, ilt, ile] using hb4
    rw [if_pos hb4] at h
    refine VW.sqc fun K5 hK5 hCK5 => ?_
    -- region 4
    refine VW.ws tau_ok Sound.none [some 22, some 23] [(3, .val (dI a3)), (4, .ref 4 [] false (dM a4)), (23, .val (.bool (ieq a2 0)))] rfl ?_ ?_
    · simp <;> simp [ieq, ilt, ile]
    obtain ⟨x6, hx6, h⟩ := bind_some h
    refine VW.tlE [(4, .ref 4 [] false (dM x6))] (hCK5) ?_ ?_
    · clear hx6
      refine hK5 _ ?_
      -- region 6
      refine VW.ws tau_ok Sound.none [some 28, some 10] [(10, .ref 10 [] false (dM x6))] rfl ?_ ?_
      · simp <;> simp [ieq, ilt, ile]
      cases h
      refine VW.ret ?_
      simp [Post, PostM, PostC, PostC2, Nx, Bk]
    refine VW.cond rfl (fun hb8 => ?_) (fun hb8 => ?_)
    rotate_left
    ·
      replace hb8 : ¬ (a2 = 0) := by simpa [ieq, ilt, ile] using hb8
      rw [if_neg hb8] at hx6
      refine VW.skip ?_
      cases hx6
      exact Fits.of rfl
    replace hb8 : a2 = 0 := by simpa [ieq, ilt, ile] using hb8
    rw [if_pos hb8] at hx6
    -- region 5
    obtain ⟨hc9, hx6⟩ := chk_some hx6
    have hc9s := hc9
    try simp at hc9s
    refine VW.wr tau_ok Sound.none [some 24, some 25, some 26, some 27, some 4] [(4, .ref 4 [] false (dM (a4 ++ [a3])))] rfl ?_ ?_
    · simp [hc9, hc9s] <;> simp [ieq, ilt, ile]
    cases hx6
    exact Fits.of rfl
  replace hb4 : ¬ ((a3.length : Int) = (a1.length : Int)) := by simpa [ieq, ilt, ile] using hb4
  rw [if_neg hb4] at h
  refine VW.skip ?_
  refine hK3 _ ?_
  -- region 7
  obtain ⟨hc10, h⟩ := chk_some h
  have hc10s := hc10
  try simp at hc10s
  obtain ⟨v11, hv11, h⟩ := bind_some h
  refine VW.ws tau_ok (Sound.none.add 34 (s_l12Counts_ok hv11) rfl) [some 29, some 30, some 31, some 32, some 33, some 34, some 11] [(0, .val (i64 a0)), (1, .val (dI a1)), (2, .val (i64 a2)), (3, .val (dI a3)), (4, .ref 4 [] false (dM a4)), (11, .ref 11 [] true (dI v11))] rfl ?_ ?_
  · simp [hc10, hc10s] <;> simp [ieq, ilt, ile]
  refine VW.sqc fun K12 hK12 hCK12 => ?_
  -- region 8
  obtain ⟨v13, hv13, h⟩ := bind_some h
  obtain ⟨hv13a, hv13b, hv13c, hv13d⟩ := idx_some hv13
  refine VW.ws tau_ok Sound.none [some 35, some 36, some 37, some 38, some 39] [(0, .val (i64 a0)), (1, .val (dI a1)), (2, .val (i64 a2)), (3, .val (dI a3)), (4, .ref 4 [] false (dM a4)), (39, .val (.bool (ieq v13 0)))] rfl ?_ ?_
  · simp [hv13a, hv13b, hv13c, hv13d] <;> simp [ieq, ilt, ile]
  refine VW.cond rfl (fun hb14 => ?_) (fun hb14 => ?_)
  ·
    replace hb14 : v13 = 0 := by simpa [ieq, ilt, ile] using hb14
    rw [if_pos hb14] at h
    -- region 9
    refine VW.ws tau_ok Sound.none [some 40, some 10] [(10, .ref 10 [] false (dM a4))] rfl ?_ ?_
    · simp <;> simp [ieq, ilt, ile]
    cases h
    refine VW.ret ?_
    simp [Post, PostM, PostC, PostC2, Nx, Bk]
  replace hb14 : ¬ (v13 = 0) := by simpa [ieq, ilt, ile] using hb14
  rw [if_neg hb14] at h
  refine VW.skip ?_
  refine hK12 _ ?_
  refine VW.sqc fun K15 hK15 hCK15 => ?_
  -- region 10
  refine VW.ws tau_ok Sound.none [some 12] [(0, .val (i64 a0)), (1, .val (dI a1)), (2, .val (i64 a2)), (3, .val (dI a3)), (4, .ref 4 [] false (dM a4)), (12, .val (i64 0))] rfl ?_ ?_
  · simp <;> simp [ieq, ilt, ile]
  obtain ⟨x16, hx16, h⟩ := bind_some h
  refine VW.tlE [(4, .ref 4 [] false (dM x16))] (hCK15) ?_ ?_
  · clear hx16
    refine hK15 _ ?_
    -- region 14
    refine VW.ws tau_ok Sound.none [some 68, some 10] [(10, .ref 10 [] false (dM x16))] rfl ?_ ?_
    · simp <;> simp [ieq, ilt, ile]
    cases h
    refine VW.ret ?_
    simp [Post, PostM, PostC, PostC2, Nx, Bk]
  refine VW.block ?_
  refine VW.loopF (s_l13Search_L0 a0 a1 a2 a3 self) (fun s16 => [(0, .val (i64 a0)), (1, .val (dI a1)), (2, .val (i64 a2)), (3, .val (dI a3)), (4, .ref 4 [] false (dM s16.1)), (12, .val (i64 s16.2))]) hx16 (Fits.of rfl) ?_
  clear hx16
  intro s16 ox16 hx16o hx16b
  unfold s_l13Search_L0 at hx16o
  refine VW.sqc fun K18 hK18 hCK18 => ?_
  -- region 11
  refine VW.ws tau_ok Sound.none [some 41, some 42, some 43] [(0, .val (i64 a0)), (1, .val (dI a1)), (2, .val (i64 a2)), (3, .val (dI a3)), (4, .ref 4 [] false (dM s16.1)), (12, .val (i64 s16.2)), (43, .val (.bool (ilt s16.2 a0)))] rfl ?_ ?_
  · simp <;> simp [ieq, ilt, ile]
  refine VW.cond rfl (fun hb19 => ?_) (fun hb19 => ?_)
  rotate_left
  ·
    replace hb19 : ¬ (s16.2 < a0) := by simpa [ieq, ilt, ile] using hb19
    rw [if_neg hb19] at hx16o
    refine VW.exit ?_
    cases hx16o
    have hq := hx16b _ rfl
    subst hq
    exact Fits.of rfl
  replace hb19 : s16.2 < a0 := by simpa [ieq, ilt, ile] using hb19
  rw [if_pos hb19] at hx16o
  refine VW.skip ?_
  refine hK18 _ ?_
  refine VW.sqc fun K20 hK20 hCK20 => ?_
  refine VW.block ?_
  -- region 13
  obtain ⟨v21, hv21, hx16o⟩ := bind_some hx16o
  obtain ⟨hv21a, hv21b, hv21c, hv21d⟩ := idx_some hv21
  replace hv21b : a3.length < a1.length := hv21b
  replace hv21c : a1[a3.length]? = some v21 := hv21c
  replace hv21d : ∀ h, a1[a3.length]'h = v21 := hv21d
  obtain ⟨v22, hv22, hx16o⟩ := bind_some hx16o
  obtain ⟨v23, hv23, hx16o⟩ := bind_some hx16o
  obtain ⟨hc24, hx16o⟩ := chk_some hx16o
  have hc24s := hc24
  try simp at hc24s
  obtain ⟨v25, hv25, hx16o⟩ := bind_some hx16o
  refine VW.midr tau_ok ((Sound.none.add 60 (s_l01Mod_ok hv22) rfl).add 62 (s_l01Own_ok hv23) rfl) [some 46, some 47, some 48, some 49, some 50, some 51, some 52, some 53, some 54, some 55, some 56, some 57, some 58, some 59, some 60, some 61, some 62, some 63, some 64, some 65, some 66, some 67, some 4] 21 [(0, .val (i64 a0)), (1, .val (dI a1)), (2, .val (i64 a2)), (3, .val (dI a3)), (12, .val (i64 s16.2)), (46, .val (i64 a0)), (47, .val (dI a1)), (60, .val (i64 v22)), (65, .ref 65 [] true (dI (v23 ++ [s16.2]))), (66, .ref 4 [] false (dM s16.1))] _ (fun _ => [(0, .val (i64 a0)), (1, .val (dI a1)), (2, .val (i64 a2)), (3, .val (dI a3)), (4, .ref 4 [] false (dM v25)), (12, .val (i64 s16.2))]) (fun _ => True) _ rfl rfl rfl ?_ (OStep.fits (f1 := [(0, .val (i64 a0)), (1, .val (dI a1)), (2, .val (i64 a2)), (3, .val (dI a3)), (12, .val (i64 s16.2)), (46, .val (i64 a0)), (47, .val (dI a1)), (60, .val (i64 v22)), (65, .val (dI (v23 ++ [s16.2]))), (66, .ref 4 [] false (dM s16.1))]) (Fits.freeze (s := 65) rfl (by simp) (Fits.of rfl)) (step_tkw' rfl rfl rfl (by simp) rfl (by simp) rfl (hself hv25))) (fun _ _ => ?_) (fun _ _ => ?_)
  · simp [hv21a, hv21b, hv21c, hv21d, hc24, hc24s] <;> simp [ieq, ilt, ile]
  · simp [hv21a, hv21b, hv21c, hv21d, hc24, hc24s] <;> simp [ieq, ilt, ile]
  refine hK20 _ ?_
  -- region 12
  refine VW.wr tau_ok Sound.none [some 44, some 45, some 12] [(0, .val (i64 a0)), (1, .val (dI a1)), (2, .val (i64 a2)), (3, .val (dI a3)), (4, .ref 4 [] false (dM v25)), (12, .val (i64 (w64 (s16.2 + 1))))] rfl ?_ ?_
  · simp <;> simp [ieq, ilt, ile]
  cases hx16o
  exact ⟨_, rfl, Fits.of rfl⟩
theorem s_l13Search_ok : ∀ {n : Nat} {a0 : Int} {a1 : List Int} {a2 : Int} {a3 : List Int} {a4 : List (List Int)} {r : List (List Int)} (_ : s_l13Search n a0 a1 a2 a3 a4 = some r),
    VTkW Try.prog 241 [i64 a0, dI a1, i64 a2, dI a3] (a4.map dI) (r.map dI)
  | 0, _, _, _, _, _, _, h => by cases h
  | n + 1, _, _, _, _, _, _, h => s_l13Search_b_ok (fun h => s_l13Search_ok (n := n) h) h

theorem s_l01Same_ok {a0 : List Int} {a1 : List Int} {r : Bool} (h : s_l01Same a0 a1 = some r) :
    VCall Try.prog 96 [dI a0, dI a1] [.sc (.bool r)] := by
  unfold s_l01Same at h
  refine VCall.enter Try.call96 Try.func96 rfl 26 Try.ntmps96 (by simp) [.tmp 4] rfl ?_
  show VW _ _ _ (mk [(0, .val (dI a0)), (1, .val (dI a1))]) _
  -- region 0
  refine VW.ws tau_ok Sound.none [some 4] [(0, .val (dI a0)), (1, .val (dI a1))] rfl ?_ ?_
  · simp <;> simp [ieq, ilt, ile]
  refine VW.sqc fun K1 hK1 hCK1 => ?_
  -- region 1
  refine VW.ws tau_ok Sound.none [some 6, some 7, some 8, some 9, some 10] [(0, .val (dI a0)), (1, .val (dI a1)), (10, .val (.bool (!(ieq (a0.length : Int) (a1.length : Int)))))] rfl ?_ ?_
  · simp <;> simp [ieq, ilt, ile]
  refine VW.cond rfl (fun hb2 => ?_) (fun hb2 => ?_)
  ·
    replace hb2 : ¬ (a0.length : Int) = (a1.length : Int) := by simpa [ieq, ilt, ile] using hb2
    rw [if_pos hb2] at h
    -- region 2
    refine VW.ws tau_ok Sound.none [some 4] [(4, .val (.bool false))] rfl ?_ ?_
    · simp <;> simp [ieq, ilt, ile]
    cases h
    refine VW.ret ?_
    simp [Post, PostM, PostC, PostC2, Nx, Bk]
  replace hb2 : ¬ (¬ (a0.length : Int) = (a1.length : Int)) := by simpa [ieq, ilt, ile] using hb2
  rw [if_neg hb2] at h
  refine VW.skip ?_
  refine hK1 _ ?_
  refine VW.sqc fun K3 hK3 hCK3 => ?_
  -- region 3
  refine VW.ws tau_ok Sound.none [some 5] [(0, .val (dI a0)), (1, .val (dI a1)), (5, .val (i64 0))] rfl ?_ ?_
  · simp <;> simp [ieq, ilt, ile]
  obtain ⟨x4, hx4, h⟩ := bind_some h
  refine VW.tlO (fun y6 => []) x4 (hCK3) ?_ ?_
  · clear hx4
    rintro y6 rfl
    dsimp only at h
    refine hK3 _ ?_
    -- region 8
    refine VW.ws tau_ok Sound.none [some 4] [(4, .val (.bool true))] rfl ?_ ?_
    · simp <;> simp [ieq, ilt, ile]
    cases h
    refine VW.ret ?_
    simp [Post, PostM, PostC, PostC2, Nx, Bk]
  refine VW.block ?_
  refine VW.loopF (s_l01Same_L0 a0 a1) (fun s4 => [(0, .val (dI a0)), (1, .val (dI a1)), (5, .val (i64 s4))]) hx4 (Fits.of rfl) ?_
  clear hx4
  intro s4 ox4 hx4o hx4b
  unfold s_l01Same_L0 at hx4o
  refine VW.sqc fun K7 hK7 hCK7 => ?_
  -- region 4
  refine VW.ws tau_ok Sound.none [some 11, some 12, some 13, some 14] [(0, .val (dI a0)), (1, .val (dI a1)), (5, .val (i64 s4)), (14, .val (.bool (ilt s4 (a0.length : Int))))] rfl ?_ ?_
  · simp <;> simp [ieq, ilt, ile]
  refine VW.cond rfl (fun hb8 => ?_) (fun hb8 => ?_)
  rotate_left
  ·
    replace hb8 : ¬ (s4 < (a0.length : Int)) := by simpa [ieq, ilt, ile] using hb8
    rw [if_neg hb8] at hx4o
    refine VW.exit ?_
    cases hx4o
    have hq := hx4b _ rfl
    subst hq
    exact ⟨_, rfl, Fits.of rfl⟩
  replace hb8 : s4 < (a0.length : Int) := by simpa [ieq, ilt, ile] using hb8
  rw [if_pos hb8] at hx4o
  refine VW.skip ?_
  refine hK7 _ ?_
  refine VW.sqc fun K9 hK9 hCK9 => ?_
  refine VW.block ?_
  -- region 6
  obtain ⟨v10, hv10, hx4o⟩ := bind_some hx4o
  obtain ⟨hv10a, hv10b, hv10c, hv10d⟩ := idx_some hv10
  obtain ⟨v11, hv11, hx4o⟩ := bind_some hx4o
  obtain ⟨hv11a, hv11b, hv11c, hv11d⟩ := idx_some hv11
  refine VW.wds tau_ok Sound.none try_mixed [some 17, some 18, some 19, some 20, some 21, some 22, some 23, some 24, some 25] [(0, .val (dI a0)), (1, .val (dI a1)), (5, .val (i64 s4)), (25, .val (.bool (!(ieq v10 v11))))] 9 rfl (by kernel_rfl) (by rfl) ?_ ?_
  · simp [hv10a, hv10b, hv10c, hv10d, hv11a, hv11b, hv11c, hv11d] <;> simp [ieq, ilt, ile]
  refine VW.cond rfl (fun hb12 => ?_) (fun hb12 => ?_)
  rotate_left
  ·
    replace hb12 : ¬ (¬ v10 = v11) := by simpa [ieq, ilt, ile] using hb12
    rw [if_neg hb12] at hx4o
    refine VW.skip ?_
    refine hK9 _ ?_
    -- region 5
    refine VW.wr tau_ok Sound.none [some 15, some 16, some 5] [(0, .val (dI a0)), (1, .val (dI a1)), (5, .val (i64 (w64 (s4 + 1))))] rfl ?_ ?_
    · simp <;> simp [ieq, ilt, ile]
    cases hx4o
    exact ⟨_, rfl, Fits.of rfl⟩
  replace hb12 : ¬ v10 = v11 := by simpa [ieq, ilt, ile] using hb12
  rw [if_pos hb12] at hx4o
  -- region 7
  refine VW.ws tau_ok Sound.none [some 4] [(4, .val (.bool false))] rfl ?_ ?_
  · simp <;> simp [ieq, ilt, ile]
  cases hx4o
  have hq := hx4b _ rfl
  subst hq
  dsimp only at h
  cases h
  refine VW.ret ?_
  simp [Post, PostM, PostC, PostC2, Nx, Bk]

theorem s_l13Units_ok {a0_0 : Int} {a0_1 : List Int} {r : List (List Int)} (h : s_l13Units a0_0 a0_1 = some r) :
    VCall Try.prog 182 [.agg [i64 a0_0, dI a0_1]] [.own false (dM r)] := by
  unfold s_l13Units at h
  refine VCall.enter Try.call182 Try.func182 rfl 38 Try.ntmps182 (by simp) [.tmp 2] rfl ?_
  show VW _ _ _ (mk [(0, .val (.agg [i64 a0_0, dI a0_1]))]) _
  -- region 0
  refine VW.ws tau_ok Sound.none [some 1, some 2] [(1, .val (.ptr [i64 a0_0, dI a0_1]))] rfl ?_ ?_
  · simp <;> simp [ieq, ilt, ile]
  -- region 1
  obtain ⟨v1, hv1, h⟩ := bind_some h
  refine VW.ws tau_ok (Sound.none.add 7 (s_l11One_ok hv1) rfl) [some 6, some 7, some 8, some 3] [(1, .val (.ptr [i64 a0_0, dI a0_1])), (3, .ref 3 [] true (dM [v1]))] rfl ?_ ?_
  · simp <;> simp [ieq, ilt, ile]
  -- region 2
  obtain ⟨v2, hv2, h⟩ := bind_some h
  obtain ⟨v3, hv3, h⟩ := bind_some h
  refine VW.dls2 tau_ok (Sound.none.add 12 (s_l11Diagonal_ok hv2) rfl) try_mixed [some 9, some 10, some 11, some 12, some 13, some 14, some 4] 5 [(3, .ref 3 [] true (dM [v1])), (10, .val (i64 a0_0)), (12, .ref 12 [] true (dI v2)), (13, .ref 13 [] true (dI []))] _ [(3, .ref 3 [] true (dM [v1])), (14, .ref 14 [] false (dM v3))] _ [(3, .ref 3 [] true (dM [v1])), (4, .ref 4 [] false (dM v3))] _ _ rfl rfl rfl rfl rfl (by kernel_rfl) (by rfl) ?_ (OStep.fits (f1 := [(3, .ref 3 [] true (dM [v1])), (10, .val (i64 a0_0)), (12, .val (dI v2)), (13, .val (dI []))]) (Fits.freeze (s := 12) rfl (by simp) (Fits.freeze (s := 13) rfl (by simp) (Fits.of rfl))) (step_tkw' rfl rfl rfl (by simp) rfl (by simp) rfl (s_l13Search_ok (n := BIG) hv3))) ?_ (step_asnW rfl rfl (by simp) rfl (by decide)) ?_ ?_
  · simp <;> simp [ieq, ilt, ile]
  · simp <;> simp [ieq, ilt, ile]
  · simp <;> simp [ieq, ilt, ile]
  refine VW.sqc fun K4 hK4 hCK4 => ?_
  -- region 3
  refine VW.ws tau_ok Sound.none [some 5] [(3, .ref 3 [] true (dM [v1])), (4, .ref 4 [] false (dM v3)), (5, .val (i64 0))] rfl ?_ ?_
  · simp <;> simp [ieq, ilt, ile]
  obtain ⟨x5, hx5, h⟩ := bind_some h
  refine VW.tlE [(3, .ref 3 [] false (dM x5))] (hCK4) ?_ ?_
  · clear hx5
    refine hK4 _ ?_
    -- region 8
    refine VW.ws tau_ok Sound.none [some 37, some 2] [(2, .ref 2 [] false (dM x5))] rfl ?_ ?_
    · simp <;> simp [ieq, ilt, ile]
    cases h
    refine VW.ret ?_
    simp [Post, PostM, PostC, PostC2, Nx, Bk]
  refine VW.block ?_
  refine VW.loopF (s_l13Units_L0 v3) (fun s5 => [(3, .ref 3 [] false (dM s5.1)), (4, .ref 4 [] false (dM v3)), (5, .val (i64 s5.2))]) hx5 (Fits.weak (s := 3) rfl (by simp) (Fits.of rfl)) ?_
  clear hx5
  intro s5 ox5 hx5o hx5b
  unfold s_l13Units_L0 at hx5o
  refine VW.sqc fun K7 hK7 hCK7 => ?_
  -- region 4
  refine VW.ws tau_ok Sound.none [some 15, some 16, some 17, some 18] [(3, .ref 3 [] false (dM s5.1)), (4, .ref 4 [] false (dM v3)), (5, .val (i64 s5.2)), (18, .val (.bool (ilt s5.2 (v3.length : Int))))] rfl ?_ ?_
  · simp <;> simp [ieq, ilt, ile]
  refine VW.cond rfl (fun hb8 => ?_) (fun hb8 => ?_)
  rotate_left
  ·
    replace hb8 : ¬ (s5.2 < (v3.length : Int)) := by simpa [ieq, ilt, ile] using hb8
    rw [if_neg hb8] at hx5o
    refine VW.exit ?_
    cases hx5o
    have hq := hx5b _ rfl
    subst hq
    exact Fits.of rfl
  replace hb8 : s5.2 < (v3.length : Int) := by simpa [ieq, ilt, ile] using hb8
  rw [if_pos hb8] at hx5o
  refine VW.skip ?_
  refine hK7 _ ?_
  obtain ⟨x9, hx9, hx5o⟩ := bind_some hx5o
  refine VW.sqE [(3, .ref 3 [] false (dM x9)), (4, .ref 4 [] false (dM v3)), (5, .val (i64 s5.2))] ?_ ?_
  · clear hx9
    -- region 5
    refine VW.wr tau_ok Sound.none [some 19, some 20, some 5] [(3, .ref 3 [] false (dM x9)), (4, .ref 4 [] false (dM v3)), (5, .val (i64 (w64 (s5.2 + 1))))] rfl ?_ ?_
    · simp <;> simp [ieq, ilt, ile]
    cases hx5o
    exact ⟨_, rfl, Fits.of rfl⟩
  refine VW.block ?_
  -- region 6
  obtain ⟨v11, hv11, hx9⟩ := bind_some hx9
  obtain ⟨hv11a, hv11b, hv11c, hv11d⟩ := idx_some hv11
  obtain ⟨v12, hv12, hx9⟩ := bind_some hx9
  obtain ⟨hv12a, hv12b, hv12c, hv12d⟩ := idx_some hv12
  replace hv12b : 0 < s5.1.length := hv12b
  replace hv12c : s5.1[0]? = some v12 := hv12c
  replace hv12d : ∀ h, s5.1[0]'h = v12 := hv12d
  obtain ⟨v13, hv13, hx9⟩ := bind_some hx9
  refine VW.wds tau_ok (Sound.none.add 28 (s_l01Same_ok hv13) rfl) try_mixed [some 21, some 22, some 23, some 24, some 25, some 26, some 27, some 28, some 29] [(3, .ref 3 [] false (dM s5.1)), (4, .ref 4 [] false (dM v3)), (5, .val (i64 s5.2)), (29, .val (.bool (!v13)))] 9 rfl (by kernel_rfl) (by rfl) ?_ ?_
  · simp [hv11a, hv11b, hv11c, hv11d, hv12a, hv12b, hv12c, hv12d] <;> simp [ieq, ilt, ile]
  refine VW.cond rfl (fun hb14 => ?_) (fun hb14 => ?_)
  rotate_left
  ·
    replace hb14 : ¬ (v13 = false) := by simpa [ieq, ilt, ile] using hb14
    rw [if_neg hb14] at hx9
    refine VW.skip ?_
    cases hx9
    exact Fits.of rfl
  replace hb14 : v13 = false := by simpa [ieq, ilt, ile] using hb14
  rw [if_pos hb14] at hx9
  -- region 7
  obtain ⟨hc15, hx9⟩ := chk_some hx9
  have hc15s := hc15
  try simp at hc15s
  refine VW.wr tau_ok Sound.none [some 30, some 31, some 32, some 33, some 34, some 35, some 36, some 3] [(3, .ref 3 [] false (dM (s5.1 ++ [v11]))), (4, .ref 4 [] false (dM v3)), (5, .val (i64 s5.2))] rfl ?_ ?_
  · simp [hv11a, hv11b, hv11c, hv11d, hc15, hc15s] <;> simp [ieq, ilt, ile]
  cases hx9
  exact Fits.of rfl

theorem s_l13Small_ok {a0_0 : Int} {a0_1 : List Int} {r : (List (List Int)) × Int} (h : s_l13Small a0_0 a0_1 = some r) :
    VCall Try.prog 93 [.agg [i64 a0_0, dI a0_1]] [.own false (dM r.1), .sc (i64 r.2)] := by
  unfold s_l13Small at h
  refine VCall.enter Try.call93 Try.func93 rfl 24 Try.ntmps93 (by simp) [.tmp 2, .tmp 3] rfl ?_
  show VW _ _ _ (mk [(0, .val (.agg [i64 a0_0, dI a0_1]))]) _
  -- region 0
  refine VW.ws tau_ok Sound.none [some 1, some 2, some 3] [(1, .val (.ptr [i64 a0_0, dI a0_1]))] rfl ?_ ?_
  · simp <;> simp [ieq, ilt, ile]
  refine VW.sqc fun K1 hK1 hCK1 => ?_
  refine VW.block ?_
  -- region 1
  obtain ⟨v2, hv2, h⟩ := bind_some h
  refine VW.ws tau_ok (Sound.none.add 6 (s_l11Is_ok hv2) rfl) [some 5, some 6, some 7, some 4] [(1, .val (.ptr [i64 a0_0, dI a0_1])), (4, .val (.bool (!v2)))] rfl ?_ ?_
  · simp <;> simp [ieq, ilt, ile]
  refine VW.cond rfl (fun hb3 => ?_) (fun hb3 => ?_)
  ·
    replace hb3 : v2 = false := by simpa [ieq, ilt, ile] using hb3
    rw [if_pos hb3] at h
    -- region 2
    refine VW.ws tau_ok Sound.none [some 2, some 3] [(2, .ref 2 [] true (.list [])), (3, .val (i64 1))] rfl ?_ ?_
    · simp <;> simp [ieq, ilt, ile]
    have hr0 := Option.some.inj h
    subst hr0
    refine VW.fits (fl' := [(2, .ref 2 [] false (.list [])), (3, .val (i64 1))]) (Fits.weak (s := 2) rfl (by simp) (Fits.of rfl)) ?_
    refine VW.ret ?_
    simp [Post, PostM, PostC, PostC2, Nx, Bk]
  replace hb3 : ¬ (v2 = false) := by simpa [ieq, ilt, ile] using hb3
  rw [if_neg hb3] at h
  -- region 3
  refine VW.ws tau_ok Sound.none [some 9, some 10, some 11, some 12, some 8] [(1, .val (.ptr [i64 a0_0, dI a0_1])), (8, .val (.bool (ilt 3 (a0_1.length : Int))))] rfl ?_ ?_
  · simp <;> simp [ieq, ilt, ile]
  refine VW.cond rfl (fun hb4 => ?_) (fun hb4 => ?_)
  ·
    replace hb4 : 3 < (a0_1.length : Int) := by simpa [ieq, ilt, ile] using hb4
    rw [if_pos hb4] at h
    -- region 4
    refine VW.ws tau_ok Sound.none [some 2, some 3] [(2, .ref 2 [] true (.list [])), (3, .val (i64 5))] rfl ?_ ?_
    · simp <;> simp [ieq, ilt, ile]
    have hr0 := Option.some.inj h
    subst hr0
    refine VW.fits (fl' := [(2, .ref 2 [] false (.list [])), (3, .val (i64 5))]) (Fits.weak (s := 2) rfl (by simp) (Fits.of rfl)) ?_
    refine VW.ret ?_
    simp [Post, PostM, PostC, PostC2, Nx, Bk]
  replace hb4 : ¬ (3 < (a0_1.length : Int)) := by simpa [ieq, ilt, ile] using hb4
  rw [if_neg hb4] at h
  -- region 5
  obtain ⟨v5, hv5, h⟩ := bind_some h
  obtain ⟨v6, hv6, h⟩ := bind_some h
  obtain ⟨v7, hv7, h⟩ := bind_some h
  obtain ⟨hv7a, hv7b, hv7c, hv7d⟩ := idx_some hv7
  replace hv7b : 1 < v6.length := hv7b
  replace hv7c : v6[1]? = some v7 := hv7c
  replace hv7d : ∀ h, v6[1]'h = v7 := hv7d
  refine VW.wds tau_ok ((Sound.none.add 17 (s_l11Diagonal_ok hv5) rfl).add 18 (s_l12Counts_ok hv6) rfl) try_mixed [some 14, some 15, some 16, some 17, some 18, some 19, some 20, some 21, some 13] [(1, .val (.ptr [i64 a0_0, dI a0_1])), (13, .val (.bool (ilt 128 v7)))] 9 rfl (by kernel_rfl) (by rfl) ?_ ?_
  · simp [hv7a, hv7b, hv7c, hv7d] <;> simp [ieq, ilt, ile]
  refine VW.cond rfl (fun hb8 => ?_) (fun hb8 => ?_)
  ·
    replace hb8 : 128 < v7 := by simpa [ieq, ilt, ile] using hb8
    rw [if_pos hb8] at h
    -- region 6
    refine VW.ws tau_ok Sound.none [some 2, some 3] [(2, .ref 2 [] true (.list [])), (3, .val (i64 3))] rfl ?_ ?_
    · simp <;> simp [ieq, ilt, ile]
    have hr0 := Option.some.inj h
    subst hr0
    refine VW.fits (fl' := [(2, .ref 2 [] false (.list [])), (3, .val (i64 3))]) (Fits.weak (s := 2) rfl (by simp) (Fits.of rfl)) ?_
    refine VW.ret ?_
    simp [Post, PostM, PostC, PostC2, Nx, Bk]
  replace hb8 : ¬ (128 < v7) := by simpa [ieq, ilt, ile] using hb8
  rw [if_neg hb8] at h
  refine VW.skip ?_
  refine hK1 _ ?_
  -- region 7
  obtain ⟨v9, hv9, h⟩ := bind_some h
  refine VW.ws tau_ok (Sound.none.add 23 (s_l13Units_ok hv9) rfl) [some 22, some 23, some 2, some 3] [(2, .ref 2 [] false (dM v9)), (3, .val (i64 0))] rfl ?_ ?_
  · simp <;> simp [ieq, ilt, ile]
  cases h
  refine VW.ret ?_
  simp [Post, PostM, PostC, PostC2, Nx, Bk]

theorem s_UnitsOf_ok {a0_0 : Int} {a0_1 : List Int} {r : (List (List Int)) × Int} (h : s_UnitsOf a0_0 a0_1 = some r) :
    VCall Try.prog 27 [.agg [i64 a0_0, dI a0_1]] [.own false (dM r.1), .sc (i64 r.2)] := by
  unfold s_UnitsOf at h
  refine VCall.enter Try.call27 Try.func27 rfl 8 Try.ntmps27 (by simp) [.tmp 2, .tmp 3] rfl ?_
  show VW _ _ _ (mk [(0, .val (.agg [i64 a0_0, dI a0_1]))]) _
  -- region 0
  refine VW.ws tau_ok Sound.none [some 1, some 2, some 3] [(1, .val (.ptr [i64 a0_0, dI a0_1]))] rfl ?_ ?_
  · simp <;> simp [ieq, ilt, ile]
  -- region 1
  obtain ⟨v1, hv1, h⟩ := bind_some h
  refine VW.ws tau_ok (Sound.none.add 5 (s_l13Small_ok hv1) rfl) [some 4, some 5, some 6, some 7, some 2, some 3] [(2, .ref 2 [] false (dM v1.1)), (3, .val (i64 v1.2))] rfl ?_ ?_
  · simp <;> simp [ieq, ilt, ile]
  cases h
  refine VW.ret ?_
  simp [Post, PostM, PostC, PostC2, Nx, Bk]

theorem l_likeInts_ok {a0 : List Int} {a1 : List Int} {r : Bool} (h : l_likeInts a0 a1 = some r) :
    VCall Try.prog 40 [dI a0, dI a1] [.sc (.bool r)] := by
  unfold l_likeInts at h
  refine VCall.enter Try.call40 Try.func40 rfl 26 Try.ntmps40 (by simp) [.tmp 4] rfl ?_
  show VW _ _ _ (mk [(0, .val (dI a0)), (1, .val (dI a1))]) _
  -- region 0
  refine VW.ws tau_ok Sound.none [some 4] [(0, .val (dI a0)), (1, .val (dI a1))] rfl ?_ ?_
  · simp <;> simp [ieq, ilt, ile]
  refine VW.sqc fun K1 hK1 hCK1 => ?_
  -- region 1
  refine VW.ws tau_ok Sound.none [some 6, some 7, some 8, some 9, some 10] [(0, .val (dI a0)), (1, .val (dI a1)), (10, .val (.bool (!(ieq (a0.length : Int) (a1.length : Int)))))] rfl ?_ ?_
  · simp <;> simp [ieq, ilt, ile]
  refine VW.cond rfl (fun hb2 => ?_) (fun hb2 => ?_)
  ·
    replace hb2 : ¬ (a0.length : Int) = (a1.length : Int) := by simpa [ieq, ilt, ile] using hb2
    rw [if_pos hb2] at h
    -- region 2
    refine VW.ws tau_ok Sound.none [some 4] [(4, .val (.bool false))] rfl ?_ ?_
    · simp <;> simp [ieq, ilt, ile]
    cases h
    refine VW.ret ?_
    simp [Post, PostM, PostC, PostC2, Nx, Bk]
  replace hb2 : ¬ (¬ (a0.length : Int) = (a1.length : Int)) := by simpa [ieq, ilt, ile] using hb2
  rw [if_neg hb2] at h
  refine VW.skip ?_
  refine hK1 _ ?_
  refine VW.sqc fun K3 hK3 hCK3 => ?_
  -- region 3
  refine VW.ws tau_ok Sound.none [some 5] [(0, .val (dI a0)), (1, .val (dI a1)), (5, .val (i64 0))] rfl ?_ ?_
  · simp <;> simp [ieq, ilt, ile]
  obtain ⟨x4, hx4, h⟩ := bind_some h
  refine VW.tlO (fun y6 => []) x4 (hCK3) ?_ ?_
  · clear hx4
    rintro y6 rfl
    dsimp only at h
    refine hK3 _ ?_
    -- region 8
    refine VW.ws tau_ok Sound.none [some 4] [(4, .val (.bool true))] rfl ?_ ?_
    · simp <;> simp [ieq, ilt, ile]
    cases h
    refine VW.ret ?_
    simp [Post, PostM, PostC, PostC2, Nx, Bk]
  refine VW.block ?_
  refine VW.loopF (l_likeInts_L0 a0 a1) (fun s4 => [(0, .val (dI a0)), (1, .val (dI a1)), (5, .val (i64 s4))]) hx4 (Fits.of rfl) ?_
  clear hx4
  intro s4 ox4 hx4o hx4b
  unfold l_likeInts_L0 at hx4o
  refine VW.sqc fun K7 hK7 hCK7 => ?_
  -- region 4
  refine VW.ws tau_ok Sound.none [some 11, some 12, some 13, some 14] [(0, .val (dI a0)), (1, .val (dI a1)), (5, .val (i64 s4)), (14, .val (.bool (ilt s4 (a0.length : Int))))] rfl ?_ ?_
  · simp <;> simp [ieq, ilt, ile]
  refine VW.cond rfl (fun hb8 => ?_) (fun hb8 => ?_)
  rotate_left
  ·
    replace hb8 : ¬ (s4 < (a0.length : Int)) := by simpa [ieq, ilt, ile] using hb8
    rw [if_neg hb8] at hx4o
    refine VW.exit ?_
    cases hx4o
    have hq := hx4b _ rfl
    subst hq
    exact ⟨_, rfl, Fits.of rfl⟩
  replace hb8 : s4 < (a0.length : Int) := by simpa [ieq, ilt, ile] using hb8
  rw [if_pos hb8] at hx4o
  refine VW.skip ?_
  refine hK7 _ ?_
  refine VW.sqc fun K9 hK9 hCK9 => ?_
  refine VW.block ?_
  -- region 6
  obtain ⟨v10, hv10, hx4o⟩ := bind_some hx4o
  obtain ⟨hv10a, hv10b, hv10c, hv10d⟩ := idx_some hv10
  obtain ⟨v11, hv11, hx4o⟩ := bind_some hx4o
  obtain ⟨hv11a, hv11b, hv11c, hv11d⟩ := idx_some hv11
  refine VW.wds tau_ok Sound.none try_mixed [some 17, some 18, some 19, some 20, some 21, some 22, some 23, some 24, some 25] [(0, .val (dI a0)), (1, .val (dI a1)), (5, .val (i64 s4)), (25, .val (.bool (!(ieq v10 v11))))] 9 rfl (by kernel_rfl) (by rfl) ?_ ?_
  · simp [hv10a, hv10b, hv10c, hv10d, hv11a, hv11b, hv11c, hv11d] <;> simp [ieq, ilt, ile]
  refine VW.cond rfl (fun hb12 => ?_) (fun hb12 => ?_)
  rotate_left
  ·
    replace hb12 : ¬ (¬ v10 = v11) := by simpa [ieq, ilt, ile] using hb12
    rw [if_neg hb12] at hx4o
    refine VW.skip ?_
    refine hK9 _ ?_
    -- region 5
    refine VW.wr tau_ok Sound.none [some 15, some 16, some 5] [(0, .val (dI a0)), (1, .val (dI a1)), (5, .val (i64 (w64 (s4 + 1))))] rfl ?_ ?_
    · simp <;> simp [ieq, ilt, ile]
    cases hx4o
    exact ⟨_, rfl, Fits.of rfl⟩
  replace hb12 : ¬ v10 = v11 := by simpa [ieq, ilt, ile] using hb12
  rw [if_pos hb12] at hx4o
  -- region 7
  refine VW.ws tau_ok Sound.none [some 4] [(4, .val (.bool false))] rfl ?_ ?_
  · simp <;> simp [ieq, ilt, ile]
  cases hx4o
  have hq := hx4b _ rfl
  subst hq
  dsimp only at h
  cases h
  refine VW.ret ?_
  simp [Post, PostM, PostC, PostC2, Nx, Bk]

theorem l_same9_ok {a0 : List (List Int)} {a1 : List (List Int)} {r : Bool} (h : l_same9 a0 a1 = some r) :
    VCall Try.prog 36 [dM a0, dM a1] [.sc (.bool r)] := by
  unfold l_same9 at h
  refine VCall.enter Try.call36 Try.func36 rfl 27 Try.ntmps36 (by simp) [.tmp 4] rfl ?_
  show VW _ _ _ (mk [(0, .val (dM a0)), (1, .val (dM a1))]) _
  -- region 0
  refine VW.ws tau_ok Sound.none [some 4] [(0, .val (dM a0)), (1, .val (dM a1))] rfl ?_ ?_
  · simp <;> simp [ieq, ilt, ile]
  refine VW.sqc fun K1 hK1 hCK1 => ?_
  -- region 1
  refine VW.ws tau_ok Sound.none [some 6, some 7, some 8, some 9, some 10] [(0, .val (dM a0)), (1, .val (dM a1)), (10, .val (.bool (!(ieq (a0.length : Int) (a1.length : Int)))))] rfl ?_ ?_
  · simp <;> simp [ieq, ilt, ile]
  refine VW.cond rfl (fun hb2 => ?_) (fun hb2 => ?_)
  ·
    replace hb2 : ¬ (a0.length : Int) = (a1.length : Int) := by simpa [ieq, ilt, ile] using hb2
    rw [if_pos hb2] at h
    -- region 2
    refine VW.ws tau_ok Sound.none [some 4] [(4, .val (.bool false))] rfl ?_ ?_
    · simp <;> simp [ieq, ilt, ile]
    cases h
    refine VW.ret ?_
    simp [Post, PostM, PostC, PostC2, Nx, Bk]
  replace hb2 : ¬ (¬ (a0.length : Int) = (a1.length : Int)) := by simpa [ieq, ilt, ile] using hb2
  rw [if_neg hb2] at h
  refine VW.skip ?_
  refine hK1 _ ?_
  refine VW.sqc fun K3 hK3 hCK3 => ?_
  -- region 3
  refine VW.ws tau_ok Sound.none [some 5] [(0, .val (dM a0)), (1, .val (dM a1)), (5, .val (i64 0))] rfl ?_ ?_
  · simp <;> simp [ieq, ilt, ile]
  obtain ⟨x4, hx4, h⟩ := bind_some h
  refine VW.tlO (fun y6 => []) x4 (hCK3) ?_ ?_
  · clear hx4
    rintro y6 rfl
    dsimp only at h
    refine hK3 _ ?_
    -- region 8
    refine VW.ws tau_ok Sound.none [some 4] [(4, .val (.bool true))] rfl ?_ ?_
    · simp <;> simp [ieq, ilt, ile]
    cases h
    refine VW.ret ?_
    simp [Post, PostM, PostC, PostC2, Nx, Bk]
  refine VW.block ?_
  refine VW.loopF (l_same9_L0 a0 a1) (fun s4 => [(0, .val (dM a0)), (1, .val (dM a1)), (5, .val (i64 s4))]) hx4 (Fits.of rfl) ?_
  clear hx4
  intro s4 ox4 hx4o hx4b
  unfold l_same9_L0 at hx4o
  refine VW.sqc fun K7 hK7 hCK7 => ?_
  -- region 4
  refine VW.ws tau_ok Sound.none [some 11, some 12, some 13, some 14] [(0, .val (dM a0)), (1, .val (dM a1)), (5, .val (i64 s4)), (14, .val (.bool (ilt s4 (a0.length : Int))))] rfl ?_ ?_
  · simp <;> simp [ieq, ilt, ile]
  refine VW.cond rfl (fun hb8 => ?_) (fun hb8 => ?_)
  rotate_left
  ·
    replace hb8 : ¬ (s4 < (a0.length : Int)) := by simpa [ieq, ilt, ile] using hb8
    rw [if_neg hb8] at hx4o
    refine VW.exit ?_
    cases hx4o
    have hq := hx4b _ rfl
    subst hq
    exact ⟨_, rfl, Fits.of rfl⟩
  replace hb8 : s4 < (a0.length : Int) := by simpa [ieq, ilt, ile] using hb8
  rw [if_pos hb8] at hx4o
  refine VW.skip ?_
  refine hK7 _ ?_
  refine VW.sqc fun K9 hK9 hCK9 => ?_
  refine VW.block ?_
  -- region 6
  obtain ⟨v10, hv10, hx4o⟩ := bind_some hx4o
  obtain ⟨hv10a, hv10b, hv10c, hv10d⟩ := idx_some hv10
  obtain ⟨v11, hv11, hx4o⟩ := bind_some hx4o
  obtain ⟨hv11a, hv11b, hv11c, hv11d⟩ := idx_some hv11
  obtain ⟨v12, hv12, hx4o⟩ := bind_some hx4o
  refine VW.wds tau_ok (Sound.none.add 25 (l_likeInts_ok hv12) rfl) try_mixed [some 17, some 18, some 19, some 20, some 21, some 22, some 23, some 24, some 25, some 26] [(0, .val (dM a0)), (1, .val (dM a1)), (5, .val (i64 s4)), (26, .val (.bool (!v12)))] 10 rfl (by kernel_rfl) (by rfl) ?_ ?_
  · simp [hv10a, hv10b, hv10c, hv10d, hv11a, hv11b, hv11c, hv11d] <;> simp [ieq, ilt, ile]
  refine VW.cond rfl (fun hb13 => ?_) (fun hb13 => ?_)
  rotate_left
  ·
    replace hb13 : ¬ (v12 = false) := by simpa [ieq, ilt, ile] using hb13
    rw [if_neg hb13] at hx4o
    refine VW.skip ?_
    refine hK9 _ ?_
    -- region 5
    refine VW.wr tau_ok Sound.none [some 15, some 16, some 5] [(0, .val (dM a0)), (1, .val (dM a1)), (5, .val (i64 (w64 (s4 + 1))))] rfl ?_ ?_
    · simp <;> simp [ieq, ilt, ile]
    cases hx4o
    exact ⟨_, rfl, Fits.of rfl⟩
  replace hb13 : v12 = false := by simpa [ieq, ilt, ile] using hb13
  rw [if_pos hb13] at hx4o
  -- region 7
  refine VW.ws tau_ok Sound.none [some 4] [(4, .val (.bool false))] rfl ?_ ?_
  · simp <;> simp [ieq, ilt, ile]
  cases hx4o
  have hq := hx4b _ rfl
  subst hq
  dsimp only at h
  cases h
  refine VW.ret ?_
  simp [Post, PostM, PostC, PostC2, Nx, Bk]

theorem i_LoopOfUnits_c1_ok {a0 : List Int} {a1_0 : List Int} {r : Bool} (h : i_LoopOfUnits_c1 a0 a1_0 = some r) :
    VCall Try.prog 99 [dI a0, .ptr [dI a1_0]] [.sc (.bool r)] := by
  unfold i_LoopOfUnits_c1 at h
  refine VCall.enter Try.call99 Try.func99 rfl 7 Try.ntmps99 (by simp) [.tmp 3] rfl ?_
  show VW _ _ _ (mk [(0, .val (dI a0)), (1, .val (.ptr [dI a1_0]))]) _
  -- region 0
  refine VW.ws tau_ok Sound.none [some 3] [(0, .val (dI a0)), (1, .val (.ptr [dI a1_0]))] rfl ?_ ?_
  · simp <;> simp [ieq, ilt, ile]
  -- region 1
  obtain ⟨v1, hv1, h⟩ := bind_some h
  refine VW.ws tau_ok (Sound.none.add 6 (g_slices_Equal_LI_I_ok hv1) rfl) [some 4, some 5, some 6, some 3] [(3, .val (.bool v1))] rfl ?_ ?_
  · simp <;> simp [ieq, ilt, ile]
  cases h
  refine VW.ret ?_
  simp [Post, PostM, PostC, PostC2, Nx, Bk]

theorem g_slices_IndexFunc_LLI_LI_of_i_LoopOfUnits_c1_ok {a0 : List (List Int)} {a1_0_0 : List Int} {r : Int} (h : g_slices_IndexFunc_LLI_LI_of_i_LoopOfUnits_c1 a0 a1_0_0 = some r) :
    VCall Try.prog 98 [dM a0, .fn 99 [.ptr [dI a1_0_0]]] [.sc (i64 r)] := by
  unfold g_slices_IndexFunc_LLI_LI_of_i_LoopOfUnits_c1 at h
  refine VCall.enter Try.call98 Try.func98 rfl 19 Try.ntmps98 (by simp) [.tmp 4] rfl ?_
  show VW _ _ _ (mk [(0, .val (dM a0)), (1, .val (.fn 99 [.ptr [dI a1_0_0]]))]) _
  -- region 0
  refine VW.ws tau_ok Sound.none [some 4] [(0, .val (dM a0)), (1, .val (.fn 99 [.ptr [dI a1_0_0]]))] rfl ?_ ?_
  · simp <;> simp [ieq, ilt, ile]
  refine VW.sqc fun K1 hK1 hCK1 => ?_
  -- region 1
  refine VW.ws tau_ok Sound.none [some 6, some 7, some 8] [(0, .val (dM a0)), (1, .val (.fn 99 [.ptr [dI a1_0_0]])), (7, .val (i64 (a0.length : Int))), (8, .val (i64 0))] rfl ?_ ?_
  · simp <;> simp [ieq, ilt, ile]
  obtain ⟨x2, hx2, h⟩ := bind_some h
  refine VW.tlO (fun y4 => []) x2 (hCK1) ?_ ?_
  · clear hx2
    rintro y4 rfl
    dsimp only at h
    refine hK1 _ ?_
    -- region 7
    refine VW.ws tau_ok Sound.none [some 4] [(4, .val (i64 (-1)))] rfl ?_ ?_
    · simp <;> simp [ieq, ilt, ile]
    cases h
    refine VW.ret ?_
    simp [Post, PostM, PostC, PostC2, Nx, Bk]
  refine VW.block ?_
  refine VW.loopF (g_slices_IndexFunc_LLI_LI_of_i_LoopOfUnits_c1_L0 a0 a1_0_0) (fun s2 => [(0, .val (dM a0)), (1, .val (.fn 99 [.ptr [dI a1_0_0]])), (7, .val (i64 (a0.length : Int))), (8, .val (i64 s2))]) hx2 (Fits.of rfl) ?_
  clear hx2
  intro s2 ox2 hx2o hx2b
  unfold g_slices_IndexFunc_LLI_LI_of_i_LoopOfUnits_c1_L0 at hx2o
  -- region 2
  refine VW.ws tau_ok Sound.none [some 9] [(0, .val (dM a0)), (1, .val (.fn 99 [.ptr [dI a1_0_0]])), (7, .val (i64 (a0.length : Int))), (8, .val (i64 s2)), (9, .val (.bool (ilt s2 (a0.length : Int))))] rfl ?_ ?_
  · simp <;> simp [ieq, ilt, ile]
  refine VW.sqc fun K5 hK5 hCK5 => ?_
  refine VW.cond rfl (fun hb6 => ?_) (fun hb6 => ?_)
  rotate_left
  ·
    replace hb6 : ¬ (s2 < (a0.length : Int)) := by simpa [ieq, ilt, ile] using hb6
    rw [if_neg hb6] at hx2o
    refine VW.exit ?_
    cases hx2o
    have hq := hx2b _ rfl
    subst hq
    exact ⟨_, rfl, Fits.of rfl⟩
  replace hb6 : s2 < (a0.length : Int) := by simpa [ieq, ilt, ile] using hb6
  rw [if_pos hb6] at hx2o
  refine VW.skip ?_
  refine hK5 _ ?_
  refine VW.sqc fun K7 hK7 hCK7 => ?_
  refine VW.block ?_
  -- region 3
  refine VW.ws tau_ok Sound.none [some 10, some 5] [(0, .val (dM a0)), (1, .val (.fn 99 [.ptr [dI a1_0_0]])), (5, .val (i64 s2)), (7, .val (i64 (a0.length : Int))), (8, .val (i64 s2))] rfl ?_ ?_
  · simp <;> simp [ieq, ilt, ile]
  -- region 4
  obtain ⟨v8, hv8, hx2o⟩ := bind_some hx2o
  obtain ⟨hv8a, hv8b, hv8c, hv8d⟩ := idx_some hv8
  obtain ⟨v9, hv9, hx2o⟩ := bind_some hx2o
  refine VW.ws tau_ok (Sound.none.add 16 (i_LoopOfUnits_c1_ok hv9) rfl) [some 11, some 12, some 13, some 14, some 15, some 16] [(0, .val (dM a0)), (1, .val (.fn 99 [.ptr [dI a1_0_0]])), (5, .val (i64 s2)), (7, .val (i64 (a0.length : Int))), (8, .val (i64 s2)), (16, .val (.bool v9))] rfl ?_ ?_
  · simp [hv8a, hv8b, hv8c, hv8d] <;> simp [ieq, ilt, ile]
  refine VW.cond rfl (fun hb10 => ?_) (fun hb10 => ?_)
  rotate_left
  ·
    replace hb10 : ¬ (v9 = true) := by simpa [ieq, ilt, ile] using hb10
    rw [if_neg hb10] at hx2o
    refine VW.skip ?_
    refine hK7 _ ?_
    -- region 6
    refine VW.wr tau_ok Sound.none [some 18, some 8] [(0, .val (dM a0)), (1, .val (.fn 99 [.ptr [dI a1_0_0]])), (7, .val (i64 (a0.length : Int))), (8, .val (i64 (w64 (s2 + 1))))] rfl ?_ ?_
    · simp <;> simp [ieq, ilt, ile]
    cases hx2o
    exact ⟨_, rfl, Fits.of rfl⟩
  replace hb10 : v9 = true := by simpa [ieq, ilt, ile] using hb10
  rw [if_pos hb10] at hx2o
  -- region 5
  refine VW.ws tau_ok Sound.none [some 17, some 4] [(4, .val (i64 s2))] rfl ?_ ?_
  · simp <;> simp [ieq, ilt, ile]
  cases hx2o
  have hq := hx2b _ rfl
  subst hq
  dsimp only at h
  cases h
  refine VW.ret ?_
  simp [Post, PostM, PostC, PostC2, Nx, Bk]

theorem i_LoopOfUnits_ok {a0_0 : Int} {a0_1 : List Int} {r : (List (List Int)) × Int} (h : i_LoopOfUnits a0_0 a0_1 = some r) :
    VCall Try.prog 33 [.agg [i64 a0_0, dI a0_1]] [.own true (dM r.1), .sc (i64 r.2)] := by
  unfold i_LoopOfUnits at h
  refine VCall.enter Try.call33 Try.func33 rfl 52 Try.ntmps33 (by simp) [.tmp 2, .tmp 3] rfl ?_
  show VW _ _ _ (mk [(0, .val (.agg [i64 a0_0, dI a0_1]))]) _
  -- region 0
  refine VW.ws tau_ok Sound.none [some 1, some 2, some 3] [(1, .val (.ptr [i64 a0_0, dI a0_1]))] rfl ?_ ?_
  · simp <;> simp [ieq, ilt, ile]
  -- region 1
  obtain ⟨v1, hv1, h⟩ := bind_some h
  refine VW.ws tau_ok (Sound.none.add 15 (i_Doubling_units_ok hv1) rfl) [some 14, some 15, some 13, some 16, some 17, some 4, some 5] [(1, .val (.ptr [i64 a0_0, dI a0_1])), (4, .ref 4 [] true (dM v1.1)), (5, .val (i64 v1.2))] rfl ?_ ?_
  · simp <;> simp [ieq, ilt, ile]
  refine VW.sqc fun K2 hK2 hCK2 => ?_
  -- region 2
  refine VW.ws tau_ok Sound.none [some 18, some 19] [(1, .val (.ptr [i64 a0_0, dI a0_1])), (4, .ref 4 [] true (dM v1.1)), (5, .val (i64 v1.2)), (19, .val (.bool (!(ieq v1.2 0))))] rfl ?_ ?_
  · simp <;> simp [ieq, ilt, ile]
  refine VW.cond rfl (fun hb3 => ?_) (fun hb3 => ?_)
  ·
    replace hb3 : ¬ v1.2 = 0 := by simpa [ieq, ilt, ile] using hb3
    rw [if_pos hb3] at h
    -- region 3
    refine VW.ws tau_ok Sound.none [some 20, some 2, some 3] [(2, .ref 2 [] true (.list [])), (3, .val (i64 v1.2))] rfl ?_ ?_
    · simp <;> simp [ieq, ilt, ile]
    cases h
    refine VW.ret ?_
    simp [Post, PostM, PostC, PostC2, Nx, Bk]
  replace hb3 : ¬ (¬ v1.2 = 0) := by simpa [ieq, ilt, ile] using hb3
  rw [if_neg hb3] at h
  refine VW.skip ?_
  refine hK2 _ ?_
  -- region 4
  refine VW.ws tau_ok Sound.none [some 21, some 6] [(1, .val (.ptr [i64 a0_0, dI a0_1])), (4, .ref 4 [] true (dM v1.1)), (6, .ref 6 [] true (dM []))] rfl ?_ ?_
  · simp <;> simp [ieq, ilt, ile]
  refine VW.sqc fun K4 hK4 hCK4 => ?_
  -- region 5
  refine VW.ws tau_ok Sound.none [some 22, some 23, some 24] [(1, .val (.ptr [i64 a0_0, dI a0_1])), (4, .ref 4 [] true (dM v1.1)), (6, .ref 6 [] true (dM [])), (22, .ref 4 [] true (dM v1.1)), (23, .val (i64 (v1.1.length : Int))), (24, .val (i64 0))] rfl ?_ ?_
  · simp <;> simp [ieq, ilt, ile]
  obtain ⟨x5, hx5, h⟩ := bind_some h
  refine VW.tlE [(6, .ref 6 [] true (dM x5))] (hCK4) ?_ ?_
  · clear hx5
    refine hK4 _ ?_
    -- region 17
    refine VW.ws tau_ok Sound.none [some 51, some 2, some 3] [(2, .ref 2 [] true (dM x5)), (3, .val (i64 0))] rfl ?_ ?_
    · simp <;> simp [ieq, ilt, ile]
    cases h
    refine VW.ret ?_
    simp [Post, PostM, PostC, PostC2, Nx, Bk]
  refine VW.block ?_
  refine VW.loopF (i_LoopOfUnits_L0 a0_0 a0_1 v1) (fun s5 => [(1, .val (.ptr [i64 a0_0, dI a0_1])), (4, .ref 4 [] true (dM v1.1)), (6, .ref 6 [] true (dM s5.1)), (22, .ref 4 [] true (dM v1.1)), (23, .val (i64 (v1.1.length : Int))), (24, .val (i64 s5.2))]) hx5 (Fits.of rfl) ?_
  clear hx5
  intro s5 ox5 hx5o hx5b
  unfold i_LoopOfUnits_L0 at hx5o
  -- region 6
  refine VW.ws tau_ok Sound.none [some 25] [(1, .val (.ptr [i64 a0_0, dI a0_1])), (4, .ref 4 [] true (dM v1.1)), (6, .ref 6 [] true (dM s5.1)), (22, .ref 4 [] true (dM v1.1)), (23, .val (i64 (v1.1.length : Int))), (24, .val (i64 s5.2)), (25, .val (.bool (ilt s5.2 (v1.1.length : Int))))] rfl ?_ ?_
  · simp <;> simp [ieq, ilt, ile]
  refine VW.sqc fun K7 hK7 hCK7 => ?_
  refine VW.cond rfl (fun hb8 => ?_) (fun hb8 => ?_)
  rotate_left
  ·
    replace hb8 : ¬ (s5.2 < (v1.1.length : Int)) := by simpa [ieq, ilt, ile] using hb8
    rw [if_neg hb8] at hx5o
    refine VW.exit ?_
    cases hx5o
    have hq := hx5b _ rfl
    subst hq
    exact Fits.of rfl
  replace hb8 : s5.2 < (v1.1.length : Int) := by simpa [ieq, ilt, ile] using hb8
  rw [if_pos hb8] at hx5o
  refine VW.skip ?_
  refine hK7 _ ?_
  refine VW.sqc fun K9 hK9 hCK9 => ?_
  refine VW.block ?_
  -- region 7
  obtain ⟨v10, hv10, hx5o⟩ := bind_some hx5o
  obtain ⟨hv10a, hv10b, hv10c, hv10d⟩ := idx_some hv10
  refine VW.ws tau_ok Sound.none [some 26, some 27, some 8] [(1, .val (.ptr [i64 a0_0, dI a0_1])), (4, .ref 4 [] true (dM v1.1)), (6, .ref 6 [] true (dM s5.1)), (8, .ref 4 [s5.2.toNat] true (dI v10)), (22, .ref 4 [] true (dM v1.1)), (23, .val (i64 (v1.1.length : Int))), (24, .val (i64 s5.2))] rfl ?_ ?_
  · simp [hv10a, hv10b, hv10c, hv10d] <;> simp [ieq, ilt, ile]
  -- region 8
  refine VW.ws tau_ok Sound.none [some 28, some 9] [(1, .val (.ptr [i64 a0_0, dI a0_1])), (4, .ref 4 [] true (dM v1.1)), (6, .ref 6 [] true (dM s5.1)), (8, .ref 4 [s5.2.toNat] true (dI v10)), (9, .ref 9 [] true (dI [])), (22, .ref 4 [] true (dM v1.1)), (23, .val (i64 (v1.1.length : Int))), (24, .val (i64 s5.2))] rfl ?_ ?_
  · simp <;> simp [ieq, ilt, ile]
  refine VW.sqc fun K11 hK11 hCK11 => ?_
  -- region 9
  refine VW.ws tau_ok Sound.none [some 29, some 30, some 31] [(1, .val (.ptr [i64 a0_0, dI a0_1])), (4, .ref 4 [] true (dM v1.1)), (6, .ref 6 [] true (dM s5.1)), (8, .ref 4 [s5.2.toNat] true (dI v10)), (9, .ref 9 [] true (dI [])), (22, .ref 4 [] true (dM v1.1)), (23, .val (i64 (v1.1.length : Int))), (24, .val (i64 s5.2)), (29, .ref 4 [] true (dM v1.1)), (30, .val (i64 (v1.1.length : Int))), (31, .val (i64 0))] rfl ?_ ?_
  · simp <;> simp [ieq, ilt, ile]
  obtain ⟨x12, hx12, hx5o⟩ := bind_some hx5o
  refine VW.tlE [(1, .val (.ptr [i64 a0_0, dI a0_1])), (4, .ref 4 [] true (dM v1.1)), (6, .ref 6 [] true (dM s5.1)), (9, .ref 9 [] true (dI x12)), (22, .ref 4 [] true (dM v1.1)), (23, .val (i64 (v1.1.length : Int))), (24, .val (i64 s5.2))] (hCK11) ?_ ?_
  · clear hx12
    refine hK11 _ ?_
    -- region 15
    obtain ⟨hc21, hx5o⟩ := chk_some hx5o
    have hc21s := hc21
    try simp at hc21s
    refine VW.wr tau_ok Sound.none [some 46, some 47, some 48, some 49, some 6] [(1, .val (.ptr [i64 a0_0, dI a0_1])), (4, .ref 4 [] true (dM v1.1)), (6, .ref 6 [] true (dM (s5.1 ++ [x12]))), (22, .ref 4 [] true (dM v1.1)), (23, .val (i64 (v1.1.length : Int))), (24, .val (i64 s5.2))] rfl ?_ ?_
    · simp [hc21, hc21s] <;> simp [ieq, ilt, ile]
    refine hK9 _ ?_
    -- region 16
    refine VW.wr tau_ok Sound.none [some 50, some 24] [(1, .val (.ptr [i64 a0_0, dI a0_1])), (4, .ref 4 [] true (dM v1.1)), (6, .ref 6 [] true (dM (s5.1 ++ [x12]))), (22, .ref 4 [] true (dM v1.1)), (23, .val (i64 (v1.1.length : Int))), (24, .val (i64 (w64 (s5.2 + 1))))] rfl ?_ ?_
    · simp <;> simp [ieq, ilt, ile]
    cases hx5o
    exact ⟨_, rfl, Fits.of rfl⟩
  refine VW.block ?_
  refine VW.loopF (i_LoopOfUnits_L1 a0_0 a0_1 v1 v10) (fun s12 => [(1, .val (.ptr [i64 a0_0, dI a0_1])), (4, .ref 4 [] true (dM v1.1)), (6, .ref 6 [] true (dM s5.1)), (8, .ref 4 [s5.2.toNat] true (dI v10)), (9, .ref 9 [] true (dI s12.1)), (22, .ref 4 [] true (dM v1.1)), (23, .val (i64 (v1.1.length : Int))), (24, .val (i64 s5.2)), (29, .ref 4 [] true (dM v1.1)), (30, .val (i64 (v1.1.length : Int))), (31, .val (i64 s12.2))]) hx12 (Fits.of rfl) ?_
  clear hx12
  intro s12 ox12 hx12o hx12b
  unfold i_LoopOfUnits_L1 at hx12o
  -- region 10
  refine VW.ws tau_ok Sound.none [some 32] [(1, .val (.ptr [i64 a0_0, dI a0_1])), (4, .ref 4 [] true (dM v1.1)), (6, .ref 6 [] true (dM s5.1)), (8, .ref 4 [s5.2.toNat] true (dI v10)), (9, .ref 9 [] true (dI s12.1)), (22, .ref 4 [] true (dM v1.1)), (23, .val (i64 (v1.1.length : Int))), (24, .val (i64 s5.2)), (29, .ref 4 [] true (dM v1.1)), (30, .val (i64 (v1.1.length : Int))), (31, .val (i64 s12.2)), (32, .val (.bool (ilt s12.2 (v1.1.length : Int))))] rfl ?_ ?_
  · simp <;> simp [ieq, ilt, ile]
  refine VW.sqc fun K14 hK14 hCK14 => ?_
  refine VW.cond rfl (fun hb15 => ?_) (fun hb15 => ?_)
  rotate_left
  ·
    replace hb15 : ¬ (s12.2 < (v1.1.length : Int)) := by simpa [ieq, ilt, ile] using hb15
    rw [if_neg hb15] at hx12o
    refine VW.exit ?_
    cases hx12o
    have hq := hx12b _ rfl
    subst hq
    exact Fits.of rfl
  replace hb15 : s12.2 < (v1.1.length : Int) := by simpa [ieq, ilt, ile] using hb15
  rw [if_pos hb15] at hx12o
  refine VW.skip ?_
  refine hK14 _ ?_
  refine VW.sqc fun K16 hK16 hCK16 => ?_
  refine VW.block ?_
  -- region 11
  obtain ⟨v17, hv17, hx12o⟩ := bind_some hx12o
  obtain ⟨hv17a, hv17b, hv17c, hv17d⟩ := idx_some hv17
  refine VW.ws tau_ok Sound.none [some 33, some 34, some 11] [(1, .val (.ptr [i64 a0_0, dI a0_1])), (4, .ref 4 [] true (dM v1.1)), (6, .ref 6 [] true (dM s5.1)), (8, .ref 4 [s5.2.toNat] true (dI v10)), (9, .ref 9 [] true (dI s12.1)), (11, .ref 4 [s12.2.toNat] true (dI v17)), (22, .ref 4 [] true (dM v1.1)), (23, .val (i64 (v1.1.length : Int))), (24, .val (i64 s5.2)), (29, .ref 4 [] true (dM v1.1)), (30, .val (i64 (v1.1.length : Int))), (31, .val (i64 s12.2))] rfl ?_ ?_
  · simp [hv17a, hv17b, hv17c, hv17d] <;> simp [ieq, ilt, ile]
  -- region 12
  obtain ⟨v18, hv18, hx12o⟩ := bind_some hx12o
  refine VW.ws tau_ok (Sound.none.add 38 (i_Doubling_times_ok hv18) rfl) [some 35, some 36, some 37, some 38, some 12, none] [(1, .val (.ptr [i64 a0_0, dI a0_1])), (4, .ref 4 [] true (dM v1.1)), (6, .ref 6 [] true (dM s5.1)), (8, .ref 4 [s5.2.toNat] true (dI v10)), (9, .ref 9 [] true (dI s12.1)), (12, .ref 12 [] true (.ptr [dI v18])), (22, .ref 4 [] true (dM v1.1)), (23, .val (i64 (v1.1.length : Int))), (24, .val (i64 s5.2)), (29, .ref 4 [] true (dM v1.1)), (30, .val (i64 (v1.1.length : Int))), (31, .val (i64 s12.2))] rfl ?_ ?_
  · simp <;> simp [ieq, ilt, ile]
  refine VW.fits (fl' := [(1, .val (.ptr [i64 a0_0, dI a0_1])), (4, .ref 4 [] true (dM v1.1)), (6, .ref 6 [] true (dM s5.1)), (8, .ref 4 [s5.2.toNat] true (dI v10)), (9, .ref 9 [] true (dI s12.1)), (12, .val (.ptr [dI v18])), (22, .ref 4 [] true (dM v1.1)), (23, .val (i64 (v1.1.length : Int))), (24, .val (i64 s5.2)), (29, .ref 4 [] true (dM v1.1)), (30, .val (i64 (v1.1.length : Int))), (31, .val (i64 s12.2))]) (Fits.freeze (s := 12) rfl (by simp) (Fits.of rfl)) ?_
  -- region 13
  obtain ⟨v19, hv19, hx12o⟩ := bind_some hx12o
  obtain ⟨hc20, hx12o⟩ := chk_some hx12o
  have hc20s := hc20
  try simp at hc20s
  refine VW.wr tau_ok (Sound.none.add 42 (g_slices_IndexFunc_LLI_LI_of_i_LoopOfUnits_c1_ok hv19) rfl) [some 39, some 40, some 41, some 42, some 43, some 44, some 9] [(1, .val (.ptr [i64 a0_0, dI a0_1])), (4, .ref 4 [] true (dM v1.1)), (6, .ref 6 [] true (dM s5.1)), (8, .ref 4 [s5.2.toNat] true (dI v10)), (9, .ref 9 [] true (dI (s12.1 ++ [v19]))), (22, .ref 4 [] true (dM v1.1)), (23, .val (i64 (v1.1.length : Int))), (24, .val (i64 s5.2)), (29, .ref 4 [] true (dM v1.1)), (30, .val (i64 (v1.1.length : Int))), (31, .val (i64 s12.2))] rfl ?_ ?_
  · simp [hc20, hc20s] <;> simp [ieq, ilt, ile]
  refine hK16 _ ?_
  -- region 14
  refine VW.wr tau_ok Sound.none [some 45, some 31] [(1, .val (.ptr [i64 a0_0, dI a0_1])), (4, .ref 4 [] true (dM v1.1)), (6, .ref 6 [] true (dM s5.1)), (8, .ref 4 [s5.2.toNat] true (dI v10)), (9, .ref 9 [] true (dI (s12.1 ++ [v19]))), (22, .ref 4 [] true (dM v1.1)), (23, .val (i64 (v1.1.length : Int))), (24, .val (i64 s5.2)), (29, .ref 4 [] true (dM v1.1)), (30, .val (i64 (v1.1.length : Int))), (31, .val (i64 (w64 (s12.2 + 1))))] rfl ?_ ?_
  · simp <;> simp [ieq, ilt, ile]
  cases hx12o
  exact ⟨_, rfl, Fits.of rfl⟩

theorem s_l11Star_ok {a0 : Int} {a1 : List Int} {r : List Int} (h : s_l11Star a0 a1 = some r) :
    VCall Try.prog 243 [i64 a0, dI a1] [.own true (dI r)] := by
  unfold s_l11Star at h
  refine VCall.enter Try.call243 Try.func243 rfl 17 Try.ntmps243 (by simp) [.tmp 4] rfl ?_
  show VW _ _ _ (mk [(0, .val (i64 a0)), (1, .val (dI a1))]) _
  -- region 0
  refine VW.ws tau_ok Sound.none [some 4] [(0, .val (i64 a0)), (1, .val (dI a1))] rfl ?_ ?_
  · simp <;> simp [ieq, ilt, ile]
  -- region 1
  obtain ⟨v1, hv1, h⟩ := bind_some h
  refine VW.ws tau_ok (Sound.none.add 10 (s_l11Scale_ok hv1) rfl) [some 6, some 7, some 8, some 9, some 10, some 5] [(1, .val (dI a1)), (5, .ref 5 [] true (dI v1))] rfl ?_ ?_
  · simp <;> simp [ieq, ilt, ile]
  -- region 2
  obtain ⟨v2, hv2, h⟩ := bind_some h
  obtain ⟨hv2a, hv2b, hv2c, hv2d⟩ := idx_some hv2
  replace hv2b : 0 < a1.length := hv2b
  replace hv2c : a1[0]? = some v2 := hv2c
  replace hv2d : ∀ h, a1[0]'h = v2 := hv2d
  obtain ⟨v3, hv3, h⟩ := bind_some h
  obtain ⟨hv3a, hv3b, hv3c, hv3d⟩ := idx_some hv3
  replace hv3b : 0 < v1.length := hv3b
  replace hv3c : v1[0]? = some v3 := hv3c
  replace hv3d : ∀ h, v1[0]'h = v3 := hv3d
  refine VW.ws tau_ok Sound.none [some 11, some 12, some 13, some 14, some 15, none] [(5, .ref 5 [] true (dI (v1.set 0 v2)))] rfl ?_ ?_
  · simp [hv2a, hv2b, hv2c, hv2d, hv3a, hv3b, hv3c, hv3d] <;> simp [ieq, ilt, ile]
  -- region 3
  refine VW.ws tau_ok Sound.none [some 16, some 4] [(4, .ref 4 [] true (dI (v1.set 0 v2)))] rfl ?_ ?_
  · simp <;> simp [ieq, ilt, ile]
  cases h
  refine VW.ret ?_
  simp [Post, PostM, PostC, PostC2, Nx, Bk]

theorem s_l11Add_ok {a0 : Int} {a1 : List Int} {a2 : List Int} {r : List Int} (h : s_l11Add a0 a1 a2 = some r) :
    VCall Try.prog 242 [i64 a0, dI a1, dI a2] [.own true (dI r)] := by
  unfold s_l11Add at h
  refine VCall.enter Try.call242 Try.func242 rfl 31 Try.ntmps242 (by simp) [.tmp 6] rfl ?_
  show VW _ _ _ (mk [(0, .val (i64 a0)), (1, .val (dI a1)), (2, .val (dI a2))]) _
  -- region 0
  refine VW.ws tau_ok Sound.none [some 6] [(0, .val (i64 a0)), (1, .val (dI a1)), (2, .val (dI a2))] rfl ?_ ?_
  · simp <;> simp [ieq, ilt, ile]
  -- region 1
  refine VW.ws tau_ok Sound.none [some 9, some 7] [(0, .val (i64 a0)), (1, .val (dI a1)), (2, .val (dI a2)), (7, .ref 7 [] true (dI []))] rfl ?_ ?_
  · simp <;> simp [ieq, ilt, ile]
  refine VW.sqc fun K1 hK1 hCK1 => ?_
  -- region 2
  refine VW.ws tau_ok Sound.none [some 8] [(0, .val (i64 a0)), (1, .val (dI a1)), (2, .val (dI a2)), (7, .ref 7 [] true (dI [])), (8, .val (i64 0))] rfl ?_ ?_
  · simp <;> simp [ieq, ilt, ile]
  obtain ⟨x2, hx2, h⟩ := bind_some h
  refine VW.tlE [(7, .ref 7 [] true (dI x2))] (hCK1) ?_ ?_
  · clear hx2
    refine hK1 _ ?_
    -- region 6
    refine VW.ws tau_ok Sound.none [some 30, some 6] [(6, .ref 6 [] true (dI x2))] rfl ?_ ?_
    · simp <;> simp [ieq, ilt, ile]
    cases h
    refine VW.ret ?_
    simp [Post, PostM, PostC, PostC2, Nx, Bk]
  refine VW.block ?_
  refine VW.loopF (s_l11Add_L0 a0 a1 a2) (fun s2 => [(0, .val (i64 a0)), (1, .val (dI a1)), (2, .val (dI a2)), (7, .ref 7 [] true (dI s2.1)), (8, .val (i64 s2.2))]) hx2 (Fits.of rfl) ?_
  clear hx2
  intro s2 ox2 hx2o hx2b
  unfold s_l11Add_L0 at hx2o
  refine VW.sqc fun K4 hK4 hCK4 => ?_
  -- region 3
  refine VW.ws tau_ok Sound.none [some 10, some 11, some 12, some 13] [(0, .val (i64 a0)), (1, .val (dI a1)), (2, .val (dI a2)), (7, .ref 7 [] true (dI s2.1)), (8, .val (i64 s2.2)), (13, .val (.bool (ilt s2.2 (a1.length : Int))))] rfl ?_ ?_
  · simp <;> simp [ieq, ilt, ile]
  refine VW.cond rfl (fun hb5 => ?_) (fun hb5 => ?_)
  rotate_left
  ·
    replace hb5 : ¬ (s2.2 < (a1.length : Int)) := by simpa [ieq, ilt, ile] using hb5
    rw [if_neg hb5] at hx2o
    refine VW.exit ?_
    cases hx2o
    have hq := hx2b _ rfl
    subst hq
    exact Fits.of rfl
  replace hb5 : s2.2 < (a1.length : Int) := by simpa [ieq, ilt, ile] using hb5
  rw [if_pos hb5] at hx2o
  refine VW.skip ?_
  refine hK4 _ ?_
  refine VW.sqc fun K6 hK6 hCK6 => ?_
  refine VW.block ?_
  -- region 5
  obtain ⟨v7, hv7, hx2o⟩ := bind_some hx2o
  obtain ⟨hv7a, hv7b, hv7c, hv7d⟩ := idx_some hv7
  obtain ⟨v8, hv8, hx2o⟩ := bind_some hx2o
  obtain ⟨hv8a, hv8b, hv8c, hv8d⟩ := idx_some hv8
  obtain ⟨v9, hv9, hx2o⟩ := bind_some hx2o
  obtain ⟨hc10, hx2o⟩ := chk_some hx2o
  have hc10s := hc10
  try simp at hc10s
  refine VW.wdr tau_ok (Sound.none.add 27 (s_l01Mod_ok hv9) rfl) try_mixed [some 16, some 17, some 18, some 19, some 20, some 21, some 22, some 23, some 24, some 25, some 26, some 27, some 28, some 29, some 7] [(0, .val (i64 a0)), (1, .val (dI a1)), (2, .val (dI a2)), (7, .ref 7 [] true (dI (s2.1 ++ [v9]))), (8, .val (i64 s2.2))] 13 rfl (by kernel_rfl) (by rfl) ?_ ?_
  · simp [hv7a, hv7b, hv7c, hv7d, hv8a, hv8b, hv8c, hv8d, hc10, hc10s] <;> simp [ieq, ilt, ile]
  refine hK6 _ ?_
  -- region 4
  refine VW.wr tau_ok Sound.none [some 14, some 15, some 8] [(0, .val (i64 a0)), (1, .val (dI a1)), (2, .val (dI a2)), (7, .ref 7 [] true (dI (s2.1 ++ [v9]))), (8, .val (i64 (w64 (s2.2 + 1))))] rfl ?_ ?_
  · simp <;> simp [ieq, ilt, ile]
  cases hx2o
  exact ⟨_, rfl, Fits.of rfl⟩

theorem s_l11Mul_b_ok {self : Int → (List Int) → (List Int) → (List Int) → Option (List Int)} (hself : ∀ {a0 a1 a2 a3} {r : List Int}, self a0 a1 a2 a3 = some r → VCall Try.prog 188 [i64 a0, dI a1, dI a2, dI a3] [.own true (dI r)]) {a0 : Int} {a1 : List Int} {a2 : List Int} {a3 : List Int} {r : List Int} (h : s_l11Mul_b self a0 a1 a2 a3 = some r) :
    VCall Try.prog 188 [i64 a0, dI a1, dI a2, dI a3] [.own true (dI r)] := by
  unfold s_l11Mul_b at h
  refine VCall.enter Try.call188 Try.func188 rfl 91 Try.ntmps188 (by simp) [.tmp 8] rfl ?_
  show VW _ _ _ (mk [(0, .val (i64 a0)), (1, .val (dI a1)), (2, .val (dI a2)), (3, .val (dI a3))]) _
  -- region 0
  refine VW.ws tau_ok Sound.none [some 8] [(0, .val (i64 a0)), (1, .val (dI a1)), (2, .val (dI a2)), (3, .val (dI a3))] rfl ?_ ?_
  · simp <;> simp [ieq, ilt, ile]
  refine VW.sqc fun K1 hK1 hCK1 => ?_
  -- region 1
  refine VW.ws tau_ok Sound.none [some 19, some 20, some 21] [(0, .val (i64 a0)), (1, .val (dI a1)), (2, .val (dI a2)), (3, .val (dI a3)), (21, .val (.bool (ieq (a1.length : Int) 0)))] rfl ?_ ?_
  · simp <;> simp [ieq, ilt, ile]
  refine VW.cond rfl (fun hb2 => ?_) (fun hb2 => ?_)
  ·
    replace hb2 : (a1.length : Int) = 0 := by simpa [ieq, ilt, ile] using hb2
    rw [if_pos hb2] at h
    -- region 2
    obtain ⟨v3, hv3, h⟩ := bind_some h
    obtain ⟨hv3a, hv3b, hv3c, hv3d⟩ := idx_some hv3
    replace hv3b : 0 < a2.length := hv3b
    replace hv3c : a2[0]? = some v3 := hv3c
    replace hv3d : ∀ h, a2[0]'h = v3 := hv3d
    obtain ⟨v4, hv4, h⟩ := bind_some h
    obtain ⟨hv4a, hv4b, hv4c, hv4d⟩ := idx_some hv4
    replace hv4b : 0 < a3.length := hv4b
    replace hv4c : a3[0]? = some v4 := hv4c
    replace hv4d : ∀ h, a3[0]'h = v4 := hv4d
    obtain ⟨v5, hv5, h⟩ := bind_some h
    refine VW.wds tau_ok (Sound.none.add 30 (s_l01Mod_ok hv5) rfl) try_mixed [some 22, some 23, some 24, some 25, some 26, some 27, some 28, some 29, some 30, some 31, some 8] [(8, .ref 8 [] true (dI [v5]))] 10 rfl (by kernel_rfl) (by rfl) ?_ ?_
    · simp [hv3a, hv3b, hv3c, hv3d, hv4a, hv4b, hv4c, hv4d] <;> simp [ieq, ilt, ile]
    cases h
    refine VW.ret ?_
    simp [Post, PostM, PostC, PostC2, Nx, Bk]
  replace hb2 : ¬ ((a1.length : Int) = 0) := by simpa [ieq, ilt, ile] using hb2
  rw [if_neg hb2] at h
  refine VW.skip ?_
  refine hK1 _ ?_
  -- region 3
  refine VW.ws tau_ok Sound.none [some 32, some 33, some 34, some 9] [(0, .val (i64 a0)), (1, .val (dI a1)), (2, .val (dI a2)), (3, .val (dI a3)), (9, .val (i64 (w64 ((a1.length : Int) - 1))))] rfl ?_ ?_
  · simp <;> simp [ieq, ilt, ile]
  -- region 4
  obtain ⟨hc6, h⟩ := chk_some h
  have hc6s := hc6
  try simp at hc6s
  obtain ⟨v7, hv7, h⟩ := bind_some h
  obtain ⟨hv7a, hv7b, hv7c, hv7d⟩ := idx_some hv7
  refine VW.wds tau_ok Sound.none try_mixed [some 35, some 36, some 37, some 38, some 39, some 40, some 41, some 42, some 43, some 44, some 10, some 11, some 12] [(0, .val (i64 a0)), (2, .val (dI a2)), (3, .val (dI a3)), (10, .val (i64 (w64 ((a2.length : Int).tdiv 2)))), (11, .val (dI (a1.take (w64 ((a1.length : Int) - 1)).toNat))), (12, .val (i64 v7))] 13 rfl (by kernel_rfl) (by rfl) ?_ ?_
  · simp [hc6, hc6s, hv7a, hv7b, hv7c, hv7d] <;> simp [ieq, ilt, ile]
  -- region 5
  obtain ⟨hc8, h⟩ := chk_some h
  have hc8s := hc8
  try simp at hc8s
  obtain ⟨hc9, h⟩ := chk_some h
  have hc9s := hc9
  try simp at hc9s
  obtain ⟨hc10, h⟩ := chk_some h
  have hc10s := hc10
  try simp at hc10s
  obtain ⟨hc11, h⟩ := chk_some h
  have hc11s := hc11
  try simp at hc11s
  refine VW.wds tau_ok Sound.none try_mixed [some 45, some 46, some 47, some 48, some 49, some 50, some 51, some 52, some 53, some 54, some 55, some 56, some 13, some 14, some 15, some 16] [(0, .val (i64 a0)), (11, .val (dI (a1.take (w64 ((a1.length : Int) - 1)).toNat))), (12, .val (i64 v7)), (13, .val (dI (a2.take (w64 ((a2.length : Int).tdiv 2)).toNat))), (14, .val (dI (a2.drop (w64 ((a2.length : Int).tdiv 2)).toNat))), (15, .val (dI (a3.take (w64 ((a2.length : Int).tdiv 2)).toNat))), (16, .val (dI (a3.drop (w64 ((a2.length : Int).tdiv 2)).toNat)))] 16 rfl (by kernel_rfl) (by rfl) ?_ ?_
  · simp [hc8, hc8s, hc9, hc9s, hc10, hc10s, hc11, hc11s] <;> simp [ieq, ilt, ile]
  -- region 6
  obtain ⟨v12, hv12, h⟩ := bind_some h
  obtain ⟨v13, hv13, h⟩ := bind_some h
  obtain ⟨v14, hv14, h⟩ := bind_some h
  obtain ⟨v15, hv15, h⟩ := bind_some h
  obtain ⟨v16, hv16, h⟩ := bind_some h
  refine VW.ws tau_ok (((((Sound.none.add 62 (hself hv12) rfl).add 69 (s_l11Star_ok hv13) rfl).add 71 (hself hv14) rfl).add 72 (s_l11Scale_ok hv15) rfl).add 73 (s_l11Add_ok hv16) rfl) [some 57, some 58, some 59, some 60, some 61, some 62, some 63, some 64, some 65, some 66, some 67, some 68, some 69, some 70, some 71, some 72, some 73, some 17] [(0, .val (i64 a0)), (11, .val (dI (a1.take (w64 ((a1.length : Int) - 1)).toNat))), (13, .val (dI (a2.take (w64 ((a2.length : Int).tdiv 2)).toNat))), (14, .val (dI (a2.drop (w64 ((a2.length : Int).tdiv 2)).toNat))), (15, .val (dI (a3.take (w64 ((a2.length : Int).tdiv 2)).toNat))), (16, .val (dI (a3.drop (w64 ((a2.length : Int).tdiv 2)).toNat))), (17, .ref 17 [] true (dI v16))] rfl ?_ ?_
  · simp <;> simp [ieq, ilt, ile]
  -- region 7
  obtain ⟨v17, hv17, h⟩ := bind_some h
  obtain ⟨v18, hv18, h⟩ := bind_some h
  obtain ⟨v19, hv19, h⟩ := bind_some h
  obtain ⟨v20, hv20, h⟩ := bind_some h
  refine VW.ws tau_ok ((((Sound.none.add 79 (hself hv17) rfl).add 85 (s_l11Star_ok hv18) rfl).add 86 (hself hv19) rfl).add 87 (s_l11Add_ok hv20) rfl) [some 74, some 75, some 76, some 77, some 78, some 79, some 80, some 81, some 82, some 83, some 84, some 85, some 86, some 87, some 18] [(17, .ref 17 [] true (dI v16)), (18, .ref 18 [] true (dI v20))] rfl ?_ ?_
  · simp <;> simp [ieq, ilt, ile]
  -- region 8
  obtain ⟨hc21, h⟩ := chk_some h
  have hc21s := hc21
  try simp at hc21s
  refine VW.ws tau_ok Sound.none [some 88, some 89, some 90, some 8] [(8, .ref 8 [] true (dI (v16 ++ v20)))] rfl ?_ ?_
  · simp [hc21, hc21s] <;> simp [ieq, ilt, ile]
  cases h
  refine VW.ret ?_
  simp [Post, PostM, PostC, PostC2, Nx, Bk]
theorem s_l11Mul_ok : ∀ {n : Nat} {a0 : Int} {a1 : List Int} {a2 : List Int} {a3 : List Int} {r : List Int} (_ : s_l11Mul n a0 a1 a2 a3 = some r),
    VCall Try.prog 188 [i64 a0, dI a1, dI a2, dI a3] [.own true (dI r)]
  | 0, _, _, _, _, _, h => by cases h
  | n + 1, _, _, _, _, _, h => s_l11Mul_b_ok (fun h => s_l11Mul_ok (n := n) h) h

theorem s_l11Times_ok {a0_0 : Int} {a0_1 : List Int} {a1 : List Int} {a2 : List Int} {r : List Int} (h : s_l11Times a0_0 a0_1 a1 a2 = some r) :
    VCall Try.prog 95 [.agg [i64 a0_0, dI a0_1], dI a1, dI a2] [.own true (dI r)] := by
  unfold s_l11Times at h
  refine VCall.enter Try.call95 Try.func95 rfl 14 Try.ntmps95 (by simp) [.tmp 6] rfl ?_
  show VW _ _ _ (mk [(0, .val (.agg [i64 a0_0, dI a0_1])), (1, .val (dI a1)), (2, .val (dI a2))]) _
  -- region 0
  refine VW.ws tau_ok Sound.none [some 3, some 6] [(1, .val (dI a1)), (2, .val (dI a2)), (3, .val (.ptr [i64 a0_0, dI a0_1]))] rfl ?_ ?_
  · simp <;> simp [ieq, ilt, ile]
  -- region 1
  obtain ⟨v1, hv1, h⟩ := bind_some h
  refine VW.ws tau_ok (Sound.none.add 13 (s_l11Mul_ok (n := BIG) hv1) rfl) [some 7, some 8, some 9, some 10, some 11, some 12, some 13, some 6] [(6, .ref 6 [] true (dI v1))] rfl ?_ ?_
  · simp <;> simp [ieq, ilt, ile]
  cases h
  refine VW.ret ?_
  simp [Post, PostM, PostC, PostC2, Nx, Bk]

theorem s_LoopOfUnits_ok {a0_0 : Int} {a0_1 : List Int} {r : (List (List Int)) × Int} (h : s_LoopOfUnits a0_0 a0_1 = some r) :
    VCall Try.prog 32 [.agg [i64 a0_0, dI a0_1]] [.own true (dM r.1), .sc (i64 r.2)] := by
  unfold s_LoopOfUnits at h
  refine VCall.enter Try.call32 Try.func32 rfl 62 Try.ntmps32 (by simp) [.tmp 2, .tmp 3] rfl ?_
  show VW _ _ _ (mk [(0, .val (.agg [i64 a0_0, dI a0_1]))]) _
  -- region 0
  refine VW.ws tau_ok Sound.none [some 1, some 2, some 3] [(1, .val (.ptr [i64 a0_0, dI a0_1]))] rfl ?_ ?_
  · simp <;> simp [ieq, ilt, ile]
  -- region 1
  obtain ⟨v1, hv1, h⟩ := bind_some h
  refine VW.ws tau_ok (Sound.none.add 14 (s_l13Small_ok hv1) rfl) [some 13, some 14, some 12, some 15, some 16, some 4, some 5] [(1, .val (.ptr [i64 a0_0, dI a0_1])), (4, .ref 4 [] false (dM v1.1)), (5, .val (i64 v1.2))] rfl ?_ ?_
  · simp <;> simp [ieq, ilt, ile]
  refine VW.sqc fun K2 hK2 hCK2 => ?_
  -- region 2
  refine VW.ws tau_ok Sound.none [some 17, some 18] [(1, .val (.ptr [i64 a0_0, dI a0_1])), (4, .ref 4 [] false (dM v1.1)), (5, .val (i64 v1.2)), (18, .val (.bool (!(ieq v1.2 0))))] rfl ?_ ?_
  · simp <;> simp [ieq, ilt, ile]
  refine VW.cond rfl (fun hb3 => ?_) (fun hb3 => ?_)
  ·
    replace hb3 : ¬ v1.2 = 0 := by simpa [ieq, ilt, ile] using hb3
    rw [if_pos hb3] at h
    -- region 3
    refine VW.ws tau_ok Sound.none [some 19, some 2, some 3] [(2, .ref 2 [] true (.list [])), (3, .val (i64 v1.2))] rfl ?_ ?_
    · simp <;> simp [ieq, ilt, ile]
    cases h
    refine VW.ret ?_
    simp [Post, PostM, PostC, PostC2, Nx, Bk]
  replace hb3 : ¬ (¬ v1.2 = 0) := by simpa [ieq, ilt, ile] using hb3
  rw [if_neg hb3] at h
  refine VW.skip ?_
  refine hK2 _ ?_
  -- region 4
  refine VW.ws tau_ok Sound.none [some 20, some 6] [(1, .val (.ptr [i64 a0_0, dI a0_1])), (4, .ref 4 [] false (dM v1.1)), (6, .ref 6 [] true (dM []))] rfl ?_ ?_
  · simp <;> simp [ieq, ilt, ile]
  refine VW.sqc fun K4 hK4 hCK4 => ?_
  -- region 5
  refine VW.ws tau_ok Sound.none [some 7] [(1, .val (.ptr [i64 a0_0, dI a0_1])), (4, .ref 4 [] false (dM v1.1)), (6, .ref 6 [] true (dM [])), (7, .val (i64 0))] rfl ?_ ?_
  · simp <;> simp [ieq, ilt, ile]
  obtain ⟨x5, hx5, h⟩ := bind_some h
  refine VW.tlE [(6, .ref 6 [] true (dM x5))] (hCK4) ?_ ?_
  · clear hx5
    refine hK4 _ ?_
    -- region 17
    refine VW.ws tau_ok Sound.none [some 61, some 2, some 3] [(2, .ref 2 [] true (dM x5)), (3, .val (i64 0))] rfl ?_ ?_
    · simp <;> simp [ieq, ilt, ile]
    cases h
    refine VW.ret ?_
    simp [Post, PostM, PostC, PostC2, Nx, Bk]
  refine VW.block ?_
  refine VW.loopF (s_LoopOfUnits_L0 a0_0 a0_1 v1) (fun s5 => [(1, .val (.ptr [i64 a0_0, dI a0_1])), (4, .ref 4 [] false (dM v1.1)), (6, .ref 6 [] true (dM s5.1)), (7, .val (i64 s5.2))]) hx5 (Fits.of rfl) ?_
  clear hx5
  intro s5 ox5 hx5o hx5b
  unfold s_LoopOfUnits_L0 at hx5o
  refine VW.sqc fun K7 hK7 hCK7 => ?_
  -- region 6
  refine VW.ws tau_ok Sound.none [some 21, some 22, some 23, some 24] [(1, .val (.ptr [i64 a0_0, dI a0_1])), (4, .ref 4 [] false (dM v1.1)), (6, .ref 6 [] true (dM s5.1)), (7, .val (i64 s5.2)), (24, .val (.bool (ilt s5.2 (v1.1.length : Int))))] rfl ?_ ?_
  · simp <;> simp [ieq, ilt, ile]
  refine VW.cond rfl (fun hb8 => ?_) (fun hb8 => ?_)
  rotate_left
  ·
    replace hb8 : ¬ (s5.2 < (v1.1.length : Int)) := by simpa [ieq, ilt, ile] using hb8
    rw [if_neg hb8] at hx5o
    refine VW.exit ?_
    cases hx5o
    have hq := hx5b _ rfl
    subst hq
    exact Fits.of rfl
  replace hb8 : s5.2 < (v1.1.length : Int) := by simpa [ieq, ilt, ile] using hb8
  rw [if_pos hb8] at hx5o
  refine VW.skip ?_
  refine hK7 _ ?_
  refine VW.sqc fun K9 hK9 hCK9 => ?_
  refine VW.block ?_
  -- region 8
  refine VW.ws tau_ok Sound.none [some 27, some 8] [(1, .val (.ptr [i64 a0_0, dI a0_1])), (4, .ref 4 [] false (dM v1.1)), (6, .ref 6 [] true (dM s5.1)), (7, .val (i64 s5.2)), (8, .ref 8 [] true (dI []))] rfl ?_ ?_
  · simp <;> simp [ieq, ilt, ile]
  refine VW.sqc fun K10 hK10 hCK10 => ?_
  -- region 9
  refine VW.ws tau_ok Sound.none [some 9] [(1, .val (.ptr [i64 a0_0, dI a0_1])), (4, .ref 4 [] false (dM v1.1)), (6, .ref 6 [] true (dM s5.1)), (7, .val (i64 s5.2)), (8, .ref 8 [] true (dI [])), (9, .val (i64 0))] rfl ?_ ?_
  · simp <;> simp [ieq, ilt, ile]
  obtain ⟨x11, hx11, hx5o⟩ := bind_some hx5o
  refine VW.tlE [(1, .val (.ptr [i64 a0_0, dI a0_1])), (4, .ref 4 [] false (dM v1.1)), (6, .ref 6 [] true (dM s5.1)), (7, .val (i64 s5.2)), (8, .ref 8 [] true (dI x11))] (hCK10) ?_ ?_
  · clear hx11
    refine hK10 _ ?_
    -- region 16
    obtain ⟨hc27, hx5o⟩ := chk_some hx5o
    have hc27s := hc27
    try simp at hc27s
    refine VW.wr tau_ok Sound.none [some 57, some 58, some 59, some 60, some 6] [(1, .val (.ptr [i64 a0_0, dI a0_1])), (4, .ref 4 [] false (dM v1.1)), (6, .ref 6 [] true (dM (s5.1 ++ [x11]))), (7, .val (i64 s5.2))] rfl ?_ ?_
    · simp [hc27, hc27s] <;> simp [ieq, ilt, ile]
    refine hK9 _ ?_
    -- region 7
    refine VW.wr tau_ok Sound.none [some 25, some 26, some 7] [(1, .val (.ptr [i64 a0_0, dI a0_1])), (4, .ref 4 [] false (dM v1.1)), (6, .ref 6 [] true (dM (s5.1 ++ [x11]))), (7, .val (i64 (w64 (s5.2 + 1))))] rfl ?_ ?_
    · simp <;> simp [ieq, ilt, ile]
    cases hx5o
    exact ⟨_, rfl, Fits.of rfl⟩
  refine VW.block ?_
  refine VW.loopF (s_LoopOfUnits_L1 a0_0 a0_1 v1 s5) (fun s11 => [(1, .val (.ptr [i64 a0_0, dI a0_1])), (4, .ref 4 [] false (dM v1.1)), (6, .ref 6 [] true (dM s5.1)), (7, .val (i64 s5.2)), (8, .ref 8 [] true (dI s11.1)), (9, .val (i64 s11.2))]) hx11 (Fits.of rfl) ?_
  clear hx11
  intro s11 ox11 hx11o hx11b
  unfold s_LoopOfUnits_L1 at hx11o
  refine VW.sqc fun K13 hK13 hCK13 => ?_
  -- region 10
  refine VW.ws tau_ok Sound.none [some 28, some 29, some 30, some 31] [(1, .val (.ptr [i64 a0_0, dI a0_1])), (4, .ref 4 [] false (dM v1.1)), (6, .ref 6 [] true (dM s5.1)), (7, .val (i64 s5.2)), (8, .ref 8 [] true (dI s11.1)), (9, .val (i64 s11.2)), (31, .val (.bool (ilt s11.2 (v1.1.length : Int))))] rfl ?_ ?_
  · simp <;> simp [ieq, ilt, ile]
  refine VW.cond rfl (fun hb14 => ?_) (fun hb14 => ?_)
  rotate_left
  ·
    replace hb14 : ¬ (s11.2 < (v1.1.length : Int)) := by simpa [ieq, ilt, ile] using hb14
    rw [if_neg hb14] at hx11o
    refine VW.exit ?_
    cases hx11o
    have hq := hx11b _ rfl
    subst hq
    exact Fits.of rfl
  replace hb14 : s11.2 < (v1.1.length : Int) := by simpa [ieq, ilt, ile] using hb14
  rw [if_pos hb14] at hx11o
  refine VW.skip ?_
  refine hK13 _ ?_
  refine VW.sqc fun K15 hK15 hCK15 => ?_
  refine VW.block ?_
  -- region 12
  obtain ⟨v16, hv16, hx11o⟩ := bind_some hx11o
  obtain ⟨hv16a, hv16b, hv16c, hv16d⟩ := idx_some hv16
  obtain ⟨v17, hv17, hx11o⟩ := bind_some hx11o
  obtain ⟨hv17a, hv17b, hv17c, hv17d⟩ := idx_some hv17
  obtain ⟨v18, hv18, hx11o⟩ := bind_some hx11o
  refine VW.wds tau_ok (Sound.none.add 43 (s_l11Times_ok hv18) rfl) try_mixed [some 34, some 35, some 36, some 37, some 38, some 39, some 40, some 41, some 42, some 43, some 10, some 11] [(1, .val (.ptr [i64 a0_0, dI a0_1])), (4, .ref 4 [] false (dM v1.1)), (6, .ref 6 [] true (dM s5.1)), (7, .val (i64 s5.2)), (8, .ref 8 [] true (dI s11.1)), (9, .val (i64 s11.2)), (10, .ref 10 [] true (dI v18)), (11, .val (i64 0))] 10 rfl (by kernel_rfl) (by rfl) ?_ ?_
  · simp [hv16a, hv16b, hv16c, hv16d, hv17a, hv17b, hv17c, hv17d] <;> simp [ieq, ilt, ile]
  refine VW.sqc fun K19 hK19 hCK19 => ?_
  obtain ⟨x20, hx20, hx11o⟩ := bind_some hx11o
  refine VW.tlE [(1, .val (.ptr [i64 a0_0, dI a0_1])), (4, .ref 4 [] false (dM v1.1)), (6, .ref 6 [] true (dM s5.1)), (7, .val (i64 s5.2)), (8, .ref 8 [] true (dI s11.1)), (9, .val (i64 s11.2)), (11, .val (i64 x20))] (hCK19) ?_ ?_
  · clear hx20
    refine hK19 _ ?_
    -- region 15
    obtain ⟨hc26, hx11o⟩ := chk_some hx11o
    have hc26s := hc26
    try simp at hc26s
    refine VW.wr tau_ok Sound.none [some 53, some 54, some 55, some 56, some 8] [(1, .val (.ptr [i64 a0_0, dI a0_1])), (4, .ref 4 [] false (dM v1.1)), (6, .ref 6 [] true (dM s5.1)), (7, .val (i64 s5.2)), (8, .ref 8 [] true (dI (s11.1 ++ [x20]))), (9, .val (i64 s11.2))] rfl ?_ ?_
    · simp [hc26, hc26s] <;> simp [ieq, ilt, ile]
    refine hK15 _ ?_
    -- region 11
    refine VW.wr tau_ok Sound.none [some 32, some 33, some 9] [(1, .val (.ptr [i64 a0_0, dI a0_1])), (4, .ref 4 [] false (dM v1.1)), (6, .ref 6 [] true (dM s5.1)), (7, .val (i64 s5.2)), (8, .ref 8 [] true (dI (s11.1 ++ [x20]))), (9, .val (i64 (w64 (s11.2 + 1))))] rfl ?_ ?_
    · simp <;> simp [ieq, ilt, ile]
    cases hx11o
    exact ⟨_, rfl, Fits.of rfl⟩
  refine VW.block ?_
  refine VW.loopF (s_LoopOfUnits_L2 v1 v18) (fun s20 => [(1, .val (.ptr [i64 a0_0, dI a0_1])), (4, .ref 4 [] false (dM v1.1)), (6, .ref 6 [] true (dM s5.1)), (7, .val (i64 s5.2)), (8, .ref 8 [] true (dI s11.1)), (9, .val (i64 s11.2)), (10, .ref 10 [] true (dI v18)), (11, .val (i64 s20))]) hx20 (Fits.of rfl) ?_
  clear hx20
  intro s20 ox20 hx20o hx20b
  unfold s_LoopOfUnits_L2 at hx20o
  refine VW.sqc fun K22 hK22 hCK22 => ?_
  -- region 13
  obtain ⟨v23, hv23, hx20o⟩ := bind_some hx20o
  obtain ⟨hv23a, hv23b, hv23c, hv23d⟩ := idx_some hv23
  obtain ⟨v24, hv24, hx20o⟩ := bind_some hx20o
  refine VW.ws tau_ok (Sound.none.add 49 (s_l01Same_ok hv24) rfl) [some 44, some 45, some 46, some 47, some 48, some 49, some 50] [(1, .val (.ptr [i64 a0_0, dI a0_1])), (4, .ref 4 [] false (dM v1.1)), (6, .ref 6 [] true (dM s5.1)), (7, .val (i64 s5.2)), (8, .ref 8 [] true (dI s11.1)), (9, .val (i64 s11.2)), (10, .ref 10 [] true (dI v18)), (11, .val (i64 s20)), (50, .val (.bool (!v24)))] rfl ?_ ?_
  · simp [hv23a, hv23b, hv23c, hv23d] <;> simp [ieq, ilt, ile]
  refine VW.cond rfl (fun hb25 => ?_) (fun hb25 => ?_)
  rotate_left
  ·
    replace hb25 : ¬ (v24 = false) := by simpa [ieq, ilt, ile] using hb25
    rw [if_neg hb25] at hx20o
    refine VW.exit ?_
    cases hx20o
    have hq := hx20b _ rfl
    subst hq
    exact Fits.of rfl
  replace hb25 : v24 = false := by simpa [ieq, ilt, ile] using hb25
  rw [if_pos hb25] at hx20o
  refine VW.skip ?_
  refine hK22 _ ?_
  refine VW.block ?_
  -- region 14
  refine VW.wr tau_ok Sound.none [some 51, some 52, some 11] [(1, .val (.ptr [i64 a0_0, dI a0_1])), (4, .ref 4 [] false (dM v1.1)), (6, .ref 6 [] true (dM s5.1)), (7, .val (i64 s5.2)), (8, .ref 8 [] true (dI s11.1)), (9, .val (i64 s11.2)), (10, .ref 10 [] true (dI v18)), (11, .val (i64 (w64 (s20 + 1))))] rfl ?_ ?_
  · simp <;> simp [ieq, ilt, ile]
  cases hx20o
  exact ⟨_, rfl, Fits.of rfl⟩

theorem i_checkNorm_ok {a0_0 : Int} {a0_1 : List Int} {a1 : Int} {r : Int} (h : i_checkNorm a0_0 a0_1 a1 = some r) :
    VCall Try.prog 105 [.agg [i64 a0_0, dI a0_1], i64 a1] [.sc (i64 r)] := by
  unfold i_checkNorm at h
  refine VCall.enter Try.call105 Try.func105 rfl 16 Try.ntmps105 (by simp) [.tmp 4] rfl ?_
  show VW _ _ _ (mk [(0, .val (.agg [i64 a0_0, dI a0_1])), (1, .val (i64 a1))]) _
  -- region 0
  refine VW.ws tau_ok Sound.none [some 2, some 4] [(1, .val (i64 a1)), (2, .val (.ptr [i64 a0_0, dI a0_1]))] rfl ?_ ?_
  · simp <;> simp [ieq, ilt, ile]
  refine VW.sqc fun K1 hK1 hCK1 => ?_
  refine VW.block ?_
  -- region 1
  obtain ⟨v2, hv2, h⟩ := bind_some h
  refine VW.ws tau_ok (Sound.none.add 7 (i_IsDoubling_ok hv2) rfl) [some 6, some 7, some 8, some 5] [(1, .val (i64 a1)), (2, .val (.ptr [i64 a0_0, dI a0_1])), (5, .val (.bool (!v2)))] rfl ?_ ?_
  · simp <;> simp [ieq, ilt, ile]
  refine VW.cond rfl (fun hb3 => ?_) (fun hb3 => ?_)
  ·
    replace hb3 : v2 = false := by simpa [ieq, ilt, ile] using hb3
    rw [if_pos hb3] at h
    -- region 2
    refine VW.ws tau_ok Sound.none [some 4] [(4, .val (i64 1))] rfl ?_ ?_
    · simp <;> simp [ieq, ilt, ile]
    cases h
    refine VW.ret ?_
    simp [Post, PostM, PostC, PostC2, Nx, Bk]
  replace hb3 : ¬ (v2 = false) := by simpa [ieq, ilt, ile] using hb3
  rw [if_neg hb3] at h
  -- region 3
  obtain ⟨v4, hv4, h⟩ := bind_some h
  obtain ⟨v5, hv5, h⟩ := bind_some h
  refine VW.ws tau_ok ((Sound.none.add 11 (i_Doubling_field_ok hv4) rfl).add 14 (i_field_is_ok hv5) rfl) [some 10, some 11, some 12, some 13, some 14, some 15, some 9] [(9, .val (.bool (!v5)))] rfl ?_ ?_
  · simp <;> simp [ieq, ilt, ile]
  refine VW.cond rfl (fun hb6 => ?_) (fun hb6 => ?_)
  ·
    replace hb6 : v5 = false := by simpa [ieq, ilt, ile] using hb6
    rw [if_pos hb6] at h
    -- region 4
    refine VW.ws tau_ok Sound.none [some 4] [(4, .val (i64 2))] rfl ?_ ?_
    · simp <;> simp [ieq, ilt, ile]
    cases h
    refine VW.ret ?_
    simp [Post, PostM, PostC, PostC2, Nx, Bk]
  replace hb6 : ¬ (v5 = false) := by simpa [ieq, ilt, ile] using hb6
  rw [if_neg hb6] at h
  refine VW.skip ?_
  refine hK1 _ ?_
  -- region 5
  refine VW.ws tau_ok Sound.none [some 4] [(4, .val (i64 0))] rfl ?_ ?_
  · simp <;> simp [ieq, ilt, ile]
  cases h
  refine VW.ret ?_
  simp [Post, PostM, PostC, PostC2, Nx, Bk]

theorem i_CountOfNorm_ok {a0_0 : Int} {a0_1 : List Int} {a1 : Int} {r : Int × Int} (h : i_CountOfNorm a0_0 a0_1 a1 = some r) :
    VCall Try.prog 37 [.agg [i64 a0_0, dI a0_1], i64 a1] [.sc (i64 r.1), .sc (i64 r.2)] := by
  unfold i_CountOfNorm at h
  refine VCall.enter Try.call37 Try.func37 rfl 20 Try.ntmps37 (by simp) [.tmp 4, .tmp 5] rfl ?_
  show VW _ _ _ (mk [(0, .val (.agg [i64 a0_0, dI a0_1])), (1, .val (i64 a1))]) _
  -- region 0
  refine VW.ws tau_ok Sound.none [some 2, some 4, some 5] [(1, .val (i64 a1)), (2, .val (.ptr [i64 a0_0, dI a0_1]))] rfl ?_ ?_
  · simp <;> simp [ieq, ilt, ile]
  refine VW.sqc fun K1 hK1 hCK1 => ?_
  -- region 1
  obtain ⟨v2, hv2, h⟩ := bind_some h
  refine VW.ws tau_ok (Sound.none.add 9 (i_checkNorm_ok hv2) rfl) [some 7, some 8, some 9, some 6] [(1, .val (i64 a1)), (2, .val (.ptr [i64 a0_0, dI a0_1])), (6, .val (i64 v2))] rfl ?_ ?_
  · simp <;> simp [ieq, ilt, ile]
  -- region 2
  refine VW.ws tau_ok Sound.none [some 10, some 11] [(1, .val (i64 a1)), (2, .val (.ptr [i64 a0_0, dI a0_1])), (6, .val (i64 v2)), (11, .val (.bool (!(ieq v2 0))))] rfl ?_ ?_
  · simp <;> simp [ieq, ilt, ile]
  refine VW.cond rfl (fun hb3 => ?_) (fun hb3 => ?_)
  ·
    replace hb3 : ¬ v2 = 0 := by simpa [ieq, ilt, ile] using hb3
    rw [if_pos hb3] at h
    -- region 3
    refine VW.ws tau_ok Sound.none [some 12, some 4, some 5] [(4, .val (i64 0)), (5, .val (i64 v2))] rfl ?_ ?_
    · simp <;> simp [ieq, ilt, ile]
    cases h
    refine VW.ret ?_
    simp [Post, PostM, PostC, PostC2, Nx, Bk]
  replace hb3 : ¬ (¬ v2 = 0) := by simpa [ieq, ilt, ile] using hb3
  rw [if_neg hb3] at h
  refine VW.skip ?_
  refine hK1 _ ?_
  -- region 4
  obtain ⟨v4, hv4, h⟩ := bind_some h
  obtain ⟨v5, hv5, h⟩ := bind_some h
  obtain ⟨hv5a, hv5b, hv5c, hv5d⟩ := idx_some hv5
  replace hv5b : 0 < v4.length := hv5b
  replace hv5c : v4[0]? = some v5 := hv5c
  replace hv5d : ∀ h, v4[0]'h = v5 := hv5d
  obtain ⟨v6, hv6, h⟩ := bind_some h
  obtain ⟨hv6a, hv6b, hv6c, hv6d⟩ := idx_some hv6
  refine VW.ws tau_ok (Sound.none.add 14 (i_Doubling_normCounts_ok hv4) rfl) [some 13, some 14, some 15, some 16, some 17, some 18, some 19, some 4, some 5] [(4, .val (i64 v6)), (5, .val (i64 0))] rfl ?_ ?_
  · simp [hv5a, hv5b, hv5c, hv5d, hv6a, hv6b, hv6c, hv6d] <;> simp [ieq, ilt, ile]
  cases h
  refine VW.ret ?_
  simp [Post, PostM, PostC, PostC2, Nx, Bk]

theorem i_DoubleUnit_ok {a0_0 : Int} {a0_1 : List Int} {r : (List Int) × Int} (h : i_DoubleUnit a0_0 a0_1 = some r) :
    VCall Try.prog 38 [.agg [i64 a0_0, dI a0_1]] [.own true (dI r.1), .sc (i64 r.2)] := by
  unfold i_DoubleUnit at h
  refine VCall.enter Try.call38 Try.func38 rfl 9 Try.ntmps38 (by simp) [.tmp 2, .tmp 3] rfl ?_
  show VW _ _ _ (mk [(0, .val (.agg [i64 a0_0, dI a0_1]))]) _
  -- region 0
  refine VW.ws tau_ok Sound.none [some 1, some 2, some 3] [(1, .val (.ptr [i64 a0_0, dI a0_1]))] rfl ?_ ?_
  · simp <;> simp [ieq, ilt, ile]
  refine VW.sqc fun K1 hK1 hCK1 => ?_
  -- region 1
  obtain ⟨v2, hv2, h⟩ := bind_some h
  refine VW.ws tau_ok (Sound.none.add 5 (i_IsDoubling_ok hv2) rfl) [some 4, some 5, some 6] [(1, .val (.ptr [i64 a0_0, dI a0_1])), (6, .val (.bool (!v2)))] rfl ?_ ?_
  · simp <;> simp [ieq, ilt, ile]
  refine VW.cond rfl (fun hb3 => ?_) (fun hb3 => ?_)
  ·
    replace hb3 : v2 = false := by simpa [ieq, ilt, ile] using hb3
    rw [if_pos hb3] at h
    -- region 2
    refine VW.ws tau_ok Sound.none [some 2, some 3] [(2, .ref 2 [] true (.list [])), (3, .val (i64 1))] rfl ?_ ?_
    · simp <;> simp [ieq, ilt, ile]
    cases h
    refine VW.ret ?_
    simp [Post, PostM, PostC, PostC2, Nx, Bk]
  replace hb3 : ¬ (v2 = false) := by simpa [ieq, ilt, ile] using hb3
  rw [if_neg hb3] at h
  refine VW.skip ?_
  refine hK1 _ ?_
  -- region 3
  obtain ⟨v4, hv4, h⟩ := bind_some h
  refine VW.ws tau_ok (Sound.none.add 8 (i_Doubling_element_ok hv4) rfl) [some 7, some 8, some 2, some 3] [(2, .ref 2 [] true (dI v4)), (3, .val (i64 0))] rfl ?_ ?_
  · simp <;> simp [ieq, ilt, ile]
  cases h
  refine VW.ret ?_
  simp [Post, PostM, PostC, PostC2, Nx, Bk]

theorem i_length_I_ok {a0 : List Int} {r : Int} (h : i_length_I a0 = some r) :
    VCall Try.prog 203 [dI a0] [.sc (i64 r)] := by
  unfold i_length_I at h
  refine VCall.enter Try.call203 Try.func203 rfl 5 Try.ntmps203 (by simp) [.tmp 2] rfl ?_
  show VW _ _ _ (mk [(0, .val (dI a0))]) _
  -- region 0
  refine VW.ws tau_ok Sound.none [some 2] [(0, .val (dI a0))] rfl ?_ ?_
  · simp <;> simp [ieq, ilt, ile]
  -- region 1
  refine VW.ws tau_ok Sound.none [some 3, some 4, some 2] [(2, .val (i64 (a0.length : Int)))] rfl ?_ ?_
  · simp <;> simp [ieq, ilt, ile]
  cases h
  refine VW.ret ?_
  simp [Post, PostM, PostC, PostC2, Nx, Bk]

theorem i_isOnce_ok {a0 : List Int} {r : Bool} (h : i_isOnce a0 = some r) :
    VCall Try.prog 133 [dI a0] [.sc (.bool r)] := by
  unfold i_isOnce at h
  refine VCall.enter Try.call133 Try.func133 rfl 31 Try.ntmps133 (by simp) [.tmp 2] rfl ?_
  show VW _ _ _ (mk [(0, .val (dI a0))]) _
  -- region 0
  refine VW.ws tau_ok Sound.none [some 2] [(0, .val (dI a0))] rfl ?_ ?_
  · simp <;> simp [ieq, ilt, ile]
  -- region 1
  obtain ⟨hc1, h⟩ := chk_some h
  have hc1s := hc1
  try simp at hc1s
  refine VW.ws tau_ok Sound.none [some 6, some 7, some 8, some 3] [(0, .val (dI a0)), (3, .ref 3 [] true (dB (List.replicate (a0.length : Int).toNat false)))] rfl ?_ ?_
  · simp [hc1, hc1s] <;> simp [ieq, ilt, ile]
  refine VW.sqc fun K2 hK2 hCK2 => ?_
  -- region 2
  refine VW.ws tau_ok Sound.none [some 9, some 10, some 11] [(0, .val (dI a0)), (3, .ref 3 [] true (dB (List.replicate (a0.length : Int).toNat false))), (9, .val (dI a0)), (10, .val (i64 (a0.length : Int))), (11, .val (i64 0))] rfl ?_ ?_
  · simp <;> simp [ieq, ilt, ile]
  obtain ⟨x3, hx3, h⟩ := bind_some h
  refine VW.tlO (fun y5 => []) x3 (hCK2) ?_ ?_
  · clear hx3
    rintro y5 rfl
    dsimp only at h
    refine hK2 _ ?_
    -- region 9
    refine VW.ws tau_ok Sound.none [some 2] [(2, .val (.bool true))] rfl ?_ ?_
    · simp <;> simp [ieq, ilt, ile]
    cases h
    refine VW.ret ?_
    simp [Post, PostM, PostC, PostC2, Nx, Bk]
  refine VW.block ?_
  refine VW.loopF (i_isOnce_L0 a0) (fun s3 => [(0, .val (dI a0)), (3, .ref 3 [] true (dB s3.1)), (9, .val (dI a0)), (10, .val (i64 (a0.length : Int))), (11, .val (i64 s3.2))]) hx3 (Fits.of rfl) ?_
  clear hx3
  intro s3 ox3 hx3o hx3b
  unfold i_isOnce_L0 at hx3o
  -- region 3
  refine VW.ws tau_ok Sound.none [some 12] [(0, .val (dI a0)), (3, .ref 3 [] true (dB s3.1)), (9, .val (dI a0)), (10, .val (i64 (a0.length : Int))), (11, .val (i64 s3.2)), (12, .val (.bool (ilt s3.2 (a0.length : Int))))] rfl ?_ ?_
  · simp <;> simp [ieq, ilt, ile]
  refine VW.sqc fun K6 hK6 hCK6 => ?_
  refine VW.cond rfl (fun hb7 => ?_) (fun hb7 => ?_)
  rotate_left
  ·
    replace hb7 : ¬ (s3.2 < (a0.length : Int)) := by simpa [ieq, ilt, ile] using hb7
    rw [if_neg hb7] at hx3o
    refine VW.exit ?_
    cases hx3o
    have hq := hx3b _ rfl
    subst hq
    exact ⟨_, rfl, Fits.of rfl⟩
  replace hb7 : s3.2 < (a0.length : Int) := by simpa [ieq, ilt, ile] using hb7
  rw [if_pos hb7] at hx3o
  refine VW.skip ?_
  refine hK6 _ ?_
  refine VW.sqc fun K8 hK8 hCK8 => ?_
  refine VW.block ?_
  -- region 4
  obtain ⟨v9, hv9, hx3o⟩ := bind_some hx3o
  obtain ⟨hv9a, hv9b, hv9c, hv9d⟩ := idx_some hv9
  refine VW.ws tau_ok Sound.none [some 13, some 14, some 5] [(0, .val (dI a0)), (3, .ref 3 [] true (dB s3.1)), (5, .val (i64 v9)), (9, .val (dI a0)), (10, .val (i64 (a0.length : Int))), (11, .val (i64 s3.2))] rfl ?_ ?_
  · simp [hv9a, hv9b, hv9c, hv9d] <;> simp [ieq, ilt, ile]
  refine VW.sqc fun K10 hK10 hCK10 => ?_
  -- region 5
  obtain ⟨x15, hx15, hx3o⟩ := bind_some hx3o
  refine VW.cut [(0, .val (dI a0)), (3, .ref 3 [] true (dB s3.1)), (5, .val (i64 v9)), (9, .val (dI a0)), (10, .val (i64 (a0.length : Int))), (11, .val (i64 s3.2)), (26, .val (.bool x15))] ?_ fun hy => ?_
  rotate_left
  · clear hx3o
    obtain ⟨v11, hv11, hx15⟩ := bind_some hx15
    obtain ⟨v12, hv12, hx15⟩ := bind_some hx15
    by_cases hp13 : v12 = false
    · rw [if_pos hp13] at hx15
      have hp13b : v12 = false := by simpa [ieq, ilt, ile] using hp13
      have hp13s := hp13b
      try simp at hp13s
      cases hx15
      refine VW.ws tau_ok ((Sound.none.add 17 (i_length_I_ok hv11) rfl).add 19 (i_inRange_ok hv12) rfl) [some 15, some 16, some 17, some 18, some 19, some 20, some 21, some 22, some 23, some 24, some 25, some 26] _ rfl ?_ hy
      simp [hp13b, hp13s] <;> simp [ieq, ilt, ile]
    · rw [if_neg hp13] at hx15
      have hp13b : v12 = true := by simpa [ieq, ilt, ile] using hp13
      have hp13s := hp13b
      try simp at hp13s
      obtain ⟨v14, hv14, hx15⟩ := bind_some hx15
      obtain ⟨hv14a, hv14b, hv14c, hv14d⟩ := idx_some hv14
      cases hx15
      refine VW.ws tau_ok ((Sound.none.add 17 (i_length_I_ok hv11) rfl).add 19 (i_inRange_ok hv12) rfl) [some 15, some 16, some 17, some 18, some 19, some 20, some 21, some 22, some 23, some 24, some 25, some 26] _ rfl ?_ hy
      simp [hp13b, hp13s, hv14a, hv14b, hv14c, hv14d] <;> simp [ieq, ilt, ile]
  refine VW.cond rfl (fun hb16 => ?_) (fun hb16 => ?_)
  ·
    replace hb16 : x15 = true := by simpa [ieq, ilt, ile] using hb16
    rw [if_pos hb16] at hx3o
    -- region 6
    refine VW.ws tau_ok Sound.none [some 2] [(2, .val (.bool false))] rfl ?_ ?_
    · simp <;> simp [ieq, ilt, ile]
    cases hx3o
    have hq := hx3b _ rfl
    subst hq
    dsimp only at h
    cases h
    refine VW.ret ?_
    simp [Post, PostM, PostC, PostC2, Nx, Bk]
  replace hb16 : ¬ (x15 = true) := by simpa [ieq, ilt, ile] using hb16
  rw [if_neg hb16] at hx3o
  refine VW.skip ?_
  refine hK10 _ ?_
  -- region 7
  obtain ⟨v17, hv17, hx3o⟩ := bind_some hx3o
  obtain ⟨hv17a, hv17b, hv17c, hv17d⟩ := idx_some hv17
  refine VW.wr tau_ok Sound.none [some 27, some 28, some 29, none] [(0, .val (dI a0)), (3, .ref 3 [] true (dB (s3.1.set v9.toNat true))), (9, .val (dI a0)), (10, .val (i64 (a0.length : Int))), (11, .val (i64 s3.2))] rfl ?_ ?_
  · simp [hv17a, hv17b, hv17c, hv17d] <;> simp [ieq, ilt, ile]
  refine hK8 _ ?_
  -- region 8
  refine VW.wr tau_ok Sound.none [some 30, some 11] [(0, .val (dI a0)), (3, .ref 3 [] true (dB (s3.1.set v9.toNat true))), (9, .val (dI a0)), (10, .val (i64 (a0.length : Int))), (11, .val (i64 (w64 (s3.2 + 1))))] rfl ?_ ?_
  · simp <;> simp [ieq, ilt, ile]
  cases hx3o
  exact ⟨_, rfl, Fits.of rfl⟩

theorem i_transpose_ok {a0 : List (List Int)} {r : List (List Int)} (h : i_transpose a0 = some r) :
    VCall Try.prog 132 [dM a0] [.own true (dM r)] := by
  unfold i_transpose at h
  refine VCall.enter Try.call132 Try.func132 rfl 38 Try.ntmps132 (by simp) [.tmp 2] rfl ?_
  show VW _ _ _ (mk [(0, .val (dM a0))]) _
  -- region 0
  refine VW.ws tau_ok Sound.none [some 2] [(0, .val (dM a0))] rfl ?_ ?_
  · simp <;> simp [ieq, ilt, ile]
  -- region 1
  refine VW.ws tau_ok Sound.none [some 7, some 3] [(0, .val (dM a0)), (3, .ref 3 [] true (dM []))] rfl ?_ ?_
  · simp <;> simp [ieq, ilt, ile]
  refine VW.sqc fun K1 hK1 hCK1 => ?_
  -- region 2
  obtain ⟨v2, hv2, h⟩ := bind_some h
  obtain ⟨hv2a, hv2b, hv2c, hv2d⟩ := idx_some hv2
  replace hv2b : 0 < a0.length := hv2b
  replace hv2c : a0[0]? = some v2 := hv2c
  replace hv2d : ∀ h, a0[0]'h = v2 := hv2d
  refine VW.ws tau_ok Sound.none [some 8, some 9, some 10, some 11, some 12] [(0, .val (dM a0)), (3, .ref 3 [] true (dM [])), (11, .val (i64 (v2.length : Int))), (12, .val (i64 0))] rfl ?_ ?_
  · simp [hv2a, hv2b, hv2c, hv2d] <;> simp [ieq, ilt, ile]
  obtain ⟨x3, hx3, h⟩ := bind_some h
  refine VW.tlE [(3, .ref 3 [] true (dM x3))] (hCK1) ?_ ?_
  · clear hx3
    refine hK1 _ ?_
    -- region 13
    refine VW.ws tau_ok Sound.none [some 37, some 2] [(2, .ref 2 [] true (dM x3))] rfl ?_ ?_
    · simp <;> simp [ieq, ilt, ile]
    cases h
    refine VW.ret ?_
    simp [Post, PostM, PostC, PostC2, Nx, Bk]
  refine VW.block ?_
  refine VW.loopF (i_transpose_L0 a0 v2) (fun s3 => [(0, .val (dM a0)), (3, .ref 3 [] true (dM s3.1)), (11, .val (i64 (v2.length : Int))), (12, .val (i64 s3.2))]) hx3 (Fits.of rfl) ?_
  clear hx3
  intro s3 ox3 hx3o hx3b
  unfold i_transpose_L0 at hx3o
  -- region 3
  refine VW.ws tau_ok Sound.none [some 13] [(0, .val (dM a0)), (3, .ref 3 [] true (dM s3.1)), (11, .val (i64 (v2.length : Int))), (12, .val (i64 s3.2)), (13, .val (.bool (ilt s3.2 (v2.length : Int))))] rfl ?_ ?_
  · simp <;> simp [ieq, ilt, ile]
  refine VW.sqc fun K5 hK5 hCK5 => ?_
  refine VW.cond rfl (fun hb6 => ?_) (fun hb6 => ?_)
  rotate_left
  ·
    replace hb6 : ¬ (s3.2 < (v2.length : Int)) := by simpa [ieq, ilt, ile] using hb6
    rw [if_neg hb6] at hx3o
    refine VW.exit ?_
    cases hx3o
    have hq := hx3b _ rfl
    subst hq
    exact Fits.of rfl
  replace hb6 : s3.2 < (v2.length : Int) := by simpa [ieq, ilt, ile] using hb6
  rw [if_pos hb6] at hx3o
  refine VW.skip ?_
  refine hK5 _ ?_
  refine VW.sqc fun K7 hK7 hCK7 => ?_
  refine VW.block ?_
  -- region 4
  refine VW.ws tau_ok Sound.none [some 14, some 4] [(0, .val (dM a0)), (3, .ref 3 [] true (dM s3.1)), (4, .val (i64 s3.2)), (11, .val (i64 (v2.length : Int))), (12, .val (i64 s3.2))] rfl ?_ ?_
  · simp <;> simp [ieq, ilt, ile]
  -- region 5
  refine VW.ws tau_ok Sound.none [some 15, some 5] [(0, .val (dM a0)), (3, .ref 3 [] true (dM s3.1)), (4, .val (i64 s3.2)), (5, .ref 5 [] true (dI [])), (11, .val (i64 (v2.length : Int))), (12, .val (i64 s3.2))] rfl ?_ ?_
  · simp <;> simp [ieq, ilt, ile]
  refine VW.sqc fun K8 hK8 hCK8 => ?_
  -- region 6
  refine VW.ws tau_ok Sound.none [some 16, some 17, some 18] [(0, .val (dM a0)), (3, .ref 3 [] true (dM s3.1)), (4, .val (i64 s3.2)), (5, .ref 5 [] true (dI [])), (11, .val (i64 (v2.length : Int))), (12, .val (i64 s3.2)), (17, .val (i64 (a0.length : Int))), (18, .val (i64 0))] rfl ?_ ?_
  · simp <;> simp [ieq, ilt, ile]
  obtain ⟨x9, hx9, hx3o⟩ := bind_some hx3o
  refine VW.tlE [(0, .val (dM a0)), (3, .ref 3 [] true (dM s3.1)), (5, .ref 5 [] true (dI x9)), (11, .val (i64 (v2.length : Int))), (12, .val (i64 s3.2))] (hCK8) ?_ ?_
  · clear hx9
    refine hK8 _ ?_
    -- region 11
    obtain ⟨hc17, hx3o⟩ := chk_some hx3o
    have hc17s := hc17
    try simp at hc17s
    refine VW.wr tau_ok Sound.none [some 32, some 33, some 34, some 35, some 3] [(0, .val (dM a0)), (3, .ref 3 [] true (dM (s3.1 ++ [x9]))), (11, .val (i64 (v2.length : Int))), (12, .val (i64 s3.2))] rfl ?_ ?_
    · simp [hc17, hc17s] <;> simp [ieq, ilt, ile]
    refine hK7 _ ?_
    -- region 12
    refine VW.wr tau_ok Sound.none [some 36, some 12] [(0, .val (dM a0)), (3, .ref 3 [] true (dM (s3.1 ++ [x9]))), (11, .val (i64 (v2.length : Int))), (12, .val (i64 (w64 (s3.2 + 1))))] rfl ?_ ?_
    · simp <;> simp [ieq, ilt, ile]
    cases hx3o
    exact ⟨_, rfl, Fits.of rfl⟩
  refine VW.block ?_
  refine VW.loopF (i_transpose_L1 a0 s3) (fun s9 => [(0, .val (dM a0)), (3, .ref 3 [] true (dM s3.1)), (4, .val (i64 s3.2)), (5, .ref 5 [] true (dI s9.1)), (11, .val (i64 (v2.length : Int))), (12, .val (i64 s3.2)), (17, .val (i64 (a0.length : Int))), (18, .val (i64 s9.2))]) hx9 (Fits.of rfl) ?_
  clear hx9
  intro s9 ox9 hx9o hx9b
  unfold i_transpose_L1 at hx9o
  -- region 7
  refine VW.ws tau_ok Sound.none [some 19] [(0, .val (dM a0)), (3, .ref 3 [] true (dM s3.1)), (4, .val (i64 s3.2)), (5, .ref 5 [] true (dI s9.1)), (11, .val (i64 (v2.length : Int))), (12, .val (i64 s3.2)), (17, .val (i64 (a0.length : Int))), (18, .val (i64 s9.2)), (19, .val (.bool (ilt s9.2 (a0.length : Int))))] rfl ?_ ?_
  · simp <;> simp [ieq, ilt, ile]
  refine VW.sqc fun K11 hK11 hCK11 => ?_
  refine VW.cond rfl (fun hb12 => ?_) (fun hb12 => ?_)
  rotate_left
  ·
    replace hb12 : ¬ (s9.2 < (a0.length : Int)) := by simpa [ieq, ilt, ile] using hb12
    rw [if_neg hb12] at hx9o
    refine VW.exit ?_
    cases hx9o
    have hq := hx9b _ rfl
    subst hq
    exact Fits.of rfl
  replace hb12 : s9.2 < (a0.length : Int) := by simpa [ieq, ilt, ile] using hb12
  rw [if_pos hb12] at hx9o
  refine VW.skip ?_
  refine hK11 _ ?_
  refine VW.sqc fun K13 hK13 hCK13 => ?_
  refine VW.block ?_
  -- region 8
  refine VW.ws tau_ok Sound.none [some 20, some 6] [(0, .val (dM a0)), (3, .ref 3 [] true (dM s3.1)), (4, .val (i64 s3.2)), (5, .ref 5 [] true (dI s9.1)), (6, .val (i64 s9.2)), (11, .val (i64 (v2.length : Int))), (12, .val (i64 s3.2)), (17, .val (i64 (a0.length : Int))), (18, .val (i64 s9.2))] rfl ?_ ?_
  · simp <;> simp [ieq, ilt, ile]
  -- region 9
  obtain ⟨v14, hv14, hx9o⟩ := bind_some hx9o
  obtain ⟨hv14a, hv14b, hv14c, hv14d⟩ := idx_some hv14
  obtain ⟨v15, hv15, hx9o⟩ := bind_some hx9o
  obtain ⟨hv15a, hv15b, hv15c, hv15d⟩ := idx_some hv15
  obtain ⟨hc16, hx9o⟩ := chk_some hx9o
  have hc16s := hc16
  try simp at hc16s
  refine VW.wr tau_ok Sound.none [some 21, some 22, some 23, some 24, some 25, some 26, some 27, some 28, some 29, some 30, some 5] [(0, .val (dM a0)), (3, .ref 3 [] true (dM s3.1)), (4, .val (i64 s3.2)), (5, .ref 5 [] true (dI (s9.1 ++ [v15]))), (11, .val (i64 (v2.length : Int))), (12, .val (i64 s3.2)), (17, .val (i64 (a0.length : Int))), (18, .val (i64 s9.2))] rfl ?_ ?_
  · simp [hv14a, hv14b, hv14c, hv14d, hv15a, hv15b, hv15c, hv15d, hc16, hc16s] <;> simp [ieq, ilt, ile]
  refine hK13 _ ?_
  -- region 10
  refine VW.wr tau_ok Sound.none [some 31, some 18] [(0, .val (dM a0)), (3, .ref 3 [] true (dM s3.1)), (4, .val (i64 s3.2)), (5, .ref 5 [] true (dI (s9.1 ++ [v15]))), (11, .val (i64 (v2.length : Int))), (12, .val (i64 s3.2)), (17, .val (i64 (a0.length : Int))), (18, .val (i64 (w64 (s9.2 + 1))))] rfl ?_ ?_
  · simp <;> simp [ieq, ilt, ile]
  cases hx9o
  exact ⟨_, rfl, Fits.of rfl⟩

theorem i_IsLoop_c1_ok {a0 : List Int} {r : Bool} (h : i_IsLoop_c1 a0 = some r) :
    VCall Try.prog 135 [dI a0] [.sc (.bool r)] := by
  unfold i_IsLoop_c1 at h
  refine VCall.enter Try.call135 Try.func135 rfl 6 Try.ntmps135 (by simp) [.tmp 2] rfl ?_
  show VW _ _ _ (mk [(0, .val (dI a0))]) _
  -- region 0
  refine VW.ws tau_ok Sound.none [some 2] [(0, .val (dI a0))] rfl ?_ ?_
  · simp <;> simp [ieq, ilt, ile]
  -- region 1
  obtain ⟨v1, hv1, h⟩ := bind_some h
  refine VW.ws tau_ok (Sound.none.add 4 (i_isOnce_ok hv1) rfl) [some 3, some 4, some 5, some 2] [(2, .val (.bool (!v1)))] rfl ?_ ?_
  · simp <;> simp [ieq, ilt, ile]
  cases h
  refine VW.ret ?_
  simp [Post, PostM, PostC, PostC2, Nx, Bk]

theorem g_slices_IndexFunc_LLI_LI_of_i_IsLoop_c1_ok {a0 : List (List Int)} {r : Int} (h : g_slices_IndexFunc_LLI_LI_of_i_IsLoop_c1 a0 = some r) :
    VCall Try.prog 98 [dM a0, .fn 135 []] [.sc (i64 r)] := by
  unfold g_slices_IndexFunc_LLI_LI_of_i_IsLoop_c1 at h
  refine VCall.enter Try.call98 Try.func98 rfl 19 Try.ntmps98 (by simp) [.tmp 4] rfl ?_
  show VW _ _ _ (mk [(0, .val (dM a0)), (1, .val (.fn 135 []))]) _
  -- region 0
  refine VW.ws tau_ok Sound.none [some 4] [(0, .val (dM a0)), (1, .val (.fn 135 []))] rfl ?_ ?_
  · simp <;> simp [ieq, ilt, ile]
  refine VW.sqc fun K1 hK1 hCK1 => ?_
  -- region 1
  refine VW.ws tau_ok Sound.none [some 6, some 7, some 8] [(0, .val (dM a0)), (1, .val (.fn 135 [])), (7, .val (i64 (a0.length : Int))), (8, .val (i64 0))] rfl ?_ ?_
  · simp <;> simp [ieq, ilt, ile]
  obtain ⟨x2, hx2, h⟩ := bind_some h
  refine VW.tlO (fun y4 => []) x2 (hCK1) ?_ ?_
  · clear hx2
    rintro y4 rfl
    dsimp only at h
    refine hK1 _ ?_
    -- region 7
    refine VW.ws tau_ok Sound.none [some 4] [(4, .val (i64 (-1)))] rfl ?_ ?_
    · simp <;> simp [ieq, ilt, ile]
    cases h
    refine VW.ret ?_
    simp [Post, PostM, PostC, PostC2, Nx, Bk]
  refine VW.block ?_
  refine VW.loopF (g_slices_IndexFunc_LLI_LI_of_i_IsLoop_c1_L0 a0) (fun s2 => [(0, .val (dM a0)), (1, .val (.fn 135 [])), (7, .val (i64 (a0.length : Int))), (8, .val (i64 s2))]) hx2 (Fits.of rfl) ?_
  clear hx2
  intro s2 ox2 hx2o hx2b
  unfold g_slices_IndexFunc_LLI_LI_of_i_IsLoop_c1_L0 at hx2o
  -- region 2
  refine VW.ws tau_ok Sound.none [some 9] [(0, .val (dM a0)), (1, .val (.fn 135 [])), (7, .val (i64 (a0.length : Int))), (8, .val (i64 s2)), (9, .val (.bool (ilt s2 (a0.length : Int))))] rfl ?_ ?_
  · simp <;> simp [ieq, ilt, ile]
  refine VW.sqc fun K5 hK5 hCK5 => ?_
  refine VW.cond rfl (fun hb6 => ?_) (fun hb6 => ?_)
  rotate_left
  ·
    replace hb6 : ¬ (s2 < (a0.length : Int)) := by simpa [ieq, ilt, ile] using hb6
    rw [if_neg hb6] at hx2o
    refine VW.exit ?_
    cases hx2o
    have hq := hx2b _ rfl
    subst hq
    exact ⟨_, rfl, Fits.of rfl⟩
  replace hb6 : s2 < (a0.length : Int) := by simpa [ieq, ilt, ile] using hb6
  rw [if_pos hb6] at hx2o
  refine VW.skip ?_
  refine hK5 _ ?_
  refine VW.sqc fun K7 hK7 hCK7 => ?_
  refine VW.block ?_
  -- region 3
  refine VW.ws tau_ok Sound.none [some 10, some 5] [(0, .val (dM a0)), (1, .val (.fn 135 [])), (5, .val (i64 s2)), (7, .val (i64 (a0.length : Int))), (8, .val (i64 s2))] rfl ?_ ?_
  · simp <;> simp [ieq, ilt, ile]
  -- region 4
  obtain ⟨v8, hv8, hx2o⟩ := bind_some hx2o
  obtain ⟨hv8a, hv8b, hv8c, hv8d⟩ := idx_some hv8
  obtain ⟨v9, hv9, hx2o⟩ := bind_some hx2o
  refine VW.ws tau_ok (Sound.none.add 16 (i_IsLoop_c1_ok hv9) rfl) [some 11, some 12, some 13, some 14, some 15, some 16] [(0, .val (dM a0)), (1, .val (.fn 135 [])), (5, .val (i64 s2)), (7, .val (i64 (a0.length : Int))), (8, .val (i64 s2)), (16, .val (.bool v9))] rfl ?_ ?_
  · simp [hv8a, hv8b, hv8c, hv8d] <;> simp [ieq, ilt, ile]
  refine VW.cond rfl (fun hb10 => ?_) (fun hb10 => ?_)
  rotate_left
  ·
    replace hb10 : ¬ (v9 = true) := by simpa [ieq, ilt, ile] using hb10
    rw [if_neg hb10] at hx2o
    refine VW.skip ?_
    refine hK7 _ ?_
    -- region 6
    refine VW.wr tau_ok Sound.none [some 18, some 8] [(0, .val (dM a0)), (1, .val (.fn 135 [])), (7, .val (i64 (a0.length : Int))), (8, .val (i64 (w64 (s2 + 1))))] rfl ?_ ?_
    · simp <;> simp [ieq, ilt, ile]
    cases hx2o
    exact ⟨_, rfl, Fits.of rfl⟩
  replace hb10 : v9 = true := by simpa [ieq, ilt, ile] using hb10
  rw [if_pos hb10] at hx2o
  -- region 5
  refine VW.ws tau_ok Sound.none [some 17, some 4] [(4, .val (i64 s2))] rfl ?_ ?_
  · simp <;> simp [ieq, ilt, ile]
  cases hx2o
  have hq := hx2b _ rfl
  subst hq
  dsimp only at h
  cases h
  refine VW.ret ?_
  simp [Post, PostM, PostC, PostC2, Nx, Bk]

theorem g_slices_ContainsFunc_LLI_LI_of_i_IsLoop_c1_ok {a0 : List (List Int)} {r : Bool} (h : g_slices_ContainsFunc_LLI_LI_of_i_IsLoop_c1 a0 = some r) :
    VCall Try.prog 134 [dM a0, .fn 135 []] [.sc (.bool r)] := by
  unfold g_slices_ContainsFunc_LLI_LI_of_i_IsLoop_c1 at h
  refine VCall.enter Try.call134 Try.func134 rfl 9 Try.ntmps134 (by simp) [.tmp 4] rfl ?_
  show VW _ _ _ (mk [(0, .val (dM a0)), (1, .val (.fn 135 []))]) _
  -- region 0
  refine VW.ws tau_ok Sound.none [some 4] [(0, .val (dM a0)), (1, .val (.fn 135 []))] rfl ?_ ?_
  · simp <;> simp [ieq, ilt, ile]
  -- region 1
  obtain ⟨v1, hv1, h⟩ := bind_some h
  refine VW.ws tau_ok (Sound.none.add 7 (g_slices_IndexFunc_LLI_LI_of_i_IsLoop_c1_ok hv1) rfl) [some 5, some 6, some 7, some 8, some 4] [(4, .val (.bool (ile 0 v1)))] rfl ?_ ?_
  · simp <;> simp [ieq, ilt, ile]
  cases h
  refine VW.ret ?_
  simp [Post, PostM, PostC, PostC2, Nx, Bk]

theorem i_IsLoop_ok {a0 : List (List Int)} {r : Bool} (h : i_IsLoop a0 = some r) :
    VCall Try.prog 58 [dM a0] [.sc (.bool r)] := by
  unfold i_IsLoop at h
  refine VCall.enter Try.call58 Try.func58 rfl 59 Try.ntmps58 (by simp) [.tmp 2] rfl ?_
  show VW _ _ _ (mk [(0, .val (dM a0))]) _
  -- region 0
  refine VW.ws tau_ok Sound.none [some 2] [(0, .val (dM a0))] rfl ?_ ?_
  · simp <;> simp [ieq, ilt, ile]
  -- region 1
  refine VW.ws tau_ok Sound.none [some 8, some 9, some 3] [(0, .val (dM a0)), (3, .val (i64 (a0.length : Int)))] rfl ?_ ?_
  · simp <;> simp [ieq, ilt, ile]
  refine VW.sqc fun K1 hK1 hCK1 => ?_
  -- region 2
  obtain ⟨x3, hx3, h⟩ := bind_some h
  refine VW.cut [(0, .val (dM a0)), (3, .val (i64 (a0.length : Int))), (15, .val (.bool x3))] ?_ fun hy => ?_
  rotate_left
  · clear h
    by_cases hp2 : (a0.length : Int) < 1
    · rw [if_pos hp2] at hx3
      have hp2b : ilt (a0.length : Int) 1 = true := by simpa [ieq, ilt, ile] using hp2
      have hp2s := hp2b
      try simp at hp2s
      cases hx3
      refine VW.ws tau_ok Sound.none [some 10, some 11, some 12, some 13, some 14, some 15] _ rfl ?_ hy
      simp [hp2b, hp2s] <;> simp [ieq, ilt, ile]
    · rw [if_neg hp2] at hx3
      have hp2b : ilt (a0.length : Int) 1 = false := by simpa [ieq, ilt, ile] using hp2
      have hp2s := hp2b
      try simp at hp2s
      cases hx3
      refine VW.ws tau_ok Sound.none [some 10, some 11, some 12, some 13, some 14, some 15] _ rfl ?_ hy
      simp [hp2b, hp2s] <;> simp [ieq, ilt, ile]
  refine VW.cond rfl (fun hb4 => ?_) (fun hb4 => ?_)
  ·
    replace hb4 : x3 = true := by simpa [ieq, ilt, ile] using hb4
    rw [if_pos hb4] at h
    -- region 3
    refine VW.ws tau_ok Sound.none [some 2] [(2, .val (.bool false))] rfl ?_ ?_
    · simp <;> simp [ieq, ilt, ile]
    cases h
    refine VW.ret ?_
    simp [Post, PostM, PostC, PostC2, Nx, Bk]
  replace hb4 : ¬ (x3 = true) := by simpa [ieq, ilt, ile] using hb4
  rw [if_neg hb4] at h
  refine VW.skip ?_
  refine hK1 _ ?_
  refine VW.sqc fun K5 hK5 hCK5 => ?_
  -- region 4
  refine VW.ws tau_ok Sound.none [some 16, some 17, some 18] [(0, .val (dM a0)), (3, .val (i64 (a0.length : Int))), (16, .val (dM a0)), (17, .val (i64 (a0.length : Int))), (18, .val (i64 0))] rfl ?_ ?_
  · simp <;> simp [ieq, ilt, ile]
  obtain ⟨x6, hx6, h⟩ := bind_some h
  refine VW.tlO (fun y8 => [(0, .val (dM a0))]) x6 (hCK5) ?_ ?_
  · clear hx6
    rintro y8 rfl
    dsimp only at h
    refine hK5 _ ?_
    refine VW.sqc fun K14 hK14 hCK14 => ?_
    -- region 10
    refine VW.ws tau_ok Sound.none [some 27, some 28, some 29] [(0, .val (dM a0)), (27, .val (dM a0)), (28, .val (i64 (a0.length : Int))), (29, .val (i64 0))] rfl ?_ ?_
    · simp <;> simp [ieq, ilt, ile]
    obtain ⟨x15, hx15, h⟩ := bind_some h
    refine VW.tlO (fun y17 => [(0, .val (dM a0))]) x15 (hCK14) ?_ ?_
    · clear hx15
      rintro y17 rfl
      dsimp only at h
      refine hK14 _ ?_
      -- region 16
      obtain ⟨v30, hv30, h⟩ := bind_some h
      obtain ⟨v31, hv31, h⟩ := bind_some h
      refine VW.ws tau_ok ((Sound.none.add 56 (i_transpose_ok hv30) rfl).add 57 (g_slices_ContainsFunc_LLI_LI_of_i_IsLoop_c1_ok hv31) rfl) [some 55, some 56, some 57, some 58, some 2] [(2, .val (.bool (!v31)))] rfl ?_ ?_
      · simp <;> simp [ieq, ilt, ile]
      cases h
      refine VW.ret ?_
      simp [Post, PostM, PostC, PostC2, Nx, Bk]
    refine VW.block ?_
    refine VW.loopF (i_IsLoop_L1 a0) (fun s15 => [(0, .val (dM a0)), (27, .val (dM a0)), (28, .val (i64 (a0.length : Int))), (29, .val (i64 s15))]) hx15 (Fits.of rfl) ?_
    clear hx15
    intro s15 ox15 hx15o hx15b
    unfold i_IsLoop_L1 at hx15o
    -- region 11
    refine VW.ws tau_ok Sound.none [some 30] [(0, .val (dM a0)), (27, .val (dM a0)), (28, .val (i64 (a0.length : Int))), (29, .val (i64 s15)), (30, .val (.bool (ilt s15 (a0.length : Int))))] rfl ?_ ?_
    · simp <;> simp [ieq, ilt, ile]
    refine VW.sqc fun K18 hK18 hCK18 => ?_
    refine VW.cond rfl (fun hb19 => ?_) (fun hb19 => ?_)
    rotate_left
    ·
      replace hb19 : ¬ (s15 < (a0.length : Int)) := by simpa [ieq, ilt, ile] using hb19
      rw [if_neg hb19] at hx15o
      refine VW.exit ?_
      cases hx15o
      have hq := hx15b _ rfl
      subst hq
      exact ⟨_, rfl, Fits.of rfl⟩
    replace hb19 : s15 < (a0.length : Int) := by simpa [ieq, ilt, ile] using hb19
    rw [if_pos hb19] at hx15o
    refine VW.skip ?_
    refine hK18 _ ?_
    refine VW.sqc fun K20 hK20 hCK20 => ?_
    refine VW.block ?_
    -- region 12
    obtain ⟨v21, hv21, hx15o⟩ := bind_some hx15o
    obtain ⟨hv21a, hv21b, hv21c, hv21d⟩ := idx_some hv21
    refine VW.ws tau_ok Sound.none [some 31, some 32, some 33, some 6, some 7] [(0, .val (dM a0)), (6, .val (i64 s15)), (7, .val (dI v21)), (27, .val (dM a0)), (28, .val (i64 (a0.length : Int))), (29, .val (i64 s15))] rfl ?_ ?_
    · simp [hv21a, hv21b, hv21c, hv21d] <;> simp [ieq, ilt, ile]
    -- region 13
    obtain ⟨x28, hx28, hx15o⟩ := bind_some hx15o
    refine VW.cut [(0, .val (dM a0)), (27, .val (dM a0)), (28, .val (i64 (a0.length : Int))), (29, .val (i64 s15)), (53, .val (.bool x28))] ?_ fun hy => ?_
    rotate_left
    · clear hx15o
      obtain ⟨v22, hv22, hx28⟩ := bind_some hx28
      obtain ⟨hv22a, hv22b, hv22c, hv22d⟩ := idx_some hv22
      replace hv22b : 0 < v21.length := hv22b
      replace hv22c : v21[0]? = some v22 := hv22c
      replace hv22d : ∀ h, v21[0]'h = v22 := hv22d
      by_cases hp23 : ¬ v22 = s15
      · rw [if_pos hp23] at hx28
        have hp23b : ieq v22 s15 = false := by simpa [ieq, ilt, ile] using hp23
        have hp23s := hp23b
        try simp at hp23s
        cases hx28
        refine VW.ws tau_ok Sound.none [some 34, some 35, some 36, some 37, some 38, some 39, some 40, some 41, some 42, some 43, some 44, some 45, some 46, some 47, some 48, some 49, some 50, some 51, some 52, some 53] _ rfl ?_ hy
        simp [hv22a, hv22b, hv22c, hv22d, hp23b, hp23s] <;> simp [ieq, ilt, ile]
      · rw [if_neg hp23] at hx28
        have hp23b : ieq v22 s15 = true := by simpa [ieq, ilt, ile] using hp23
        have hp23s := hp23b
        try simp at hp23s
        obtain ⟨v24, hv24, hx28⟩ := bind_some hx28
        obtain ⟨hv24a, hv24b, hv24c, hv24d⟩ := idx_some hv24
        replace hv24b : 0 < a0.length := hv24b
        replace hv24c : a0[0]? = some v24 := hv24c
        replace hv24d : ∀ h, a0[0]'h = v24 := hv24d
        obtain ⟨v25, hv25, hx28⟩ := bind_some hx28
        obtain ⟨hv25a, hv25b, hv25c, hv25d⟩ := idx_some hv25
        by_cases hp26 : ¬ v25 = s15
        · rw [if_pos hp26] at hx28
          have hp26b : ieq v25 s15 = false := by simpa [ieq, ilt, ile] using hp26
          have hp26s := hp26b
          try simp at hp26s
          cases hx28
          refine VW.ws tau_ok Sound.none [some 34, some 35, some 36, some 37, some 38, some 39, some 40, some 41, some 42, some 43, some 44, some 45, some 46, some 47, some 48, some 49, some 50, some 51, some 52, some 53] _ rfl ?_ hy
          simp [hv22a, hv22b, hv22c, hv22d, hp23b, hp23s, hv24a, hv24b, hv24c, hv24d, hv25a, hv25b, hv25c, hv25d, hp26b, hp26s] <;> simp [ieq, ilt, ile]
        · rw [if_neg hp26] at hx28
          have hp26b : ieq v25 s15 = true := by simpa [ieq, ilt, ile] using hp26
          have hp26s := hp26b
          try simp at hp26s
          obtain ⟨v27, hv27, hx28⟩ := bind_some hx28
          cases hx28
          refine VW.ws tau_ok (Sound.none.add 51 (i_isOnce_ok hv27) rfl) [some 34, some 35, some 36, some 37, some 38, some 39, some 40, some 41, some 42, some 43, some 44, some 45, some 46, some 47, some 48, some 49, some 50, some 51, some 52, some 53] _ rfl ?_ hy
          simp [hv22a, hv22b, hv22c, hv22d, hp23b, hp23s, hv24a, hv24b, hv24c, hv24d, hv25a, hv25b, hv25c, hv25d, hp26b, hp26s] <;> simp [ieq, ilt, ile]
    refine VW.cond rfl (fun hb29 => ?_) (fun hb29 => ?_)
    rotate_left
    ·
      replace hb29 : ¬ (x28 = true) := by simpa [ieq, ilt, ile] using hb29
      rw [if_neg hb29] at hx15o
      refine VW.skip ?_
      refine hK20 _ ?_
      -- region 15
      refine VW.wr tau_ok Sound.none [some 54, some 29] [(0, .val (dM a0)), (27, .val (dM a0)), (28, .val (i64 (a0.length : Int))), (29, .val (i64 (w64 (s15 + 1))))] rfl ?_ ?_
      · simp <;> simp [ieq, ilt, ile]
      cases hx15o
      exact ⟨_, rfl, Fits.of rfl⟩
    replace hb29 : x28 = true := by simpa [ieq, ilt, ile] using hb29
    rw [if_pos hb29] at hx15o
    -- region 14
    refine VW.ws tau_ok Sound.none [some 2] [(2, .val (.bool false))] rfl ?_ ?_
    · simp <;> simp [ieq, ilt, ile]
    cases hx15o
    have hq := hx15b _ rfl
    subst hq
    dsimp only at h
    cases h
    refine VW.ret ?_
    simp [Post, PostM, PostC, PostC2, Nx, Bk]
  refine VW.block ?_
  refine VW.loopF (i_IsLoop_L0 a0) (fun s6 => [(0, .val (dM a0)), (3, .val (i64 (a0.length : Int))), (16, .val (dM a0)), (17, .val (i64 (a0.length : Int))), (18, .val (i64 s6))]) hx6 (Fits.of rfl) ?_
  clear hx6
  intro s6 ox6 hx6o hx6b
  unfold i_IsLoop_L0 at hx6o
  -- region 5
  refine VW.ws tau_ok Sound.none [some 19] [(0, .val (dM a0)), (3, .val (i64 (a0.length : Int))), (16, .val (dM a0)), (17, .val (i64 (a0.length : Int))), (18, .val (i64 s6)), (19, .val (.bool (ilt s6 (a0.length : Int))))] rfl ?_ ?_
  · simp <;> simp [ieq, ilt, ile]
  refine VW.sqc fun K9 hK9 hCK9 => ?_
  refine VW.cond rfl (fun hb10 => ?_) (fun hb10 => ?_)
  rotate_left
  ·
    replace hb10 : ¬ (s6 < (a0.length : Int)) := by simpa [ieq, ilt, ile] using hb10
    rw [if_neg hb10] at hx6o
    refine VW.exit ?_
    cases hx6o
    have hq := hx6b _ rfl
    subst hq
    exact ⟨_, rfl, Fits.of rfl⟩
  replace hb10 : s6 < (a0.length : Int) := by simpa [ieq, ilt, ile] using hb10
  rw [if_pos hb10] at hx6o
  refine VW.skip ?_
  refine hK9 _ ?_
  refine VW.sqc fun K11 hK11 hCK11 => ?_
  refine VW.block ?_
  -- region 6
  obtain ⟨v12, hv12, hx6o⟩ := bind_some hx6o
  obtain ⟨hv12a, hv12b, hv12c, hv12d⟩ := idx_some hv12
  refine VW.ws tau_ok Sound.none [some 20, some 21, some 5] [(0, .val (dM a0)), (3, .val (i64 (a0.length : Int))), (5, .val (dI v12)), (16, .val (dM a0)), (17, .val (i64 (a0.length : Int))), (18, .val (i64 s6))] rfl ?_ ?_
  · simp [hv12a, hv12b, hv12c, hv12d] <;> simp [ieq, ilt, ile]
  -- region 7
  refine VW.ws tau_ok Sound.none [some 22, some 23, some 24, some 25] [(0, .val (dM a0)), (3, .val (i64 (a0.length : Int))), (16, .val (dM a0)), (17, .val (i64 (a0.length : Int))), (18, .val (i64 s6)), (25, .val (.bool (!(ieq (v12.length : Int) (a0.length : Int)))))] rfl ?_ ?_
  · simp <;> simp [ieq, ilt, ile]
  refine VW.cond rfl (fun hb13 => ?_) (fun hb13 => ?_)
  rotate_left
  ·
    replace hb13 : ¬ (¬ (v12.length : Int) = (a0.length : Int)) := by simpa [ieq, ilt, ile] using hb13
    rw [if_neg hb13] at hx6o
    refine VW.skip ?_
    refine hK11 _ ?_
    -- region 9
    refine VW.wr tau_ok Sound.none [some 26, some 18] [(0, .val (dM a0)), (3, .val (i64 (a0.length : Int))), (16, .val (dM a0)), (17, .val (i64 (a0.length : Int))), (18, .val (i64 (w64 (s6 + 1))))] rfl ?_ ?_
    · simp <;> simp [ieq, ilt, ile]
    cases hx6o
    exact ⟨_, rfl, Fits.of rfl⟩
  replace hb13 : ¬ (v12.length : Int) = (a0.length : Int) := by simpa [ieq, ilt, ile] using hb13
  rw [if_pos hb13] at hx6o
  -- region 8
  refine VW.ws tau_ok Sound.none [some 2] [(2, .val (.bool false))] rfl ?_ ?_
  · simp <;> simp [ieq, ilt, ile]
  cases hx6o
  have hq := hx6b _ rfl
  subst hq
  dsimp only at h
  cases h
  refine VW.ret ?_
  simp [Post, PostM, PostC, PostC2, Nx, Bk]

theorem i_length_LI_ok {a0 : List (List Int)} {r : Int} (h : i_length_LI a0 = some r) :
    VCall Try.prog 120 [dM a0] [.sc (i64 r)] := by
  unfold i_length_LI at h
  refine VCall.enter Try.call120 Try.func120 rfl 5 Try.ntmps120 (by simp) [.tmp 2] rfl ?_
  show VW _ _ _ (mk [(0, .val (dM a0))]) _
  -- region 0
  refine VW.ws tau_ok Sound.none [some 2] [(0, .val (dM a0))] rfl ?_ ?_
  · simp <;> simp [ieq, ilt, ile]
  -- region 1
  refine VW.ws tau_ok Sound.none [some 3, some 4, some 2] [(2, .val (i64 (a0.length : Int)))] rfl ?_ ?_
  · simp <;> simp [ieq, ilt, ile]
  cases h
  refine VW.ret ?_
  simp [Post, PostM, PostC, PostC2, Nx, Bk]

theorem i_checkLoop_c1_ok {a0 : Int} {a1_0 : List (List Int)} {r : Bool} (h : i_checkLoop_c1 a0 a1_0 = some r) :
    VCall Try.prog 194 [i64 a0, .ptr [dM a1_0]] [.sc (.bool r)] := by
  unfold i_checkLoop_c1 at h
  refine VCall.enter Try.call194 Try.func194 rfl 10 Try.ntmps194 (by simp) [.tmp 3] rfl ?_
  show VW _ _ _ (mk [(0, .val (i64 a0)), (1, .val (.ptr [dM a1_0]))]) _
  -- region 0
  refine VW.ws tau_ok Sound.none [some 3] [(0, .val (i64 a0)), (1, .val (.ptr [dM a1_0]))] rfl ?_ ?_
  · simp <;> simp [ieq, ilt, ile]
  -- region 1
  obtain ⟨v1, hv1, h⟩ := bind_some h
  obtain ⟨v2, hv2, h⟩ := bind_some h
  refine VW.ws tau_ok ((Sound.none.add 6 (i_length_LI_ok hv1) rfl).add 8 (i_inRange_ok hv2) rfl) [some 4, some 5, some 6, some 7, some 8, some 9, some 3] [(3, .val (.bool (!v2)))] rfl ?_ ?_
  · simp <;> simp [ieq, ilt, ile]
  cases h
  refine VW.ret ?_
  simp [Post, PostM, PostC, PostC2, Nx, Bk]

theorem g_slices_IndexFunc_LI_I_of_i_checkLoop_c1_ok {a0 : List Int} {a1_0_0 : List (List Int)} {r : Int} (h : g_slices_IndexFunc_LI_I_of_i_checkLoop_c1 a0 a1_0_0 = some r) :
    VCall Try.prog 199 [dI a0, .fn 194 [.ptr [dM a1_0_0]]] [.sc (i64 r)] := by
  unfold g_slices_IndexFunc_LI_I_of_i_checkLoop_c1 at h
  refine VCall.enter Try.call199 Try.func199 rfl 19 Try.ntmps199 (by simp) [.tmp 4] rfl ?_
  show VW _ _ _ (mk [(0, .val (dI a0)), (1, .val (.fn 194 [.ptr [dM a1_0_0]]))]) _
  -- region 0
  refine VW.ws tau_ok Sound.none [some 4] [(0, .val (dI a0)), (1, .val (.fn 194 [.ptr [dM a1_0_0]]))] rfl ?_ ?_
  · simp <;> simp [ieq, ilt, ile]
  refine VW.sqc fun K1 hK1 hCK1 => ?_
  -- region 1
  refine VW.ws tau_ok Sound.none [some 6, some 7, some 8] [(0, .val (dI a0)), (1, .val (.fn 194 [.ptr [dM a1_0_0]])), (7, .val (i64 (a0.length : Int))), (8, .val (i64 0))] rfl ?_ ?_
  · simp <;> simp [ieq, ilt, ile]
  obtain ⟨x2, hx2, h⟩ := bind_some h
  refine VW.tlO (fun y4 => []) x2 (hCK1) ?_ ?_
  · clear hx2
    rintro y4 rfl
    dsimp only at h
    refine hK1 _ ?_
    -- region 7
    refine VW.ws tau_ok Sound.none [some 4] [(4, .val (i64 (-1)))] rfl ?_ ?_
    · simp <;> simp [ieq, ilt, ile]
    cases h
    refine VW.ret ?_
    simp [Post, PostM, PostC, PostC2, Nx, Bk]
  refine VW.block ?_
  refine VW.loopF (g_slices_IndexFunc_LI_I_of_i_checkLoop_c1_L0 a0 a1_0_0) (fun s2 => [(0, .val (dI a0)), (1, .val (.fn 194 [.ptr [dM a1_0_0]])), (7, .val (i64 (a0.length : Int))), (8, .val (i64 s2))]) hx2 (Fits.of rfl) ?_
  clear hx2
  intro s2 ox2 hx2o hx2b
  unfold g_slices_IndexFunc_LI_I_of_i_checkLoop_c1_L0 at hx2o
  -- region 2
  refine VW.ws tau_ok Sound.none [some 9] [(0, .val (dI a0)), (1, .val (.fn 194 [.ptr [dM a1_0_0]])), (7, .val (i64 (a0.length : Int))), (8, .val (i64 s2)), (9, .val (.bool (ilt s2 (a0.length : Int))))] rfl ?_ ?_
  · simp <;> simp [ieq, ilt, ile]
  refine VW.sqc fun K5 hK5 hCK5 => ?_
  refine VW.cond rfl (fun hb6 => ?_) (fun hb6 => ?_)
  rotate_left
  ·
    replace hb6 : ¬ (s2 < (a0.length : Int)) := by simpa [ieq, ilt, ile] using hb6
    rw [if_neg hb6] at hx2o
    refine VW.exit ?_
    cases hx2o
    have hq := hx2b _ rfl
    subst hq
    exact ⟨_, rfl, Fits.of rfl⟩
  replace hb6 : s2 < (a0.length : Int) := by simpa [ieq, ilt, ile] using hb6
  rw [if_pos hb6] at hx2o
  refine VW.skip ?_
  refine hK5 _ ?_
  refine VW.sqc fun K7 hK7 hCK7 => ?_
  refine VW.block ?_
  -- region 3
  refine VW.ws tau_ok Sound.none [some 10, some 5] [(0, .val (dI a0)), (1, .val (.fn 194 [.ptr [dM a1_0_0]])), (5, .val (i64 s2)), (7, .val (i64 (a0.length : Int))), (8, .val (i64 s2))] rfl ?_ ?_
  · simp <;> simp [ieq, ilt, ile]
  -- region 4
  obtain ⟨v8, hv8, hx2o⟩ := bind_some hx2o
  obtain ⟨hv8a, hv8b, hv8c, hv8d⟩ := idx_some hv8
  obtain ⟨v9, hv9, hx2o⟩ := bind_some hx2o
  refine VW.ws tau_ok (Sound.none.add 16 (i_checkLoop_c1_ok hv9) rfl) [some 11, some 12, some 13, some 14, some 15, some 16] [(0, .val (dI a0)), (1, .val (.fn 194 [.ptr [dM a1_0_0]])), (5, .val (i64 s2)), (7, .val (i64 (a0.length : Int))), (8, .val (i64 s2)), (16, .val (.bool v9))] rfl ?_ ?_
  · simp [hv8a, hv8b, hv8c, hv8d] <;> simp [ieq, ilt, ile]
  refine VW.cond rfl (fun hb10 => ?_) (fun hb10 => ?_)
  rotate_left
  ·
    replace hb10 : ¬ (v9 = true) := by simpa [ieq, ilt, ile] using hb10
    rw [if_neg hb10] at hx2o
    refine VW.skip ?_
    refine hK7 _ ?_
    -- region 6
    refine VW.wr tau_ok Sound.none [some 18, some 8] [(0, .val (dI a0)), (1, .val (.fn 194 [.ptr [dM a1_0_0]])), (7, .val (i64 (a0.length : Int))), (8, .val (i64 (w64 (s2 + 1))))] rfl ?_ ?_
    · simp <;> simp [ieq, ilt, ile]
    cases hx2o
    exact ⟨_, rfl, Fits.of rfl⟩
  replace hb10 : v9 = true := by simpa [ieq, ilt, ile] using hb10
  rw [if_pos hb10] at hx2o
  -- region 5
  refine VW.ws tau_ok Sound.none [some 17, some 4] [(4, .val (i64 s2))] rfl ?_ ?_
  · simp <;> simp [ieq, ilt, ile]
  cases hx2o
  have hq := hx2b _ rfl
  subst hq
  dsimp only at h
  cases h
  refine VW.ret ?_
  simp [Post, PostM, PostC, PostC2, Nx, Bk]

theorem g_slices_ContainsFunc_LI_I_of_i_checkLoop_c1_ok {a0 : List Int} {a1_0_0 : List (List Int)} {r : Bool} (h : g_slices_ContainsFunc_LI_I_of_i_checkLoop_c1 a0 a1_0_0 = some r) :
    VCall Try.prog 121 [dI a0, .fn 194 [.ptr [dM a1_0_0]]] [.sc (.bool r)] := by
  unfold g_slices_ContainsFunc_LI_I_of_i_checkLoop_c1 at h
  refine VCall.enter Try.call121 Try.func121 rfl 9 Try.ntmps121 (by simp) [.tmp 4] rfl ?_
  show VW _ _ _ (mk [(0, .val (dI a0)), (1, .val (.fn 194 [.ptr [dM a1_0_0]]))]) _
  -- region 0
  refine VW.ws tau_ok Sound.none [some 4] [(0, .val (dI a0)), (1, .val (.fn 194 [.ptr [dM a1_0_0]]))] rfl ?_ ?_
  · simp <;> simp [ieq, ilt, ile]
  -- region 1
  obtain ⟨v1, hv1, h⟩ := bind_some h
  refine VW.ws tau_ok (Sound.none.add 7 (g_slices_IndexFunc_LI_I_of_i_checkLoop_c1_ok hv1) rfl) [some 5, some 6, some 7, some 8, some 4] [(4, .val (.bool (ile 0 v1)))] rfl ?_ ?_
  · simp <;> simp [ieq, ilt, ile]
  cases h
  refine VW.ret ?_
  simp [Post, PostM, PostC, PostC2, Nx, Bk]

theorem i_checkLoop_ok {a0 : List (List Int)} {a1 : List Int} {r : Int} (h : i_checkLoop a0 a1 = some r) :
    VCall Try.prog 109 [dM a0, dI a1] [.sc (i64 r)] := by
  unfold i_checkLoop at h
  refine VCall.enter Try.call109 Try.func109 rfl 11 Try.ntmps109 (by simp) [.tmp 4] rfl ?_
  show VW _ _ _ (mk [(0, .val (dM a0)), (1, .val (dI a1))]) _
  -- region 0
  refine VW.ws tau_ok Sound.none [some 2, some 4] [(1, .val (dI a1)), (2, .val (.ptr [dM a0]))] rfl ?_ ?_
  · simp <;> simp [ieq, ilt, ile]
  refine VW.sqc fun K1 hK1 hCK1 => ?_
  -- region 1
  obtain ⟨v2, hv2, h⟩ := bind_some h
  refine VW.ws tau_ok (Sound.none.add 6 (i_IsLoop_ok hv2) rfl) [some 5, some 6, some 7] [(1, .val (dI a1)), (2, .val (.ptr [dM a0])), (7, .val (.bool (!v2)))] rfl ?_ ?_
  · simp <;> simp [ieq, ilt, ile]
  refine VW.cond rfl (fun hb3 => ?_) (fun hb3 => ?_)
  ·
    replace hb3 : v2 = false := by simpa [ieq, ilt, ile] using hb3
    rw [if_pos hb3] at h
    -- region 2
    refine VW.ws tau_ok Sound.none [some 4] [(4, .val (i64 1))] rfl ?_ ?_
    · simp <;> simp [ieq, ilt, ile]
    cases h
    refine VW.ret ?_
    simp [Post, PostM, PostC, PostC2, Nx, Bk]
  replace hb3 : ¬ (v2 = false) := by simpa [ieq, ilt, ile] using hb3
  rw [if_neg hb3] at h
  refine VW.skip ?_
  refine hK1 _ ?_
  refine VW.sqc fun K4 hK4 hCK4 => ?_
  -- region 3
  obtain ⟨v5, hv5, h⟩ := bind_some h
  refine VW.ws tau_ok (Sound.none.add 10 (g_slices_ContainsFunc_LI_I_of_i_checkLoop_c1_ok hv5) rfl) [some 8, some 9, some 10] [(10, .val (.bool v5))] rfl ?_ ?_
  · simp <;> simp [ieq, ilt, ile]
  refine VW.cond rfl (fun hb6 => ?_) (fun hb6 => ?_)
  ·
    replace hb6 : v5 = true := by simpa [ieq, ilt, ile] using hb6
    rw [if_pos hb6] at h
    -- region 4
    refine VW.ws tau_ok Sound.none [some 4] [(4, .val (i64 2))] rfl ?_ ?_
    · simp <;> simp [ieq, ilt, ile]
    cases h
    refine VW.ret ?_
    simp [Post, PostM, PostC, PostC2, Nx, Bk]
  replace hb6 : ¬ (v5 = true) := by simpa [ieq, ilt, ile] using hb6
  rw [if_neg hb6] at h
  refine VW.skip ?_
  refine hK4 _ ?_
  -- region 5
  refine VW.ws tau_ok Sound.none [some 4] [(4, .val (i64 0))] rfl ?_ ?_
  · simp <;> simp [ieq, ilt, ile]
  cases h
  refine VW.ret ?_
  simp [Post, PostM, PostC, PostC2, Nx, Bk]

theorem i_IsMoufangLoop_c1_ok {a0 : Int} {a1 : Int} {a2 : Int} {a3_0 : List (List Int)} {r : Bool} (h : i_IsMoufangLoop_c1 a0 a1 a2 a3_0 = some r) :
    VCall Try.prog 111 [i64 a0, i64 a1, i64 a2, .ptr [dM a3_0]] [.sc (.bool r)] := by
  unfold i_IsMoufangLoop_c1 at h
  refine VCall.enter Try.call111 Try.func111 rfl 47 Try.ntmps111 (by simp) [.tmp 7] rfl ?_
  show VW _ _ _ (mk [(0, .val (i64 a0)), (1, .val (i64 a1)), (2, .val (i64 a2)), (3, .val (.ptr [dM a3_0]))]) _
  -- region 0
  refine VW.ws tau_ok Sound.none [some 7] [(0, .val (i64 a0)), (1, .val (i64 a1)), (2, .val (i64 a2)), (3, .val (.ptr [dM a3_0]))] rfl ?_ ?_
  · simp <;> simp [ieq, ilt, ile]
  -- region 1
  obtain ⟨v1, hv1, h⟩ := bind_some h
  obtain ⟨hv1a, hv1b, hv1c, hv1d⟩ := idx_some hv1
  obtain ⟨v2, hv2, h⟩ := bind_some h
  obtain ⟨hv2a, hv2b, hv2c, hv2d⟩ := idx_some hv2
  obtain ⟨v3, hv3, h⟩ := bind_some h
  obtain ⟨hv3a, hv3b, hv3c, hv3d⟩ := idx_some hv3
  obtain ⟨v4, hv4, h⟩ := bind_some h
  obtain ⟨hv4a, hv4b, hv4c, hv4d⟩ := idx_some hv4
  obtain ⟨v5, hv5, h⟩ := bind_some h
  obtain ⟨hv5a, hv5b, hv5c, hv5d⟩ := idx_some hv5
  obtain ⟨v6, hv6, h⟩ := bind_some h
  obtain ⟨hv6a, hv6b, hv6c, hv6d⟩ := idx_some hv6
  obtain ⟨v7, hv7, h⟩ := bind_some h
  obtain ⟨hv7a, hv7b, hv7c, hv7d⟩ := idx_some hv7
  obtain ⟨v8, hv8, h⟩ := bind_some h
  obtain ⟨hv8a, hv8b, hv8c, hv8d⟩ := idx_some hv8
  obtain ⟨v9, hv9, h⟩ := bind_some h
  obtain ⟨hv9a, hv9b, hv9c, hv9d⟩ := idx_some hv9
  obtain ⟨v10, hv10, h⟩ := bind_some h
  obtain ⟨hv10a, hv10b, hv10c, hv10d⟩ := idx_some hv10
  obtain ⟨v11, hv11, h⟩ := bind_some h
  obtain ⟨hv11a, hv11b, hv11c, hv11d⟩ := idx_some hv11
  refine VW.wds tau_ok Sound.none try_mixed [some 8, some 9, some 10, some 11, some 12, some 13, some 14, some 15, some 16, some 17, some 18, some 19, some 20, some 21, some 22, some 23, some 24, some 25, some 26, some 27, some 28, some 29, some 30, some 31, some 32, some 33, some 34, some 35, some 36, some 37, some 38, some 39, some 40, some 41, some 42, some 43, some 44, some 45, some 46, some 7] [(7, .val (.bool (ieq v6 v11)))] 40 rfl (by kernel_rfl) (by rfl) ?_ ?_
  · simp [hv1a, hv1b, hv1c, hv1d, hv2a, hv2b, hv2c, hv2d, hv3a, hv3b, hv3c, hv3d, hv4a, hv4b, hv4c, hv4d, hv5a, hv5b, hv5c, hv5d, hv6a, hv6b, hv6c, hv6d, hv7a, hv7b, hv7c, hv7d, hv8a, hv8b, hv8c, hv8d, hv9a, hv9b, hv9c, hv9d, hv10a, hv10b, hv10c, hv10d, hv11a, hv11b, hv11c, hv11d] <;> simp [ieq, ilt, ile]
  cases h
  refine VW.ret ?_
  simp [Post, PostM, PostC, PostC2, Nx, Bk]
end Go.Vam
