import Derived.Test.YtcijfjeeggfgmaaR8T
import Derived.Test.YtcijfjeeggfgmaaFmG0
import Derived.Test.YtcijfjeeggfgmaaR8GW1
import Derived.Test.YtcijfjeeggfgmaaR8GW2
namespace Go.Vam
open Go Go.RowKit Go.Proofs
set_option maxRecDepth 100000
set_option linter.unusedSimpArgs false
set_option linter.unusedVariables false

theorem i_loopTriples_of_i_IsMoufangLoop_c1_ok {a0 : List (List Int)} {a1_0_0 : List (List Int)} {r : Bool} (h : i_loopTriples_of_i_IsMoufangLoop_c1 a0 a1_0_0 = some r) :
    VCall Try.prog 110 [dM a0, .fn 111 [.ptr [dM a1_0_0]]] [.sc (.bool r)] := by
  unfold i_loopTriples_of_i_IsMoufangLoop_c1 at h
  refine VCall.enter Try.call110 Try.func110 rfl 32 Try.ntmps110 (by simp) [.tmp 4] rfl ?_
  show VW _ _ _ (mk [(0, .val (dM a0)), (1, .val (.fn 111 [.ptr [dM a1_0_0]]))]) _
  -- region 0
  refine VW.ws tau_ok Sound.none [some 4] [(0, .val (dM a0)), (1, .val (.fn 111 [.ptr [dM a1_0_0]]))] rfl ?_ ?_
  · simp <;> simp [ieq, ilt, ile]
  refine VW.sqc fun K1 hK1 hCK1 => ?_
  -- region 1
  obtain ⟨v2, hv2, h⟩ := bind_some h
  refine VW.ws tau_ok (Sound.none.add 9 (i_length_LI_ok hv2) rfl) [some 8, some 9, some 10] [(0, .val (dM a0)), (1, .val (.fn 111 [.ptr [dM a1_0_0]])), (9, .val (i64 v2)), (10, .val (i64 0))] rfl ?_ ?_
  · simp <;> simp [ieq, ilt, ile]
  obtain ⟨x3, hx3, h⟩ := bind_some h
  refine VW.tlO (fun y5 => []) x3 (hCK1) ?_ ?_
  · clear hx3
    rintro y5 rfl
    dsimp only at h
    refine hK1 _ ?_
    -- region 15
    refine VW.ws tau_ok Sound.none [some 4] [(4, .val (.bool true))] rfl ?_ ?_
    · simp <;> simp [ieq, ilt, ile]
    cases h
    refine VW.ret ?_
    simp [Post, PostM, PostC, PostC2, Nx, Bk]
  refine VW.block ?_
  refine VW.loopF (i_loopTriples_of_i_IsMoufangLoop_c1_L0 a0 a1_0_0 v2) (fun s3 => [(0, .val (dM a0)), (1, .val (.fn 111 [.ptr [dM a1_0_0]])), (9, .val (i64 v2)), (10, .val (i64 s3))]) hx3 (Fits.of rfl) ?_
  clear hx3
  intro s3 ox3 hx3o hx3b
  unfold i_loopTriples_of_i_IsMoufangLoop_c1_L0 at hx3o
  -- region 2
  refine VW.ws tau_ok Sound.none [some 11] [(0, .val (dM a0)), (1, .val (.fn 111 [.ptr [dM a1_0_0]])), (9, .val (i64 v2)), (10, .val (i64 s3)), (11, .val (.bool (ilt s3 v2)))] rfl ?_ ?_
  · simp <;> simp [ieq, ilt, ile]
  refine VW.sqc fun K6 hK6 hCK6 => ?_
  refine VW.cond rfl (fun hb7 => ?_) (fun hb7 => ?_)
  rotate_left
  ·
    replace hb7 : ¬ (s3 < v2) := by simpa [ieq, ilt, ile] using hb7
    rw [if_neg hb7] at hx3o
    refine VW.exit ?_
    cases hx3o
    have hq := hx3b _ rfl
    subst hq
    exact ⟨_, rfl, Fits.of rfl⟩
  replace hb7 : s3 < v2 := by simpa [ieq, ilt, ile] using hb7
  rw [if_pos hb7] at hx3o
  refine VW.skip ?_
  refine hK6 _ ?_
  refine VW.sqc fun K8 hK8 hCK8 => ?_
  refine VW.block ?_
  -- region 3
  refine VW.ws tau_ok Sound.none [some 12, some 5] [(0, .val (dM a0)), (1, .val (.fn 111 [.ptr [dM a1_0_0]])), (5, .val (i64 s3)), (9, .val (i64 v2)), (10, .val (i64 s3))] rfl ?_ ?_
  · simp <;> simp [ieq, ilt, ile]
  -- region 4
  obtain ⟨v9, hv9, hx3o⟩ := bind_some hx3o
  refine VW.ws tau_ok (Sound.none.add 14 (i_length_LI_ok hv9) rfl) [some 13, some 14, some 15] [(0, .val (dM a0)), (1, .val (.fn 111 [.ptr [dM a1_0_0]])), (5, .val (i64 s3)), (9, .val (i64 v2)), (10, .val (i64 s3)), (14, .val (i64 v9)), (15, .val (i64 0))] rfl ?_ ?_
  · simp <;> simp [ieq, ilt, ile]
  obtain ⟨x10, hx10, hx3o⟩ := bind_some hx3o
  refine VW.tlO (fun y12 => [(0, .val (dM a0)), (1, .val (.fn 111 [.ptr [dM a1_0_0]])), (9, .val (i64 v2)), (10, .val (i64 s3))]) x10 (hCK8) ?_ ?_
  · clear hx10
    rintro y12 rfl
    dsimp only at hx3o
    refine hK8 _ ?_
    -- region 14
    refine VW.wr tau_ok Sound.none [some 31, some 10] [(0, .val (dM a0)), (1, .val (.fn 111 [.ptr [dM a1_0_0]])), (9, .val (i64 v2)), (10, .val (i64 (w64 (s3 + 1))))] rfl ?_ ?_
    · simp <;> simp [ieq, ilt, ile]
    cases hx3o
    exact ⟨_, rfl, Fits.of rfl⟩
  refine VW.block ?_
  refine VW.loopF (i_loopTriples_of_i_IsMoufangLoop_c1_L1 a0 a1_0_0 s3 v9) (fun s10 => [(0, .val (dM a0)), (1, .val (.fn 111 [.ptr [dM a1_0_0]])), (5, .val (i64 s3)), (9, .val (i64 v2)), (10, .val (i64 s3)), (14, .val (i64 v9)), (15, .val (i64 s10))]) hx10 (Fits.of rfl) ?_
  clear hx10
  intro s10 ox10 hx10o hx10b
  unfold i_loopTriples_of_i_IsMoufangLoop_c1_L1 at hx10o
  -- region 5
  refine VW.ws tau_ok Sound.none [some 16] [(0, .val (dM a0)), (1, .val (.fn 111 [.ptr [dM a1_0_0]])), (5, .val (i64 s3)), (9, .val (i64 v2)), (10, .val (i64 s3)), (14, .val (i64 v9)), (15, .val (i64 s10)), (16, .val (.bool (ilt s10 v9)))] rfl ?_ ?_
  · simp <;> simp [ieq, ilt, ile]
  refine VW.sqc fun K13 hK13 hCK13 => ?_
  refine VW.cond rfl (fun hb14 => ?_) (fun hb14 => ?_)
  rotate_left
  ·
    replace hb14 : ¬ (s10 < v9) := by simpa [ieq, ilt, ile] using hb14
    rw [if_neg hb14] at hx10o
    refine VW.exit ?_
    cases hx10o
    have hq := hx10b _ rfl
    subst hq
    exact ⟨_, rfl, Fits.of rfl⟩
  replace hb14 : s10 < v9 := by simpa [ieq, ilt, ile] using hb14
  rw [if_pos hb14] at hx10o
  refine VW.skip ?_
  refine hK13 _ ?_
  refine VW.sqc fun K15 hK15 hCK15 => ?_
  refine VW.block ?_
  -- region 6
  refine VW.ws tau_ok Sound.none [some 17, some 6] [(0, .val (dM a0)), (1, .val (.fn 111 [.ptr [dM a1_0_0]])), (5, .val (i64 s3)), (6, .val (i64 s10)), (9, .val (i64 v2)), (10, .val (i64 s3)), (14, .val (i64 v9)), (15, .val (i64 s10))] rfl ?_ ?_
  · simp <;> simp [ieq, ilt, ile]
  -- region 7
  obtain ⟨v16, hv16, hx10o⟩ := bind_some hx10o
  refine VW.ws tau_ok (Sound.none.add 19 (i_length_LI_ok hv16) rfl) [some 18, some 19, some 20] [(0, .val (dM a0)), (1, .val (.fn 111 [.ptr [dM a1_0_0]])), (5, .val (i64 s3)), (6, .val (i64 s10)), (9, .val (i64 v2)), (10, .val (i64 s3)), (14, .val (i64 v9)), (15, .val (i64 s10)), (19, .val (i64 v16)), (20, .val (i64 0))] rfl ?_ ?_
  · simp <;> simp [ieq, ilt, ile]
  obtain ⟨x17, hx17, hx10o⟩ := bind_some hx10o
  refine VW.tlO (fun y19 => [(0, .val (dM a0)), (1, .val (.fn 111 [.ptr [dM a1_0_0]])), (5, .val (i64 s3)), (9, .val (i64 v2)), (10, .val (i64 s3)), (14, .val (i64 v9)), (15, .val (i64 s10))]) x17 (hCK15) ?_ ?_
  · clear hx17
    rintro y19 rfl
    dsimp only at hx10o
    refine hK15 _ ?_
    -- region 13
    refine VW.wr tau_ok Sound.none [some 30, some 15] [(0, .val (dM a0)), (1, .val (.fn 111 [.ptr [dM a1_0_0]])), (5, .val (i64 s3)), (9, .val (i64 v2)), (10, .val (i64 s3)), (14, .val (i64 v9)), (15, .val (i64 (w64 (s10 + 1))))] rfl ?_ ?_
    · simp <;> simp [ieq, ilt, ile]
    cases hx10o
    exact ⟨_, rfl, Fits.of rfl⟩
  refine VW.block ?_
  refine VW.loopF (i_loopTriples_of_i_IsMoufangLoop_c1_L2 a1_0_0 s3 s10 v16) (fun s17 => [(0, .val (dM a0)), (1, .val (.fn 111 [.ptr [dM a1_0_0]])), (5, .val (i64 s3)), (6, .val (i64 s10)), (9, .val (i64 v2)), (10, .val (i64 s3)), (14, .val (i64 v9)), (15, .val (i64 s10)), (19, .val (i64 v16)), (20, .val (i64 s17))]) hx17 (Fits.of rfl) ?_
  clear hx17
  intro s17 ox17 hx17o hx17b
  unfold i_loopTriples_of_i_IsMoufangLoop_c1_L2 at hx17o
  -- region 8
  refine VW.ws tau_ok Sound.none [some 21] [(0, .val (dM a0)), (1, .val (.fn 111 [.ptr [dM a1_0_0]])), (5, .val (i64 s3)), (6, .val (i64 s10)), (9, .val (i64 v2)), (10, .val (i64 s3)), (14, .val (i64 v9)), (15, .val (i64 s10)), (19, .val (i64 v16)), (20, .val (i64 s17)), (21, .val (.bool (ilt s17 v16)))] rfl ?_ ?_
  · simp <;> simp [ieq, ilt, ile]
  refine VW.sqc fun K20 hK20 hCK20 => ?_
  refine VW.cond rfl (fun hb21 => ?_) (fun hb21 => ?_)
  rotate_left
  ·
    replace hb21 : ¬ (s17 < v16) := by simpa [ieq, ilt, ile] using hb21
    rw [if_neg hb21] at hx17o
    refine VW.exit ?_
    cases hx17o
    have hq := hx17b _ rfl
    subst hq
    exact ⟨_, rfl, Fits.of rfl⟩
  replace hb21 : s17 < v16 := by simpa [ieq, ilt, ile] using hb21
  rw [if_pos hb21] at hx17o
  refine VW.skip ?_
  refine hK20 _ ?_
  refine VW.sqc fun K22 hK22 hCK22 => ?_
  refine VW.block ?_
  -- region 9
  refine VW.ws tau_ok Sound.none [some 22, some 7] [(0, .val (dM a0)), (1, .val (.fn 111 [.ptr [dM a1_0_0]])), (5, .val (i64 s3)), (6, .val (i64 s10)), (7, .val (i64 s17)), (9, .val (i64 v2)), (10, .val (i64 s3)), (14, .val (i64 v9)), (15, .val (i64 s10)), (19, .val (i64 v16)), (20, .val (i64 s17))] rfl ?_ ?_
  · simp <;> simp [ieq, ilt, ile]
  -- region 10
  obtain ⟨v23, hv23, hx17o⟩ := bind_some hx17o
  refine VW.ws tau_ok (Sound.none.add 27 (i_IsMoufangLoop_c1_ok hv23) rfl) [some 23, some 24, some 25, some 26, some 27, some 28] [(0, .val (dM a0)), (1, .val (.fn 111 [.ptr [dM a1_0_0]])), (5, .val (i64 s3)), (6, .val (i64 s10)), (9, .val (i64 v2)), (10, .val (i64 s3)), (14, .val (i64 v9)), (15, .val (i64 s10)), (19, .val (i64 v16)), (20, .val (i64 s17)), (28, .val (.bool (!v23)))] rfl ?_ ?_
  · simp <;> simp [ieq, ilt, ile]
  refine VW.cond rfl (fun hb24 => ?_) (fun hb24 => ?_)
  rotate_left
  ·
    replace hb24 : ¬ (v23 = false) := by simpa [ieq, ilt, ile] using hb24
    rw [if_neg hb24] at hx17o
    refine VW.skip ?_
    refine hK22 _ ?_
    -- region 12
    refine VW.wr tau_ok Sound.none [some 29, some 20] [(0, .val (dM a0)), (1, .val (.fn 111 [.ptr [dM a1_0_0]])), (5, .val (i64 s3)), (6, .val (i64 s10)), (9, .val (i64 v2)), (10, .val (i64 s3)), (14, .val (i64 v9)), (15, .val (i64 s10)), (19, .val (i64 v16)), (20, .val (i64 (w64 (s17 + 1))))] rfl ?_ ?_
    · simp <;> simp [ieq, ilt, ile]
    cases hx17o
    exact ⟨_, rfl, Fits.of rfl⟩
  replace hb24 : v23 = false := by simpa [ieq, ilt, ile] using hb24
  rw [if_pos hb24] at hx17o
  -- region 11
  refine VW.ws tau_ok Sound.none [some 4] [(4, .val (.bool false))] rfl ?_ ?_
  · simp <;> simp [ieq, ilt, ile]
  cases hx17o
  have hq := hx17b _ rfl
  subst hq
  dsimp only at hx10o
  cases hx10o
  have hq := hx10b _ rfl
  subst hq
  dsimp only at hx3o
  cases hx3o
  have hq := hx3b _ rfl
  subst hq
  dsimp only at h
  cases h
  refine VW.ret ?_
  simp [Post, PostM, PostC, PostC2, Nx, Bk]

theorem i_IsMoufangLoop_ok {a0 : List (List Int)} {r : Bool × Int} (h : i_IsMoufangLoop a0 = some r) :
    VCall Try.prog 39 [dM a0] [.sc (.bool r.1), .sc (i64 r.2)] := by
  unfold i_IsMoufangLoop at h
  refine VCall.enter Try.call39 Try.func39 rfl 13 Try.ntmps39 (by simp) [.tmp 2, .tmp 3] rfl ?_
  show VW _ _ _ (mk [(0, .val (dM a0))]) _
  -- region 0
  refine VW.ws tau_ok Sound.none [some 1, some 2, some 3] [(1, .val (.ptr [dM a0]))] rfl ?_ ?_
  · simp <;> simp [ieq, ilt, ile]
  refine VW.sqc fun K1 hK1 hCK1 => ?_
  -- region 1
  obtain ⟨v2, hv2, h⟩ := bind_some h
  refine VW.ws tau_ok (Sound.none.add 6 (i_checkLoop_ok hv2) rfl) [some 5, some 6, some 4] [(1, .val (.ptr [dM a0])), (4, .val (i64 v2))] rfl ?_ ?_
  · simp <;> simp [ieq, ilt, ile]
  -- region 2
  refine VW.ws tau_ok Sound.none [some 7, some 8] [(1, .val (.ptr [dM a0])), (4, .val (i64 v2)), (8, .val (.bool (!(ieq v2 0))))] rfl ?_ ?_
  · simp <;> simp [ieq, ilt, ile]
  refine VW.cond rfl (fun hb3 => ?_) (fun hb3 => ?_)
  ·
    replace hb3 : ¬ v2 = 0 := by simpa [ieq, ilt, ile] using hb3
    rw [if_pos hb3] at h
    -- region 3
    refine VW.ws tau_ok Sound.none [some 9, some 2, some 3] [(2, .val (.bool false)), (3, .val (i64 v2))] rfl ?_ ?_
    · simp <;> simp [ieq, ilt, ile]
    cases h
    refine VW.ret ?_
    simp [Post, PostM, PostC, PostC2, Nx, Bk]
  replace hb3 : ¬ (¬ v2 = 0) := by simpa [ieq, ilt, ile] using hb3
  rw [if_neg hb3] at h
  refine VW.skip ?_
  refine hK1 _ ?_
  -- region 4
  obtain ⟨v4, hv4, h⟩ := bind_some h
  refine VW.ws tau_ok (Sound.none.add 12 (i_loopTriples_of_i_IsMoufangLoop_c1_ok hv4) rfl) [some 10, some 11, some 12, some 2, some 3] [(2, .val (.bool v4)), (3, .val (i64 0))] rfl ?_ ?_
  · simp <;> simp [ieq, ilt, ile]
  cases h
  refine VW.ret ?_
  simp [Post, PostM, PostC, PostC2, Nx, Bk]

theorem l_roll_ok {a0 : List Int} {a1 : Int} {r : (List Int) × Int × Int} (h : l_roll a0 a1 = some r) :
    VCall Try.prog 41 [.list (a0.map (D.int .u8)), .int .u64 a1] [.own false (.ptr [.list (r.1.map (D.int .u8)), i64 r.2.1, .int .u64 r.2.2])] := by
  unfold l_roll at h
  refine VCall.enter Try.call41 Try.func41 rfl 38 Try.ntmps41 (by simp) [.tmp 4] rfl ?_
  show VW _ _ _ (mk [(0, .val (.list (a0.map (D.int .u8)))), (1, .val (.int .u64 a1))]) _
  -- region 0
  refine VW.ws tau_ok Sound.none [some 4] [(0, .val (.list (a0.map (D.int .u8)))), (1, .val (.int .u64 a1))] rfl ?_ ?_
  · simp <;> simp [ieq, ilt, ile]
  -- region 1
  refine VW.ws tau_ok Sound.none [some 7, some 8, some 9, some 10, some 11, some 12, some 13, some 14, some 15, some 5] [(0, .val (.list (a0.map (D.int .u8)))), (5, .ref 5 [] false (.ptr [.list (a0.map (D.int .u8)), i64 0, .int .u64 (IntKind.u64.wrap ((IntKind.u64.wrap (a1 * 7681)) + (IntKind.u64.wrap ((a0.length : Int)))))]))] rfl ?_ ?_
  · simp <;> simp [ieq, ilt, ile]
  refine VW.sqc fun K1 hK1 hCK1 => ?_
  -- region 2
  refine VW.ws tau_ok Sound.none [some 6] [(0, .val (.list (a0.map (D.int .u8)))), (5, .ref 5 [] false (.ptr [.list (a0.map (D.int .u8)), i64 0, .int .u64 (IntKind.u64.wrap ((IntKind.u64.wrap (a1 * 7681)) + (IntKind.u64.wrap ((a0.length : Int)))))])), (6, .val (i64 0))] rfl ?_ ?_
  · simp <;> simp [ieq, ilt, ile]
  obtain ⟨x2, hx2, h⟩ := bind_some h
  refine VW.tlE [(5, .ref 5 [] false (.ptr [.list (x2.1.map (D.int .u8)), i64 x2.2.1, .int .u64 x2.2.2]))] (hCK1) ?_ ?_
  · clear hx2
    refine hK1 _ ?_
    -- region 6
    refine VW.ws tau_ok Sound.none [some 37, some 4] [(4, .ref 4 [] false (.ptr [.list (x2.1.map (D.int .u8)), i64 x2.2.1, .int .u64 x2.2.2]))] rfl ?_ ?_
    · simp <;> simp [ieq, ilt, ile]
    cases h
    refine VW.ret ?_
    simp [Post, PostM, PostC, PostC2, Nx, Bk]
  refine VW.block ?_
  refine VW.loopF (l_roll_L0 a0) (fun s2 => [(0, .val (.list (a0.map (D.int .u8)))), (5, .ref 5 [] false (.ptr [.list (s2.1.map (D.int .u8)), i64 s2.2.1, .int .u64 s2.2.2.1])), (6, .val (i64 s2.2.2.2))]) hx2 (Fits.of rfl) ?_
  clear hx2
  intro s2 ox2 hx2o hx2b
  unfold l_roll_L0 at hx2o
  refine VW.sqc fun K4 hK4 hCK4 => ?_
  -- region 3
  refine VW.ws tau_ok Sound.none [some 16, some 17, some 18, some 19] [(0, .val (.list (a0.map (D.int .u8)))), (5, .ref 5 [] false (.ptr [.list (s2.1.map (D.int .u8)), i64 s2.2.1, .int .u64 s2.2.2.1])), (6, .val (i64 s2.2.2.2)), (19, .val (.bool (ilt s2.2.2.2 (a0.length : Int))))] rfl ?_ ?_
  · simp <;> simp [ieq, ilt, ile]
  refine VW.cond rfl (fun hb5 => ?_) (fun hb5 => ?_)
  rotate_left
  ·
    replace hb5 : ¬ (s2.2.2.2 < (a0.length : Int)) := by simpa [ieq, ilt, ile] using hb5
    rw [if_neg hb5] at hx2o
    refine VW.exit ?_
    cases hx2o
    have hq := hx2b _ rfl
    subst hq
    exact Fits.of rfl
  replace hb5 : s2.2.2.2 < (a0.length : Int) := by simpa [ieq, ilt, ile] using hb5
  rw [if_pos hb5] at hx2o
  refine VW.skip ?_
  refine hK4 _ ?_
  refine VW.sqc fun K6 hK6 hCK6 => ?_
  refine VW.block ?_
  -- region 5
  obtain ⟨v7, hv7, hx2o⟩ := bind_some hx2o
  obtain ⟨hv7a, hv7b, hv7c, hv7d⟩ := idx_some hv7
  refine VW.wdr tau_ok Sound.none try_mixed [some 22, some 23, some 24, some 25, some 26, some 27, some 28, some 29, some 30, some 31, some 32, some 33, some 34, some 35, some 36, none] [(0, .val (.list (a0.map (D.int .u8)))), (5, .ref 5 [] false (.ptr [.list (s2.1.map (D.int .u8)), i64 s2.2.1, .int .u64 (IntKind.u64.wrap ((IntKind.u64.wrap ((IntKind.u64.wrap (s2.2.2.1 * 1099511628211)) + (IntKind.u64.wrap (v7)))) + 5))])), (6, .val (i64 s2.2.2.2))] 15 rfl (by kernel_rfl) (by rfl) ?_ ?_
  · simp [hv7a, hv7b, hv7c, hv7d] <;> simp [ieq, ilt, ile]
  refine hK6 _ ?_
  -- region 4
  refine VW.wr tau_ok Sound.none [some 20, some 21, some 6] [(0, .val (.list (a0.map (D.int .u8)))), (5, .ref 5 [] false (.ptr [.list (s2.1.map (D.int .u8)), i64 s2.2.1, .int .u64 (IntKind.u64.wrap ((IntKind.u64.wrap ((IntKind.u64.wrap (s2.2.2.1 * 1099511628211)) + (IntKind.u64.wrap (v7)))) + 5))])), (6, .val (i64 (w64 (s2.2.2.2 + 1))))] rfl ?_ ?_
  · simp <;> simp [ieq, ilt, ile]
  cases hx2o
  exact ⟨_, rfl, Fits.of rfl⟩

theorem g_p_laws_dice_below_ok {a0_0 : List Int} {a0_1 : Int} {a0_2 : Int} {a1 : Int} {r : Int × ((List Int) × Int × Int)} (h : g_p_laws_dice_below a0_0 a0_1 a0_2 a1 = some r) :
    VPtr Try.prog 42 [.list (a0_0.map (D.int .u8)), i64 a0_1, .int .u64 a0_2] [i64 a1] [.sc (i64 r.1)] [.list (r.2.1.map (D.int .u8)), i64 r.2.2.1, .int .u64 r.2.2.2] := by
  unfold g_p_laws_dice_below at h
  refine VPtr.enter Try.call42 Try.func42 rfl 58 Try.ntmps42 (by simp) [.tmp 4] rfl ?_
  show VW _ _ _ (mk [(0, .ref 0 [] false (.ptr [.list (a0_0.map (D.int .u8)), i64 a0_1, .int .u64 a0_2])), (1, .val (i64 a1))]) _
  -- region 0
  refine VW.ws tau_ok Sound.none [some 4] [(0, .ref 0 [] false (.ptr [.list (a0_0.map (D.int .u8)), i64 a0_1, .int .u64 a0_2])), (1, .val (i64 a1))] rfl ?_ ?_
  · simp <;> simp [ieq, ilt, ile]
  refine VW.sqc fun K1 hK1 hCK1 => ?_
  -- region 1
  refine VW.ws tau_ok Sound.none [some 6, some 7] [(0, .ref 0 [] false (.ptr [.list (a0_0.map (D.int .u8)), i64 a0_1, .int .u64 a0_2])), (1, .val (i64 a1)), (7, .val (.bool (ilt a1 1)))] rfl ?_ ?_
  · simp <;> simp [ieq, ilt, ile]
  refine VW.cond rfl (fun hb2 => ?_) (fun hb2 => ?_)
  ·
    replace hb2 : a1 < 1 := by simpa [ieq, ilt, ile] using hb2
    rw [if_pos hb2] at h
    -- region 2
    refine VW.ws tau_ok Sound.none [some 4] [(0, .ref 0 [] false (.ptr [.list (a0_0.map (D.int .u8)), i64 a0_1, .int .u64 a0_2])), (4, .val (i64 0))] rfl ?_ ?_
    · simp <;> simp [ieq, ilt, ile]
    cases h
    refine VW.ret ?_
    simp [PostW, resW, PostWC, resWC, Nx, Bk]
  replace hb2 : ¬ (a1 < 1) := by simpa [ieq, ilt, ile] using hb2
  rw [if_neg hb2] at h
  refine VW.skip ?_
  refine hK1 _ ?_
  -- region 3
  refine VW.ws tau_ok Sound.none [some 8, some 9, some 10, some 11, some 12, some 13, some 14, some 15, some 16, none] [(0, .ref 0 [] false (.ptr [.list (a0_0.map (D.int .u8)), i64 a0_1, .int .u64 (IntKind.u64.wrap ((IntKind.u64.wrap (a0_2 * 6364136223846793005)) + 1442695040888963407))])), (1, .val (i64 a1))] rfl ?_ ?_
  · simp <;> simp [ieq, ilt, ile]
  -- region 4
  refine VW.ws tau_ok Sound.none [some 17, some 18, some 19, some 20, some 21, some 22, some 23, some 5] [(0, .ref 0 [] false (.ptr [.list (a0_0.map (D.int .u8)), i64 a0_1, .int .u64 (IntKind.u64.wrap ((IntKind.u64.wrap (a0_2 * 6364136223846793005)) + 1442695040888963407))])), (1, .val (i64 a1)), (5, .val (i64 (w64 (band .u64 (shr .u64 (IntKind.u64.wrap ((IntKind.u64.wrap (a0_2 * 6364136223846793005)) + 1442695040888963407)) 33) 16777215))))] rfl ?_ ?_
  · simp <;> simp [ieq, ilt, ile]
  refine VW.sqc fun K3 hK3 hCK3 => ?_
  -- region 5
  refine VW.wds tau_ok Sound.none try_mixed [some 24, some 25, some 26, some 27, some 28, some 29, some 30, some 31, some 32, some 33] [(0, .ref 0 [] false (.ptr [.list (a0_0.map (D.int .u8)), i64 a0_1, .int .u64 (IntKind.u64.wrap ((IntKind.u64.wrap (a0_2 * 6364136223846793005)) + 1442695040888963407))])), (1, .val (i64 a1)), (5, .val (i64 (w64 (band .u64 (shr .u64 (IntKind.u64.wrap ((IntKind.u64.wrap (a0_2 * 6364136223846793005)) + 1442695040888963407)) 33) 16777215)))), (33, .val (.bool (ilt a0_1 (a0_0.length : Int))))] 10 rfl (by kernel_rfl) (by rfl) ?_ ?_
  · simp <;> simp [ieq, ilt, ile]
  obtain ⟨x4, hx4, h⟩ := bind_some h
  refine VW.tlE [(0, .ref 0 [] false (.ptr [.list (x4.1.map (D.int .u8)), i64 x4.2.1, .int .u64 x4.2.2.1])), (1, .val (i64 a1)), (5, .val (i64 x4.2.2.2))] (hCK3) ?_ ?_
  · clear hx4
    refine hK3 _ ?_
    -- region 8
    obtain ⟨hc8, h⟩ := chk_some h
    have hc8s := hc8
    try simp at hc8s
    refine VW.ws tau_ok Sound.none [some 55, some 56, some 57, some 4] [(0, .ref 0 [] false (.ptr [.list (x4.1.map (D.int .u8)), i64 x4.2.1, .int .u64 x4.2.2.1])), (4, .val (i64 (x4.2.2.2.tmod a1)))] rfl ?_ ?_
    · simp [hc8, hc8s] <;> simp [ieq, ilt, ile]
    cases h
    refine VW.ret ?_
    simp [PostW, resW, PostWC, resWC, Nx, Bk]
  refine VW.cond rfl (fun hb6 => ?_) (fun hb6 => ?_)
  rotate_left
  ·
    replace hb6 : ¬ (a0_1 < (a0_0.length : Int)) := by simpa [ieq, ilt, ile] using hb6
    rw [if_neg hb6] at hx4
    refine VW.skip ?_
    cases hx4
    exact Fits.of rfl
  replace hb6 : a0_1 < (a0_0.length : Int) := by simpa [ieq, ilt, ile] using hb6
  rw [if_pos hb6] at hx4
  -- region 6
  obtain ⟨v7, hv7, hx4⟩ := bind_some hx4
  obtain ⟨hv7a, hv7b, hv7c, hv7d⟩ := idx_some hv7
  refine VW.wds tau_ok Sound.none try_mixed [some 34, some 35, some 36, some 37, some 38, some 39, some 40, some 41, some 42, some 43, some 44, some 45, some 46, some 5] [(0, .ref 0 [] false (.ptr [.list (a0_0.map (D.int .u8)), i64 a0_1, .int .u64 (IntKind.u64.wrap ((IntKind.u64.wrap (a0_2 * 6364136223846793005)) + 1442695040888963407))])), (1, .val (i64 a1)), (5, .val (i64 (w64 ((w64 (band .u64 (shr .u64 (IntKind.u64.wrap ((IntKind.u64.wrap (a0_2 * 6364136223846793005)) + 1442695040888963407)) 33) 16777215)) + (w64 (v7))))))] 14 rfl (by kernel_rfl) (by rfl) ?_ ?_
  · simp [hv7a, hv7b, hv7c, hv7d] <;> simp [ieq, ilt, ile]
  -- region 7
  refine VW.wr tau_ok Sound.none [some 47, some 48, some 49, some 50, some 51, some 52, some 53, some 54, none] [(0, .ref 0 [] false (.ptr [.list (a0_0.map (D.int .u8)), i64 (w64 (a0_1 + 1)), .int .u64 (IntKind.u64.wrap ((IntKind.u64.wrap (a0_2 * 6364136223846793005)) + 1442695040888963407))])), (1, .val (i64 a1)), (5, .val (i64 (w64 ((w64 (band .u64 (shr .u64 (IntKind.u64.wrap ((IntKind.u64.wrap (a0_2 * 6364136223846793005)) + 1442695040888963407)) 33) 16777215)) + (w64 (v7))))))] rfl ?_ ?_
  · simp <;> simp [ieq, ilt, ile]
  cases hx4
  exact Fits.of rfl

theorem i_checkElements_c1_ok {a0 : List Int} {a1_0 : Int} {a1_1 : List Int} {r : Bool} (h : i_checkElements_c1 a0 a1_0 a1_1 = some r) :
    VCall Try.prog 195 [dI a0, .ptr [i64 a1_0, dI a1_1]] [.sc (.bool r)] := by
  unfold i_checkElements_c1 at h
  refine VCall.enter Try.call195 Try.func195 rfl 16 Try.ntmps195 (by simp) [.tmp 3] rfl ?_
  show VW _ _ _ (mk [(0, .val (dI a0)), (1, .val (.ptr [i64 a1_0, dI a1_1]))]) _
  -- region 0
  refine VW.ws tau_ok Sound.none [some 3] [(0, .val (dI a0)), (1, .val (.ptr [i64 a1_0, dI a1_1]))] rfl ?_ ?_
  · simp <;> simp [ieq, ilt, ile]
  -- region 1
  obtain ⟨x5, hx5, h⟩ := bind_some h
  refine VW.cut [(3, .val (.bool x5))] ?_ fun hy => ?_
  rotate_left
  · clear h
    obtain ⟨v1, hv1, hx5⟩ := bind_some hx5
    by_cases hp2 : ¬ (a0.length : Int) = v1
    · rw [if_pos hp2] at hx5
      have hp2b : ieq (a0.length : Int) v1 = false := by simpa [ieq, ilt, ile] using hp2
      have hp2s := hp2b
      try simp at hp2s
      cases hx5
      refine VW.ws tau_ok (Sound.none.add 7 (i_Doubling_size_ok hv1) rfl) [some 4, some 5, some 6, some 7, some 8, some 9, some 10, some 11, some 12, some 13, some 14, some 15, some 3] _ rfl ?_ hy
      simp [hp2b, hp2s] <;> simp [ieq, ilt, ile]
    · rw [if_neg hp2] at hx5
      have hp2b : ieq (a0.length : Int) v1 = true := by simpa [ieq, ilt, ile] using hp2
      have hp2s := hp2b
      try simp at hp2s
      obtain ⟨v3, hv3, hx5⟩ := bind_some hx5
      obtain ⟨v4, hv4, hx5⟩ := bind_some hx5
      cases hx5
      refine VW.ws tau_ok (((Sound.none.add 7 (i_Doubling_size_ok hv1) rfl).add 11 (i_Doubling_field_ok hv3) rfl).add 13 (i_field_is_ok hv4) rfl) [some 4, some 5, some 6, some 7, some 8, some 9, some 10, some 11, some 12, some 13, some 14, some 15, some 3] _ rfl ?_ hy
      simp [hp2b, hp2s] <;> simp [ieq, ilt, ile]
  cases h
  refine VW.ret ?_
  simp [Post, PostM, PostC, PostC2, Nx, Bk]

theorem g_slices_IndexFunc_LLI_LI_of_i_checkElements_c1_ok {a0 : List (List Int)} {a1_0_0 : Int} {a1_0_1 : List Int} {r : Int} (h : g_slices_IndexFunc_LLI_LI_of_i_checkElements_c1 a0 a1_0_0 a1_0_1 = some r) :
    VCall Try.prog 98 [dM a0, .fn 195 [.ptr [i64 a1_0_0, dI a1_0_1]]] [.sc (i64 r)] := by
  unfold g_slices_IndexFunc_LLI_LI_of_i_checkElements_c1 at h
  refine VCall.enter Try.call98 Try.func98 rfl 19 Try.ntmps98 (by simp) [.tmp 4] rfl ?_
  show VW _ _ _ (mk [(0, .val (dM a0)), (1, .val (.fn 195 [.ptr [i64 a1_0_0, dI a1_0_1]]))]) _
  -- region 0
  refine VW.ws tau_ok Sound.none [some 4] [(0, .val (dM a0)), (1, .val (.fn 195 [.ptr [i64 a1_0_0, dI a1_0_1]]))] rfl ?_ ?_
  · simp <;> simp [ieq, ilt, ile]
  refine VW.sqc fun K1 hK1 hCK1 => ?_
  -- region 1
  refine VW.ws tau_ok Sound.none [some 6, some 7, some 8] [(0, .val (dM a0)), (1, .val (.fn 195 [.ptr [i64 a1_0_0, dI a1_0_1]])), (7, .val (i64 (a0.length : Int))), (8, .val (i64 0))] rfl ?_ ?_
  · simp <;> simp [ieq, ilt, ile]
  obtain ⟨x2, hx2, h⟩ := bind_some h
  refine VW.tlO (fun y4 => []) x2 (hCK1) ?_ ?_
  · clear hx2
    rintro y4 rfl
    dsimp only at h
    refine hK1 _ ?_
    -- region 7
    refine VW.ws tau_ok Sound.none [some 4] [(4, .val (i64 (-1)))] rfl ?_ ?_
    · simp <;> simp [ieq, ilt, ile]
    cases h
    refine VW.ret ?_
    simp [Post, PostM, PostC, PostC2, Nx, Bk]
  refine VW.block ?_
  refine VW.loopF (g_slices_IndexFunc_LLI_LI_of_i_checkElements_c1_L0 a0 a1_0_0 a1_0_1) (fun s2 => [(0, .val (dM a0)), (1, .val (.fn 195 [.ptr [i64 a1_0_0, dI a1_0_1]])), (7, .val (i64 (a0.length : Int))), (8, .val (i64 s2))]) hx2 (Fits.of rfl) ?_
  clear hx2
  intro s2 ox2 hx2o hx2b
  unfold g_slices_IndexFunc_LLI_LI_of_i_checkElements_c1_L0 at hx2o
  -- region 2
  refine VW.ws tau_ok Sound.none [some 9] [(0, .val (dM a0)), (1, .val (.fn 195 [.ptr [i64 a1_0_0, dI a1_0_1]])), (7, .val (i64 (a0.length : Int))), (8, .val (i64 s2)), (9, .val (.bool (ilt s2 (a0.length : Int))))] rfl ?_ ?_
  · simp <;> simp [ieq, ilt, ile]
  refine VW.sqc fun K5 hK5 hCK5 => ?_
  refine VW.cond rfl (fun hb6 => ?_) (fun hb6 => ?_)
  rotate_left
  ·
    replace hb6 : ¬ (s2 < (a0.length : Int)) := by simpa [ieq, ilt, ile] using hb6
    rw [if_neg hb6] at hx2o
    refine VW.exit ?_
    cases hx2o
    have hq := hx2b _ rfl
    subst hq
    exact ⟨_, rfl, Fits.of rfl⟩
  replace hb6 : s2 < (a0.length : Int) := by simpa [ieq, ilt, ile] using hb6
  rw [if_pos hb6] at hx2o
  refine VW.skip ?_
  refine hK5 _ ?_
  refine VW.sqc fun K7 hK7 hCK7 => ?_
  refine VW.block ?_
  -- region 3
  refine VW.ws tau_ok Sound.none [some 10, some 5] [(0, .val (dM a0)), (1, .val (.fn 195 [.ptr [i64 a1_0_0, dI a1_0_1]])), (5, .val (i64 s2)), (7, .val (i64 (a0.length : Int))), (8, .val (i64 s2))] rfl ?_ ?_
  · simp <;> simp [ieq, ilt, ile]
  -- region 4
  obtain ⟨v8, hv8, hx2o⟩ := bind_some hx2o
  obtain ⟨hv8a, hv8b, hv8c, hv8d⟩ := idx_some hv8
  obtain ⟨v9, hv9, hx2o⟩ := bind_some hx2o
  refine VW.ws tau_ok (Sound.none.add 16 (i_checkElements_c1_ok hv9) rfl) [some 11, some 12, some 13, some 14, some 15, some 16] [(0, .val (dM a0)), (1, .val (.fn 195 [.ptr [i64 a1_0_0, dI a1_0_1]])), (5, .val (i64 s2)), (7, .val (i64 (a0.length : Int))), (8, .val (i64 s2)), (16, .val (.bool v9))] rfl ?_ ?_
  · simp [hv8a, hv8b, hv8c, hv8d] <;> simp [ieq, ilt, ile]
  refine VW.cond rfl (fun hb10 => ?_) (fun hb10 => ?_)
  rotate_left
  ·
    replace hb10 : ¬ (v9 = true) := by simpa [ieq, ilt, ile] using hb10
    rw [if_neg hb10] at hx2o
    refine VW.skip ?_
    refine hK7 _ ?_
    -- region 6
    refine VW.wr tau_ok Sound.none [some 18, some 8] [(0, .val (dM a0)), (1, .val (.fn 195 [.ptr [i64 a1_0_0, dI a1_0_1]])), (7, .val (i64 (a0.length : Int))), (8, .val (i64 (w64 (s2 + 1))))] rfl ?_ ?_
    · simp <;> simp [ieq, ilt, ile]
    cases hx2o
    exact ⟨_, rfl, Fits.of rfl⟩
  replace hb10 : v9 = true := by simpa [ieq, ilt, ile] using hb10
  rw [if_pos hb10] at hx2o
  -- region 5
  refine VW.ws tau_ok Sound.none [some 17, some 4] [(4, .val (i64 s2))] rfl ?_ ?_
  · simp <;> simp [ieq, ilt, ile]
  cases hx2o
  have hq := hx2b _ rfl
  subst hq
  dsimp only at h
  cases h
  refine VW.ret ?_
  simp [Post, PostM, PostC, PostC2, Nx, Bk]

theorem g_slices_ContainsFunc_LLI_LI_of_i_checkElements_c1_ok {a0 : List (List Int)} {a1_0_0 : Int} {a1_0_1 : List Int} {r : Bool} (h : g_slices_ContainsFunc_LLI_LI_of_i_checkElements_c1 a0 a1_0_0 a1_0_1 = some r) :
    VCall Try.prog 134 [dM a0, .fn 195 [.ptr [i64 a1_0_0, dI a1_0_1]]] [.sc (.bool r)] := by
  unfold g_slices_ContainsFunc_LLI_LI_of_i_checkElements_c1 at h
  refine VCall.enter Try.call134 Try.func134 rfl 9 Try.ntmps134 (by simp) [.tmp 4] rfl ?_
  show VW _ _ _ (mk [(0, .val (dM a0)), (1, .val (.fn 195 [.ptr [i64 a1_0_0, dI a1_0_1]]))]) _
  -- region 0
  refine VW.ws tau_ok Sound.none [some 4] [(0, .val (dM a0)), (1, .val (.fn 195 [.ptr [i64 a1_0_0, dI a1_0_1]]))] rfl ?_ ?_
  · simp <;> simp [ieq, ilt, ile]
  -- region 1
  obtain ⟨v1, hv1, h⟩ := bind_some h
  refine VW.ws tau_ok (Sound.none.add 7 (g_slices_IndexFunc_LLI_LI_of_i_checkElements_c1_ok hv1) rfl) [some 5, some 6, some 7, some 8, some 4] [(4, .val (.bool (ile 0 v1)))] rfl ?_ ?_
  · simp <;> simp [ieq, ilt, ile]
  cases h
  refine VW.ret ?_
  simp [Post, PostM, PostC, PostC2, Nx, Bk]

theorem i_checkElements_ok {a0_0 : Int} {a0_1 : List Int} {a1 : List (List Int)} {r : Int} (h : i_checkElements a0_0 a0_1 a1 = some r) :
    VCall Try.prog 112 [.agg [i64 a0_0, dI a0_1], dM a1] [.sc (i64 r)] := by
  unfold i_checkElements at h
  refine VCall.enter Try.call112 Try.func112 rfl 11 Try.ntmps112 (by simp) [.tmp 4] rfl ?_
  show VW _ _ _ (mk [(0, .val (.agg [i64 a0_0, dI a0_1])), (1, .val (dM a1))]) _
  -- region 0
  refine VW.ws tau_ok Sound.none [some 2, some 4] [(1, .val (dM a1)), (2, .val (.ptr [i64 a0_0, dI a0_1]))] rfl ?_ ?_
  · simp <;> simp [ieq, ilt, ile]
  refine VW.sqc fun K1 hK1 hCK1 => ?_
  -- region 1
  obtain ⟨v2, hv2, h⟩ := bind_some h
  refine VW.ws tau_ok (Sound.none.add 6 (i_IsDoubling_ok hv2) rfl) [some 5, some 6, some 7] [(1, .val (dM a1)), (2, .val (.ptr [i64 a0_0, dI a0_1])), (7, .val (.bool (!v2)))] rfl ?_ ?_
  · simp <;> simp [ieq, ilt, ile]
  refine VW.cond rfl (fun hb3 => ?_) (fun hb3 => ?_)
  ·
    replace hb3 : v2 = false := by simpa [ieq, ilt, ile] using hb3
    rw [if_pos hb3] at h
    -- region 2
    refine VW.ws tau_ok Sound.none [some 4] [(4, .val (i64 1))] rfl ?_ ?_
    · simp <;> simp [ieq, ilt, ile]
    cases h
    refine VW.ret ?_
    simp [Post, PostM, PostC, PostC2, Nx, Bk]
  replace hb3 : ¬ (v2 = false) := by simpa [ieq, ilt, ile] using hb3
  rw [if_neg hb3] at h
  refine VW.skip ?_
  refine hK1 _ ?_
  refine VW.sqc fun K4 hK4 hCK4 => ?_
  -- region 3
  obtain ⟨v5, hv5, h⟩ := bind_some h
  refine VW.ws tau_ok (Sound.none.add 10 (g_slices_ContainsFunc_LLI_LI_of_i_checkElements_c1_ok hv5) rfl) [some 8, some 9, some 10] [(10, .val (.bool v5))] rfl ?_ ?_
  · simp <;> simp [ieq, ilt, ile]
  refine VW.cond rfl (fun hb6 => ?_) (fun hb6 => ?_)
  ·
    replace hb6 : v5 = true := by simpa [ieq, ilt, ile] using hb6
    rw [if_pos hb6] at h
    -- region 4
    refine VW.ws tau_ok Sound.none [some 4] [(4, .val (i64 2))] rfl ?_ ?_
    · simp <;> simp [ieq, ilt, ile]
    cases h
    refine VW.ret ?_
    simp [Post, PostM, PostC, PostC2, Nx, Bk]
  replace hb6 : ¬ (v5 = true) := by simpa [ieq, ilt, ile] using hb6
  rw [if_neg hb6] at h
  refine VW.skip ?_
  refine hK4 _ ?_
  -- region 5
  refine VW.ws tau_ok Sound.none [some 4] [(4, .val (i64 0))] rfl ?_ ?_
  · simp <;> simp [ieq, ilt, ile]
  cases h
  refine VW.ret ?_
  simp [Post, PostM, PostC, PostC2, Nx, Bk]

theorem i_DoubleNorm_ok {a0_0 : Int} {a0_1 : List Int} {a1 : List Int} {r : Int × Int} (h : i_DoubleNorm a0_0 a0_1 a1 = some r) :
    VCall Try.prog 43 [.agg [i64 a0_0, dI a0_1], dI a1] [.sc (i64 r.1), .sc (i64 r.2)] := by
  unfold i_DoubleNorm at h
  refine VCall.enter Try.call43 Try.func43 rfl 17 Try.ntmps43 (by simp) [.tmp 4, .tmp 5] rfl ?_
  show VW _ _ _ (mk [(0, .val (.agg [i64 a0_0, dI a0_1])), (1, .val (dI a1))]) _
  -- region 0
  refine VW.ws tau_ok Sound.none [some 2, some 4, some 5] [(1, .val (dI a1)), (2, .val (.ptr [i64 a0_0, dI a0_1]))] rfl ?_ ?_
  · simp <;> simp [ieq, ilt, ile]
  refine VW.sqc fun K1 hK1 hCK1 => ?_
  -- region 1
  obtain ⟨v2, hv2, h⟩ := bind_some h
  refine VW.ws tau_ok (Sound.none.add 10 (i_checkElements_ok hv2) rfl) [some 7, some 8, some 9, some 10, some 6] [(1, .val (dI a1)), (2, .val (.ptr [i64 a0_0, dI a0_1])), (6, .val (i64 v2))] rfl ?_ ?_
  · simp <;> simp [ieq, ilt, ile]
  -- region 2
  refine VW.ws tau_ok Sound.none [some 11, some 12] [(1, .val (dI a1)), (2, .val (.ptr [i64 a0_0, dI a0_1])), (6, .val (i64 v2)), (12, .val (.bool (!(ieq v2 0))))] rfl ?_ ?_
  · simp <;> simp [ieq, ilt, ile]
  refine VW.cond rfl (fun hb3 => ?_) (fun hb3 => ?_)
  ·
    replace hb3 : ¬ v2 = 0 := by simpa [ieq, ilt, ile] using hb3
    rw [if_pos hb3] at h
    -- region 3
    refine VW.ws tau_ok Sound.none [some 13, some 4, some 5] [(4, .val (i64 0)), (5, .val (i64 v2))] rfl ?_ ?_
    · simp <;> simp [ieq, ilt, ile]
    cases h
    refine VW.ret ?_
    simp [Post, PostM, PostC, PostC2, Nx, Bk]
  replace hb3 : ¬ (¬ v2 = 0) := by simpa [ieq, ilt, ile] using hb3
  rw [if_neg hb3] at h
  refine VW.skip ?_
  refine hK1 _ ?_
  -- region 4
  obtain ⟨v4, hv4, h⟩ := bind_some h
  refine VW.ws tau_ok (Sound.none.add 16 (i_Doubling_norm_ok hv4) rfl) [some 14, some 15, some 16, some 4, some 5] [(4, .val (i64 v4)), (5, .val (i64 0))] rfl ?_ ?_
  · simp <;> simp [ieq, ilt, ile]
  cases h
  refine VW.ret ?_
  simp [Post, PostM, PostC, PostC2, Nx, Bk]

theorem i_DoubleTimes_ok {a0_0 : Int} {a0_1 : List Int} {a1 : List Int} {a2 : List Int} {r : (List Int) × Int} (h : i_DoubleTimes a0_0 a0_1 a1 a2 = some r) :
    VCall Try.prog 114 [.agg [i64 a0_0, dI a0_1], dI a1, dI a2] [.own true (dI r.1), .sc (i64 r.2)] := by
  unfold i_DoubleTimes at h
  refine VCall.enter Try.call114 Try.func114 rfl 21 Try.ntmps114 (by simp) [.tmp 6, .tmp 7] rfl ?_
  show VW _ _ _ (mk [(0, .val (.agg [i64 a0_0, dI a0_1])), (1, .val (dI a1)), (2, .val (dI a2))]) _
  -- region 0
  refine VW.ws tau_ok Sound.none [some 3, some 6, some 7] [(1, .val (dI a1)), (2, .val (dI a2)), (3, .val (.ptr [i64 a0_0, dI a0_1]))] rfl ?_ ?_
  · simp <;> simp [ieq, ilt, ile]
  refine VW.sqc fun K1 hK1 hCK1 => ?_
  -- region 1
  obtain ⟨v2, hv2, h⟩ := bind_some h
  refine VW.ws tau_ok (Sound.none.add 13 (i_checkElements_ok hv2) rfl) [some 9, some 10, some 11, some 12, some 13, some 8] [(1, .val (dI a1)), (2, .val (dI a2)), (3, .val (.ptr [i64 a0_0, dI a0_1])), (8, .val (i64 v2))] rfl ?_ ?_
  · simp <;> simp [ieq, ilt, ile]
  -- region 2
  refine VW.ws tau_ok Sound.none [some 14, some 15] [(1, .val (dI a1)), (2, .val (dI a2)), (3, .val (.ptr [i64 a0_0, dI a0_1])), (8, .val (i64 v2)), (15, .val (.bool (!(ieq v2 0))))] rfl ?_ ?_
  · simp <;> simp [ieq, ilt, ile]
  refine VW.cond rfl (fun hb3 => ?_) (fun hb3 => ?_)
  ·
    replace hb3 : ¬ v2 = 0 := by simpa [ieq, ilt, ile] using hb3
    rw [if_pos hb3] at h
    -- region 3
    refine VW.ws tau_ok Sound.none [some 16, some 6, some 7] [(6, .ref 6 [] true (.list [])), (7, .val (i64 v2))] rfl ?_ ?_
    · simp <;> simp [ieq, ilt, ile]
    cases h
    refine VW.ret ?_
    simp [Post, PostM, PostC, PostC2, Nx, Bk]
  replace hb3 : ¬ (¬ v2 = 0) := by simpa [ieq, ilt, ile] using hb3
  rw [if_neg hb3] at h
  refine VW.skip ?_
  refine hK1 _ ?_
  -- region 4
  obtain ⟨v4, hv4, h⟩ := bind_some h
  refine VW.ws tau_ok (Sound.none.add 20 (i_Doubling_times_ok hv4) rfl) [some 17, some 18, some 19, some 20, some 6, some 7] [(6, .ref 6 [] true (dI v4)), (7, .val (i64 0))] rfl ?_ ?_
  · simp <;> simp [ieq, ilt, ile]
  cases h
  refine VW.ret ?_
  simp [Post, PostM, PostC, PostC2, Nx, Bk]

theorem l_times9_ok {a0_0 : Int} {a0_1 : List Int} {a1 : List Int} {a2 : List Int} {r : List Int} (h : l_times9 a0_0 a0_1 a1 a2 = some r) :
    VCall Try.prog 44 [.agg [i64 a0_0, dI a0_1], dI a1, dI a2] [.own true (dI r)] := by
  unfold l_times9 at h
  refine VCall.enter Try.call44 Try.func44 rfl 19 Try.ntmps44 (by simp) [.tmp 6] rfl ?_
  show VW _ _ _ (mk [(0, .val (.agg [i64 a0_0, dI a0_1])), (1, .val (dI a1)), (2, .val (dI a2))]) _
  -- region 0
  refine VW.ws tau_ok Sound.none [some 3, some 6] [(1, .val (dI a1)), (2, .val (dI a2)), (3, .val (.ptr [i64 a0_0, dI a0_1]))] rfl ?_ ?_
  · simp <;> simp [ieq, ilt, ile]
  -- region 1
  obtain ⟨v1, hv1, h⟩ := bind_some h
  refine VW.ws tau_ok (Sound.none.add 13 (i_DoubleTimes_ok hv1) rfl) [some 10, some 11, some 12, some 13, some 9, some 14, some 15, some 7, some 8] [(7, .ref 7 [] true (dI v1.1)), (8, .val (i64 v1.2))] rfl ?_ ?_
  · simp <;> simp [ieq, ilt, ile]
  refine VW.sqc fun K2 hK2 hCK2 => ?_
  -- region 2
  refine VW.ws tau_ok Sound.none [some 16, some 17] [(7, .ref 7 [] true (dI v1.1)), (17, .val (.bool (!(ieq v1.2 0))))] rfl ?_ ?_
  · simp <;> simp [ieq, ilt, ile]
  refine VW.cond rfl (fun hb3 => ?_) (fun hb3 => ?_)
  ·
    replace hb3 : ¬ v1.2 = 0 := by simpa [ieq, ilt, ile] using hb3
    rw [if_pos hb3] at h
    -- region 3
    refine VW.ws tau_ok Sound.none [some 6] [(6, .ref 6 [] true (.list []))] rfl ?_ ?_
    · simp <;> simp [ieq, ilt, ile]
    cases h
    refine VW.ret ?_
    simp [Post, PostM, PostC, PostC2, Nx, Bk]
  replace hb3 : ¬ (¬ v1.2 = 0) := by simpa [ieq, ilt, ile] using hb3
  rw [if_neg hb3] at h
  refine VW.skip ?_
  refine hK2 _ ?_
  -- region 4
  refine VW.ws tau_ok Sound.none [some 18, some 6] [(6, .ref 6 [] true (dI v1.1))] rfl ?_ ?_
  · simp <;> simp [ieq, ilt, ile]
  cases h
  refine VW.ret ?_
  simp [Post, PostM, PostC, PostC2, Nx, Bk]

set_option maxHeartbeats 4000000 in
theorem l_FnUnits_ok {a0 : List Int} {r : Bool} (h : l_FnUnits a0 = some r) :
    VCall Try.prog 6 [.list (a0.map (D.int .u8))] [.sc (.bool r)] := by
  unfold l_FnUnits at h
  refine VCall.enter Try.call6 Try.func6 rfl 194 Try.ntmps6 (by simp) [.tmp 2] rfl ?_
  show VW _ _ _ (mk [(0, .val (.list (a0.map (D.int .u8))))]) _
  -- region 0
  refine VW.ws tau_ok Sound.none [some 2] [(0, .val (.list (a0.map (D.int .u8))))] rfl ?_ ?_
  · simp <;> simp [ieq, ilt, ile]
  refine VW.sqc fun K1 hK1 hCK1 => ?_
  -- region 1
  obtain ⟨v2, hv2, h⟩ := bind_some h
  refine VW.ws tau_ok (Sound.none.add 24 (l_big_ok hv2) rfl) [some 23, some 24] [(0, .val (.list (a0.map (D.int .u8)))), (24, .val (.bool v2))] rfl ?_ ?_
  · simp <;> simp [ieq, ilt, ile]
  refine VW.cond rfl (fun hb3 => ?_) (fun hb3 => ?_)
  ·
    replace hb3 : v2 = true := by simpa [ieq, ilt, ile] using hb3
    rw [if_pos hb3] at h
    -- region 2
    refine VW.ws tau_ok Sound.none [some 2] [(2, .val (.bool true))] rfl ?_ ?_
    · simp <;> simp [ieq, ilt, ile]
    cases h
    refine VW.ret ?_
    simp [Post, PostM, PostC, PostC2, Nx, Bk]
  replace hb3 : ¬ (v2 = true) := by simpa [ieq, ilt, ile] using hb3
  rw [if_neg hb3] at h
  refine VW.skip ?_
  refine hK1 _ ?_
  -- region 3
  obtain ⟨v4, hv4, h⟩ := bind_some h
  refine VW.ws tau_ok (Sound.none.add 26 (s_DrawUnitsOf_ok hv4) rfl) [some 25, some 26, some 3, none] [(0, .val (.list (a0.map (D.int .u8)))), (3, .ref 3 [] true (.ptr [i64 v4.1, dI v4.2]))] rfl ?_ ?_
  · simp <;> simp [ieq, ilt, ile]
  -- region 4
  obtain ⟨v5, hv5, h⟩ := bind_some h
  refine VW.ws tau_ok (Sound.none.add 29 (i_UnitsOf_ok hv5) rfl) [some 28, some 29, some 27, some 30, some 31, some 4, some 5] [(0, .val (.list (a0.map (D.int .u8)))), (3, .ref 3 [] true (.ptr [i64 v4.1, dI v4.2])), (4, .ref 4 [] true (dM v5.1)), (5, .val (i64 v5.2))] rfl ?_ ?_
  · simp <;> simp [ieq, ilt, ile]
  refine VW.sqc fun K6 hK6 hCK6 => ?_
  refine VW.fits (fl' := [(0, .val (.list (a0.map (D.int .u8)))), (3, .val (.ptr [i64 v4.1, dI v4.2])), (4, .ref 4 [] true (dM v5.1)), (5, .val (i64 v5.2))]) (Fits.freeze (s := 3) rfl (by simp) (Fits.of rfl)) ?_
  -- region 5
  obtain ⟨v7, hv7, h⟩ := bind_some h
  refine VW.ws tau_ok (Sound.none.add 34 (s_UnitsOf_ok hv7) rfl) [some 33, some 34, some 32, some 35, some 36, some 6, some 7] [(0, .val (.list (a0.map (D.int .u8)))), (3, .val (.ptr [i64 v4.1, dI v4.2])), (4, .ref 4 [] true (dM v5.1)), (5, .val (i64 v5.2)), (6, .ref 6 [] false (dM v7.1)), (7, .val (i64 v7.2))] rfl ?_ ?_
  · simp <;> simp [ieq, ilt, ile]
  -- region 6
  obtain ⟨x10, hx10, h⟩ := bind_some h
  refine VW.cut [(0, .val (.list (a0.map (D.int .u8)))), (3, .val (.ptr [i64 v4.1, dI v4.2])), (4, .ref 4 [] true (dM v5.1)), (5, .val (i64 v5.2)), (45, .val (.bool x10))] ?_ fun hy => ?_
  rotate_left
  · clear h
    by_cases hp8 : ¬ v5.2 = v7.2
    · rw [if_pos hp8] at hx10
      have hp8b : ieq v5.2 v7.2 = false := by simpa [ieq, ilt, ile] using hp8
      have hp8s := hp8b
      try simp at hp8s
      cases hx10
      refine VW.ws tau_ok Sound.none [some 37, some 38, some 39, some 40, some 41, some 42, some 43, some 44, some 45] _ rfl ?_ hy
      simp [hp8b, hp8s] <;> simp [ieq, ilt, ile]
    · rw [if_neg hp8] at hx10
      have hp8b : ieq v5.2 v7.2 = true := by simpa [ieq, ilt, ile] using hp8
      have hp8s := hp8b
      try simp at hp8s
      obtain ⟨v9, hv9, hx10⟩ := bind_some hx10
      cases hx10
      refine VW.ws tau_ok (Sound.none.add 43 (l_same9_ok hv9) rfl) [some 37, some 38, some 39, some 40, some 41, some 42, some 43, some 44, some 45] _ rfl ?_ hy
      simp [hp8b, hp8s] <;> simp [ieq, ilt, ile]
  refine VW.cond rfl (fun hb11 => ?_) (fun hb11 => ?_)
  ·
    replace hb11 : x10 = true := by simpa [ieq, ilt, ile] using hb11
    rw [if_pos hb11] at h
    -- region 7
    refine VW.ws tau_ok Sound.none [some 2] [(2, .val (.bool false))] rfl ?_ ?_
    · simp <;> simp [ieq, ilt, ile]
    cases h
    refine VW.ret ?_
    simp [Post, PostM, PostC, PostC2, Nx, Bk]
  replace hb11 : ¬ (x10 = true) := by simpa [ieq, ilt, ile] using hb11
  rw [if_neg hb11] at h
  refine VW.skip ?_
  refine hK6 _ ?_
  -- region 8
  obtain ⟨v12, hv12, h⟩ := bind_some h
  refine VW.ws tau_ok (Sound.none.add 48 (i_LoopOfUnits_ok hv12) rfl) [some 47, some 48, some 46, some 49, some 50, some 8, some 9] [(0, .val (.list (a0.map (D.int .u8)))), (3, .val (.ptr [i64 v4.1, dI v4.2])), (4, .ref 4 [] true (dM v5.1)), (5, .val (i64 v5.2)), (8, .ref 8 [] true (dM v12.1)), (9, .val (i64 v12.2))] rfl ?_ ?_
  · simp <;> simp [ieq, ilt, ile]
  refine VW.sqc fun K13 hK13 hCK13 => ?_
  -- region 9
  obtain ⟨v14, hv14, h⟩ := bind_some h
  refine VW.ws tau_ok (Sound.none.add 53 (s_LoopOfUnits_ok hv14) rfl) [some 52, some 53, some 51, some 54, some 55, some 10, some 11] [(0, .val (.list (a0.map (D.int .u8)))), (3, .val (.ptr [i64 v4.1, dI v4.2])), (4, .ref 4 [] true (dM v5.1)), (5, .val (i64 v5.2)), (8, .ref 8 [] true (dM v12.1)), (9, .val (i64 v12.2)), (11, .val (i64 v14.2))] rfl ?_ ?_
  · simp <;> simp [ieq, ilt, ile]
  -- region 10
  refine VW.ws tau_ok Sound.none [some 56, some 57, some 58] [(0, .val (.list (a0.map (D.int .u8)))), (3, .val (.ptr [i64 v4.1, dI v4.2])), (4, .ref 4 [] true (dM v5.1)), (5, .val (i64 v5.2)), (8, .ref 8 [] true (dM v12.1)), (9, .val (i64 v12.2)), (58, .val (.bool (!(ieq v12.2 v14.2))))] rfl ?_ ?_
  · simp <;> simp [ieq, ilt, ile]
  refine VW.cond rfl (fun hb15 => ?_) (fun hb15 => ?_)
  ·
    replace hb15 : ¬ v12.2 = v14.2 := by simpa [ieq, ilt, ile] using hb15
    rw [if_pos hb15] at h
    -- region 11
    refine VW.ws tau_ok Sound.none [some 2] [(2, .val (.bool false))] rfl ?_ ?_
    · simp <;> simp [ieq, ilt, ile]
    cases h
    refine VW.ret ?_
    simp [Post, PostM, PostC, PostC2, Nx, Bk]
  replace hb15 : ¬ (¬ v12.2 = v14.2) := by simpa [ieq, ilt, ile] using hb15
  rw [if_neg hb15] at h
  refine VW.skip ?_
  refine hK13 _ ?_
  refine VW.sqc fun K16 hK16 hCK16 => ?_
  -- region 12
  refine VW.ws tau_ok Sound.none [some 59, some 60] [(0, .val (.list (a0.map (D.int .u8)))), (3, .val (.ptr [i64 v4.1, dI v4.2])), (4, .ref 4 [] true (dM v5.1)), (5, .val (i64 v5.2)), (8, .ref 8 [] true (dM v12.1)), (9, .val (i64 v12.2)), (60, .val (.bool (!(ieq v5.2 0))))] rfl ?_ ?_
  · simp <;> simp [ieq, ilt, ile]
  refine VW.cond rfl (fun hb17 => ?_) (fun hb17 => ?_)
  ·
    replace hb17 : ¬ v5.2 = 0 := by simpa [ieq, ilt, ile] using hb17
    rw [if_pos hb17] at h
    -- region 13
    obtain ⟨x20, hx20, h⟩ := bind_some h
    refine VW.cut [(2, .val (.bool x20))] ?_ fun hy => ?_
    rotate_left
    · clear h
      by_cases hp18 : v12.2 = v5.2
      · rw [if_pos hp18] at hx20
        have hp18b : ieq v12.2 v5.2 = true := by simpa [ieq, ilt, ile] using hp18
        have hp18s := hp18b
        try simp at hp18s
        by_cases hp19 : (v5.1.length : Int) = 0
        · rw [if_pos hp19] at hx20
          have hp19b : ieq (v5.1.length : Int) 0 = true := by simpa [ieq, ilt, ile] using hp19
          have hp19s := hp19b
          try simp at hp19s
          cases hx20
          refine VW.ws tau_ok Sound.none [some 61, some 62, some 63, some 64, some 65, some 66, some 67, some 68, some 69, some 70, some 71, some 72, some 73, some 2] _ rfl ?_ hy
          simp [hp18b, hp18s, hp19b, hp19s] <;> simp [ieq, ilt, ile]
        · rw [if_neg hp19] at hx20
          have hp19b : ieq (v5.1.length : Int) 0 = false := by simpa [ieq, ilt, ile] using hp19
          have hp19s := hp19b
          try simp at hp19s
          cases hx20
          refine VW.ws tau_ok Sound.none [some 61, some 62, some 63, some 64, some 65, some 66, some 67, some 68, some 69, some 70, some 71, some 72, some 73, some 2] _ rfl ?_ hy
          simp [hp18b, hp18s, hp19b, hp19s] <;> simp [ieq, ilt, ile]
      · rw [if_neg hp18] at hx20
        have hp18b : ieq v12.2 v5.2 = false := by simpa [ieq, ilt, ile] using hp18
        have hp18s := hp18b
        try simp at hp18s
        cases hx20
        refine VW.ws tau_ok Sound.none [some 61, some 62, some 63, some 64, some 65, some 66, some 67, some 68, some 69, some 70, some 71, some 72, some 73, some 2] _ rfl ?_ hy
        simp [hp18b, hp18s] <;> simp [ieq, ilt, ile]
    cases h
    refine VW.ret ?_
    simp [Post, PostM, PostC, PostC2, Nx, Bk]
  replace hb17 : ¬ (¬ v5.2 = 0) := by simpa [ieq, ilt, ile] using hb17
  rw [if_neg hb17] at h
  refine VW.skip ?_
  refine hK16 _ ?_
  -- region 14
  obtain ⟨v21, hv21, h⟩ := bind_some h
  refine VW.ws tau_ok (Sound.none.add 76 (i_CountOfNorm_ok hv21) rfl) [some 75, some 76, some 74, some 77, some 78, some 12, some 13] [(0, .val (.list (a0.map (D.int .u8)))), (3, .val (.ptr [i64 v4.1, dI v4.2])), (4, .ref 4 [] true (dM v5.1)), (8, .ref 8 [] true (dM v12.1)), (9, .val (i64 v12.2)), (12, .val (i64 v21.1)), (13, .val (i64 v21.2))] rfl ?_ ?_
  · simp <;> simp [ieq, ilt, ile]
  -- region 15
  obtain ⟨v22, hv22, h⟩ := bind_some h
  refine VW.ws tau_ok (Sound.none.add 81 (i_DoubleUnit_ok hv22) rfl) [some 80, some 81, some 79, some 82, some 83, some 14, some 15] [(0, .val (.list (a0.map (D.int .u8)))), (3, .val (.ptr [i64 v4.1, dI v4.2])), (4, .ref 4 [] true (dM v5.1)), (8, .ref 8 [] true (dM v12.1)), (9, .val (i64 v12.2)), (12, .val (i64 v21.1)), (13, .val (i64 v21.2)), (14, .ref 14 [] true (dI v22.1)), (15, .val (i64 v22.2))] rfl ?_ ?_
  · simp <;> simp [ieq, ilt, ile]
  -- region 16
  obtain ⟨v23, hv23, h⟩ := bind_some h
  refine VW.ws tau_ok (Sound.none.add 86 (i_IsMoufangLoop_ok hv23) rfl) [some 85, some 86, some 84, some 87, some 88, some 16, some 17] [(0, .val (.list (a0.map (D.int .u8)))), (3, .val (.ptr [i64 v4.1, dI v4.2])), (4, .ref 4 [] true (dM v5.1)), (8, .ref 8 [] true (dM v12.1)), (9, .val (i64 v12.2)), (12, .val (i64 v21.1)), (13, .val (i64 v21.2)), (14, .ref 14 [] true (dI v22.1)), (15, .val (i64 v22.2)), (16, .val (.bool v23.1)), (17, .val (i64 v23.2))] rfl ?_ ?_
  · simp <;> simp [ieq, ilt, ile]
  refine VW.sqc fun K24 hK24 hCK24 => ?_
  -- region 17
  obtain ⟨x34, hx34, h⟩ := bind_some h
  refine VW.cut [(0, .val (.list (a0.map (D.int .u8)))), (3, .val (.ptr [i64 v4.1, dI v4.2])), (4, .ref 4 [] true (dM v5.1)), (8, .ref 8 [] true (dM v12.1)), (12, .val (i64 v21.1)), (126, .val (.bool x34))] ?_ fun hy => ?_
  rotate_left
  · clear h
    by_cases hp25 : ¬ v12.2 = 0
    · rw [if_pos hp25] at hx34
      have hp25b : ieq v12.2 0 = false := by simpa [ieq, ilt, ile] using hp25
      have hp25s := hp25b
      try simp at hp25s
      cases hx34
      refine VW.ws tau_ok Sound.none [some 89, some 90, some 91, some 92, some 93, some 94, some 95, some 96, some 97, some 98, some 99, some 100, some 101, some 102, some 103, some 104, some 105, some 106, some 107, some 108, some 109, some 110, some 111, some 112, some 113, some 114, some 115, some 116, some 117, some 118, some 119, some 120, some 121, some 122, some 123, some 124, some 125, some 126] _ rfl ?_ hy
      simp [hp25b, hp25s] <;> simp [ieq, ilt, ile]
    · rw [if_neg hp25] at hx34
      have hp25b : ieq v12.2 0 = true := by simpa [ieq, ilt, ile] using hp25
      have hp25s := hp25b
      try simp at hp25s
      by_cases hp26 : ¬ v21.2 = 0
      · rw [if_pos hp26] at hx34
        have hp26b : ieq v21.2 0 = false := by simpa [ieq, ilt, ile] using hp26
        have hp26s := hp26b
        try simp at hp26s
        cases hx34
        refine VW.ws tau_ok Sound.none [some 89, some 90, some 91, some 92, some 93, some 94, some 95, some 96, some 97, some 98, some 99, some 100, some 101, some 102, some 103, some 104, some 105, some 106, some 107, some 108, some 109, some 110, some 111, some 112, some 113, some 114, some 115, some 116, some 117, some 118, some 119, some 120, some 121, some 122, some 123, some 124, some 125, some 126] _ rfl ?_ hy
        simp [hp25b, hp25s, hp26b, hp26s] <;> simp [ieq, ilt, ile]
      · rw [if_neg hp26] at hx34
        have hp26b : ieq v21.2 0 = true := by simpa [ieq, ilt, ile] using hp26
        have hp26s := hp26b
        try simp at hp26s
        by_cases hp27 : ¬ v22.2 = 0
        · rw [if_pos hp27] at hx34
          have hp27b : ieq v22.2 0 = false := by simpa [ieq, ilt, ile] using hp27
          have hp27s := hp27b
          try simp at hp27s
          cases hx34
          refine VW.ws tau_ok Sound.none [some 89, some 90, some 91, some 92, some 93, some 94, some 95, some 96, some 97, some 98, some 99, some 100, some 101, some 102, some 103, some 104, some 105, some 106, some 107, some 108, some 109, some 110, some 111, some 112, some 113, some 114, some 115, some 116, some 117, some 118, some 119, some 120, some 121, some 122, some 123, some 124, some 125, some 126] _ rfl ?_ hy
          simp [hp25b, hp25s, hp26b, hp26s, hp27b, hp27s] <;> simp [ieq, ilt, ile]
        · rw [if_neg hp27] at hx34
          have hp27b : ieq v22.2 0 = true := by simpa [ieq, ilt, ile] using hp27
          have hp27s := hp27b
          try simp at hp27s
          by_cases hp28 : ¬ v23.2 = 0
          · rw [if_pos hp28] at hx34
            have hp28b : ieq v23.2 0 = false := by simpa [ieq, ilt, ile] using hp28
            have hp28s := hp28b
            try simp at hp28s
            cases hx34
            refine VW.ws tau_ok Sound.none [some 89, some 90, some 91, some 92, some 93, some 94, some 95, some 96, some 97, some 98, some 99, some 100, some 101, some 102, some 103, some 104, some 105, some 106, some 107, some 108, some 109, some 110, some 111, some 112, some 113, some 114, some 115, some 116, some 117, some 118, some 119, some 120, some 121, some 122, some 123, some 124, some 125, some 126] _ rfl ?_ hy
            simp [hp25b, hp25s, hp26b, hp26s, hp27b, hp27s, hp28b, hp28s] <;> simp [ieq, ilt, ile]
          · rw [if_neg hp28] at hx34
            have hp28b : ieq v23.2 0 = true := by simpa [ieq, ilt, ile] using hp28
            have hp28s := hp28b
            try simp at hp28s
            by_cases hp29 : ¬ (v5.1.length : Int) = v21.1
            · rw [if_pos hp29] at hx34
              have hp29b : ieq (v5.1.length : Int) v21.1 = false := by simpa [ieq, ilt, ile] using hp29
              have hp29s := hp29b
              try simp at hp29s
              cases hx34
              refine VW.ws tau_ok Sound.none [some 89, some 90, some 91, some 92, some 93, some 94, some 95, some 96, some 97, some 98, some 99, some 100, some 101, some 102, some 103, some 104, some 105, some 106, some 107, some 108, some 109, some 110, some 111, some 112, some 113, some 114, some 115, some 116, some 117, some 118, some 119, some 120, some 121, some 122, some 123, some 124, some 125, some 126] _ rfl ?_ hy
              simp [hp25b, hp25s, hp26b, hp26s, hp27b, hp27s, hp28b, hp28s, hp29b, hp29s] <;> simp [ieq, ilt, ile]
            · rw [if_neg hp29] at hx34
              have hp29b : ieq (v5.1.length : Int) v21.1 = true := by simpa [ieq, ilt, ile] using hp29
              have hp29s := hp29b
              try simp at hp29s
              by_cases hp30 : ¬ (v12.1.length : Int) = v21.1
              · rw [if_pos hp30] at hx34
                have hp30b : ieq (v12.1.length : Int) v21.1 = false := by simpa [ieq, ilt, ile] using hp30
                have hp30s := hp30b
                try simp at hp30s
                cases hx34
                refine VW.ws tau_ok Sound.none [some 89, some 90, some 91, some 92, some 93, some 94, some 95, some 96, some 97, some 98, some 99, some 100, some 101, some 102, some 103, some 104, some 105, some 106, some 107, some 108, some 109, some 110, some 111, some 112, some 113, some 114, some 115, some 116, some 117, some 118, some 119, some 120, some 121, some 122, some 123, some 124, some 125, some 126] _ rfl ?_ hy
                simp [hp25b, hp25s, hp26b, hp26s, hp27b, hp27s, hp28b, hp28s, hp29b, hp29s, hp30b, hp30s] <;> simp [ieq, ilt, ile]
              · rw [if_neg hp30] at hx34
                have hp30b : ieq (v12.1.length : Int) v21.1 = true := by simpa [ieq, ilt, ile] using hp30
                have hp30s := hp30b
                try simp at hp30s
                obtain ⟨v31, hv31, hx34⟩ := bind_some hx34
                obtain ⟨hv31a, hv31b, hv31c, hv31d⟩ := idx_some hv31
                replace hv31b : 0 < v5.1.length := hv31b
                replace hv31c : v5.1[0]? = some v31 := hv31c
                replace hv31d : ∀ h, v5.1[0]'h = v31 := hv31d
                obtain ⟨v32, hv32, hx34⟩ := bind_some hx34
                by_cases hp33 : v32 = false
                · rw [if_pos hp33] at hx34
                  have hp33b : v32 = false := by simpa [ieq, ilt, ile] using hp33
                  have hp33s := hp33b
                  try simp at hp33s
                  cases hx34
                  refine VW.ws tau_ok (Sound.none.add 120 (l_likeInts_ok hv32) rfl) [some 89, some 90, some 91, some 92, some 93, some 94, some 95, some 96, some 97, some 98, some 99, some 100, some 101, some 102, some 103, some 104, some 105, some 106, some 107, some 108, some 109, some 110, some 111, some 112, some 113, some 114, some 115, some 116, some 117, some 118, some 119, some 120, some 121, some 122, some 123, some 124, some 125, some 126] _ rfl ?_ hy
                  simp [hp25b, hp25s, hp26b, hp26s, hp27b, hp27s, hp28b, hp28s, hp29b, hp29s, hp30b, hp30s, hv31a, hv31b, hv31c, hv31d, hp33b, hp33s] <;> simp [ieq, ilt, ile]
                · rw [if_neg hp33] at hx34
                  have hp33b : v32 = true := by simpa [ieq, ilt, ile] using hp33
                  have hp33s := hp33b
                  try simp at hp33s
                  cases hx34
                  refine VW.ws tau_ok (Sound.none.add 120 (l_likeInts_ok hv32) rfl) [some 89, some 90, some 91, some 92, some 93, some 94, some 95, some 96, some 97, some 98, some 99, some 100, some 101, some 102, some 103, some 104, some 105, some 106, some 107, some 108, some 109, some 110, some 111, some 112, some 113, some 114, some 115, some 116, some 117, some 118, some 119, some 120, some 121, some 122, some 123, some 124, some 125, some 126] _ rfl ?_ hy
                  simp [hp25b, hp25s, hp26b, hp26s, hp27b, hp27s, hp28b, hp28s, hp29b, hp29s, hp30b, hp30s, hv31a, hv31b, hv31c, hv31d, hp33b, hp33s] <;> simp [ieq, ilt, ile]
  refine VW.cond rfl (fun hb35 => ?_) (fun hb35 => ?_)
  ·
    replace hb35 : x34 = true := by simpa [ieq, ilt, ile] using hb35
    rw [if_pos hb35] at h
    -- region 18
    refine VW.ws tau_ok Sound.none [some 2] [(2, .val (.bool false))] rfl ?_ ?_
    · simp <;> simp [ieq, ilt, ile]
    cases h
    refine VW.ret ?_
    simp [Post, PostM, PostC, PostC2, Nx, Bk]
  replace hb35 : ¬ (x34 = true) := by simpa [ieq, ilt, ile] using hb35
  rw [if_neg hb35] at h
  refine VW.skip ?_
  refine hK24 _ ?_
  -- region 19
  obtain ⟨v36, hv36, h⟩ := bind_some h
  refine VW.ws tau_ok (Sound.none.add 128 (l_roll_ok hv36) rfl) [some 127, some 128, some 18] [(3, .val (.ptr [i64 v4.1, dI v4.2])), (4, .ref 4 [] true (dM v5.1)), (8, .ref 8 [] true (dM v12.1)), (12, .val (i64 v21.1)), (18, .ref 18 [] false (.ptr [.list (v36.1.map (D.int .u8)), i64 v36.2.1, .int .u64 v36.2.2]))] rfl ?_ ?_
  · simp <;> simp [ieq, ilt, ile]
  -- region 20
  obtain ⟨v37, hv37, h⟩ := bind_some h
  obtain ⟨v38, hv38, h⟩ := bind_some h
  refine VW.ws tau_ok ((Sound.none.ptrc 131 (g_p_laws_dice_below_ok hv37)).ptrc 134 (g_p_laws_dice_below_ok hv38)) [some 129, some 130, some 131, some 132, some 133, some 134, some 19, some 20] [(3, .val (.ptr [i64 v4.1, dI v4.2])), (4, .ref 4 [] true (dM v5.1)), (8, .ref 8 [] true (dM v12.1)), (12, .val (i64 v21.1)), (19, .val (i64 v37.1)), (20, .val (i64 v38.1))] rfl ?_ ?_
  · simp <;> simp [ieq, ilt, ile]
  -- region 21
  obtain ⟨v39, hv39, h⟩ := bind_some h
  obtain ⟨hv39a, hv39b, hv39c, hv39d⟩ := idx_some hv39
  obtain ⟨v40, hv40, h⟩ := bind_some h
  refine VW.wds tau_ok (Sound.none.add 141 (i_DoubleNorm_ok hv40) rfl) try_mixed [some 136, some 137, some 138, some 139, some 140, some 141, some 135, some 142, some 143, some 21, some 22] [(3, .val (.ptr [i64 v4.1, dI v4.2])), (4, .ref 4 [] true (dM v5.1)), (8, .ref 8 [] true (dM v12.1)), (12, .val (i64 v21.1)), (19, .val (i64 v37.1)), (20, .val (i64 v38.1)), (21, .val (i64 v40.1)), (22, .val (i64 v40.2))] 11 rfl (by kernel_rfl) (by rfl) ?_ ?_
  · simp [hv39a, hv39b, hv39c, hv39d] <;> simp [ieq, ilt, ile]
  -- region 22
  obtain ⟨x51, hx51, h⟩ := bind_some h
  refine VW.cut [(2, .val (.bool x51))] ?_ fun hy => ?_
  rotate_left
  · clear h
    by_cases hp41 : v40.2 = 0
    · rw [if_pos hp41] at hx51
      have hp41b : ieq v40.2 0 = true := by simpa [ieq, ilt, ile] using hp41
      have hp41s := hp41b
      try simp at hp41s
      by_cases hp42 : v40.1 = 1
      · rw [if_pos hp42] at hx51
        have hp42b : ieq v40.1 1 = true := by simpa [ieq, ilt, ile] using hp42
        have hp42s := hp42b
        try simp at hp42s
        obtain ⟨v43, hv43, hx51⟩ := bind_some hx51
        obtain ⟨hv43a, hv43b, hv43c, hv43d⟩ := idx_some hv43
        obtain ⟨v44, hv44, hx51⟩ := bind_some hx51
        obtain ⟨hv44a, hv44b, hv44c, hv44d⟩ := idx_some hv44
        by_cases hp45 : 0 ≤ v44
        · rw [if_pos hp45] at hx51
          have hp45b : ile 0 v44 = true := by simpa [ieq, ilt, ile] using hp45
          have hp45s := hp45b
          try simp at hp45s
          by_cases hp46 : v44 < v21.1
          · rw [if_pos hp46] at hx51
            have hp46b : ilt v44 v21.1 = true := by simpa [ieq, ilt, ile] using hp46
            have hp46s := hp46b
            try simp at hp46s
            obtain ⟨v47, hv47, hx51⟩ := bind_some hx51
            obtain ⟨hv47a, hv47b, hv47c, hv47d⟩ := idx_some hv47
            obtain ⟨v48, hv48, hx51⟩ := bind_some hx51
            obtain ⟨hv48a, hv48b, hv48c, hv48d⟩ := idx_some hv48
            obtain ⟨v49, hv49, hx51⟩ := bind_some hx51
            obtain ⟨v50, hv50, hx51⟩ := bind_some hx51
            cases hx51
            refine VW.wds tau_ok ((Sound.none.add 191 (l_times9_ok hv49) rfl).add 192 (l_likeInts_ok hv50) rfl) try_mixed [some 144, some 145, some 146, some 147, some 148, some 149, some 150, some 151, some 152, some 153, some 154, some 155, some 156, some 157, some 158, some 159, some 160, some 161, some 162, some 163, some 164, some 165, some 166, some 167, some 168, some 169, some 170, some 171, some 172, some 173, some 174, some 175, some 176, some 177, some 178, some 179, some 180, some 181, some 182, some 183, some 184, some 185, some 186, some 187, some 188, some 189, some 190, some 191, some 192, some 193, some 2] _ 51 rfl (by kernel_rfl) (by rfl) ?_ hy
            simp [hp41b, hp41s, hp42b, hp42s, hv43a, hv43b, hv43c, hv43d, hv44a, hv44b, hv44c, hv44d, hp45b, hp45s, hp46b, hp46s, hv47a, hv47b, hv47c, hv47d, hv39a, hv39b, hv39c, hv39d, hv48a, hv48b, hv48c, hv48d] <;> simp [ieq, ilt, ile]
          · rw [if_neg hp46] at hx51
            have hp46b : ilt v44 v21.1 = false := by simpa [ieq, ilt, ile] using hp46
            have hp46s := hp46b
            try simp at hp46s
            cases hx51
            refine VW.wds tau_ok Sound.none try_mixed [some 144, some 145, some 146, some 147, some 148, some 149, some 150, some 151, some 152, some 153, some 154, some 155, some 156, some 157, some 158, some 159, some 160, some 161, some 162, some 163, some 164, some 165, some 166, some 167, some 168, some 169, some 170, some 171, some 172, some 173, some 174, some 175, some 176, some 177, some 178, some 179, some 180, some 181, some 182, some 183, some 184, some 185, some 186, some 187, some 188, some 189, some 190, some 191, some 192, some 193, some 2] _ 51 rfl (by kernel_rfl) (by rfl) ?_ hy
            simp [hp41b, hp41s, hp42b, hp42s, hv43a, hv43b, hv43c, hv43d, hv44a, hv44b, hv44c, hv44d, hp45b, hp45s, hp46b, hp46s] <;> simp [ieq, ilt, ile]
        · rw [if_neg hp45] at hx51
          have hp45b : ile 0 v44 = false := by simpa [ieq, ilt, ile] using hp45
          have hp45s := hp45b
          try simp at hp45s
          cases hx51
          refine VW.wds tau_ok Sound.none try_mixed [some 144, some 145, some 146, some 147, some 148, some 149, some 150, some 151, some 152, some 153, some 154, some 155, some 156, some 157, some 158, some 159, some 160, some 161, some 162, some 163, some 164, some 165, some 166, some 167, some 168, some 169, some 170, some 171, some 172, some 173, some 174, some 175, some 176, some 177, some 178, some 179, some 180, some 181, some 182, some 183, some 184, some 185, some 186, some 187, some 188, some 189, some 190, some 191, some 192, some 193, some 2] _ 51 rfl (by kernel_rfl) (by rfl) ?_ hy
          simp [hp41b, hp41s, hp42b, hp42s, hv43a, hv43b, hv43c, hv43d, hv44a, hv44b, hv44c, hv44d, hp45b, hp45s] <;> simp [ieq, ilt, ile]
      · rw [if_neg hp42] at hx51
        have hp42b : ieq v40.1 1 = false := by simpa [ieq, ilt, ile] using hp42
        have hp42s := hp42b
        try simp at hp42s
        cases hx51
        refine VW.wds tau_ok Sound.none try_mixed [some 144, some 145, some 146, some 147, some 148, some 149, some 150, some 151, some 152, some 153, some 154, some 155, some 156, some 157, some 158, some 159, some 160, some 161, some 162, some 163, some 164, some 165, some 166, some 167, some 168, some 169, some 170, some 171, some 172, some 173, some 174, some 175, some 176, some 177, some 178, some 179, some 180, some 181, some 182, some 183, some 184, some 185, some 186, some 187, some 188, some 189, some 190, some 191, some 192, some 193, some 2] _ 51 rfl (by kernel_rfl) (by rfl) ?_ hy
        simp [hp41b, hp41s, hp42b, hp42s] <;> simp [ieq, ilt, ile]
    · rw [if_neg hp41] at hx51
      have hp41b : ieq v40.2 0 = false := by simpa [ieq, ilt, ile] using hp41
      have hp41s := hp41b
      try simp at hp41s
      cases hx51
      refine VW.wds tau_ok Sound.none try_mixed [some 144, some 145, some 146, some 147, some 148, some 149, some 150, some 151, some 152, some 153, some 154, some 155, some 156, some 157, some 158, some 159, some 160, some 161, some 162, some 163, some 164, some 165, some 166, some 167, some 168, some 169, some 170, some 171, some 172, some 173, some 174, some 175, some 176, some 177, some 178, some 179, some 180, some 181, some 182, some 183, some 184, some 185, some 186, some 187, some 188, some 189, some 190, some 191, some 192, some 193, some 2] _ 51 rfl (by kernel_rfl) (by rfl) ?_ hy
      simp [hp41b, hp41s] <;> simp [ieq, ilt, ile]
  cases h
  refine VW.ret ?_
  simp [Post, PostM, PostC, PostC2, Nx, Bk]
end Go.Vam
