import Derived.Test.YteafapgnelhmmaaR2T
import Derived.Test.YteafapgnelhmmaaFnD
import Derived.Test.YteafapgnelhmmaaR2W1
import Derived.Test.YteafapgnelhmmaaR2W4
import Derived.Test.YteafapgnelhmmaaR2W5
import Derived.Test.YteafapgnelhmmaaR2W6
import Derived.Test.YteafapgnelhmmaaR2W7
import Derived.Test.YteafapgnelhmmaaR2W8
import Derived.Test.YteafapgnelhmmaaR2W9
namespace Go.Vam
open Go Go.RowKit Go.Proofs
set_option maxRecDepth 100000
set_option linter.unusedSimpArgs false
set_option linter.unusedVariables false

theorem i_field_basis_ok {a0 : Int} {a1 : List (List Int)} {r : List (List Int)} (h : i_field_basis a0 a1 = some r) :
    VCall Try.prog 94 [i64 a0, dM a1] [.own false (dM r)] := by
  unfold i_field_basis at h
  refine VCall.enter Try.call94 Try.func94 rfl 129 Try.ntmps94 (by simp) [.tmp 4] rfl ?_
  show VW _ _ _ (mk [(0, .val (i64 a0)), (1, .val (dM a1))]) _
  -- region 0
  refine VW.ws tau_ok Sound.none [some 4] [(0, .val (i64 a0)), (1, .val (dM a1))] rfl ?_ ?_
  · simp <;> simp [ieq, ilt, ile]
  -- region 1
  obtain ⟨v1, hv1, h⟩ := bind_some h
  refine VW.ws tau_ok (Sound.none.add 11 (i_cloneRows_ok hv1) rfl) [some 10, some 11, some 5] [(0, .val (i64 a0)), (5, .ref 5 [] true (dM v1))] rfl ?_ ?_
  · simp <;> simp [ieq, ilt, ile]
  -- region 2
  refine VW.ws tau_ok Sound.none [some 6] [(0, .val (i64 a0)), (5, .ref 5 [] true (dM v1)), (6, .val (i64 0))] rfl ?_ ?_
  · simp <;> simp [ieq, ilt, ile]
  refine VW.sqc fun K2 hK2 hCK2 => ?_
  -- region 3
  refine VW.ws tau_ok Sound.none [some 7] [(0, .val (i64 a0)), (5, .ref 5 [] true (dM v1)), (6, .val (i64 0)), (7, .val (i64 0))] rfl ?_ ?_
  · simp <;> simp [ieq, ilt, ile]
  obtain ⟨x3, hx3, h⟩ := bind_some h
  refine VW.tlE [(5, .ref 5 [] false (dM x3.1)), (6, .val (i64 x3.2))] (hCK2) ?_ ?_
  · clear hx3
    refine hK2 _ ?_
    -- region 19
    obtain ⟨hc49, h⟩ := chk_some h
    have hc49s := hc49
    try simp at hc49s
    refine VW.ws tau_ok Sound.none [some 126, some 127, some 128, some 4] [(4, .ref 4 [] false (dM (x3.1.take x3.2.toNat)))] rfl ?_ ?_
    · simp [hc49, hc49s] <;> simp [ieq, ilt, ile]
    cases h
    refine VW.ret ?_
    simp [Post, PostM, PostC, PostC2, Nx, Bk]
  refine VW.block ?_
  refine VW.loopF (i_field_basis_L0 a0) (fun s3 => [(0, .val (i64 a0)), (5, .ref 5 [] false (dM s3.1)), (6, .val (i64 s3.2.1)), (7, .val (i64 s3.2.2))]) hx3 (Fits.weak (s := 5) rfl (by simp) (Fits.of rfl)) ?_
  clear hx3
  intro s3 ox3 hx3o hx3b
  unfold i_field_basis_L0 at hx3o
  refine VW.sqc fun K5 hK5 hCK5 => ?_
  -- region 4
  obtain ⟨x9, hx9, hx3o⟩ := bind_some hx3o
  refine VW.cut [(0, .val (i64 a0)), (5, .ref 5 [] false (dM s3.1)), (6, .val (i64 s3.2.1)), (7, .val (i64 s3.2.2)), (28, .val (.bool x9))] ?_ fun hy => ?_
  rotate_left
  · clear hx3o
    by_cases hp6 : 0 < (s3.1.length : Int)
    · rw [if_pos hp6] at hx9
      have hp6b : ilt 0 (s3.1.length : Int) = true := by simpa [ieq, ilt, ile] using hp6
      have hp6s := hp6b
      try simp at hp6s
      obtain ⟨v7, hv7, hx9⟩ := bind_some hx9
      obtain ⟨hv7a, hv7b, hv7c, hv7d⟩ := idx_some hv7
      replace hv7b : 0 < s3.1.length := hv7b
      replace hv7c : s3.1[0]? = some v7 := hv7c
      replace hv7d : ∀ h, s3.1[0]'h = v7 := hv7d
      by_cases hp8 : s3.2.2 < (v7.length : Int)
      · rw [if_pos hp8] at hx9
        have hp8b : ilt s3.2.2 (v7.length : Int) = true := by simpa [ieq, ilt, ile] using hp8
        have hp8s := hp8b
        try simp at hp8s
        cases hx9
        refine VW.ws tau_ok Sound.none [some 12, some 13, some 14, some 15, some 16, some 17, some 18, some 19, some 20, some 21, some 22, some 23, some 24, some 25, some 26, some 27, some 28] _ rfl ?_ hy
        simp [hp6b, hp6s, hv7a, hv7b, hv7c, hv7d, hp8b, hp8s] <;> simp [ieq, ilt, ile]
      · rw [if_neg hp8] at hx9
        have hp8b : ilt s3.2.2 (v7.length : Int) = false := by simpa [ieq, ilt, ile] using hp8
        have hp8s := hp8b
        try simp at hp8s
        cases hx9
        refine VW.ws tau_ok Sound.none [some 12, some 13, some 14, some 15, some 16, some 17, some 18, some 19, some 20, some 21, some 22, some 23, some 24, some 25, some 26, some 27, some 28] _ rfl ?_ hy
        simp [hp6b, hp6s, hv7a, hv7b, hv7c, hv7d, hp8b, hp8s] <;> simp [ieq, ilt, ile]
    · rw [if_neg hp6] at hx9
      have hp6b : ilt 0 (s3.1.length : Int) = false := by simpa [ieq, ilt, ile] using hp6
      have hp6s := hp6b
      try simp at hp6s
      cases hx9
      refine VW.ws tau_ok Sound.none [some 12, some 13, some 14, some 15, some 16, some 17, some 18, some 19, some 20, some 21, some 22, some 23, some 24, some 25, some 26, some 27, some 28] _ rfl ?_ hy
      simp [hp6b, hp6s] <;> simp [ieq, ilt, ile]
  refine VW.cond rfl (fun hb10 => ?_) (fun hb10 => ?_)
  rotate_left
  ·
    replace hb10 : ¬ (x9 = true) := by simpa [ieq, ilt, ile] using hb10
    rw [if_neg hb10] at hx3o
    refine VW.exit ?_
    cases hx3o
    have hq := hx3b _ rfl
    subst hq
    exact Fits.of rfl
  replace hb10 : x9 = true := by simpa [ieq, ilt, ile] using hb10
  rw [if_pos hb10] at hx3o
  refine VW.skip ?_
  refine hK5 _ ?_
  refine VW.sqc fun K11 hK11 hCK11 => ?_
  obtain ⟨x12, hx12, hx3o⟩ := bind_some hx3o
  refine VW.tlE [(0, .val (i64 a0)), (5, .ref 5 [] false (dM x12.1)), (6, .val (i64 x12.2)), (7, .val (i64 s3.2.2))] (hCK11) ?_ ?_
  · clear hx12
    refine hK11 _ ?_
    -- region 5
    refine VW.wr tau_ok Sound.none [some 29, some 30, some 7] [(0, .val (i64 a0)), (5, .ref 5 [] false (dM x12.1)), (6, .val (i64 x12.2)), (7, .val (i64 (w64 (s3.2.2 + 1))))] rfl ?_ ?_
    · simp <;> simp [ieq, ilt, ile]
    cases hx3o
    exact ⟨_, rfl, Fits.of rfl⟩
  refine VW.block ?_
  -- region 6
  refine VW.ws tau_ok Sound.none [some 31, some 8] [(0, .val (i64 a0)), (5, .ref 5 [] false (dM s3.1)), (6, .val (i64 s3.2.1)), (7, .val (i64 s3.2.2)), (8, .val (i64 s3.2.1))] rfl ?_ ?_
  · simp <;> simp [ieq, ilt, ile]
  refine VW.sqc fun K14 hK14 hCK14 => ?_
  obtain ⟨x15, hx15, hx12⟩ := bind_some hx12
  refine VW.tlE [(0, .val (i64 a0)), (5, .ref 5 [] false (dM s3.1)), (6, .val (i64 s3.2.1)), (7, .val (i64 s3.2.2)), (8, .val (i64 x15))] (hCK14) ?_ ?_
  · clear hx15
    refine hK14 _ ?_
    refine VW.sqc fun K23 hK23 hCK23 => ?_
    -- region 9
    refine VW.ws tau_ok Sound.none [some 48, some 49, some 50, some 51] [(0, .val (i64 a0)), (5, .ref 5 [] false (dM s3.1)), (6, .val (i64 s3.2.1)), (7, .val (i64 s3.2.2)), (8, .val (i64 x15)), (51, .val (.bool (ieq x15 (s3.1.length : Int))))] rfl ?_ ?_
    · simp <;> simp [ieq, ilt, ile]
    refine VW.cond rfl (fun hb24 => ?_) (fun hb24 => ?_)
    ·
      replace hb24 : x15 = (s3.1.length : Int) := by simpa [ieq, ilt, ile] using hb24
      rw [if_pos hb24] at hx12
      refine VW.exit ?_
      cases hx12
      exact Fits.of rfl
    replace hb24 : ¬ (x15 = (s3.1.length : Int)) := by simpa [ieq, ilt, ile] using hb24
    rw [if_neg hb24] at hx12
    refine VW.skip ?_
    refine hK23 _ ?_
    -- region 10
    obtain ⟨v25, hv25, hx12⟩ := bind_some hx12
    obtain ⟨hv25a, hv25b, hv25c, hv25d⟩ := idx_some hv25
    obtain ⟨v26, hv26, hx12⟩ := bind_some hx12
    obtain ⟨hv26a, hv26b, hv26c, hv26d⟩ := idx_some hv26
    obtain ⟨v27, hv27, hx12⟩ := bind_some hx12
    obtain ⟨hv27a, hv27b, hv27c, hv27d⟩ := idx_some hv27
    have hv27s := hv27b
    try simp at hv27s
    refine VW.wds tau_ok Sound.none try_mixed [some 52, some 53, some 54, some 55, some 56, some 57, some 58, some 59, some 60, some 61, some 62, some 63, some 64, none, some 65, none] [(0, .val (i64 a0)), (5, .ref 5 [] false (dM ((s3.1.set s3.2.1.toNat v25).set x15.toNat v26))), (6, .val (i64 s3.2.1)), (7, .val (i64 s3.2.2))] 13 rfl (by kernel_rfl) (by rfl) ?_ ?_
    · simp [hv25a, hv25b, hv25c, hv25d, hv26a, hv26b, hv26c, hv26d, hv27a, hv27b, hv27c, hv27d, hv27s] <;> simp [ieq, ilt, ile]
    obtain ⟨l28, hl28, hx12⟩ := bind_some hx12
    rw [Option.some.inj hl28]
    -- region 11
    obtain ⟨v29, hv29, hx12⟩ := bind_some hx12
    obtain ⟨hv29a, hv29b, hv29c, hv29d⟩ := idx_some hv29
    obtain ⟨v30, hv30, hx12⟩ := bind_some hx12
    obtain ⟨hv30a, hv30b, hv30c, hv30d⟩ := idx_some hv30
    obtain ⟨v31, hv31, hx12⟩ := bind_some hx12
    obtain ⟨v32, hv32, hx12⟩ := bind_some hx12
    refine VW.wds tau_ok ((Sound.none.add 81 (i_field_inv_ok hv31) rfl).add 82 (i_field_scaled_ok hv32) rfl) try_mixed [some 66, some 67, some 68, some 69, some 70, some 71, some 72, some 73, some 74, some 75, some 76, some 77, some 78, some 79, some 80, some 81, some 82, some 83, none] [(0, .val (i64 a0)), (5, .ref 5 [] false (dM (l28.set s3.2.1.toNat v32))), (6, .val (i64 s3.2.1)), (7, .val (i64 s3.2.2))] 18 rfl (by kernel_rfl) (by rfl) ?_ ?_
    · simp [hv29a, hv29b, hv29c, hv29d, hv30a, hv30b, hv30c, hv30d] <;> simp [ieq, ilt, ile]
    refine VW.sqc fun K33 hK33 hCK33 => ?_
    -- region 12
    refine VW.ws tau_ok Sound.none [some 84, some 85, some 86] [(0, .val (i64 a0)), (5, .ref 5 [] false (dM (l28.set s3.2.1.toNat v32))), (6, .val (i64 s3.2.1)), (7, .val (i64 s3.2.2)), (85, .val (i64 ((l28.set s3.2.1.toNat v32).length : Int))), (86, .val (i64 0))] rfl ?_ ?_
    · simp <;> simp [ieq, ilt, ile]
    obtain ⟨x34, hx34, hx12⟩ := bind_some hx12
    refine VW.tlE [(0, .val (i64 a0)), (5, .ref 5 [] false (dM x34)), (6, .val (i64 s3.2.1)), (7, .val (i64 s3.2.2))] (hCK33) ?_ ?_
    · clear hx34
      refine hK33 _ ?_
      -- region 18
      refine VW.wr tau_ok Sound.none [some 124, some 125, some 6] [(0, .val (i64 a0)), (5, .ref 5 [] false (dM x34)), (6, .val (i64 (w64 (s3.2.1 + 1)))), (7, .val (i64 s3.2.2))] rfl ?_ ?_
      · simp <;> simp [ieq, ilt, ile]
      cases hx12
      exact Fits.of rfl
    refine VW.block ?_
    refine VW.loopF (i_field_basis_L2 a0 s3 l28 v32) (fun s34 => [(0, .val (i64 a0)), (5, .ref 5 [] false (dM s34.1)), (6, .val (i64 s3.2.1)), (7, .val (i64 s3.2.2)), (85, .val (i64 ((l28.set s3.2.1.toNat v32).length : Int))), (86, .val (i64 s34.2))]) hx34 (Fits.of rfl) ?_
    clear hx34
    intro s34 ox34 hx34o hx34b
    unfold i_field_basis_L2 at hx34o
    -- region 13
    refine VW.ws tau_ok Sound.none [some 87] [(0, .val (i64 a0)), (5, .ref 5 [] false (dM s34.1)), (6, .val (i64 s3.2.1)), (7, .val (i64 s3.2.2)), (85, .val (i64 ((l28.set s3.2.1.toNat v32).length : Int))), (86, .val (i64 s34.2)), (87, .val (.bool (ilt s34.2 ((l28.set s3.2.1.toNat v32).length : Int))))] rfl ?_ ?_
    · simp <;> simp [ieq, ilt, ile]
    refine VW.sqc fun K36 hK36 hCK36 => ?_
    refine VW.cond rfl (fun hb37 => ?_) (fun hb37 => ?_)
    rotate_left
    ·
      replace hb37 : ¬ (s34.2 < ((l28.set s3.2.1.toNat v32).length : Int)) := by simpa [ieq, ilt, ile] using hb37
      rw [if_neg hb37] at hx34o
      refine VW.exit ?_
      cases hx34o
      have hq := hx34b _ rfl
      subst hq
      exact Fits.of rfl
    replace hb37 : s34.2 < ((l28.set s3.2.1.toNat v32).length : Int) := by simpa [ieq, ilt, ile] using hb37
    rw [if_pos hb37] at hx34o
    refine VW.skip ?_
    refine hK36 _ ?_
    obtain ⟨x38, hx38, hx34o⟩ := bind_some hx34o
    refine VW.sqE [(0, .val (i64 a0)), (5, .ref 5 [] false (dM x38)), (6, .val (i64 s3.2.1)), (7, .val (i64 s3.2.2)), (85, .val (i64 ((l28.set s3.2.1.toNat v32).length : Int))), (86, .val (i64 s34.2))] ?_ ?_
    · clear hx38
      -- region 17
      refine VW.wr tau_ok Sound.none [some 123, some 86] [(0, .val (i64 a0)), (5, .ref 5 [] false (dM x38)), (6, .val (i64 s3.2.1)), (7, .val (i64 s3.2.2)), (85, .val (i64 ((l28.set s3.2.1.toNat v32).length : Int))), (86, .val (i64 (w64 (s34.2 + 1))))] rfl ?_ ?_
      · simp <;> simp [ieq, ilt, ile]
      cases hx34o
      exact ⟨_, rfl, Fits.of rfl⟩
    refine VW.block ?_
    -- region 14
    refine VW.ws tau_ok Sound.none [some 88, some 9] [(0, .val (i64 a0)), (5, .ref 5 [] false (dM s34.1)), (6, .val (i64 s3.2.1)), (7, .val (i64 s3.2.2)), (9, .val (i64 s34.2)), (85, .val (i64 ((l28.set s3.2.1.toNat v32).length : Int))), (86, .val (i64 s34.2))] rfl ?_ ?_
    · simp <;> simp [ieq, ilt, ile]
    -- region 15
    obtain ⟨x43, hx43, hx38⟩ := bind_some hx38
    refine VW.cut [(0, .val (i64 a0)), (5, .ref 5 [] false (dM s34.1)), (6, .val (i64 s3.2.1)), (7, .val (i64 s3.2.2)), (9, .val (i64 s34.2)), (85, .val (i64 ((l28.set s3.2.1.toNat v32).length : Int))), (86, .val (i64 s34.2)), (101, .val (.bool x43))] ?_ fun hy => ?_
    rotate_left
    · clear hx38
      by_cases hp40 : ¬ s34.2 = s3.2.1
      · rw [if_pos hp40] at hx43
        have hp40b : ieq s34.2 s3.2.1 = false := by simpa [ieq, ilt, ile] using hp40
        have hp40s := hp40b
        try simp at hp40s
        obtain ⟨v41, hv41, hx43⟩ := bind_some hx43
        obtain ⟨hv41a, hv41b, hv41c, hv41d⟩ := idx_some hv41
        obtain ⟨v42, hv42, hx43⟩ := bind_some hx43
        obtain ⟨hv42a, hv42b, hv42c, hv42d⟩ := idx_some hv42
        cases hx43
        refine VW.ws tau_ok Sound.none [some 89, some 90, some 91, some 92, some 93, some 94, some 95, some 96, some 97, some 98, some 99, some 100, some 101] _ rfl ?_ hy
        simp [hp40b, hp40s, hv41a, hv41b, hv41c, hv41d, hv42a, hv42b, hv42c, hv42d] <;> simp [ieq, ilt, ile]
      · rw [if_neg hp40] at hx43
        have hp40b : ieq s34.2 s3.2.1 = true := by simpa [ieq, ilt, ile] using hp40
        have hp40s := hp40b
        try simp at hp40s
        cases hx43
        refine VW.ws tau_ok Sound.none [some 89, some 90, some 91, some 92, some 93, some 94, some 95, some 96, some 97, some 98, some 99, some 100, some 101] _ rfl ?_ hy
        simp [hp40b, hp40s] <;> simp [ieq, ilt, ile]
    refine VW.cond rfl (fun hb44 => ?_) (fun hb44 => ?_)
    rotate_left
    ·
      replace hb44 : ¬ (x43 = true) := by simpa [ieq, ilt, ile] using hb44
      rw [if_neg hb44] at hx38
      refine VW.skip ?_
      cases hx38
      exact Fits.of rfl
    replace hb44 : x43 = true := by simpa [ieq, ilt, ile] using hb44
    rw [if_pos hb44] at hx38
    -- region 16
    obtain ⟨v45, hv45, hx38⟩ := bind_some hx38
    obtain ⟨hv45a, hv45b, hv45c, hv45d⟩ := idx_some hv45
    obtain ⟨v46, hv46, hx38⟩ := bind_some hx38
    obtain ⟨hv46a, hv46b, hv46c, hv46d⟩ := idx_some hv46
    obtain ⟨v47, hv47, hx38⟩ := bind_some hx38
    obtain ⟨hv47a, hv47b, hv47c, hv47d⟩ := idx_some hv47
    obtain ⟨v48, hv48, hx38⟩ := bind_some hx38
    refine VW.wdr tau_ok (Sound.none.add 121 (i_field_plus_ok hv48) rfl) try_mixed [some 102, some 103, some 104, some 105, some 106, some 107, some 108, some 109, some 110, some 111, some 112, some 113, some 114, some 115, some 116, some 117, some 118, some 119, some 120, some 121, some 122, none] [(0, .val (i64 a0)), (5, .ref 5 [] false (dM (s34.1.set s34.2.toNat v48))), (6, .val (i64 s3.2.1)), (7, .val (i64 s3.2.2)), (85, .val (i64 ((l28.set s3.2.1.toNat v32).length : Int))), (86, .val (i64 s34.2))] 21 rfl (by kernel_rfl) (by rfl) ?_ ?_
    · simp [hv45a, hv45b, hv45c, hv45d, hv46a, hv46b, hv46c, hv46d, hv47a, hv47b, hv47c, hv47d] <;> simp [ieq, ilt, ile]
    cases hx38
    exact Fits.of rfl
  refine VW.block ?_
  refine VW.loopF (i_field_basis_L1 s3) (fun s15 => [(0, .val (i64 a0)), (5, .ref 5 [] false (dM s3.1)), (6, .val (i64 s3.2.1)), (7, .val (i64 s3.2.2)), (8, .val (i64 s15))]) hx15 (Fits.of rfl) ?_
  clear hx15
  intro s15 ox15 hx15o hx15b
  unfold i_field_basis_L1 at hx15o
  refine VW.sqc fun K17 hK17 hCK17 => ?_
  -- region 7
  obtain ⟨x21, hx21, hx15o⟩ := bind_some hx15o
  refine VW.cut [(0, .val (i64 a0)), (5, .ref 5 [] false (dM s3.1)), (6, .val (i64 s3.2.1)), (7, .val (i64 s3.2.2)), (8, .val (i64 s15)), (45, .val (.bool x21))] ?_ fun hy => ?_
  rotate_left
  · clear hx15o
    by_cases hp18 : s15 < (s3.1.length : Int)
    · rw [if_pos hp18] at hx21
      have hp18b : ilt s15 (s3.1.length : Int) = true := by simpa [ieq, ilt, ile] using hp18
      have hp18s := hp18b
      try simp at hp18s
      obtain ⟨v19, hv19, hx21⟩ := bind_some hx21
      obtain ⟨hv19a, hv19b, hv19c, hv19d⟩ := idx_some hv19
      obtain ⟨v20, hv20, hx21⟩ := bind_some hx21
      obtain ⟨hv20a, hv20b, hv20c, hv20d⟩ := idx_some hv20
      cases hx21
      refine VW.ws tau_ok Sound.none [some 32, some 33, some 34, some 35, some 36, some 37, some 38, some 39, some 40, some 41, some 42, some 43, some 44, some 45] _ rfl ?_ hy
      simp [hp18b, hp18s, hv19a, hv19b, hv19c, hv19d, hv20a, hv20b, hv20c, hv20d] <;> simp [ieq, ilt, ile]
    · rw [if_neg hp18] at hx21
      have hp18b : ilt s15 (s3.1.length : Int) = false := by simpa [ieq, ilt, ile] using hp18
      have hp18s := hp18b
      try simp at hp18s
      cases hx21
      refine VW.ws tau_ok Sound.none [some 32, some 33, some 34, some 35, some 36, some 37, some 38, some 39, some 40, some 41, some 42, some 43, some 44, some 45] _ rfl ?_ hy
      simp [hp18b, hp18s] <;> simp [ieq, ilt, ile]
  refine VW.cond rfl (fun hb22 => ?_) (fun hb22 => ?_)
  rotate_left
  ·
    replace hb22 : ¬ (x21 = true) := by simpa [ieq, ilt, ile] using hb22
    rw [if_neg hb22] at hx15o
    refine VW.exit ?_
    cases hx15o
    have hq := hx15b _ rfl
    subst hq
    exact Fits.of rfl
  replace hb22 : x21 = true := by simpa [ieq, ilt, ile] using hb22
  rw [if_pos hb22] at hx15o
  refine VW.skip ?_
  refine hK17 _ ?_
  refine VW.block ?_
  -- region 8
  refine VW.wr tau_ok Sound.none [some 46, some 47, some 8] [(0, .val (i64 a0)), (5, .ref 5 [] false (dM s3.1)), (6, .val (i64 s3.2.1)), (7, .val (i64 s3.2.2)), (8, .val (i64 (w64 (s15 + 1))))] rfl ?_ ?_
  · simp <;> simp [ieq, ilt, ile]
  cases hx15o
  exact ⟨_, rfl, Fits.of rfl⟩

theorem i_RankOf_ok {a0 : Int} {a1 : List (List Int)} {r : Int × Int} (h : i_RankOf a0 a1 = some r) :
    VCall Try.prog 39 [i64 a0, dM a1] [.sc (i64 r.1), .sc (i64 r.2)] := by
  unfold i_RankOf at h
  refine VCall.enter Try.call39 Try.func39 rfl 18 Try.ntmps39 (by simp) [.tmp 4, .tmp 5] rfl ?_
  show VW _ _ _ (mk [(0, .val (i64 a0)), (1, .val (dM a1))]) _
  -- region 0
  refine VW.ws tau_ok Sound.none [some 4, some 5] [(0, .val (i64 a0)), (1, .val (dM a1))] rfl ?_ ?_
  · simp <;> simp [ieq, ilt, ile]
  refine VW.sqc fun K1 hK1 hCK1 => ?_
  -- region 1
  obtain ⟨v2, hv2, h⟩ := bind_some h
  refine VW.ws tau_ok (Sound.none.add 10 (i_checkMatrices_ok hv2) rfl) [some 7, some 8, some 9, some 10, some 6] [(0, .val (i64 a0)), (1, .val (dM a1)), (6, .val (i64 v2))] rfl ?_ ?_
  · simp <;> simp [ieq, ilt, ile]
  -- region 2
  refine VW.ws tau_ok Sound.none [some 11, some 12] [(0, .val (i64 a0)), (1, .val (dM a1)), (6, .val (i64 v2)), (12, .val (.bool (!(ieq v2 0))))] rfl ?_ ?_
  · simp <;> simp [ieq, ilt, ile]
  refine VW.cond rfl (fun hb3 => ?_) (fun hb3 => ?_)
  ·
    replace hb3 : ¬ v2 = 0 := by simpa [ieq, ilt, ile] using hb3
    rw [if_pos hb3] at h
    -- region 3
    refine VW.ws tau_ok Sound.none [some 13, some 4, some 5] [(4, .val (i64 0)), (5, .val (i64 v2))] rfl ?_ ?_
    · simp <;> simp [ieq, ilt, ile]
    cases h
    refine VW.ret ?_
    simp [Post, PostM, PostC, PostC2, Nx, Bk]
  replace hb3 : ¬ (¬ v2 = 0) := by simpa [ieq, ilt, ile] using hb3
  rw [if_neg hb3] at h
  refine VW.skip ?_
  refine hK1 _ ?_
  -- region 4
  obtain ⟨v4, hv4, h⟩ := bind_some h
  obtain ⟨v5, hv5, h⟩ := bind_some h
  refine VW.ws tau_ok ((Sound.none.add 16 (i_field_basis_ok hv4) rfl).add 17 (i_length_LI_ok hv5) rfl) [some 14, some 15, some 16, some 17, some 4, some 5] [(4, .val (i64 v5)), (5, .val (i64 0))] rfl ?_ ?_
  · simp <;> simp [ieq, ilt, ile]
  cases h
  refine VW.ret ?_
  simp [Post, PostM, PostC, PostC2, Nx, Bk]

theorem l_FnExactRankOf_ok {a0 : Int} {a1 : List (List Int)} {r : Bool} (h : l_FnExactRankOf a0 a1 = some r) :
    VCall Try.prog 7 [i64 a0, dM a1] [.sc (.bool r)] := by
  unfold l_FnExactRankOf at h
  refine VCall.enter Try.call7 Try.func7 rfl 44 Try.ntmps7 (by simp) [.tmp 4] rfl ?_
  show VW _ _ _ (mk [(0, .val (i64 a0)), (1, .val (dM a1))]) _
  -- region 0
  refine VW.ws tau_ok Sound.none [some 4] [(0, .val (i64 a0)), (1, .val (dM a1))] rfl ?_ ?_
  · simp <;> simp [ieq, ilt, ile]
  -- region 1
  refine VW.ws tau_ok Sound.none [some 5] [(0, .val (i64 a0)), (1, .val (dM a1)), (5, .val (i64 1048576))] rfl ?_ ?_
  · simp <;> simp [ieq, ilt, ile]
  -- region 2
  obtain ⟨v1, hv1, h⟩ := bind_some h
  refine VW.ws tau_ok (Sound.none.add 13 (l_szInt64SS_ok hv1) rfl) [some 11, some 12, some 13, some 5] [(0, .val (i64 a0)), (1, .val (dM a1)), (5, .val (i64 v1))] rfl ?_ ?_
  · simp <;> simp [ieq, ilt, ile]
  refine VW.sqc fun K2 hK2 hCK2 => ?_
  -- region 3
  refine VW.ws tau_ok Sound.none [some 14, some 15] [(0, .val (i64 a0)), (1, .val (dM a1)), (15, .val (.bool (ilt v1 0)))] rfl ?_ ?_
  · simp <;> simp [ieq, ilt, ile]
  refine VW.cond rfl (fun hb3 => ?_) (fun hb3 => ?_)
  ·
    replace hb3 : v1 < 0 := by simpa [ieq, ilt, ile] using hb3
    rw [if_pos hb3] at h
    -- region 4
    refine VW.ws tau_ok Sound.none [some 4] [(4, .val (.bool true))] rfl ?_ ?_
    · simp <;> simp [ieq, ilt, ile]
    cases h
    refine VW.ret ?_
    simp [Post, PostM, PostC, PostC2, Nx, Bk]
  replace hb3 : ¬ (v1 < 0) := by simpa [ieq, ilt, ile] using hb3
  rw [if_neg hb3] at h
  refine VW.skip ?_
  refine hK2 _ ?_
  -- region 5
  obtain ⟨v4, hv4, h⟩ := bind_some h
  obtain ⟨v5, hv5, h⟩ := bind_some h
  refine VW.ws tau_ok ((Sound.none.add 19 (l_toInt64SS_ok hv4) rfl).add 20 (s_RankOf_ok hv5) rfl) [some 17, some 18, some 19, some 20, some 16, some 21, some 22, some 6, some 7] [(0, .val (i64 a0)), (1, .val (dM a1)), (6, .val (i64 v5.1)), (7, .val (i64 v5.2))] rfl ?_ ?_
  · simp <;> simp [ieq, ilt, ile]
  -- region 6
  obtain ⟨v6, hv6, h⟩ := bind_some h
  refine VW.ws tau_ok (Sound.none.add 24 (l_toInt64SS_ok hv6) rfl) [some 23, some 24, some 8] [(0, .val (i64 a0)), (1, .val (dM a1)), (6, .val (i64 v5.1)), (7, .val (i64 v5.2)), (8, .ref 8 [] true (dM v6))] rfl ?_ ?_
  · simp <;> simp [ieq, ilt, ile]
  -- region 7
  obtain ⟨v7, hv7, h⟩ := bind_some h
  refine VW.ws tau_ok (Sound.none.add 28 (i_RankOf_ok hv7) rfl) [some 26, some 27, some 28, some 25, some 29, some 30, some 9, some 10] [(1, .val (dM a1)), (6, .val (i64 v5.1)), (7, .val (i64 v5.2)), (8, .ref 8 [] true (dM v6)), (9, .val (i64 v7.1)), (10, .val (i64 v7.2))] rfl ?_ ?_
  · simp <;> simp [ieq, ilt, ile]
  refine VW.sqc fun K8 hK8 hCK8 => ?_
  -- region 8
  obtain ⟨x10, hx10, h⟩ := bind_some h
  refine VW.cut [(1, .val (dM a1)), (8, .ref 8 [] true (dM v6)), (38, .val (.bool x10))] ?_ fun hy => ?_
  rotate_left
  · clear h
    by_cases hp9 : ¬ v7.1 = v5.1
    · rw [if_pos hp9] at hx10
      have hp9b : ieq v7.1 v5.1 = false := by simpa [ieq, ilt, ile] using hp9
      have hp9s := hp9b
      try simp at hp9s
      cases hx10
      refine VW.ws tau_ok Sound.none [some 31, some 32, some 33, some 34, some 35, some 36, some 37, some 38] _ rfl ?_ hy
      simp [hp9b, hp9s] <;> simp [ieq, ilt, ile]
    · rw [if_neg hp9] at hx10
      have hp9b : ieq v7.1 v5.1 = true := by simpa [ieq, ilt, ile] using hp9
      have hp9s := hp9b
      try simp at hp9s
      cases hx10
      refine VW.ws tau_ok Sound.none [some 31, some 32, some 33, some 34, some 35, some 36, some 37, some 38] _ rfl ?_ hy
      simp [hp9b, hp9s] <;> simp [ieq, ilt, ile]
  refine VW.cond rfl (fun hb11 => ?_) (fun hb11 => ?_)
  ·
    replace hb11 : x10 = true := by simpa [ieq, ilt, ile] using hb11
    rw [if_pos hb11] at h
    -- region 9
    refine VW.ws tau_ok Sound.none [some 4] [(4, .val (.bool false))] rfl ?_ ?_
    · simp <;> simp [ieq, ilt, ile]
    cases h
    refine VW.ret ?_
    simp [Post, PostM, PostC, PostC2, Nx, Bk]
  replace hb11 : ¬ (x10 = true) := by simpa [ieq, ilt, ile] using hb11
  rw [if_neg hb11] at h
  refine VW.skip ?_
  refine hK8 _ ?_
  refine VW.sqc fun K12 hK12 hCK12 => ?_
  -- region 10
  obtain ⟨v13, hv13, h⟩ := bind_some h
  obtain ⟨v14, hv14, h⟩ := bind_some h
  refine VW.ws tau_ok ((Sound.none.add 41 (l_toInt64SS_ok hv13) rfl).add 42 (l_eqInt64SS_ok hv14) rfl) [some 39, some 40, some 41, some 42, some 43] [(43, .val (.bool (!v14)))] rfl ?_ ?_
  · simp <;> simp [ieq, ilt, ile]
  refine VW.cond rfl (fun hb15 => ?_) (fun hb15 => ?_)
  ·
    replace hb15 : v14 = false := by simpa [ieq, ilt, ile] using hb15
    rw [if_pos hb15] at h
    -- region 11
    refine VW.ws tau_ok Sound.none [some 4] [(4, .val (.bool false))] rfl ?_ ?_
    · simp <;> simp [ieq, ilt, ile]
    cases h
    refine VW.ret ?_
    simp [Post, PostM, PostC, PostC2, Nx, Bk]
  replace hb15 : ¬ (v14 = false) := by simpa [ieq, ilt, ile] using hb15
  rw [if_neg hb15] at h
  refine VW.skip ?_
  refine hK12 _ ?_
  -- region 12
  refine VW.ws tau_ok Sound.none [some 4] [(4, .val (.bool true))] rfl ?_ ?_
  · simp <;> simp [ieq, ilt, ile]
  cases h
  refine VW.ret ?_
  simp [Post, PostM, PostC, PostC2, Nx, Bk]

theorem s_l02Square_ok {a0 : Int} {a1 : List (List Int)} {r : Int} (h : s_l02Square a0 a1 = some r) :
    VCall Try.prog 95 [i64 a0, dM a1] [.sc (i64 r)] := by
  unfold s_l02Square at h
  refine VCall.enter Try.call95 Try.func95 rfl 16 Try.ntmps95 (by simp) [.tmp 4] rfl ?_
  show VW _ _ _ (mk [(0, .val (i64 a0)), (1, .val (dM a1))]) _
  -- region 0
  refine VW.ws tau_ok Sound.none [some 4] [(0, .val (i64 a0)), (1, .val (dM a1))] rfl ?_ ?_
  · simp <;> simp [ieq, ilt, ile]
  refine VW.sqc fun K1 hK1 hCK1 => ?_
  -- region 1
  obtain ⟨v2, hv2, h⟩ := bind_some h
  refine VW.ws tau_ok (Sound.none.add 7 (s_l02Is_ok hv2) rfl) [some 5, some 6, some 7, some 8] [(1, .val (dM a1)), (8, .val (.bool (!v2)))] rfl ?_ ?_
  · simp <;> simp [ieq, ilt, ile]
  refine VW.cond rfl (fun hb3 => ?_) (fun hb3 => ?_)
  ·
    replace hb3 : v2 = false := by simpa [ieq, ilt, ile] using hb3
    rw [if_pos hb3] at h
    -- region 2
    refine VW.ws tau_ok Sound.none [some 4] [(4, .val (i64 1))] rfl ?_ ?_
    · simp <;> simp [ieq, ilt, ile]
    cases h
    refine VW.ret ?_
    simp [Post, PostM, PostC, PostC2, Nx, Bk]
  replace hb3 : ¬ (v2 = false) := by simpa [ieq, ilt, ile] using hb3
  rw [if_neg hb3] at h
  refine VW.skip ?_
  refine hK1 _ ?_
  refine VW.sqc fun K4 hK4 hCK4 => ?_
  -- region 3
  obtain ⟨v5, hv5, h⟩ := bind_some h
  obtain ⟨hv5a, hv5b, hv5c, hv5d⟩ := idx_some hv5
  replace hv5b : 0 < a1.length := hv5b
  replace hv5c : a1[0]? = some v5 := hv5c
  replace hv5d : ∀ h, a1[0]'h = v5 := hv5d
  refine VW.ws tau_ok Sound.none [some 9, some 10, some 11, some 12, some 13, some 14, some 15] [(15, .val (.bool (!(ieq (a1.length : Int) (v5.length : Int)))))] rfl ?_ ?_
  · simp [hv5a, hv5b, hv5c, hv5d] <;> simp [ieq, ilt, ile]
  refine VW.cond rfl (fun hb6 => ?_) (fun hb6 => ?_)
  ·
    replace hb6 : ¬ (a1.length : Int) = (v5.length : Int) := by simpa [ieq, ilt, ile] using hb6
    rw [if_pos hb6] at h
    -- region 4
    refine VW.ws tau_ok Sound.none [some 4] [(4, .val (i64 2))] rfl ?_ ?_
    · simp <;> simp [ieq, ilt, ile]
    cases h
    refine VW.ret ?_
    simp [Post, PostM, PostC, PostC2, Nx, Bk]
  replace hb6 : ¬ (¬ (a1.length : Int) = (v5.length : Int)) := by simpa [ieq, ilt, ile] using hb6
  rw [if_neg hb6] at h
  refine VW.skip ?_
  refine hK4 _ ?_
  -- region 5
  refine VW.ws tau_ok Sound.none [some 4] [(4, .val (i64 0))] rfl ?_ ?_
  · simp <;> simp [ieq, ilt, ile]
  cases h
  refine VW.ret ?_
  simp [Post, PostM, PostC, PostC2, Nx, Bk]
end Go.Vam
