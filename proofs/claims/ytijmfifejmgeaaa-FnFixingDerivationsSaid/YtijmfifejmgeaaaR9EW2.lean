import Derived.Test.YtijmfifejmgeaaaR9T
import Derived.Test.YtijmfifejmgeaaaFmG0
import Derived.Test.YtijmfifejmgeaaaR9EW1
namespace Go.Vam
open Go Go.RowKit Go.Proofs
set_option maxRecDepth 100000
set_option linter.unusedSimpArgs false
set_option linter.unusedVariables false

theorem i_field_basis_ok {a0 : Int} {a1 : List (List Int)} {r : List (List Int)} (h : i_field_basis a0 a1 = some r) :
    VCall Try.prog 119 [i64 a0, dM a1] [.own true (dM r)] := by
  unfold i_field_basis at h
  refine VCall.enter Try.call119 Try.func119 rfl 129 Try.ntmps119 (by simp) [.tmp 4] rfl ?_
  show VW _ _ _ (mk [(0, .val (i64 a0)), (1, .val (dM a1))]) _
  refine VW.ws tau_ok Sound.none [some 4] [(0, .val (i64 a0)), (1, .val (dM a1))] rfl ?_ ?_
  · simp <;> simp [ieq, ilt, ile]
  obtain ⟨v1, hv1, h⟩ := bind_some h
  refine VW.ws tau_ok (Sound.none.add 11 (i_cloneRows_ok hv1) rfl) [some 10, some 11, some 5] [(0, .val (i64 a0)), (5, .ref 5 [] true (dM v1))] rfl ?_ ?_
  · simp <;> simp [ieq, ilt, ile]
  refine VW.ws tau_ok Sound.none [some 6] [(0, .val (i64 a0)), (5, .ref 5 [] true (dM v1)), (6, .val (i64 0))] rfl ?_ ?_
  · simp <;> simp [ieq, ilt, ile]
  refine VW.sqc fun K2 hK2 hCK2 => ?_
  refine VW.ws tau_ok Sound.none [some 7] [(0, .val (i64 a0)), (5, .ref 5 [] true (dM v1)), (6, .val (i64 0)), (7, .val (i64 0))] rfl ?_ ?_
  · simp <;> simp [ieq, ilt, ile]
  obtain ⟨x3, hx3, h⟩ := bind_some h
  refine VW.tlE [(5, .ref 5 [] true (dM x3.1)), (6, .val (i64 x3.2))] (hCK2) ?_ ?_
  · clear hx3
    refine hK2 _ ?_
    obtain ⟨hc49, h⟩ := chk_some h
    have hc49s := hc49
    try simp at hc49s
    refine VW.ws tau_ok Sound.none [some 126, some 127, some 128, some 4] [(4, .ref 4 [] true (dM (x3.1.take x3.2.toNat)))] rfl ?_ ?_
    · simp [hc49, hc49s] <;> simp [ieq, ilt, ile]
    cases h
    refine VW.ret ?_
    simp [Post, PostM, PostC, PostC2, Nx, Bk]
  refine VW.block ?_
  refine VW.loopF (i_field_basis_L0 a0) (fun s3 => [(0, .val (i64 a0)), (5, .ref 5 [] true (dM s3.1)), (6, .val (i64 s3.2.1)), (7, .val (i64 s3.2.2))]) hx3 (Fits.of rfl) ?_
  clear hx3
  intro s3 ox3 hx3o hx3b
  unfold i_field_basis_L0 at hx3o
  refine VW.sqc fun K5 hK5 hCK5 => ?_
  obtain ⟨x9, hx9, hx3o⟩ := bind_some hx3o
  refine VW.cut [(0, .val (i64 a0)), (5, .ref 5 [] true (dM s3.1)), (6, .val (i64 s3.2.1)), (7, .val (i64 s3.2.2)), (28, .val (.bool x9))] ?_ fun hy => ?_
  rotate_left
  · clear hx3o
    by_cases hp6 : 0 < (s3.1.length : Int)
    · rw [if_pos hp6] at hx9
      have hp6b : ilt 0 (s3.1.length : Int) = true := by simpa [ieq, ilt, ile] using hp6
      have hp6s := hp6b
      try simp at hp6s
      obtain ⟨v7, hv7, hx9⟩ := bind_some hx9
      obtain ⟨hv7a, hv7b, hv7c, hv7d⟩ := idx_some hv7
      replace hv7b : 0 < s3.1.length := hv7b
      replace hv7c : s3.1[0]? = some v7 := hv7c
      replace hv7d : ∀ h, s3.1[0]'h = v7 := hv7d
      by_cases hp8 : s3.2.2 < (v7.length : Int)
      · rw [if_pos hp8] at hx9
        have hp8b : ilt s3.2.2 (v7.length : Int) = true := by simpa [ieq, ilt, ile] using hp8
        have hp8s := hp8b
        try simp at hp8s
        cases hx9
        refine VW.ws tau_ok Sound.none [some 12, some 13, some 14, some 15, some 16, some 17, some 18, some 19, some 20, some 21, some 22, some 23, some 24, some 25, some 26, some 27, some 28] _ rfl ?_ hy
        simp [hp6b, hp6s, hv7a, hv7b, hv7c, hv7d, hp8b, hp8s] <;> simp [ieq, ilt, ile]
      · rw [if_neg hp8] at hx9
        have hp8b : ilt s3.2.2 (v7.length : Int) = false := by simpa [ieq, ilt, ile] using hp8
        have hp8s := hp8b
        try simp at hp8s
        cases hx9
        refine VW.ws tau_ok Sound.none [some 12, some 13, some 14, some 15, some 16, some 17, some 18, some 19, some 20, some 21, some 22, some 23, some 24, some 25, some 26, some 27, some 28] _ rfl ?_ hy
        simp [hp6b, hp6s, hv7a, hv7b, hv7c, hv7d, hp8b, hp8s] <;> simp [ieq, ilt, ile]
    · rw [if_neg hp6] at hx9
      have hp6b : ilt 0 (s3.1.length : Int) = false := by simpa [ieq, ilt, ile] using hp6
      have hp6s := hp6b
      try simp at hp6s
      cases hx9
      refine VW.ws tau_ok Sound.none [some 12, some 13, some 14, some 15, some 16, some 17, some 18, some 19, some 20, some 21, some 22, some 23, some 24, some 25, some 26, some 27, some 28] _ rfl ?_ hy
      simp [hp6b, hp6s] <;> simp [ieq, ilt, ile]
  refine VW.cond rfl (fun hb10 => ?_) (fun hb10 => ?_)
  rotate_left
  ·
    replace hb10 : ¬ (x9 = true) := by simpa [ieq, ilt, ile] using hb10
    rw [if_neg hb10] at hx3o
    refine VW.exit ?_
    cases hx3o
    have hq := hx3b _ rfl
    subst hq
    exact Fits.of rfl
  replace hb10 : x9 = true := by simpa [ieq, ilt, ile] using hb10
  rw [if_pos hb10] at hx3o
  refine VW.skip ?_
  refine hK5 _ ?_
  refine VW.sqc fun K11 hK11 hCK11 => ?_
  obtain ⟨x12, hx12, hx3o⟩ := bind_some hx3o
  refine VW.tlE [(0, .val (i64 a0)), (5, .ref 5 [] true (dM x12.1)), (6, .val (i64 x12.2)), (7, .val (i64 s3.2.2))] (hCK11) ?_ ?_
  · clear hx12
    refine hK11 _ ?_
    refine VW.wr tau_ok Sound.none [some 29, some 30, some 7] [(0, .val (i64 a0)), (5, .ref 5 [] true (dM x12.1)), (6, .val (i64 x12.2)), (7, .val (i64 (w64 (s3.2.2 + 1))))] rfl ?_ ?_
    · simp <;> simp [ieq, ilt, ile]
    cases hx3o
    exact ⟨_, rfl, Fits.of rfl⟩
  refine VW.block ?_
  refine VW.ws tau_ok Sound.none [some 31, some 8] [(0, .val (i64 a0)), (5, .ref 5 [] true (dM s3.1)), (6, .val (i64 s3.2.1)), (7, .val (i64 s3.2.2)), (8, .val (i64 s3.2.1))] rfl ?_ ?_
  · simp <;> simp [ieq, ilt, ile]
  refine VW.sqc fun K14 hK14 hCK14 => ?_
  obtain ⟨x15, hx15, hx12⟩ := bind_some hx12
  refine VW.tlE [(0, .val (i64 a0)), (5, .ref 5 [] true (dM s3.1)), (6, .val (i64 s3.2.1)), (7, .val (i64 s3.2.2)), (8, .val (i64 x15))] (hCK14) ?_ ?_
  · clear hx15
    refine hK14 _ ?_
    refine VW.sqc fun K23 hK23 hCK23 => ?_
    refine VW.ws tau_ok Sound.none [some 48, some 49, some 50, some 51] [(0, .val (i64 a0)), (5, .ref 5 [] true (dM s3.1)), (6, .val (i64 s3.2.1)), (7, .val (i64 s3.2.2)), (8, .val (i64 x15)), (51, .val (.bool (ieq x15 (s3.1.length : Int))))] rfl ?_ ?_
    · simp <;> simp [ieq, ilt, ile]
    refine VW.cond rfl (fun hb24 => ?_) (fun hb24 => ?_)
    ·
      replace hb24 : x15 = (s3.1.length : Int) := by simpa [ieq, ilt, ile] using hb24
      rw [if_pos hb24] at hx12
      refine VW.exit ?_
      cases hx12
      exact Fits.of rfl
    replace hb24 : ¬ (x15 = (s3.1.length : Int)) := by simpa [ieq, ilt, ile] using hb24
    rw [if_neg hb24] at hx12
    refine VW.skip ?_
    refine hK23 _ ?_
    obtain ⟨v25, hv25, hx12⟩ := bind_some hx12
    obtain ⟨hv25a, hv25b, hv25c, hv25d⟩ := idx_some hv25
    obtain ⟨v26, hv26, hx12⟩ := bind_some hx12
    obtain ⟨hv26a, hv26b, hv26c, hv26d⟩ := idx_some hv26
    have hv25z := hv25b
    try simp [hv25a] at hv25z
    have hv26z := hv26b
    try simp [hv26a] at hv26z
    obtain ⟨v27, hv27, hx12⟩ := bind_some hx12
    obtain ⟨hv27a, hv27b, hv27c, hv27d⟩ := idx_some hv27
    have hv27s := hv27b
    try simp at hv27s
    refine VW.wds tau_ok Sound.none try_mixed [some 52, some 53, some 54, some 55, some 56, some 57, some 58, some 59, some 60, some 61, some 62, some 63, some 64, none, some 65, none] [(0, .val (i64 a0)), (5, .ref 5 [] true (dM ((s3.1.set s3.2.1.toNat v25).set x15.toNat v26))), (6, .val (i64 s3.2.1)), (7, .val (i64 s3.2.2))] 13 rfl (by kernel_rfl) (by rfl) ?_ ?_
    · simp [hv25a, hv25b, hv25c, hv25d, hv26a, hv26b, hv26c, hv26d, hv25z, hv26z, hv27a, hv27b, hv27c, hv27d, hv27s] <;> simp [ieq, ilt, ile]
    obtain ⟨l28, hl28, hx12⟩ := bind_some hx12
    rw [Option.some.inj hl28]
    obtain ⟨v29, hv29, hx12⟩ := bind_some hx12
    obtain ⟨hv29a, hv29b, hv29c, hv29d⟩ := idx_some hv29
    obtain ⟨v30, hv30, hx12⟩ := bind_some hx12
    obtain ⟨hv30a, hv30b, hv30c, hv30d⟩ := idx_some hv30
    obtain ⟨v31, hv31, hx12⟩ := bind_some hx12
    obtain ⟨v32, hv32, hx12⟩ := bind_some hx12
    refine VW.wds tau_ok ((Sound.none.add 81 (i_field_inv_ok hv31) rfl).add 82 (i_field_scaled_ok hv32) rfl) try_mixed [some 66, some 67, some 68, some 69, some 70, some 71, some 72, some 73, some 74, some 75, some 76, some 77, some 78, some 79, some 80, some 81, some 82, some 83, none] [(0, .val (i64 a0)), (5, .ref 5 [] true (dM (l28.set s3.2.1.toNat v32))), (6, .val (i64 s3.2.1)), (7, .val (i64 s3.2.2))] 18 rfl (by kernel_rfl) (by rfl) ?_ ?_
    · simp [hv29a, hv29b, hv29c, hv29d, hv30a, hv30b, hv30c, hv30d] <;> simp [ieq, ilt, ile]
    refine VW.sqc fun K33 hK33 hCK33 => ?_
    refine VW.ws tau_ok Sound.none [some 84, some 85, some 86] [(0, .val (i64 a0)), (5, .ref 5 [] true (dM (l28.set s3.2.1.toNat v32))), (6, .val (i64 s3.2.1)), (7, .val (i64 s3.2.2)), (85, .val (i64 ((l28.set s3.2.1.toNat v32).length : Int))), (86, .val (i64 0))] rfl ?_ ?_
    · simp <;> simp [ieq, ilt, ile]
    obtain ⟨x34, hx34, hx12⟩ := bind_some hx12
    refine VW.tlE [(0, .val (i64 a0)), (5, .ref 5 [] true (dM x34)), (6, .val (i64 s3.2.1)), (7, .val (i64 s3.2.2))] (hCK33) ?_ ?_
    · clear hx34
      refine hK33 _ ?_
      refine VW.wr tau_ok Sound.none [some 124, some 125, some 6] [(0, .val (i64 a0)), (5, .ref 5 [] true (dM x34)), (6, .val (i64 (w64 (s3.2.1 + 1)))), (7, .val (i64 s3.2.2))] rfl ?_ ?_
      · simp <;> simp [ieq, ilt, ile]
      cases hx12
      exact Fits.of rfl
    refine VW.block ?_
    refine VW.loopF (i_field_basis_L2 a0 s3 l28 v32) (fun s34 => [(0, .val (i64 a0)), (5, .ref 5 [] true (dM s34.1)), (6, .val (i64 s3.2.1)), (7, .val (i64 s3.2.2)), (85, .val (i64 ((l28.set s3.2.1.toNat v32).length : Int))), (86, .val (i64 s34.2))]) hx34 (Fits.of rfl) ?_
    clear hx34
    intro s34 ox34 hx34o hx34b
    unfold i_field_basis_L2 at hx34o
    refine VW.ws tau_ok Sound.none [some 87] [(0, .val (i64 a0)), (5, .ref 5 [] true (dM s34.1)), (6, .val (i64 s3.2.1)), (7, .val (i64 s3.2.2)), (85, .val (i64 ((l28.set s3.2.1.toNat v32).length : Int))), (86, .val (i64 s34.2)), (87, .val (.bool (ilt s34.2 ((l28.set s3.2.1.toNat v32).length : Int))))] rfl ?_ ?_
    · simp <;> simp [ieq, ilt, ile]
    refine VW.sqc fun K36 hK36 hCK36 => ?_
    refine VW.cond rfl (fun hb37 => ?_) (fun hb37 => ?_)
    rotate_left
    ·
      replace hb37 : ¬ (s34.2 < ((l28.set s3.2.1.toNat v32).length : Int)) := by simpa [ieq, ilt, ile] using hb37
      rw [if_neg hb37] at hx34o
      refine VW.exit ?_
      cases hx34o
      have hq := hx34b _ rfl
      subst hq
      exact Fits.of rfl
    replace hb37 : s34.2 < ((l28.set s3.2.1.toNat v32).length : Int) := by simpa [ieq, ilt, ile] using hb37
    rw [if_pos hb37] at hx34o
    refine VW.skip ?_
    refine hK36 _ ?_
    obtain ⟨x38, hx38, hx34o⟩ := bind_some hx34o
    refine VW.sqE [(0, .val (i64 a0)), (5, .ref 5 [] true (dM x38)), (6, .val (i64 s3.2.1)), (7, .val (i64 s3.2.2)), (85, .val (i64 ((l28.set s3.2.1.toNat v32).length : Int))), (86, .val (i64 s34.2))] ?_ ?_
    · clear hx38
      refine VW.wr tau_ok Sound.none [some 123, some 86] [(0, .val (i64 a0)), (5, .ref 5 [] true (dM x38)), (6, .val (i64 s3.2.1)), (7, .val (i64 s3.2.2)), (85, .val (i64 ((l28.set s3.2.1.toNat v32).length : Int))), (86, .val (i64 (w64 (s34.2 + 1))))] rfl ?_ ?_
      · simp <;> simp [ieq, ilt, ile]
      cases hx34o
      exact ⟨_, rfl, Fits.of rfl⟩
    refine VW.block ?_
    refine VW.ws tau_ok Sound.none [some 88, some 9] [(0, .val (i64 a0)), (5, .ref 5 [] true (dM s34.1)), (6, .val (i64 s3.2.1)), (7, .val (i64 s3.2.2)), (9, .val (i64 s34.2)), (85, .val (i64 ((l28.set s3.2.1.toNat v32).length : Int))), (86, .val (i64 s34.2))] rfl ?_ ?_
    · simp <;> simp [ieq, ilt, ile]
    obtain ⟨x43, hx43, hx38⟩ := bind_some hx38
    refine VW.cut [(0, .val (i64 a0)), (5, .ref 5 [] true (dM s34.1)), (6, .val (i64 s3.2.1)), (7, .val (i64 s3.2.2)), (9, .val (i64 s34.2)), (85, .val (i64 ((l28.set s3.2.1.toNat v32).length : Int))), (86, .val (i64 s34.2)), (101, .val (.bool x43))] ?_ fun hy => ?_
    rotate_left
    · clear hx38
      by_cases hp40 : ¬ s34.2 = s3.2.1
      · rw [if_pos hp40] at hx43
        have hp40b : ieq s34.2 s3.2.1 = false := by simpa [ieq, ilt, ile] using hp40
        have hp40s := hp40b
        try simp at hp40s
        obtain ⟨v41, hv41, hx43⟩ := bind_some hx43
        obtain ⟨hv41a, hv41b, hv41c, hv41d⟩ := idx_some hv41
        obtain ⟨v42, hv42, hx43⟩ := bind_some hx43
        obtain ⟨hv42a, hv42b, hv42c, hv42d⟩ := idx_some hv42
        cases hx43
        refine VW.ws tau_ok Sound.none [some 89, some 90, some 91, some 92, some 93, some 94, some 95, some 96, some 97, some 98, some 99, some 100, some 101] _ rfl ?_ hy
        simp [hp40b, hp40s, hv41a, hv41b, hv41c, hv41d, hv42a, hv42b, hv42c, hv42d] <;> simp [ieq, ilt, ile]
      · rw [if_neg hp40] at hx43
        have hp40b : ieq s34.2 s3.2.1 = true := by simpa [ieq, ilt, ile] using hp40
        have hp40s := hp40b
        try simp at hp40s
        cases hx43
        refine VW.ws tau_ok Sound.none [some 89, some 90, some 91, some 92, some 93, some 94, some 95, some 96, some 97, some 98, some 99, some 100, some 101] _ rfl ?_ hy
        simp [hp40b, hp40s] <;> simp [ieq, ilt, ile]
    refine VW.cond rfl (fun hb44 => ?_) (fun hb44 => ?_)
    rotate_left
    ·
      replace hb44 : ¬ (x43 = true) := by simpa [ieq, ilt, ile] using hb44
      rw [if_neg hb44] at hx38
      refine VW.skip ?_
      cases hx38
      exact Fits.of rfl
    replace hb44 : x43 = true := by simpa [ieq, ilt, ile] using hb44
    rw [if_pos hb44] at hx38
    obtain ⟨v45, hv45, hx38⟩ := bind_some hx38
    obtain ⟨hv45a, hv45b, hv45c, hv45d⟩ := idx_some hv45
    obtain ⟨v46, hv46, hx38⟩ := bind_some hx38
    obtain ⟨hv46a, hv46b, hv46c, hv46d⟩ := idx_some hv46
    obtain ⟨v47, hv47, hx38⟩ := bind_some hx38
    obtain ⟨hv47a, hv47b, hv47c, hv47d⟩ := idx_some hv47
    obtain ⟨v48, hv48, hx38⟩ := bind_some hx38
    refine VW.wdr tau_ok (Sound.none.add 121 (i_field_plus_ok hv48) rfl) try_mixed [some 102, some 103, some 104, some 105, some 106, some 107, some 108, some 109, some 110, some 111, some 112, some 113, some 114, some 115, some 116, some 117, some 118, some 119, some 120, some 121, some 122, none] [(0, .val (i64 a0)), (5, .ref 5 [] true (dM (s34.1.set s34.2.toNat v48))), (6, .val (i64 s3.2.1)), (7, .val (i64 s3.2.2)), (85, .val (i64 ((l28.set s3.2.1.toNat v32).length : Int))), (86, .val (i64 s34.2))] 21 rfl (by kernel_rfl) (by rfl) ?_ ?_
    · simp [hv45a, hv45b, hv45c, hv45d, hv46a, hv46b, hv46c, hv46d, hv47a, hv47b, hv47c, hv47d] <;> simp [ieq, ilt, ile]
    cases hx38
    exact Fits.of rfl
  refine VW.block ?_
  refine VW.loopF (i_field_basis_L1 s3) (fun s15 => [(0, .val (i64 a0)), (5, .ref 5 [] true (dM s3.1)), (6, .val (i64 s3.2.1)), (7, .val (i64 s3.2.2)), (8, .val (i64 s15))]) hx15 (Fits.of rfl) ?_
  clear hx15
  intro s15 ox15 hx15o hx15b
  unfold i_field_basis_L1 at hx15o
  refine VW.sqc fun K17 hK17 hCK17 => ?_
  obtain ⟨x21, hx21, hx15o⟩ := bind_some hx15o
  refine VW.cut [(0, .val (i64 a0)), (5, .ref 5 [] true (dM s3.1)), (6, .val (i64 s3.2.1)), (7, .val (i64 s3.2.2)), (8, .val (i64 s15)), (45, .val (.bool x21))] ?_ fun hy => ?_
  rotate_left
  · clear hx15o
    by_cases hp18 : s15 < (s3.1.length : Int)
    · rw [if_pos hp18] at hx21
      have hp18b : ilt s15 (s3.1.length : Int) = true := by simpa [ieq, ilt, ile] using hp18
      have hp18s := hp18b
      try simp at hp18s
      obtain ⟨v19, hv19, hx21⟩ := bind_some hx21
      obtain ⟨hv19a, hv19b, hv19c, hv19d⟩ := idx_some hv19
      obtain ⟨v20, hv20, hx21⟩ := bind_some hx21
      obtain ⟨hv20a, hv20b, hv20c, hv20d⟩ := idx_some hv20
      cases hx21
      refine VW.ws tau_ok Sound.none [some 32, some 33, some 34, some 35, some 36, some 37, some 38, some 39, some 40, some 41, some 42, some 43, some 44, some 45] _ rfl ?_ hy
      simp [hp18b, hp18s, hv19a, hv19b, hv19c, hv19d, hv20a, hv20b, hv20c, hv20d] <;> simp [ieq, ilt, ile]
    · rw [if_neg hp18] at hx21
      have hp18b : ilt s15 (s3.1.length : Int) = false := by simpa [ieq, ilt, ile] using hp18
      have hp18s := hp18b
      try simp at hp18s
      cases hx21
      refine VW.ws tau_ok Sound.none [some 32, some 33, some 34, some 35, some 36, some 37, some 38, some 39, some 40, some 41, some 42, some 43, some 44, some 45] _ rfl ?_ hy
      simp [hp18b, hp18s] <;> simp [ieq, ilt, ile]
  refine VW.cond rfl (fun hb22 => ?_) (fun hb22 => ?_)
  rotate_left
  ·
    replace hb22 : ¬ (x21 = true) := by simpa [ieq, ilt, ile] using hb22
    rw [if_neg hb22] at hx15o
    refine VW.exit ?_
    cases hx15o
    have hq := hx15b _ rfl
    subst hq
    exact Fits.of rfl
  replace hb22 : x21 = true := by simpa [ieq, ilt, ile] using hb22
  rw [if_pos hb22] at hx15o
  refine VW.skip ?_
  refine hK17 _ ?_
  refine VW.block ?_
  refine VW.wr tau_ok Sound.none [some 46, some 47, some 8] [(0, .val (i64 a0)), (5, .ref 5 [] true (dM s3.1)), (6, .val (i64 s3.2.1)), (7, .val (i64 s3.2.2)), (8, .val (i64 (w64 (s15 + 1))))] rfl ?_ ?_
  · simp <;> simp [ieq, ilt, ile]
  cases hx15o
  exact ⟨_, rfl, Fits.of rfl⟩

theorem i_lead_ok {a0 : List Int} {r : Int} (h : i_lead a0 = some r) :
    VCall Try.prog 225 [dI a0] [.sc (i64 r)] := by
  unfold i_lead at h
  refine VCall.enter Try.call225 Try.func225 rfl 18 Try.ntmps225 (by simp) [.tmp 2] rfl ?_
  show VW _ _ _ (mk [(0, .val (dI a0))]) _
  refine VW.ws tau_ok Sound.none [some 2] [(0, .val (dI a0))] rfl ?_ ?_
  · simp <;> simp [ieq, ilt, ile]
  refine VW.ws tau_ok Sound.none [some 3] [(0, .val (dI a0)), (3, .val (i64 0))] rfl ?_ ?_
  · simp <;> simp [ieq, ilt, ile]
  refine VW.sqc fun K1 hK1 hCK1 => ?_
  obtain ⟨x2, hx2, h⟩ := bind_some h
  refine VW.tlE [(3, .val (i64 x2))] (hCK1) ?_ ?_
  · clear hx2
    refine hK1 _ ?_
    refine VW.ws tau_ok Sound.none [some 17, some 2] [(2, .val (i64 x2))] rfl ?_ ?_
    · simp <;> simp [ieq, ilt, ile]
    cases h
    refine VW.ret ?_
    simp [Post, PostM, PostC, PostC2, Nx, Bk]
  refine VW.block ?_
  refine VW.loopF (i_lead_L0 a0) (fun s2 => [(0, .val (dI a0)), (3, .val (i64 s2))]) hx2 (Fits.of rfl) ?_
  clear hx2
  intro s2 ox2 hx2o hx2b
  unfold i_lead_L0 at hx2o
  refine VW.sqc fun K4 hK4 hCK4 => ?_
  obtain ⟨x7, hx7, hx2o⟩ := bind_some hx2o
  refine VW.cut [(0, .val (dI a0)), (3, .val (i64 s2)), (14, .val (.bool x7))] ?_ fun hy => ?_
  rotate_left
  · clear hx2o
    by_cases hp5 : s2 < (a0.length : Int)
    · rw [if_pos hp5] at hx7
      have hp5b : ilt s2 (a0.length : Int) = true := by simpa [ieq, ilt, ile] using hp5
      have hp5s := hp5b
      try simp at hp5s
      obtain ⟨v6, hv6, hx7⟩ := bind_some hx7
      obtain ⟨hv6a, hv6b, hv6c, hv6d⟩ := idx_some hv6
      cases hx7
      refine VW.ws tau_ok Sound.none [some 4, some 5, some 6, some 7, some 8, some 9, some 10, some 11, some 12, some 13, some 14] _ rfl ?_ hy
      simp [hp5b, hp5s, hv6a, hv6b, hv6c, hv6d] <;> simp [ieq, ilt, ile]
    · rw [if_neg hp5] at hx7
      have hp5b : ilt s2 (a0.length : Int) = false := by simpa [ieq, ilt, ile] using hp5
      have hp5s := hp5b
      try simp at hp5s
      cases hx7
      refine VW.ws tau_ok Sound.none [some 4, some 5, some 6, some 7, some 8, some 9, some 10, some 11, some 12, some 13, some 14] _ rfl ?_ hy
      simp [hp5b, hp5s] <;> simp [ieq, ilt, ile]
  refine VW.cond rfl (fun hb8 => ?_) (fun hb8 => ?_)
  rotate_left
  ·
    replace hb8 : ¬ (x7 = true) := by simpa [ieq, ilt, ile] using hb8
    rw [if_neg hb8] at hx2o
    refine VW.exit ?_
    cases hx2o
    have hq := hx2b _ rfl
    subst hq
    exact Fits.of rfl
  replace hb8 : x7 = true := by simpa [ieq, ilt, ile] using hb8
  rw [if_pos hb8] at hx2o
  refine VW.skip ?_
  refine hK4 _ ?_
  refine VW.block ?_
  refine VW.wr tau_ok Sound.none [some 15, some 16, some 3] [(0, .val (dI a0)), (3, .val (i64 (w64 (s2 + 1))))] rfl ?_ ?_
  · simp <;> simp [ieq, ilt, ile]
  cases hx2o
  exact ⟨_, rfl, Fits.of rfl⟩

theorem i_field_kernel_ok {a0 : Int} {a1 : List (List Int)} {a2 : Int} {r : List (List Int)} (h : i_field_kernel a0 a1 a2 = some r) :
    VCall Try.prog 183 [i64 a0, dM a1, i64 a2] [.own true (dM r)] := by
  have hT : Try.prog.underlying 173 = some (.map 3 3) := rfl
  have hk : Try.prog.underlying 3 = some (.int .i64) := rfl
  have hz : ∀ w, (zeroValue 3).run Try.prog w = .ok (.int .i64 0) w := fun w => rfl
  unfold i_field_kernel at h
  refine VCall.enter Try.call183 Try.func183 rfl 79 Try.ntmps183 (by simp) [.tmp 6] rfl ?_
  show VW _ _ _ (mk [(0, .val (i64 a0)), (1, .val (dM a1)), (2, .val (i64 a2))]) _
  refine VW.ws tau_ok Sound.none [some 6] [(0, .val (i64 a0)), (1, .val (dM a1)), (2, .val (i64 a2))] rfl ?_ ?_
  · simp <;> simp [ieq, ilt, ile]
  obtain ⟨v20, hv20, h⟩ := bind_some h
  refine VW.mid tau_ok (Sound.none.add 20 (i_field_basis_ok hv20) rfl) [some 18, some 19, some 20, some 21, some 7, some 8] 3 [(0, .val (i64 a0)), (2, .val (i64 a2)), (20, .ref 20 [] true (dM v20))] _ (fun _ => [(0, .val (i64 a0)), (2, .val (i64 a2)), (7, .ref 7 [] true (dM v20)), (8, .mp 21 [])]) (fun _ => True) _ rfl rfl rfl ?_ (step_makeMap rfl rfl (by simp)) (fun _ _ => ?_) (fun _ _ => ?_)
  · simp <;> simp [ieq, ilt, ile]
  · simp <;> simp [ieq, ilt, ile]
  refine VW.fits (fl' := [(0, .val (i64 a0)), (2, .val (i64 a2)), (7, .val (dM v20)), (8, .mp 21 [])]) (Fits.freeze (s := 7) rfl (by simp) (Fits.of rfl)) ?_
  obtain ⟨es, hes, h⟩ := bind_some h
  refine VW.sqc fun K2 hK2 hCK2 => ?_
  refine VW.ws tau_ok Sound.none [some 22, some 23, some 24] [(0, .val (i64 a0)), (2, .val (i64 a2)), (7, .val (dM v20)), (8, .mp 21 []), (22, .val (dM v20)), (23, .val (i64 (v20.length : Int))), (24, .val (i64 0))] rfl ?_ ?_
  · simp <;> simp [ieq, ilt, ile]
  refine VW.tlE [(0, .val (i64 a0)), (2, .val (i64 a2)), (7, .val (dM v20)), (8, .mp 21 es)] hCK2 ?_ ?_
  · clear hes
    refine hK2 _ ?_
    obtain ⟨hnd, h⟩ := chk_some h
    refine VW.ws tau_ok Sound.none [some 34, some 11] [(0, .val (i64 a0)), (2, .val (i64 a2)), (7, .val (dM v20)), (8, .mp 21 es), (11, .ref 11 [] true (.list []))] rfl ?_ ?_
    · simp <;> simp [ieq, ilt, ile]
    obtain ⟨out, hout, h⟩ := bind_some h
    refine VW.sqc fun K3 hK3 hCK3 => ?_
    refine VW.ws tau_ok Sound.none [some 35, some 36] [(0, .val (i64 a0)), (2, .val (i64 a2)), (7, .val (dM v20)), (8, .mp 21 es), (11, .ref 11 [] true (.list [])), (35, .val (i64 a2)), (36, .val (i64 0))] rfl ?_ ?_
    · simp <;> simp [ieq, ilt, ile]
    refine VW.tlE [(0, .val (i64 a0)), (11, .ref 11 [] true (dM out))] hCK3 ?_ ?_
    · clear hout
      refine hK3 _ ?_
      obtain ⟨v78, hv78, h⟩ := bind_some h
      refine VW.ws tau_ok (Sound.none.add 78 (i_field_basis_ok hv78) rfl) [some 76, some 77, some 78, some 6] [(6, .ref 6 [] true (dM v78))] rfl ?_ ?_
      · simp <;> simp [ieq, ilt, ile]
      cases h
      refine VW.ret ?_
      simp [Post, PostM, PostC, PostC2, Nx, Bk]
    refine VW.block ?_
    refine VW.loopF (i_field_kernel_L1 a0 a2 v20 es) (fun s => [(0, .val (i64 a0)), (2, .val (i64 a2)), (7, .val (dM v20)), (8, .mp 21 es), (11, .ref 11 [] true (dM s.1)), (35, .val (i64 a2)), (36, .val (i64 s.2))]) hout (Fits.of rfl) ?_
    clear hout
    intro s o ho hb
    unfold i_field_kernel_L1 at ho
    refine VW.ws tau_ok Sound.none [some 37] [(0, .val (i64 a0)), (2, .val (i64 a2)), (7, .val (dM v20)), (8, .mp 21 es), (11, .ref 11 [] true (dM s.1)), (35, .val (i64 a2)), (36, .val (i64 s.2)), (37, .val (.bool (ilt s.2 a2)))] rfl ?_ ?_
    · simp <;> simp [ieq, ilt, ile]
    refine VW.sqc fun K4 hK4 hCK4 => ?_
    refine VW.cond rfl (fun hb6 => ?_) (fun hb6 => ?_)
    rotate_left
    ·
      replace hb6 : ¬ (s.2 < a2) := by simpa [ieq, ilt, ile] using hb6
      rw [if_neg hb6] at ho
      refine VW.exit ?_
      cases ho
      have hq := hb _ rfl
      subst hq
      exact Fits.of rfl
    replace hb6 : s.2 < a2 := by simpa [ieq, ilt, ile] using hb6
    rw [if_pos hb6] at ho
    refine VW.skip ?_
    refine hK4 _ ?_
    obtain ⟨x, hx, ho⟩ := bind_some ho
    refine VW.sqE [(0, .val (i64 a0)), (2, .val (i64 a2)), (7, .val (dM v20)), (8, .mp 21 es), (11, .ref 11 [] true (dM x)), (35, .val (i64 a2)), (36, .val (i64 s.2))] ?_ ?_
    · clear hx
      refine VW.wr tau_ok Sound.none [some 75, some 36] [(0, .val (i64 a0)), (2, .val (i64 a2)), (7, .val (dM v20)), (8, .mp 21 es), (11, .ref 11 [] true (dM x)), (35, .val (i64 a2)), (36, .val (i64 (w64 (s.2 + 1))))] rfl ?_ ?_
      · simp <;> simp [ieq, ilt, ile]
      cases ho
      exact ⟨_, rfl, Fits.of rfl⟩
    refine VW.block ?_
    refine VW.ws tau_ok Sound.none [some 38, some 12] [(0, .val (i64 a0)), (2, .val (i64 a2)), (7, .val (dM v20)), (8, .mp 21 es), (11, .ref 11 [] true (dM s.1)), (12, .val (i64 s.2)), (35, .val (i64 a2)), (36, .val (i64 s.2))] rfl ?_ ?_
    · simp <;> simp [ieq, ilt, ile]
    refine VW.sqc fun K6 hK6 hCK6 => ?_
    refine VW.mid tau_ok Sound.none [some 40, some 41, some 42, some 39, some 43, some 44, some 13, some 14] 2 [(0, .val (i64 a0)), (2, .val (i64 a2)), (7, .val (dM v20)), (8, .mp 21 es), (11, .ref 11 [] true (dM s.1)), (12, .val (i64 s.2)), (35, .val (i64 a2)), (36, .val (i64 s.2)), (40, .mp 21 es), (41, .val (i64 s.2))] _ (fun _ => [(0, .val (i64 a0)), (2, .val (i64 a2)), (7, .val (dM v20)), (8, .mp 21 es), (11, .ref 11 [] true (dM s.1)), (12, .val (i64 s.2)), (14, .val (.bool (hasK es s.2))), (35, .val (i64 a2)), (36, .val (i64 s.2))]) (fun _ => True) _ rfl rfl rfl ?_ (step_lookup rfl rfl (by simp) hT hk hz rfl rfl) (fun _ _ => ?_) (fun _ _ => ?_)
    · simp <;> simp [ieq, ilt, ile]
    · simp <;> simp [ieq, ilt, ile]
    refine VW.ws tau_ok Sound.none [some 45] [(0, .val (i64 a0)), (2, .val (i64 a2)), (7, .val (dM v20)), (8, .mp 21 es), (11, .ref 11 [] true (dM s.1)), (12, .val (i64 s.2)), (35, .val (i64 a2)), (36, .val (i64 s.2)), (45, .val (.bool (hasK es s.2)))] rfl ?_ ?_
    · simp <;> simp [ieq, ilt, ile]
    refine VW.cond rfl (fun hb7 => ?_) (fun hb7 => ?_)
    ·
      rw [if_pos hb7] at hx
      refine VW.exit ?_
      cases hx
      exact Fits.of rfl
    rw [if_neg (by rw [hb7]; decide)] at hx
    refine VW.skip ?_
    refine hK6 _ ?_
    obtain ⟨hc1, hx⟩ := chk_some hx
    refine VW.ws tau_ok Sound.none [some 46, some 47, some 15] [(0, .val (i64 a0)), (2, .val (i64 a2)), (7, .val (dM v20)), (8, .mp 21 es), (11, .ref 11 [] true (dM s.1)), (12, .val (i64 s.2)), (15, .ref 15 [] true (dI (List.replicate a2.toNat 0))), (35, .val (i64 a2)), (36, .val (i64 s.2))] rfl ?_ ?_
    · simp [hc1] <;> simp [ieq, ilt, ile]
    obtain ⟨l, hl, hx⟩ := bind_some hx
    rw [Option.some.inj hl]
    obtain ⟨v50, hv50, hx⟩ := bind_some hx
    obtain ⟨hv50a, hv50b, hv50c, hv50d⟩ := idx_some hv50
    refine VW.ws tau_ok Sound.none [some 48, some 49, some 50, none] [(0, .val (i64 a0)), (2, .val (i64 a2)), (7, .val (dM v20)), (8, .mp 21 es), (11, .ref 11 [] true (dM s.1)), (12, .val (i64 s.2)), (15, .ref 15 [] true (dI (l.set s.2.toNat 1))), (35, .val (i64 a2)), (36, .val (i64 s.2))] rfl ?_ ?_
    · simp [hv50a, hv50b, hv50c, hv50d] <;> simp [ieq, ilt, ile]
    obtain ⟨hc2, hx⟩ := chk_some hx
    rw [List.all_eq_true] at hc2
    obtain ⟨vf, hvf, hx⟩ := bind_some hx
    refine VW.sqc fun K7 hK7 hCK7 => ?_
    refine VW.mid tau_ok Sound.none [some 51, some 52] 1 [(0, .val (i64 a0)), (2, .val (i64 a2)), (7, .val (dM v20)), (8, .mp 21 es), (11, .ref 11 [] true (dM s.1)), (12, .val (i64 s.2)), (15, .ref 15 [] true (dI (l.set s.2.toNat 1))), (35, .val (i64 a2)), (36, .val (i64 s.2)), (51, .mp 21 es)] _ (fun _ => [(0, .val (i64 a0)), (2, .val (i64 a2)), (7, .val (dM v20)), (8, .mp 21 es), (11, .ref 11 [] true (dM s.1)), (12, .val (i64 s.2)), (15, .ref 15 [] true (dI (l.set s.2.toNat 1))), (35, .val (i64 a2)), (36, .val (i64 s.2)), (52, .itr 52 21 es [])]) (fun _ => True) _ rfl rfl rfl ?_ (step_range rfl rfl (by simp) hT rfl (by decide)) (fun _ _ => ?_) (fun _ _ => ?_)
    · simp <;> simp [ieq, ilt, ile]
    · simp <;> simp [ieq, ilt, ile]
    refine VW.tlE [(0, .val (i64 a0)), (2, .val (i64 a2)), (7, .val (dM v20)), (8, .mp 21 es), (11, .ref 11 [] true (dM s.1)), (15, .ref 15 [] true (dI vf)), (35, .val (i64 a2)), (36, .val (i64 s.2))] hCK7 ?_ ?_
    · refine hK7 _ ?_
      obtain ⟨hc3, hx⟩ := chk_some hx
      refine VW.wr tau_ok Sound.none [some 71, some 72, some 73, some 74, some 11] [(0, .val (i64 a0)), (2, .val (i64 a2)), (7, .val (dM v20)), (8, .mp 21 es), (11, .ref 11 [] true (dM (s.1 ++ [vf]))), (35, .val (i64 a2)), (36, .val (i64 s.2))] rfl ?_ ?_
      · simp [hc3] <;> simp at hc3 ⊢ <;> simp [hc3, ieq, ilt, ile]
      cases hx
      exact Fits.of rfl
    refine VW.block ?_
    refine VW.loopI (ι := List Nat) (fun seen => [(0, .val (i64 a0)), (2, .val (i64 a2)), (7, .val (dM v20)), (8, .mp 21 es), (11, .ref 11 [] true (dM s.1)), (12, .val (i64 s.2)), (15, .ref 15 [] true (dI (kerS a0 v20 s.2 es (l.set s.2.toNat 1) seen))), (35, .val (i64 a2)), (36, .val (i64 s.2)), (52, .itr 52 21 es seen)]) (fun seen => seen.Nodup ∧ ∀ i ∈ seen, i < es.length) (fun seen => es.length - seen.length) [] ⟨List.nodup_nil, fun i hi => absurd hi List.not_mem_nil⟩ (Fits.of rfl) ?_
    intro seen ⟨hs1, hs2⟩
    refine VW.next rfl rfl (by simp) rfl rfl rfl (by simp) rfl rfl (fun hall => ?_) (fun i hi hni => ?_)
    · refine VW.sqc fun K8 hK8 hCK8 => ?_
      refine VW.cond_f rfl ?_
      refine VW.exit ?_
      have e := kerS_all (p := a0) (red := v20) (free := s.2) (v := l.set s.2.toNat 1) (fun e he => by obtain ⟨_, _, _, _, _, _, _, q, _⟩ := kerOk_some (hc2 e he); exact q) hnd hs1 hs2 hall
      rw [Option.some.inj hvf] at e
      rw [e]
      exact Fits.of rfl
    have hlen : seen.length < es.length := by
      rcases Nat.lt_or_ge seen.length es.length with h | h
      · exact h
      · exact absurd (nodup_full hs1 hs2 h i hi) hni
    refine VW.re [(0, .val (i64 a0)), (2, .val (i64 a2)), (7, .val (dM v20)), (8, .mp 21 es), (11, .ref 11 [] true (dM s.1)), (12, .val (i64 s.2)), (15, .ref 15 [] true (dI (kerS a0 v20 s.2 es (l.set s.2.toNat 1) seen))), (35, .val (i64 a2)), (36, .val (i64 s.2)), (52, .itr 52 21 es (seen ++ [i])), (54, .val (.bool true))] (by simp) ?_
    refine VW.sqc fun K8 hK8 hCK8 => ?_
    refine VW.cond_t rfl ?_
    refine VW.skip ?_
    refine hK8 _ ?_
    refine VW.block ?_
    refine VW.mid tau_ok Sound.none [some 55, some 56, some 57, some 16, some 17] 0 [(0, .val (i64 a0)), (2, .val (i64 a2)), (7, .val (dM v20)), (8, .mp 21 es), (11, .ref 11 [] true (dM s.1)), (12, .val (i64 s.2)), (15, .ref 15 [] true (dI (kerS a0 v20 s.2 es (l.set s.2.toNat 1) seen))), (35, .val (i64 a2)), (36, .val (i64 s.2)), (52, .itr 52 21 es (seen ++ [i]))] _ (fun _ => [(0, .val (i64 a0)), (2, .val (i64 a2)), (7, .val (dM v20)), (8, .mp 21 es), (11, .ref 11 [] true (dM s.1)), (12, .val (i64 s.2)), (15, .ref 15 [] true (dI (kerS a0 v20 s.2 es (l.set s.2.toNat 1) seen))), (16, .val (i64 es[i].1)), (17, .val (i64 es[i].2)), (35, .val (i64 a2)), (36, .val (i64 s.2)), (52, .itr 52 21 es (seen ++ [i]))]) (fun _ => True) _ rfl rfl rfl ?_ (step_entry rfl rfl (by simp) rfl hi) (fun _ _ => ?_) (fun _ _ => ?_)
    · simp <;> simp [ieq, ilt, ile]
    · simp <;> simp [ieq, ilt, ile]
    obtain ⟨rw0, x0, y0, hr0, hx0, hy0, hv0, hk0, hk1⟩ := kerOk_some (hc2 es[i] (List.getElem_mem hi))
    obtain ⟨hr0a, hr0b, hr0c, hr0d⟩ := idx_some hr0
    obtain ⟨hx0a, hx0b, hx0c, hx0d⟩ := idx_some hx0
    have hkl : es[i].1.toNat < (kerS a0 v20 s.2 es (l.set s.2.toNat 1) seen).length := by rw [kerS_len, List.length_set]; exact hk1
    have hsn := kerS_snoc (p := a0) (red := v20) (free := s.2) (v := l.set s.2.toNat 1) (seen := seen) hi
    generalize kerS a0 v20 s.2 es (l.set s.2.toNat 1) seen = vs at hkl hsn ⊢
    generalize hke : es[i].1 = k0 at hk0 hk1 hkl ⊢
    generalize hie : es[i].2 = i0 at hr0a hr0b hr0c hr0d ⊢
    refine VW.wr tau_ok (Sound.none.add 69 (i_field_num_ok hy0) rfl) [some 58, some 59, some 60, some 61, some 62, some 63, some 64, some 65, some 66, some 67, some 68, some 69, some 70, none] [(0, .val (i64 a0)), (2, .val (i64 a2)), (7, .val (dM v20)), (8, .mp 21 es), (11, .ref 11 [] true (dM s.1)), (12, .val (i64 s.2)), (15, .ref 15 [] true (dI (vs.set k0.toNat y0))), (35, .val (i64 a2)), (36, .val (i64 s.2)), (52, .itr 52 21 es (seen ++ [i]))] rfl ?_ ?_
    · simp [hk0, hkl, hr0a, hr0b, hr0c, hr0d, hx0a, hx0b, hx0c, hx0d] <;> simp [ieq, ilt, ile]
    refine ⟨seen ++ [i], ⟨⟨?_, ?_⟩, ?_⟩, ?_⟩
    · rw [List.nodup_append]
      exact ⟨hs1, by simp, fun a ha b hb => by simp only [List.mem_singleton] at hb; subst hb; exact fun e => hni (e ▸ ha)⟩
    · intro j hj
      rcases List.mem_append.1 hj with h | h
      · exact hs2 j h
      · simp only [List.mem_singleton] at h; omega
    · simp only [List.length_append, List.length_singleton]; omega
    · have e : kerS a0 v20 s.2 es (l.set s.2.toNat 1) (seen ++ [i]) = vs.set k0.toNat y0 := by rw [hsn]; unfold kerPut; rw [hv0, hke]; rfl
      simp only [e]
      exact Fits.of rfl
  refine VW.block ?_
  refine VW.loopF (i_field_kernel_L0 v20) (fun s => [(0, .val (i64 a0)), (2, .val (i64 a2)), (7, .val (dM v20)), (8, .mp 21 s.1), (22, .val (dM v20)), (23, .val (i64 (v20.length : Int))), (24, .val (i64 s.2))]) hes (Fits.of rfl) ?_
  clear hes
  intro s o ho hb
  unfold i_field_kernel_L0 at ho
  refine VW.ws tau_ok Sound.none [some 25] [(0, .val (i64 a0)), (2, .val (i64 a2)), (7, .val (dM v20)), (8, .mp 21 s.1), (22, .val (dM v20)), (23, .val (i64 (v20.length : Int))), (24, .val (i64 s.2)), (25, .val (.bool (ilt s.2 (v20.length : Int))))] rfl ?_ ?_
  · simp <;> simp [ieq, ilt, ile]
  refine VW.sqc fun K5 hK5 hCK5 => ?_
  refine VW.cond rfl (fun hb6 => ?_) (fun hb6 => ?_)
  rotate_left
  ·
    replace hb6 : ¬ (s.2 < (v20.length : Int)) := by simpa [ieq, ilt, ile] using hb6
    rw [if_neg hb6] at ho
    refine VW.exit ?_
    cases ho
    have hq := hb _ rfl
    subst hq
    exact Fits.of rfl
  replace hb6 : s.2 < (v20.length : Int) := by simpa [ieq, ilt, ile] using hb6
  rw [if_pos hb6] at ho
  refine VW.skip ?_
  refine hK5 _ ?_
  refine VW.sqc fun K9 hK9 hCK9 => ?_
  refine VW.block ?_
  obtain ⟨v28, hv28, ho⟩ := bind_some ho
  obtain ⟨hv28a, hv28b, hv28c, hv28d⟩ := idx_some hv28
  refine VW.ws tau_ok Sound.none [some 26, some 27, some 28, some 9, some 10] [(0, .val (i64 a0)), (2, .val (i64 a2)), (7, .val (dM v20)), (8, .mp 21 s.1), (9, .val (i64 s.2)), (10, .val (dI v28)), (22, .val (dM v20)), (23, .val (i64 (v20.length : Int))), (24, .val (i64 s.2))] rfl ?_ ?_
  · simp [hv28a, hv28b, hv28c, hv28d] <;> simp [ieq, ilt, ile]
  obtain ⟨v31, hv31, ho⟩ := bind_some ho
  obtain ⟨hc, ho⟩ := chk_some ho
  refine VW.midr tau_ok (Sound.none.add 31 (i_lead_ok hv31) rfl) [some 29, some 30, some 31, some 32, none] 4 [(0, .val (i64 a0)), (2, .val (i64 a2)), (7, .val (dM v20)), (8, .mp 21 s.1), (22, .val (dM v20)), (23, .val (i64 (v20.length : Int))), (24, .val (i64 s.2)), (29, .mp 21 s.1), (31, .val (i64 v31)), (32, .val (i64 s.2))] _ (fun _ => [(0, .val (i64 a0)), (2, .val (i64 a2)), (7, .val (dM v20)), (8, .mp 21 (s.1 ++ [(v31, s.2)])), (22, .val (dM v20)), (23, .val (i64 (v20.length : Int))), (24, .val (i64 s.2))]) (fun _ => True) _ rfl rfl rfl ?_ (step_mapUpdate rfl rfl hT hk rfl rfl rfl hc) (fun _ _ => ?_) (fun _ _ => ?_)
  · simp <;> simp [ieq, ilt, ile]
  · simp <;> simp [ieq, ilt, ile]
  refine hK9 _ ?_
  refine VW.wr tau_ok Sound.none [some 33, some 24] [(0, .val (i64 a0)), (2, .val (i64 a2)), (7, .val (dM v20)), (8, .mp 21 (s.1 ++ [(v31, s.2)])), (22, .val (dM v20)), (23, .val (i64 (v20.length : Int))), (24, .val (i64 (w64 (s.2 + 1))))] rfl ?_ ?_
  · simp <;> simp [ieq, ilt, ile]
  cases ho
  exact ⟨_, rfl, Fits.of rfl⟩

theorem i_Doubling_derivations_ok {a0_0 : Int} {a0_1 : List Int} {r : List (List Int)} (h : i_Doubling_derivations a0_0 a0_1 = some r) :
    VCall Try.prog 115 [.agg [i64 a0_0, dI a0_1]] [.own true (dM r)] := by
  unfold i_Doubling_derivations at h
  refine VCall.enter Try.call115 Try.func115 rfl 141 Try.ntmps115 (by simp) [.tmp 2] rfl ?_
  show VW _ _ _ (mk [(0, .val (.agg [i64 a0_0, dI a0_1]))]) _
  refine VW.ws tau_ok Sound.none [some 1, some 2] [(1, .val (.ptr [i64 a0_0, dI a0_1]))] rfl ?_ ?_
  · simp <;> simp [ieq, ilt, ile]
  obtain ⟨v1, hv1, h⟩ := bind_some h
  obtain ⟨v2, hv2, h⟩ := bind_some h
  obtain ⟨v3, hv3, h⟩ := bind_some h
  refine VW.wds tau_ok (((Sound.none.add 12 (i_Doubling_size_ok hv1) rfl).add 14 (i_Doubling_field_ok hv2) rfl).add 16 (i_Doubling_products_ok hv3) rfl) try_mixed [some 11, some 12, some 13, some 14, some 15, some 16, some 3, some 4, some 5] [(3, .val (i64 v1)), (4, .val (i64 v2)), (5, .ref 5 [] true (dM v3))] 8 rfl (by kernel_rfl) (by rfl) ?_ ?_
  · simp <;> simp [ieq, ilt, ile]
  refine VW.ws tau_ok Sound.none [some 17, some 6] [(3, .val (i64 v1)), (4, .val (i64 v2)), (5, .ref 5 [] true (dM v3)), (6, .ref 6 [] true (dM []))] rfl ?_ ?_
  · simp <;> simp [ieq, ilt, ile]
  refine VW.sqc fun K4 hK4 hCK4 => ?_
  refine VW.ws tau_ok Sound.none [some 18, some 19] [(3, .val (i64 v1)), (4, .val (i64 v2)), (5, .ref 5 [] true (dM v3)), (6, .ref 6 [] true (dM [])), (18, .val (i64 v1)), (19, .val (i64 0))] rfl ?_ ?_
  · simp <;> simp [ieq, ilt, ile]
  obtain ⟨x5, hx5, h⟩ := bind_some h
  refine VW.tlE [(3, .val (i64 v1)), (4, .val (i64 v2)), (6, .ref 6 [] true (dM x5))] (hCK4) ?_ ?_
  · clear hx5
    refine hK4 _ ?_
    obtain ⟨v38, hv38, h⟩ := bind_some h
    refine VW.ws tau_ok (Sound.none.add 140 (i_field_kernel_ok hv38) rfl) [some 135, some 136, some 137, some 138, some 139, some 140, some 2] [(2, .ref 2 [] true (dM v38))] rfl ?_ ?_
    · simp <;> simp [ieq, ilt, ile]
    cases h
    refine VW.ret ?_
    simp [Post, PostM, PostC, PostC2, Nx, Bk]
  refine VW.block ?_
  refine VW.loopF (i_Doubling_derivations_L0 v1 v2 v3) (fun s5 => [(3, .val (i64 v1)), (4, .val (i64 v2)), (5, .ref 5 [] true (dM v3)), (6, .ref 6 [] true (dM s5.1)), (18, .val (i64 v1)), (19, .val (i64 s5.2))]) hx5 (Fits.of rfl) ?_
  clear hx5
  intro s5 ox5 hx5o hx5b
  unfold i_Doubling_derivations_L0 at hx5o
  refine VW.ws tau_ok Sound.none [some 20] [(3, .val (i64 v1)), (4, .val (i64 v2)), (5, .ref 5 [] true (dM v3)), (6, .ref 6 [] true (dM s5.1)), (18, .val (i64 v1)), (19, .val (i64 s5.2)), (20, .val (.bool (ilt s5.2 v1)))] rfl ?_ ?_
  · simp <;> simp [ieq, ilt, ile]
  refine VW.sqc fun K7 hK7 hCK7 => ?_
  refine VW.cond rfl (fun hb8 => ?_) (fun hb8 => ?_)
  rotate_left
  ·
    replace hb8 : ¬ (s5.2 < v1) := by simpa [ieq, ilt, ile] using hb8
    rw [if_neg hb8] at hx5o
    refine VW.exit ?_
    cases hx5o
    have hq := hx5b _ rfl
    subst hq
    exact Fits.of rfl
  replace hb8 : s5.2 < v1 := by simpa [ieq, ilt, ile] using hb8
  rw [if_pos hb8] at hx5o
  refine VW.skip ?_
  refine hK7 _ ?_
  refine VW.sqc fun K9 hK9 hCK9 => ?_
  refine VW.block ?_
  refine VW.ws tau_ok Sound.none [some 21, some 7] [(3, .val (i64 v1)), (4, .val (i64 v2)), (5, .ref 5 [] true (dM v3)), (6, .ref 6 [] true (dM s5.1)), (7, .val (i64 s5.2)), (18, .val (i64 v1)), (19, .val (i64 s5.2))] rfl ?_ ?_
  · simp <;> simp [ieq, ilt, ile]
  refine VW.sqc fun K10 hK10 hCK10 => ?_
  refine VW.ws tau_ok Sound.none [some 22, some 23] [(3, .val (i64 v1)), (4, .val (i64 v2)), (5, .ref 5 [] true (dM v3)), (6, .ref 6 [] true (dM s5.1)), (7, .val (i64 s5.2)), (18, .val (i64 v1)), (19, .val (i64 s5.2)), (22, .val (i64 v1)), (23, .val (i64 0))] rfl ?_ ?_
  · simp <;> simp [ieq, ilt, ile]
  obtain ⟨x11, hx11, hx5o⟩ := bind_some hx5o
  refine VW.tlE [(3, .val (i64 v1)), (4, .val (i64 v2)), (5, .ref 5 [] true (dM v3)), (6, .ref 6 [] true (dM x11)), (18, .val (i64 v1)), (19, .val (i64 s5.2))] (hCK10) ?_ ?_
  · clear hx11
    refine hK10 _ ?_
    obtain ⟨v37, hv37, hx5o⟩ := bind_some hx5o
    refine VW.wr tau_ok (Sound.none.add 133 (i_field_basis_ok hv37) rfl) [some 131, some 132, some 133, some 6] [(3, .val (i64 v1)), (4, .val (i64 v2)), (5, .ref 5 [] true (dM v3)), (6, .ref 6 [] true (dM v37)), (18, .val (i64 v1)), (19, .val (i64 s5.2))] rfl ?_ ?_
    · simp <;> simp [ieq, ilt, ile]
    refine hK9 _ ?_
    refine VW.wr tau_ok Sound.none [some 134, some 19] [(3, .val (i64 v1)), (4, .val (i64 v2)), (5, .ref 5 [] true (dM v3)), (6, .ref 6 [] true (dM v37)), (18, .val (i64 v1)), (19, .val (i64 (w64 (s5.2 + 1))))] rfl ?_ ?_
    · simp <;> simp [ieq, ilt, ile]
    cases hx5o
    exact ⟨_, rfl, Fits.of rfl⟩
  refine VW.block ?_
  refine VW.loopF (i_Doubling_derivations_L1 v1 v2 v3 s5) (fun s11 => [(3, .val (i64 v1)), (4, .val (i64 v2)), (5, .ref 5 [] true (dM v3)), (6, .ref 6 [] true (dM s11.1)), (7, .val (i64 s5.2)), (18, .val (i64 v1)), (19, .val (i64 s5.2)), (22, .val (i64 v1)), (23, .val (i64 s11.2))]) hx11 (Fits.of rfl) ?_
  clear hx11
  intro s11 ox11 hx11o hx11b
  unfold i_Doubling_derivations_L1 at hx11o
  refine VW.ws tau_ok Sound.none [some 24] [(3, .val (i64 v1)), (4, .val (i64 v2)), (5, .ref 5 [] true (dM v3)), (6, .ref 6 [] true (dM s11.1)), (7, .val (i64 s5.2)), (18, .val (i64 v1)), (19, .val (i64 s5.2)), (22, .val (i64 v1)), (23, .val (i64 s11.2)), (24, .val (.bool (ilt s11.2 v1)))] rfl ?_ ?_
  · simp <;> simp [ieq, ilt, ile]
  refine VW.sqc fun K13 hK13 hCK13 => ?_
  refine VW.cond rfl (fun hb14 => ?_) (fun hb14 => ?_)
  rotate_left
  ·
    replace hb14 : ¬ (s11.2 < v1) := by simpa [ieq, ilt, ile] using hb14
    rw [if_neg hb14] at hx11o
    refine VW.exit ?_
    cases hx11o
    have hq := hx11b _ rfl
    subst hq
    exact Fits.of rfl
  replace hb14 : s11.2 < v1 := by simpa [ieq, ilt, ile] using hb14
  rw [if_pos hb14] at hx11o
  refine VW.skip ?_
  refine hK13 _ ?_
  refine VW.sqc fun K15 hK15 hCK15 => ?_
  refine VW.block ?_
  refine VW.ws tau_ok Sound.none [some 25, some 8] [(3, .val (i64 v1)), (4, .val (i64 v2)), (5, .ref 5 [] true (dM v3)), (6, .ref 6 [] true (dM s11.1)), (7, .val (i64 s5.2)), (8, .val (i64 s11.2)), (18, .val (i64 v1)), (19, .val (i64 s5.2)), (22, .val (i64 v1)), (23, .val (i64 s11.2))] rfl ?_ ?_
  · simp <;> simp [ieq, ilt, ile]
  refine VW.ws tau_ok Sound.none [some 26, some 27] [(3, .val (i64 v1)), (4, .val (i64 v2)), (5, .ref 5 [] true (dM v3)), (6, .ref 6 [] true (dM s11.1)), (7, .val (i64 s5.2)), (8, .val (i64 s11.2)), (18, .val (i64 v1)), (19, .val (i64 s5.2)), (22, .val (i64 v1)), (23, .val (i64 s11.2)), (26, .val (i64 v1)), (27, .val (i64 0))] rfl ?_ ?_
  · simp <;> simp [ieq, ilt, ile]
  obtain ⟨x16, hx16, hx11o⟩ := bind_some hx11o
  refine VW.tlE [(3, .val (i64 v1)), (4, .val (i64 v2)), (5, .ref 5 [] true (dM v3)), (6, .ref 6 [] true (dM x16)), (7, .val (i64 s5.2)), (18, .val (i64 v1)), (19, .val (i64 s5.2)), (22, .val (i64 v1)), (23, .val (i64 s11.2))] (hCK15) ?_ ?_
  · clear hx16
    refine hK15 _ ?_
    refine VW.wr tau_ok Sound.none [some 130, some 23] [(3, .val (i64 v1)), (4, .val (i64 v2)), (5, .ref 5 [] true (dM v3)), (6, .ref 6 [] true (dM x16)), (7, .val (i64 s5.2)), (18, .val (i64 v1)), (19, .val (i64 s5.2)), (22, .val (i64 v1)), (23, .val (i64 (w64 (s11.2 + 1))))] rfl ?_ ?_
    · simp <;> simp [ieq, ilt, ile]
    cases hx11o
    exact ⟨_, rfl, Fits.of rfl⟩
  refine VW.block ?_
  refine VW.loopF (i_Doubling_derivations_L2 v1 v2 v3 s5 s11) (fun s16 => [(3, .val (i64 v1)), (4, .val (i64 v2)), (5, .ref 5 [] true (dM v3)), (6, .ref 6 [] true (dM s16.1)), (7, .val (i64 s5.2)), (8, .val (i64 s11.2)), (18, .val (i64 v1)), (19, .val (i64 s5.2)), (22, .val (i64 v1)), (23, .val (i64 s11.2)), (26, .val (i64 v1)), (27, .val (i64 s16.2))]) hx16 (Fits.of rfl) ?_
  clear hx16
  intro s16 ox16 hx16o hx16b
  unfold i_Doubling_derivations_L2 at hx16o
  refine VW.ws tau_ok Sound.none [some 28] [(3, .val (i64 v1)), (4, .val (i64 v2)), (5, .ref 5 [] true (dM v3)), (6, .ref 6 [] true (dM s16.1)), (7, .val (i64 s5.2)), (8, .val (i64 s11.2)), (18, .val (i64 v1)), (19, .val (i64 s5.2)), (22, .val (i64 v1)), (23, .val (i64 s11.2)), (26, .val (i64 v1)), (27, .val (i64 s16.2)), (28, .val (.bool (ilt s16.2 v1)))] rfl ?_ ?_
  · simp <;> simp [ieq, ilt, ile]
  refine VW.sqc fun K18 hK18 hCK18 => ?_
  refine VW.cond rfl (fun hb19 => ?_) (fun hb19 => ?_)
  rotate_left
  ·
    replace hb19 : ¬ (s16.2 < v1) := by simpa [ieq, ilt, ile] using hb19
    rw [if_neg hb19] at hx16o
    refine VW.exit ?_
    cases hx16o
    have hq := hx16b _ rfl
    subst hq
    exact Fits.of rfl
  replace hb19 : s16.2 < v1 := by simpa [ieq, ilt, ile] using hb19
  rw [if_pos hb19] at hx16o
  refine VW.skip ?_
  refine hK18 _ ?_
  refine VW.sqc fun K20 hK20 hCK20 => ?_
  refine VW.block ?_
  refine VW.ws tau_ok Sound.none [some 29, some 9] [(3, .val (i64 v1)), (4, .val (i64 v2)), (5, .ref 5 [] true (dM v3)), (6, .ref 6 [] true (dM s16.1)), (7, .val (i64 s5.2)), (8, .val (i64 s11.2)), (9, .val (i64 s16.2)), (18, .val (i64 v1)), (19, .val (i64 s5.2)), (22, .val (i64 v1)), (23, .val (i64 s11.2)), (26, .val (i64 v1)), (27, .val (i64 s16.2))] rfl ?_ ?_
  · simp <;> simp [ieq, ilt, ile]
  obtain ⟨hc21, hx16o⟩ := chk_some hx16o
  have hc21s := hc21
  try simp at hc21s
  refine VW.ws tau_ok Sound.none [some 30, some 31, some 32, some 33, some 10] [(3, .val (i64 v1)), (4, .val (i64 v2)), (5, .ref 5 [] true (dM v3)), (6, .ref 6 [] true (dM s16.1)), (7, .val (i64 s5.2)), (8, .val (i64 s11.2)), (9, .val (i64 s16.2)), (10, .ref 10 [] true (dI (List.replicate (w64 (v1 * v1)).toNat 0))), (18, .val (i64 v1)), (19, .val (i64 s5.2)), (22, .val (i64 v1)), (23, .val (i64 s11.2)), (26, .val (i64 v1)), (27, .val (i64 s16.2))] rfl ?_ ?_
  · simp [hc21, hc21s] <;> simp [ieq, ilt, ile]
  obtain ⟨l22, hl22, hx16o⟩ := bind_some hx16o
  rw [Option.some.inj hl22]
  obtain ⟨v23, hv23, hx16o⟩ := bind_some hx16o
  obtain ⟨hv23a, hv23b, hv23c, hv23d⟩ := idx_some hv23
  obtain ⟨v24, hv24, hx16o⟩ := bind_some hx16o
  obtain ⟨hv24a, hv24b, hv24c, hv24d⟩ := idx_some hv24
  obtain ⟨v25, hv25, hx16o⟩ := bind_some hx16o
  obtain ⟨hv25a, hv25b, hv25c, hv25d⟩ := idx_some hv25
  obtain ⟨v26, hv26, hx16o⟩ := bind_some hx16o
  refine VW.wds tau_ok (Sound.none.add 61 (i_field_num_ok hv26) rfl) try_mixed [some 34, some 35, some 36, some 37, some 38, some 39, some 40, some 41, some 42, some 43, some 44, some 45, some 46, some 47, some 48, some 49, some 50, some 51, some 52, some 53, some 54, some 55, some 56, some 57, some 58, some 59, some 60, some 61, some 62, none] [(3, .val (i64 v1)), (4, .val (i64 v2)), (5, .ref 5 [] true (dM v3)), (6, .ref 6 [] true (dM s16.1)), (7, .val (i64 s5.2)), (8, .val (i64 s11.2)), (9, .val (i64 s16.2)), (10, .ref 10 [] true (dI (l22.set (w64 ((w64 (s16.2 * v1)) + (bxor .i64 s5.2 s11.2))).toNat v26))), (18, .val (i64 v1)), (19, .val (i64 s5.2)), (22, .val (i64 v1)), (23, .val (i64 s11.2)), (26, .val (i64 v1)), (27, .val (i64 s16.2))] 29 rfl (by kernel_rfl) (by rfl) ?_ ?_
  · simp [hv23a, hv23b, hv23c, hv23d, hv24a, hv24b, hv24c, hv24d, hv25a, hv25b, hv25c, hv25d] <;> simp [ieq, ilt, ile]
  obtain ⟨l27, hl27, hx16o⟩ := bind_some hx16o
  rw [Option.some.inj hl27]
  obtain ⟨v28, hv28, hx16o⟩ := bind_some hx16o
  obtain ⟨hv28a, hv28b, hv28c, hv28d⟩ := idx_some hv28
  obtain ⟨v29, hv29, hx16o⟩ := bind_some hx16o
  obtain ⟨hv29a, hv29b, hv29c, hv29d⟩ := idx_some hv29
  obtain ⟨v30, hv30, hx16o⟩ := bind_some hx16o
  obtain ⟨hv30a, hv30b, hv30c, hv30d⟩ := idx_some hv30
  obtain ⟨v31, hv31, hx16o⟩ := bind_some hx16o
  refine VW.wds tau_ok (Sound.none.add 92 (i_field_num_ok hv31) rfl) try_mixed [some 63, some 64, some 65, some 66, some 67, some 68, some 69, some 70, some 71, some 72, some 73, some 74, some 75, some 76, some 77, some 78, some 79, some 80, some 81, some 82, some 83, some 84, some 85, some 86, some 87, some 88, some 89, some 90, some 91, some 92, some 93, none] [(3, .val (i64 v1)), (4, .val (i64 v2)), (5, .ref 5 [] true (dM v3)), (6, .ref 6 [] true (dM s16.1)), (7, .val (i64 s5.2)), (8, .val (i64 s11.2)), (9, .val (i64 s16.2)), (10, .ref 10 [] true (dI (l27.set (w64 ((w64 ((bxor .i64 s16.2 s11.2) * v1)) + s5.2)).toNat v31))), (18, .val (i64 v1)), (19, .val (i64 s5.2)), (22, .val (i64 v1)), (23, .val (i64 s11.2)), (26, .val (i64 v1)), (27, .val (i64 s16.2))] 31 rfl (by kernel_rfl) (by rfl) ?_ ?_
  · simp [hv28a, hv28b, hv28c, hv28d, hv29a, hv29b, hv29c, hv29d, hv30a, hv30b, hv30c, hv30d] <;> simp [ieq, ilt, ile]
  obtain ⟨l32, hl32, hx16o⟩ := bind_some hx16o
  rw [Option.some.inj hl32]
  obtain ⟨v33, hv33, hx16o⟩ := bind_some hx16o
  obtain ⟨hv33a, hv33b, hv33c, hv33d⟩ := idx_some hv33
  obtain ⟨v34, hv34, hx16o⟩ := bind_some hx16o
  obtain ⟨hv34a, hv34b, hv34c, hv34d⟩ := idx_some hv34
  obtain ⟨v35, hv35, hx16o⟩ := bind_some hx16o
  refine VW.wds tau_ok (Sound.none.add 123 (i_field_num_ok hv35) rfl) try_mixed [some 94, some 95, some 96, some 97, some 98, some 99, some 100, some 101, some 102, some 103, some 104, some 105, some 106, some 107, some 108, some 109, some 110, some 111, some 112, some 113, some 114, some 115, some 116, some 117, some 118, some 119, some 120, some 121, some 122, some 123, some 124, none] [(3, .val (i64 v1)), (4, .val (i64 v2)), (5, .ref 5 [] true (dM v3)), (6, .ref 6 [] true (dM s16.1)), (7, .val (i64 s5.2)), (8, .val (i64 s11.2)), (10, .ref 10 [] true (dI (l32.set (w64 ((w64 ((bxor .i64 s16.2 s5.2) * v1)) + s11.2)).toNat v35))), (18, .val (i64 v1)), (19, .val (i64 s5.2)), (22, .val (i64 v1)), (23, .val (i64 s11.2)), (26, .val (i64 v1)), (27, .val (i64 s16.2))] 31 rfl (by kernel_rfl) (by rfl) ?_ ?_
  · simp [hv33a, hv33b, hv33c, hv33d, hv24a, hv24b, hv24c, hv24d, hv34a, hv34b, hv34c, hv34d] <;> simp [ieq, ilt, ile]
  obtain ⟨hc36, hx16o⟩ := chk_some hx16o
  have hc36s := hc36
  try simp at hc36s
  refine VW.wr tau_ok Sound.none [some 125, some 126, some 127, some 128, some 6] [(3, .val (i64 v1)), (4, .val (i64 v2)), (5, .ref 5 [] true (dM v3)), (6, .ref 6 [] true (dM (s16.1 ++ [l32.set (w64 ((w64 ((bxor .i64 s16.2 s5.2) * v1)) + s11.2)).toNat v35]))), (7, .val (i64 s5.2)), (8, .val (i64 s11.2)), (18, .val (i64 v1)), (19, .val (i64 s5.2)), (22, .val (i64 v1)), (23, .val (i64 s11.2)), (26, .val (i64 v1)), (27, .val (i64 s16.2))] rfl ?_ ?_
  · simp [hc36, hc36s] <;> simp [ieq, ilt, ile]
  refine hK20 _ ?_
  refine VW.wr tau_ok Sound.none [some 129, some 27] [(3, .val (i64 v1)), (4, .val (i64 v2)), (5, .ref 5 [] true (dM v3)), (6, .ref 6 [] true (dM (s16.1 ++ [l32.set (w64 ((w64 ((bxor .i64 s16.2 s5.2) * v1)) + s11.2)).toNat v35]))), (7, .val (i64 s5.2)), (8, .val (i64 s11.2)), (18, .val (i64 v1)), (19, .val (i64 s5.2)), (22, .val (i64 v1)), (23, .val (i64 s11.2)), (26, .val (i64 v1)), (27, .val (i64 (w64 (s16.2 + 1))))] rfl ?_ ?_
  · simp <;> simp [ieq, ilt, ile]
  cases hx16o
  exact ⟨_, rfl, Fits.of rfl⟩

theorem i_rowsIn_ok {a0 : List Int} {a1 : Int} {r : List (List Int)} (h : i_rowsIn a0 a1 = some r) :
    VCall Try.prog 118 [dI a0, i64 a1] [.own true (dM r)] := by
  unfold i_rowsIn at h
  refine VCall.enter Try.call118 Try.func118 rfl 26 Try.ntmps118 (by simp) [.tmp 4] rfl ?_
  show VW _ _ _ (mk [(0, .val (dI a0)), (1, .val (i64 a1))]) _
  refine VW.ws tau_ok Sound.none [some 4] [(0, .val (dI a0)), (1, .val (i64 a1))] rfl ?_ ?_
  · simp <;> simp [ieq, ilt, ile]
  refine VW.ws tau_ok Sound.none [some 7, some 5] [(0, .val (dI a0)), (1, .val (i64 a1)), (5, .ref 5 [] true (dM []))] rfl ?_ ?_
  · simp <;> simp [ieq, ilt, ile]
  refine VW.sqc fun K1 hK1 hCK1 => ?_
  refine VW.ws tau_ok Sound.none [some 6] [(0, .val (dI a0)), (1, .val (i64 a1)), (5, .ref 5 [] true (dM [])), (6, .val (i64 0))] rfl ?_ ?_
  · simp <;> simp [ieq, ilt, ile]
  obtain ⟨x2, hx2, h⟩ := bind_some h
  refine VW.tlE [(5, .ref 5 [] true (dM x2))] (hCK1) ?_ ?_
  · clear hx2
    refine hK1 _ ?_
    refine VW.ws tau_ok Sound.none [some 25, some 4] [(4, .ref 4 [] true (dM x2))] rfl ?_ ?_
    · simp <;> simp [ieq, ilt, ile]
    cases h
    refine VW.ret ?_
    simp [Post, PostM, PostC, PostC2, Nx, Bk]
  refine VW.block ?_
  refine VW.loopF (i_rowsIn_L0 a0 a1) (fun s2 => [(0, .val (dI a0)), (1, .val (i64 a1)), (5, .ref 5 [] true (dM s2.1)), (6, .val (i64 s2.2))]) hx2 (Fits.of rfl) ?_
  clear hx2
  intro s2 ox2 hx2o hx2b
  unfold i_rowsIn_L0 at hx2o
  refine VW.sqc fun K4 hK4 hCK4 => ?_
  refine VW.ws tau_ok Sound.none [some 8, some 9, some 10, some 11] [(0, .val (dI a0)), (1, .val (i64 a1)), (5, .ref 5 [] true (dM s2.1)), (6, .val (i64 s2.2)), (11, .val (.bool (ilt s2.2 (a0.length : Int))))] rfl ?_ ?_
  · simp <;> simp [ieq, ilt, ile]
  refine VW.cond rfl (fun hb5 => ?_) (fun hb5 => ?_)
  rotate_left
  ·
    replace hb5 : ¬ (s2.2 < (a0.length : Int)) := by simpa [ieq, ilt, ile] using hb5
    rw [if_neg hb5] at hx2o
    refine VW.exit ?_
    cases hx2o
    have hq := hx2b _ rfl
    subst hq
    exact Fits.of rfl
  replace hb5 : s2.2 < (a0.length : Int) := by simpa [ieq, ilt, ile] using hb5
  rw [if_pos hb5] at hx2o
  refine VW.skip ?_
  refine hK4 _ ?_
  refine VW.sqc fun K6 hK6 hCK6 => ?_
  refine VW.block ?_
  obtain ⟨hc7, hx2o⟩ := chk_some hx2o
  have hc7s := hc7
  try simp at hc7s
  obtain ⟨v8, hv8, hx2o⟩ := bind_some hx2o
  obtain ⟨hc9, hx2o⟩ := chk_some hx2o
  have hc9s := hc9
  try simp at hc9s
  refine VW.wr tau_ok (Sound.none.add 22 (g_slices_Clone_LI_I_ok hv8) rfl) [some 15, some 16, some 17, some 18, some 19, some 20, some 21, some 22, some 23, some 24, some 5] [(0, .val (dI a0)), (1, .val (i64 a1)), (5, .ref 5 [] true (dM (s2.1 ++ [v8]))), (6, .val (i64 s2.2))] rfl ?_ ?_
  · simp [hc7, hc7s, hc9, hc9s] <;> simp [ieq, ilt, ile]
  refine hK6 _ ?_
  refine VW.wr tau_ok Sound.none [some 12, some 13, some 14, some 6] [(0, .val (dI a0)), (1, .val (i64 a1)), (5, .ref 5 [] true (dM (s2.1 ++ [v8]))), (6, .val (i64 (w64 (s2.2 + a1))))] rfl ?_ ?_
  · simp <;> simp [ieq, ilt, ile]
  cases hx2o
  exact ⟨_, rfl, Fits.of rfl⟩

theorem i_field_dot_ok {a0 : Int} {a1 : List Int} {a2 : List Int} {r : Int} (h : i_field_dot a0 a1 a2 = some r) :
    VCall Try.prog 184 [i64 a0, dI a1, dI a2] [.sc (i64 r)] := by
  unfold i_field_dot at h
  refine VCall.enter Try.call184 Try.func184 rfl 29 Try.ntmps184 (by simp) [.tmp 6] rfl ?_
  show VW _ _ _ (mk [(0, .val (i64 a0)), (1, .val (dI a1)), (2, .val (dI a2))]) _
  refine VW.ws tau_ok Sound.none [some 6] [(0, .val (i64 a0)), (1, .val (dI a1)), (2, .val (dI a2))] rfl ?_ ?_
  · simp <;> simp [ieq, ilt, ile]
  refine VW.ws tau_ok Sound.none [some 7] [(0, .val (i64 a0)), (1, .val (dI a1)), (2, .val (dI a2)), (7, .val (i64 0))] rfl ?_ ?_
  · simp <;> simp [ieq, ilt, ile]
  refine VW.sqc fun K1 hK1 hCK1 => ?_
  refine VW.ws tau_ok Sound.none [some 10, some 11, some 12] [(0, .val (i64 a0)), (2, .val (dI a2)), (7, .val (i64 0)), (10, .val (dI a1)), (11, .val (i64 (a1.length : Int))), (12, .val (i64 0))] rfl ?_ ?_
  · simp <;> simp [ieq, ilt, ile]
  obtain ⟨x2, hx2, h⟩ := bind_some h
  refine VW.tlE [(0, .val (i64 a0)), (7, .val (i64 x2))] (hCK1) ?_ ?_
  · clear hx2
    refine hK1 _ ?_
    obtain ⟨v9, hv9, h⟩ := bind_some h
    refine VW.ws tau_ok (Sound.none.add 28 (i_field_num_ok hv9) rfl) [some 26, some 27, some 28, some 6] [(6, .val (i64 v9))] rfl ?_ ?_
    · simp <;> simp [ieq, ilt, ile]
    cases h
    refine VW.ret ?_
    simp [Post, PostM, PostC, PostC2, Nx, Bk]
  refine VW.block ?_
  refine VW.loopF (i_field_dot_L0 a1 a2) (fun s2 => [(0, .val (i64 a0)), (2, .val (dI a2)), (7, .val (i64 s2.1)), (10, .val (dI a1)), (11, .val (i64 (a1.length : Int))), (12, .val (i64 s2.2))]) hx2 (Fits.of rfl) ?_
  clear hx2
  intro s2 ox2 hx2o hx2b
  unfold i_field_dot_L0 at hx2o
  refine VW.ws tau_ok Sound.none [some 13] [(0, .val (i64 a0)), (2, .val (dI a2)), (7, .val (i64 s2.1)), (10, .val (dI a1)), (11, .val (i64 (a1.length : Int))), (12, .val (i64 s2.2)), (13, .val (.bool (ilt s2.2 (a1.length : Int))))] rfl ?_ ?_
  · simp <;> simp [ieq, ilt, ile]
  refine VW.sqc fun K4 hK4 hCK4 => ?_
  refine VW.cond rfl (fun hb5 => ?_) (fun hb5 => ?_)
  rotate_left
  ·
    replace hb5 : ¬ (s2.2 < (a1.length : Int)) := by simpa [ieq, ilt, ile] using hb5
    rw [if_neg hb5] at hx2o
    refine VW.exit ?_
    cases hx2o
    have hq := hx2b _ rfl
    subst hq
    exact Fits.of rfl
  replace hb5 : s2.2 < (a1.length : Int) := by simpa [ieq, ilt, ile] using hb5
  rw [if_pos hb5] at hx2o
  refine VW.skip ?_
  refine hK4 _ ?_
  refine VW.sqc fun K6 hK6 hCK6 => ?_
  refine VW.block ?_
  obtain ⟨v7, hv7, hx2o⟩ := bind_some hx2o
  obtain ⟨hv7a, hv7b, hv7c, hv7d⟩ := idx_some hv7
  refine VW.ws tau_ok Sound.none [some 14, some 15, some 16, some 8, some 9] [(0, .val (i64 a0)), (2, .val (dI a2)), (7, .val (i64 s2.1)), (8, .val (i64 s2.2)), (9, .val (i64 v7)), (10, .val (dI a1)), (11, .val (i64 (a1.length : Int))), (12, .val (i64 s2.2))] rfl ?_ ?_
  · simp [hv7a, hv7b, hv7c, hv7d] <;> simp [ieq, ilt, ile]
  obtain ⟨v8, hv8, hx2o⟩ := bind_some hx2o
  obtain ⟨hv8a, hv8b, hv8c, hv8d⟩ := idx_some hv8
  refine VW.wr tau_ok Sound.none [some 17, some 18, some 19, some 20, some 21, some 22, some 23, some 24, some 7] [(0, .val (i64 a0)), (2, .val (dI a2)), (7, .val (i64 (w64 (s2.1 + (w64 (v7 * v8)))))), (10, .val (dI a1)), (11, .val (i64 (a1.length : Int))), (12, .val (i64 s2.2))] rfl ?_ ?_
  · simp [hv8a, hv8b, hv8c, hv8d] <;> simp [ieq, ilt, ile]
  refine hK6 _ ?_
  refine VW.wr tau_ok Sound.none [some 25, some 12] [(0, .val (i64 a0)), (2, .val (dI a2)), (7, .val (i64 (w64 (s2.1 + (w64 (v7 * v8)))))), (10, .val (dI a1)), (11, .val (i64 (a1.length : Int))), (12, .val (i64 (w64 (s2.2 + 1))))] rfl ?_ ?_
  · simp <;> simp [ieq, ilt, ile]
  cases hx2o
  exact ⟨_, rfl, Fits.of rfl⟩

theorem i_field_apply_ok {a0 : Int} {a1 : List (List Int)} {a2 : List Int} {r : List Int} (h : i_field_apply a0 a1 a2 = some r) :
    VCall Try.prog 117 [i64 a0, dM a1, dI a2] [.own true (dI r)] := by
  unfold i_field_apply at h
  refine VCall.enter Try.call117 Try.func117 rfl 26 Try.ntmps117 (by simp) [.tmp 6] rfl ?_
  show VW _ _ _ (mk [(0, .val (i64 a0)), (1, .val (dM a1)), (2, .val (dI a2))]) _
  refine VW.ws tau_ok Sound.none [some 6] [(0, .val (i64 a0)), (1, .val (dM a1)), (2, .val (dI a2))] rfl ?_ ?_
  · simp <;> simp [ieq, ilt, ile]
  refine VW.ws tau_ok Sound.none [some 10, some 7] [(0, .val (i64 a0)), (1, .val (dM a1)), (2, .val (dI a2)), (7, .ref 7 [] true (dI []))] rfl ?_ ?_
  · simp <;> simp [ieq, ilt, ile]
  refine VW.sqc fun K1 hK1 hCK1 => ?_
  refine VW.ws tau_ok Sound.none [some 11, some 12, some 13] [(0, .val (i64 a0)), (2, .val (dI a2)), (7, .ref 7 [] true (dI [])), (11, .val (dM a1)), (12, .val (i64 (a1.length : Int))), (13, .val (i64 0))] rfl ?_ ?_
  · simp <;> simp [ieq, ilt, ile]
  obtain ⟨x2, hx2, h⟩ := bind_some h
  refine VW.tlE [(7, .ref 7 [] true (dI x2))] (hCK1) ?_ ?_
  · clear hx2
    refine hK1 _ ?_
    refine VW.ws tau_ok Sound.none [some 25, some 6] [(6, .ref 6 [] true (dI x2))] rfl ?_ ?_
    · simp <;> simp [ieq, ilt, ile]
    cases h
    refine VW.ret ?_
    simp [Post, PostM, PostC, PostC2, Nx, Bk]
  refine VW.block ?_
  refine VW.loopF (i_field_apply_L0 a0 a1 a2) (fun s2 => [(0, .val (i64 a0)), (2, .val (dI a2)), (7, .ref 7 [] true (dI s2.1)), (11, .val (dM a1)), (12, .val (i64 (a1.length : Int))), (13, .val (i64 s2.2))]) hx2 (Fits.of rfl) ?_
  clear hx2
  intro s2 ox2 hx2o hx2b
  unfold i_field_apply_L0 at hx2o
  refine VW.ws tau_ok Sound.none [some 14] [(0, .val (i64 a0)), (2, .val (dI a2)), (7, .ref 7 [] true (dI s2.1)), (11, .val (dM a1)), (12, .val (i64 (a1.length : Int))), (13, .val (i64 s2.2)), (14, .val (.bool (ilt s2.2 (a1.length : Int))))] rfl ?_ ?_
  · simp <;> simp [ieq, ilt, ile]
  refine VW.sqc fun K4 hK4 hCK4 => ?_
  refine VW.cond rfl (fun hb5 => ?_) (fun hb5 => ?_)
  rotate_left
  ·
    replace hb5 : ¬ (s2.2 < (a1.length : Int)) := by simpa [ieq, ilt, ile] using hb5
    rw [if_neg hb5] at hx2o
    refine VW.exit ?_
    cases hx2o
    have hq := hx2b _ rfl
    subst hq
    exact Fits.of rfl
  replace hb5 : s2.2 < (a1.length : Int) := by simpa [ieq, ilt, ile] using hb5
  rw [if_pos hb5] at hx2o
  refine VW.skip ?_
  refine hK4 _ ?_
  refine VW.sqc fun K6 hK6 hCK6 => ?_
  refine VW.block ?_
  obtain ⟨v7, hv7, hx2o⟩ := bind_some hx2o
  obtain ⟨hv7a, hv7b, hv7c, hv7d⟩ := idx_some hv7
  refine VW.ws tau_ok Sound.none [some 15, some 16, some 9] [(0, .val (i64 a0)), (2, .val (dI a2)), (7, .ref 7 [] true (dI s2.1)), (9, .val (dI v7)), (11, .val (dM a1)), (12, .val (i64 (a1.length : Int))), (13, .val (i64 s2.2))] rfl ?_ ?_
  · simp [hv7a, hv7b, hv7c, hv7d] <;> simp [ieq, ilt, ile]
  obtain ⟨v8, hv8, hx2o⟩ := bind_some hx2o
  obtain ⟨hc9, hx2o⟩ := chk_some hx2o
  have hc9s := hc9
  try simp at hc9s
  refine VW.wr tau_ok (Sound.none.add 21 (i_field_dot_ok hv8) rfl) [some 17, some 18, some 19, some 20, some 21, some 22, some 23, some 7] [(0, .val (i64 a0)), (2, .val (dI a2)), (7, .ref 7 [] true (dI (s2.1 ++ [v8]))), (11, .val (dM a1)), (12, .val (i64 (a1.length : Int))), (13, .val (i64 s2.2))] rfl ?_ ?_
  · simp [hc9, hc9s] <;> simp [ieq, ilt, ile]
  refine hK6 _ ?_
  refine VW.wr tau_ok Sound.none [some 24, some 13] [(0, .val (i64 a0)), (2, .val (dI a2)), (7, .ref 7 [] true (dI (s2.1 ++ [v8]))), (11, .val (dM a1)), (12, .val (i64 (a1.length : Int))), (13, .val (i64 (w64 (s2.2 + 1))))] rfl ?_ ?_
  · simp <;> simp [ieq, ilt, ile]
  cases hx2o
  exact ⟨_, rfl, Fits.of rfl⟩

theorem i_FixingDimension_ok {a0_0 : Int} {a0_1 : List Int} {a1 : List Int} {r : Int × Int} (h : i_FixingDimension a0_0 a0_1 a1 = some r) :
    VCall Try.prog 51 [.agg [i64 a0_0, dI a0_1], dI a1] [.sc (i64 r.1), .sc (i64 r.2)] := by
  unfold i_FixingDimension at h
  refine VCall.enter Try.call51 Try.func51 rfl 47 Try.ntmps51 (by simp) [.tmp 4, .tmp 5] rfl ?_
  show VW _ _ _ (mk [(0, .val (.agg [i64 a0_0, dI a0_1])), (1, .val (dI a1))]) _
  refine VW.ws tau_ok Sound.none [some 2, some 4, some 5] [(1, .val (dI a1)), (2, .val (.ptr [i64 a0_0, dI a0_1]))] rfl ?_ ?_
  · simp <;> simp [ieq, ilt, ile]
  refine VW.sqc fun K1 hK1 hCK1 => ?_
  obtain ⟨v2, hv2, h⟩ := bind_some h
  refine VW.ws tau_ok (Sound.none.add 14 (i_checkThree_ok hv2) rfl) [some 11, some 12, some 13, some 14, some 6] [(1, .val (dI a1)), (2, .val (.ptr [i64 a0_0, dI a0_1])), (6, .val (i64 v2))] rfl ?_ ?_
  · simp <;> simp [ieq, ilt, ile]
  refine VW.ws tau_ok Sound.none [some 15, some 16] [(1, .val (dI a1)), (2, .val (.ptr [i64 a0_0, dI a0_1])), (6, .val (i64 v2)), (16, .val (.bool (!(ieq v2 0))))] rfl ?_ ?_
  · simp <;> simp [ieq, ilt, ile]
  refine VW.cond rfl (fun hb3 => ?_) (fun hb3 => ?_)
  ·
    replace hb3 : ¬ v2 = 0 := by simpa [ieq, ilt, ile] using hb3
    rw [if_pos hb3] at h
    refine VW.ws tau_ok Sound.none [some 17, some 4, some 5] [(4, .val (i64 0)), (5, .val (i64 v2))] rfl ?_ ?_
    · simp <;> simp [ieq, ilt, ile]
    cases h
    refine VW.ret ?_
    simp [Post, PostM, PostC, PostC2, Nx, Bk]
  replace hb3 : ¬ (¬ v2 = 0) := by simpa [ieq, ilt, ile] using hb3
  rw [if_neg hb3] at h
  refine VW.skip ?_
  refine hK1 _ ?_
  obtain ⟨v4, hv4, h⟩ := bind_some h
  refine VW.ws tau_ok (Sound.none.add 19 (i_Doubling_derivations_ok hv4) rfl) [some 18, some 19, some 20, some 7, some 8] [(1, .val (dI a1)), (2, .val (.ptr [i64 a0_0, dI a0_1])), (7, .ref 7 [] true (dM v4)), (8, .ref 8 [] true (dM []))] rfl ?_ ?_
  · simp <;> simp [ieq, ilt, ile]
  refine VW.sqc fun K5 hK5 hCK5 => ?_
  refine VW.ws tau_ok Sound.none [some 21, some 22, some 23] [(1, .val (dI a1)), (2, .val (.ptr [i64 a0_0, dI a0_1])), (7, .ref 7 [] true (dM v4)), (8, .ref 8 [] true (dM [])), (21, .ref 7 [] true (dM v4)), (22, .val (i64 (v4.length : Int))), (23, .val (i64 0))] rfl ?_ ?_
  · simp <;> simp [ieq, ilt, ile]
  obtain ⟨x6, hx6, h⟩ := bind_some h
  refine VW.tlE [(2, .val (.ptr [i64 a0_0, dI a0_1])), (7, .ref 7 [] true (dM v4)), (8, .ref 8 [] true (dM x6))] (hCK5) ?_ ?_
  · clear hx6
    refine hK5 _ ?_
    obtain ⟨v17, hv17, h⟩ := bind_some h
    obtain ⟨v18, hv18, h⟩ := bind_some h
    refine VW.ws tau_ok ((Sound.none.add 42 (i_Doubling_field_ok hv17) rfl).add 44 (i_field_basis_ok hv18) rfl) [some 39, some 40, some 41, some 42, some 43, some 44, some 45, some 46, some 4, some 5] [(4, .val (i64 (w64 ((v4.length : Int) - (v18.length : Int))))), (5, .val (i64 0))] rfl ?_ ?_
    · simp <;> simp [ieq, ilt, ile]
    cases h
    refine VW.ret ?_
    simp [Post, PostM, PostC, PostC2, Nx, Bk]
  refine VW.block ?_
  refine VW.loopF (i_FixingDimension_L0 a0_0 a0_1 a1 v4) (fun s6 => [(1, .val (dI a1)), (2, .val (.ptr [i64 a0_0, dI a0_1])), (7, .ref 7 [] true (dM v4)), (8, .ref 8 [] true (dM s6.1)), (21, .ref 7 [] true (dM v4)), (22, .val (i64 (v4.length : Int))), (23, .val (i64 s6.2))]) hx6 (Fits.of rfl) ?_
  clear hx6
  intro s6 ox6 hx6o hx6b
  unfold i_FixingDimension_L0 at hx6o
  refine VW.ws tau_ok Sound.none [some 24] [(1, .val (dI a1)), (2, .val (.ptr [i64 a0_0, dI a0_1])), (7, .ref 7 [] true (dM v4)), (8, .ref 8 [] true (dM s6.1)), (21, .ref 7 [] true (dM v4)), (22, .val (i64 (v4.length : Int))), (23, .val (i64 s6.2)), (24, .val (.bool (ilt s6.2 (v4.length : Int))))] rfl ?_ ?_
  · simp <;> simp [ieq, ilt, ile]
  refine VW.sqc fun K8 hK8 hCK8 => ?_
  refine VW.cond rfl (fun hb9 => ?_) (fun hb9 => ?_)
  rotate_left
  ·
    replace hb9 : ¬ (s6.2 < (v4.length : Int)) := by simpa [ieq, ilt, ile] using hb9
    rw [if_neg hb9] at hx6o
    refine VW.exit ?_
    cases hx6o
    have hq := hx6b _ rfl
    subst hq
    exact Fits.of rfl
  replace hb9 : s6.2 < (v4.length : Int) := by simpa [ieq, ilt, ile] using hb9
  rw [if_pos hb9] at hx6o
  refine VW.skip ?_
  refine hK8 _ ?_
  refine VW.sqc fun K10 hK10 hCK10 => ?_
  refine VW.block ?_
  obtain ⟨v11, hv11, hx6o⟩ := bind_some hx6o
  obtain ⟨hv11a, hv11b, hv11c, hv11d⟩ := idx_some hv11
  refine VW.ws tau_ok Sound.none [some 25, some 26, some 10] [(1, .val (dI a1)), (2, .val (.ptr [i64 a0_0, dI a0_1])), (7, .ref 7 [] true (dM v4)), (8, .ref 8 [] true (dM s6.1)), (10, .ref 7 [s6.2.toNat] true (dI v11)), (21, .ref 7 [] true (dM v4)), (22, .val (i64 (v4.length : Int))), (23, .val (i64 s6.2))] rfl ?_ ?_
  · simp [hv11a, hv11b, hv11c, hv11d] <;> simp [ieq, ilt, ile]
  obtain ⟨v12, hv12, hx6o⟩ := bind_some hx6o
  obtain ⟨v13, hv13, hx6o⟩ := bind_some hx6o
  obtain ⟨v14, hv14, hx6o⟩ := bind_some hx6o
  obtain ⟨v15, hv15, hx6o⟩ := bind_some hx6o
  obtain ⟨hc16, hx6o⟩ := chk_some hx6o
  have hc16s := hc16
  try simp at hc16s
  refine VW.wdr tau_ok ((((Sound.none.add 29 (i_Doubling_field_ok hv12) rfl).add 32 (i_Doubling_size_ok hv13) rfl).add 33 (i_rowsIn_ok hv14) rfl).add 35 (i_field_apply_ok hv15) rfl) try_mixed [some 27, some 28, some 29, some 30, some 31, some 32, some 33, some 34, some 35, some 36, some 37, some 8] [(1, .val (dI a1)), (2, .val (.ptr [i64 a0_0, dI a0_1])), (7, .ref 7 [] true (dM v4)), (8, .ref 8 [] true (dM (s6.1 ++ [v15]))), (21, .ref 7 [] true (dM v4)), (22, .val (i64 (v4.length : Int))), (23, .val (i64 s6.2))] 9 rfl (by kernel_rfl) (by rfl) ?_ ?_
  · simp [hc16, hc16s] <;> simp [ieq, ilt, ile]
  refine hK10 _ ?_
  refine VW.wr tau_ok Sound.none [some 38, some 23] [(1, .val (dI a1)), (2, .val (.ptr [i64 a0_0, dI a0_1])), (7, .ref 7 [] true (dM v4)), (8, .ref 8 [] true (dM (s6.1 ++ [v15]))), (21, .ref 7 [] true (dM v4)), (22, .val (i64 (v4.length : Int))), (23, .val (i64 (w64 (s6.2 + 1))))] rfl ?_ ?_
  · simp <;> simp [ieq, ilt, ile]
  cases hx6o
  exact ⟨_, rfl, Fits.of rfl⟩

theorem s_l01Prime_ok {a0 : Int} {r : Bool} (h : s_l01Prime a0 = some r) :
    VCall Try.prog 169 [i64 a0] [.sc (.bool r)] := by
  unfold s_l01Prime at h
  refine VCall.enter Try.call169 Try.func169 rfl 21 Try.ntmps169 (by simp) [.tmp 2] rfl ?_
  show VW _ _ _ (mk [(0, .val (i64 a0))]) _
  refine VW.ws tau_ok Sound.none [some 2] [(0, .val (i64 a0))] rfl ?_ ?_
  · simp <;> simp [ieq, ilt, ile]
  obtain ⟨x5, hx5, h⟩ := bind_some h
  refine VW.cut [(2, .val (.bool x5))] ?_ fun hy => ?_
  rotate_left
  · clear h
    by_cases hp1 : a0 = 3
    · rw [if_pos hp1] at hx5
      have hp1b : ieq a0 3 = true := by simpa [ieq, ilt, ile] using hp1
      have hp1s := hp1b
      try simp at hp1s
      cases hx5
      refine VW.ws tau_ok Sound.none [some 3, some 4, some 5, some 6, some 7, some 8, some 9, some 10, some 11, some 12, some 13, some 14, some 15, some 16, some 17, some 18, some 19, some 20, some 2] _ rfl ?_ hy
      simp [hp1b, hp1s] <;> simp [ieq, ilt, ile]
    · rw [if_neg hp1] at hx5
      have hp1b : ieq a0 3 = false := by simpa [ieq, ilt, ile] using hp1
      have hp1s := hp1b
      try simp at hp1s
      by_cases hp2 : a0 = 5
      · rw [if_pos hp2] at hx5
        have hp2b : ieq a0 5 = true := by simpa [ieq, ilt, ile] using hp2
        have hp2s := hp2b
        try simp at hp2s
        cases hx5
        refine VW.ws tau_ok Sound.none [some 3, some 4, some 5, some 6, some 7, some 8, some 9, some 10, some 11, some 12, some 13, some 14, some 15, some 16, some 17, some 18, some 19, some 20, some 2] _ rfl ?_ hy
        simp [hp1b, hp1s, hp2b, hp2s] <;> simp [ieq, ilt, ile]
      · rw [if_neg hp2] at hx5
        have hp2b : ieq a0 5 = false := by simpa [ieq, ilt, ile] using hp2
        have hp2s := hp2b
        try simp at hp2s
        by_cases hp3 : a0 = 7
        · rw [if_pos hp3] at hx5
          have hp3b : ieq a0 7 = true := by simpa [ieq, ilt, ile] using hp3
          have hp3s := hp3b
          try simp at hp3s
          cases hx5
          refine VW.ws tau_ok Sound.none [some 3, some 4, some 5, some 6, some 7, some 8, some 9, some 10, some 11, some 12, some 13, some 14, some 15, some 16, some 17, some 18, some 19, some 20, some 2] _ rfl ?_ hy
          simp [hp1b, hp1s, hp2b, hp2s, hp3b, hp3s] <;> simp [ieq, ilt, ile]
        · rw [if_neg hp3] at hx5
          have hp3b : ieq a0 7 = false := by simpa [ieq, ilt, ile] using hp3
          have hp3s := hp3b
          try simp at hp3s
          by_cases hp4 : a0 = 11
          · rw [if_pos hp4] at hx5
            have hp4b : ieq a0 11 = true := by simpa [ieq, ilt, ile] using hp4
            have hp4s := hp4b
            try simp at hp4s
            cases hx5
            refine VW.ws tau_ok Sound.none [some 3, some 4, some 5, some 6, some 7, some 8, some 9, some 10, some 11, some 12, some 13, some 14, some 15, some 16, some 17, some 18, some 19, some 20, some 2] _ rfl ?_ hy
            simp [hp1b, hp1s, hp2b, hp2s, hp3b, hp3s, hp4b, hp4s] <;> simp [ieq, ilt, ile]
          · rw [if_neg hp4] at hx5
            have hp4b : ieq a0 11 = false := by simpa [ieq, ilt, ile] using hp4
            have hp4s := hp4b
            try simp at hp4s
            cases hx5
            refine VW.ws tau_ok Sound.none [some 3, some 4, some 5, some 6, some 7, some 8, some 9, some 10, some 11, some 12, some 13, some 14, some 15, some 16, some 17, some 18, some 19, some 20, some 2] _ rfl ?_ hy
            simp [hp1b, hp1s, hp2b, hp2s, hp3b, hp3s, hp4b, hp4s] <;> simp [ieq, ilt, ile]
  cases h
  refine VW.ret ?_
  simp [Post, PostM, PostC, PostC2, Nx, Bk]

theorem s_l01In_ok {a0 : Int} {a1 : Int} {a2 : Int} {r : Bool} (h : s_l01In a0 a1 a2 = some r) :
    VCall Try.prog 76 [i64 a0, i64 a1, i64 a2] [.sc (.bool r)] := by
  unfold s_l01In at h
  refine VCall.enter Try.call76 Try.func76 rfl 15 Try.ntmps76 (by simp) [.tmp 6] rfl ?_
  show VW _ _ _ (mk [(0, .val (i64 a0)), (1, .val (i64 a1)), (2, .val (i64 a2))]) _
  refine VW.ws tau_ok Sound.none [some 6] [(0, .val (i64 a0)), (1, .val (i64 a1)), (2, .val (i64 a2))] rfl ?_ ?_
  · simp <;> simp [ieq, ilt, ile]
  obtain ⟨x2, hx2, h⟩ := bind_some h
  refine VW.cut [(6, .val (.bool x2))] ?_ fun hy => ?_
  rotate_left
  · clear h
    by_cases hp1 : a1 ≤ a0
    · rw [if_pos hp1] at hx2
      have hp1b : ile a1 a0 = true := by simpa [ieq, ilt, ile] using hp1
      have hp1s := hp1b
      try simp at hp1s
      cases hx2
      refine VW.ws tau_ok Sound.none [some 7, some 8, some 9, some 10, some 11, some 12, some 13, some 14, some 6] _ rfl ?_ hy
      simp [hp1b, hp1s] <;> simp [ieq, ilt, ile]
    · rw [if_neg hp1] at hx2
      have hp1b : ile a1 a0 = false := by simpa [ieq, ilt, ile] using hp1
      have hp1s := hp1b
      try simp at hp1s
      cases hx2
      refine VW.ws tau_ok Sound.none [some 7, some 8, some 9, some 10, some 11, some 12, some 13, some 14, some 6] _ rfl ?_ hy
      simp [hp1b, hp1s] <;> simp [ieq, ilt, ile]
  cases h
  refine VW.ret ?_
  simp [Post, PostM, PostC, PostC2, Nx, Bk]

theorem s_l11Is_ok {a0_0 : Int} {a0_1 : List Int} {r : Bool} (h : s_l11Is a0_0 a0_1 = some r) :
    VCall Try.prog 93 [.agg [i64 a0_0, dI a0_1]] [.sc (.bool r)] := by
  unfold s_l11Is at h
  refine VCall.enter Try.call93 Try.func93 rfl 31 Try.ntmps93 (by simp) [.tmp 2] rfl ?_
  show VW _ _ _ (mk [(0, .val (.agg [i64 a0_0, dI a0_1]))]) _
  refine VW.ws tau_ok Sound.none [some 1, some 2] [(1, .val (.ptr [i64 a0_0, dI a0_1]))] rfl ?_ ?_
  · simp <;> simp [ieq, ilt, ile]
  refine VW.sqc fun K1 hK1 hCK1 => ?_
  obtain ⟨x4, hx4, h⟩ := bind_some h
  refine VW.cut [(1, .val (.ptr [i64 a0_0, dI a0_1])), (13, .val (.bool x4))] ?_ fun hy => ?_
  rotate_left
  · clear h
    obtain ⟨v2, hv2, hx4⟩ := bind_some hx4
    by_cases hp3 : v2 = false
    · rw [if_pos hp3] at hx4
      have hp3b : v2 = false := by simpa [ieq, ilt, ile] using hp3
      have hp3s := hp3b
      try simp at hp3s
      cases hx4
      refine VW.ws tau_ok (Sound.none.add 6 (s_l01Prime_ok hv2) rfl) [some 4, some 5, some 6, some 7, some 8, some 9, some 10, some 11, some 12, some 13] _ rfl ?_ hy
      simp [hp3b, hp3s] <;> simp [ieq, ilt, ile]
    · rw [if_neg hp3] at hx4
      have hp3b : v2 = true := by simpa [ieq, ilt, ile] using hp3
      have hp3s := hp3b
      try simp at hp3s
      cases hx4
      refine VW.ws tau_ok (Sound.none.add 6 (s_l01Prime_ok hv2) rfl) [some 4, some 5, some 6, some 7, some 8, some 9, some 10, some 11, some 12, some 13] _ rfl ?_ hy
      simp [hp3b, hp3s] <;> simp [ieq, ilt, ile]
  refine VW.cond rfl (fun hb5 => ?_) (fun hb5 => ?_)
  ·
    replace hb5 : x4 = true := by simpa [ieq, ilt, ile] using hb5
    rw [if_pos hb5] at h
    refine VW.ws tau_ok Sound.none [some 2] [(2, .val (.bool false))] rfl ?_ ?_
    · simp <;> simp [ieq, ilt, ile]
    cases h
    refine VW.ret ?_
    simp [Post, PostM, PostC, PostC2, Nx, Bk]
  replace hb5 : ¬ (x4 = true) := by simpa [ieq, ilt, ile] using hb5
  rw [if_neg hb5] at h
  refine VW.skip ?_
  refine hK1 _ ?_
  refine VW.sqc fun K6 hK6 hCK6 => ?_
  refine VW.ws tau_ok Sound.none [some 3] [(1, .val (.ptr [i64 a0_0, dI a0_1])), (3, .val (i64 0))] rfl ?_ ?_
  · simp <;> simp [ieq, ilt, ile]
  obtain ⟨x7, hx7, h⟩ := bind_some h
  refine VW.tlO (fun y9 => []) x7 (hCK6) ?_ ?_
  · clear hx7
    rintro y9 rfl
    dsimp only at h
    refine hK6 _ ?_
    refine VW.ws tau_ok Sound.none [some 2] [(2, .val (.bool true))] rfl ?_ ?_
    · simp <;> simp [ieq, ilt, ile]
    cases h
    refine VW.ret ?_
    simp [Post, PostM, PostC, PostC2, Nx, Bk]
  refine VW.block ?_
  refine VW.loopF (s_l11Is_L0 a0_0 a0_1) (fun s7 => [(1, .val (.ptr [i64 a0_0, dI a0_1])), (3, .val (i64 s7))]) hx7 (Fits.of rfl) ?_
  clear hx7
  intro s7 ox7 hx7o hx7b
  unfold s_l11Is_L0 at hx7o
  refine VW.sqc fun K10 hK10 hCK10 => ?_
  refine VW.ws tau_ok Sound.none [some 14, some 15, some 16, some 17, some 18] [(1, .val (.ptr [i64 a0_0, dI a0_1])), (3, .val (i64 s7)), (18, .val (.bool (ilt s7 (a0_1.length : Int))))] rfl ?_ ?_
  · simp <;> simp [ieq, ilt, ile]
  refine VW.cond rfl (fun hb11 => ?_) (fun hb11 => ?_)
  rotate_left
  ·
    replace hb11 : ¬ (s7 < (a0_1.length : Int)) := by simpa [ieq, ilt, ile] using hb11
    rw [if_neg hb11] at hx7o
    refine VW.exit ?_
    cases hx7o
    have hq := hx7b _ rfl
    subst hq
    exact ⟨_, rfl, Fits.of rfl⟩
  replace hb11 : s7 < (a0_1.length : Int) := by simpa [ieq, ilt, ile] using hb11
  rw [if_pos hb11] at hx7o
  refine VW.skip ?_
  refine hK10 _ ?_
  refine VW.sqc fun K12 hK12 hCK12 => ?_
  refine VW.block ?_
  obtain ⟨v13, hv13, hx7o⟩ := bind_some hx7o
  obtain ⟨hv13a, hv13b, hv13c, hv13d⟩ := idx_some hv13
  obtain ⟨v14, hv14, hx7o⟩ := bind_some hx7o
  refine VW.wds tau_ok (Sound.none.add 29 (s_l01In_ok hv14) rfl) try_mixed [some 21, some 22, some 23, some 24, some 25, some 26, some 27, some 28, some 29, some 30] [(1, .val (.ptr [i64 a0_0, dI a0_1])), (3, .val (i64 s7)), (30, .val (.bool (!v14)))] 10 rfl (by kernel_rfl) (by rfl) ?_ ?_
  · simp [hv13a, hv13b, hv13c, hv13d] <;> simp [ieq, ilt, ile]
  refine VW.cond rfl (fun hb15 => ?_) (fun hb15 => ?_)
  rotate_left
  ·
    replace hb15 : ¬ (v14 = false) := by simpa [ieq, ilt, ile] using hb15
    rw [if_neg hb15] at hx7o
    refine VW.skip ?_
    refine hK12 _ ?_
    refine VW.wr tau_ok Sound.none [some 19, some 20, some 3] [(1, .val (.ptr [i64 a0_0, dI a0_1])), (3, .val (i64 (w64 (s7 + 1))))] rfl ?_ ?_
    · simp <;> simp [ieq, ilt, ile]
    cases hx7o
    exact ⟨_, rfl, Fits.of rfl⟩
  replace hb15 : v14 = false := by simpa [ieq, ilt, ile] using hb15
  rw [if_pos hb15] at hx7o
  refine VW.ws tau_ok Sound.none [some 2] [(2, .val (.bool false))] rfl ?_ ?_
  · simp <;> simp [ieq, ilt, ile]
  cases hx7o
  have hq := hx7b _ rfl
  subst hq
  dsimp only at h
  cases h
  refine VW.ret ?_
  simp [Post, PostM, PostC, PostC2, Nx, Bk]

theorem s_l14Code_ok {a0_0 : Int} {a0_1 : List Int} {r : Int} (h : s_l14Code a0_0 a0_1 = some r) :
    VCall Try.prog 111 [.agg [i64 a0_0, dI a0_1]] [.sc (i64 r)] := by
  unfold s_l14Code at h
  refine VCall.enter Try.call111 Try.func111 rfl 12 Try.ntmps111 (by simp) [.tmp 2] rfl ?_
  show VW _ _ _ (mk [(0, .val (.agg [i64 a0_0, dI a0_1]))]) _
  refine VW.ws tau_ok Sound.none [some 1, some 2] [(1, .val (.ptr [i64 a0_0, dI a0_1]))] rfl ?_ ?_
  · simp <;> simp [ieq, ilt, ile]
  refine VW.sqc fun K1 hK1 hCK1 => ?_
  refine VW.block ?_
  obtain ⟨v2, hv2, h⟩ := bind_some h
  refine VW.ws tau_ok (Sound.none.add 5 (s_l11Is_ok hv2) rfl) [some 4, some 5, some 6, some 3] [(1, .val (.ptr [i64 a0_0, dI a0_1])), (3, .val (.bool (!v2)))] rfl ?_ ?_
  · simp <;> simp [ieq, ilt, ile]
  refine VW.cond rfl (fun hb3 => ?_) (fun hb3 => ?_)
  ·
    replace hb3 : v2 = false := by simpa [ieq, ilt, ile] using hb3
    rw [if_pos hb3] at h
    refine VW.ws tau_ok Sound.none [some 2] [(2, .val (i64 1))] rfl ?_ ?_
    · simp <;> simp [ieq, ilt, ile]
    cases h
    refine VW.ret ?_
    simp [Post, PostM, PostC, PostC2, Nx, Bk]
  replace hb3 : ¬ (v2 = false) := by simpa [ieq, ilt, ile] using hb3
  rw [if_neg hb3] at h
  refine VW.ws tau_ok Sound.none [some 8, some 9, some 10, some 11, some 7] [(7, .val (.bool (ilt 3 (a0_1.length : Int))))] rfl ?_ ?_
  · simp <;> simp [ieq, ilt, ile]
  refine VW.cond rfl (fun hb4 => ?_) (fun hb4 => ?_)
  ·
    replace hb4 : 3 < (a0_1.length : Int) := by simpa [ieq, ilt, ile] using hb4
    rw [if_pos hb4] at h
    refine VW.ws tau_ok Sound.none [some 2] [(2, .val (i64 3))] rfl ?_ ?_
    · simp <;> simp [ieq, ilt, ile]
    cases h
    refine VW.ret ?_
    simp [Post, PostM, PostC, PostC2, Nx, Bk]
  replace hb4 : ¬ (3 < (a0_1.length : Int)) := by simpa [ieq, ilt, ile] using hb4
  rw [if_neg hb4] at h
  refine VW.skip ?_
  refine hK1 _ ?_
  refine VW.ws tau_ok Sound.none [some 2] [(2, .val (i64 0))] rfl ?_ ?_
  · simp <;> simp [ieq, ilt, ile]
  cases h
  refine VW.ret ?_
  simp [Post, PostM, PostC, PostC2, Nx, Bk]

theorem s_l11Size_ok {a0_0 : Int} {a0_1 : List Int} {r : Int} (h : s_l11Size a0_0 a0_1 = some r) :
    VCall Try.prog 95 [.agg [i64 a0_0, dI a0_1]] [.sc (i64 r)] := by
  unfold s_l11Size at h
  refine VCall.enter Try.call95 Try.func95 rfl 8 Try.ntmps95 (by simp) [.tmp 2] rfl ?_
  show VW _ _ _ (mk [(0, .val (.agg [i64 a0_0, dI a0_1]))]) _
  refine VW.ws tau_ok Sound.none [some 1, some 2] [(1, .val (.ptr [i64 a0_0, dI a0_1]))] rfl ?_ ?_
  · simp <;> simp [ieq, ilt, ile]
  obtain ⟨hc1, h⟩ := chk_some h
  have hc1s := hc1
  try simp at hc1s
  refine VW.ws tau_ok Sound.none [some 3, some 4, some 5, some 6, some 7, some 2] [(2, .val (i64 (shl .i64 1 (IntKind.u64.wrap ((a0_1.length : Int))))))] rfl ?_ ?_
  · simp [hc1, hc1s] <;> simp [ieq, ilt, ile]
  cases h
  refine VW.ret ?_
  simp [Post, PostM, PostC, PostC2, Nx, Bk]

theorem s_l11Element_ok {a0_0 : Int} {a0_1 : List Int} {a1 : List Int} {r : Bool} (h : s_l11Element a0_0 a0_1 a1 = some r) :
    VCall Try.prog 227 [.agg [i64 a0_0, dI a0_1], dI a1] [.sc (.bool r)] := by
  unfold s_l11Element at h
  refine VCall.enter Try.call227 Try.func227 rfl 26 Try.ntmps227 (by simp) [.tmp 4] rfl ?_
  show VW _ _ _ (mk [(0, .val (.agg [i64 a0_0, dI a0_1])), (1, .val (dI a1))]) _
  refine VW.ws tau_ok Sound.none [some 2, some 4] [(1, .val (dI a1)), (2, .val (.ptr [i64 a0_0, dI a0_1]))] rfl ?_ ?_
  · simp <;> simp [ieq, ilt, ile]
  refine VW.sqc fun K1 hK1 hCK1 => ?_
  refine VW.ws tau_ok Sound.none [some 5] [(1, .val (dI a1)), (2, .val (.ptr [i64 a0_0, dI a0_1])), (5, .val (i64 0))] rfl ?_ ?_
  · simp <;> simp [ieq, ilt, ile]
  obtain ⟨x2, hx2, h⟩ := bind_some h
  refine VW.tlO (fun y4 => [(1, .val (dI a1)), (2, .val (.ptr [i64 a0_0, dI a0_1]))]) x2 (hCK1) ?_ ?_
  · clear hx2
    rintro y4 rfl
    dsimp only at h
    refine hK1 _ ?_
    obtain ⟨v11, hv11, h⟩ := bind_some h
    refine VW.ws tau_ok (Sound.none.add 24 (s_l11Size_ok hv11) rfl) [some 21, some 22, some 23, some 24, some 25, some 4] [(4, .val (.bool (ieq (a1.length : Int) v11)))] rfl ?_ ?_
    · simp <;> simp [ieq, ilt, ile]
    cases h
    refine VW.ret ?_
    simp [Post, PostM, PostC, PostC2, Nx, Bk]
  refine VW.block ?_
  refine VW.loopF (s_l11Element_L0 a0_0 a1) (fun s2 => [(1, .val (dI a1)), (2, .val (.ptr [i64 a0_0, dI a0_1])), (5, .val (i64 s2))]) hx2 (Fits.of rfl) ?_
  clear hx2
  intro s2 ox2 hx2o hx2b
  unfold s_l11Element_L0 at hx2o
  refine VW.sqc fun K5 hK5 hCK5 => ?_
  refine VW.ws tau_ok Sound.none [some 6, some 7, some 8, some 9] [(1, .val (dI a1)), (2, .val (.ptr [i64 a0_0, dI a0_1])), (5, .val (i64 s2)), (9, .val (.bool (ilt s2 (a1.length : Int))))] rfl ?_ ?_
  · simp <;> simp [ieq, ilt, ile]
  refine VW.cond rfl (fun hb6 => ?_) (fun hb6 => ?_)
  rotate_left
  ·
    replace hb6 : ¬ (s2 < (a1.length : Int)) := by simpa [ieq, ilt, ile] using hb6
    rw [if_neg hb6] at hx2o
    refine VW.exit ?_
    cases hx2o
    have hq := hx2b _ rfl
    subst hq
    exact ⟨_, rfl, Fits.of rfl⟩
  replace hb6 : s2 < (a1.length : Int) := by simpa [ieq, ilt, ile] using hb6
  rw [if_pos hb6] at hx2o
  refine VW.skip ?_
  refine hK5 _ ?_
  refine VW.sqc fun K7 hK7 hCK7 => ?_
  refine VW.block ?_
  obtain ⟨v8, hv8, hx2o⟩ := bind_some hx2o
  obtain ⟨hv8a, hv8b, hv8c, hv8d⟩ := idx_some hv8
  obtain ⟨v9, hv9, hx2o⟩ := bind_some hx2o
  refine VW.wds tau_ok (Sound.none.add 19 (s_l01In_ok hv9) rfl) try_mixed [some 12, some 13, some 14, some 15, some 16, some 17, some 18, some 19, some 20] [(1, .val (dI a1)), (2, .val (.ptr [i64 a0_0, dI a0_1])), (5, .val (i64 s2)), (20, .val (.bool (!v9)))] 9 rfl (by kernel_rfl) (by rfl) ?_ ?_
  · simp [hv8a, hv8b, hv8c, hv8d] <;> simp [ieq, ilt, ile]
  refine VW.cond rfl (fun hb10 => ?_) (fun hb10 => ?_)
  rotate_left
  ·
    replace hb10 : ¬ (v9 = false) := by simpa [ieq, ilt, ile] using hb10
    rw [if_neg hb10] at hx2o
    refine VW.skip ?_
    refine hK7 _ ?_
    refine VW.wr tau_ok Sound.none [some 10, some 11, some 5] [(1, .val (dI a1)), (2, .val (.ptr [i64 a0_0, dI a0_1])), (5, .val (i64 (w64 (s2 + 1))))] rfl ?_ ?_
    · simp <;> simp [ieq, ilt, ile]
    cases hx2o
    exact ⟨_, rfl, Fits.of rfl⟩
  replace hb10 : v9 = false := by simpa [ieq, ilt, ile] using hb10
  rw [if_pos hb10] at hx2o
  refine VW.ws tau_ok Sound.none [some 4] [(4, .val (.bool false))] rfl ?_ ?_
  · simp <;> simp [ieq, ilt, ile]
  cases hx2o
  have hq := hx2b _ rfl
  subst hq
  dsimp only at h
  cases h
  refine VW.ret ?_
  simp [Post, PostM, PostC, PostC2, Nx, Bk]

theorem s_l11Code_ok {a0_0 : Int} {a0_1 : List Int} {a1 : List (List Int)} {r : Int} (h : s_l11Code a0_0 a0_1 a1 = some r) :
    VCall Try.prog 189 [.agg [i64 a0_0, dI a0_1], dM a1] [.sc (i64 r)] := by
  unfold s_l11Code at h
  refine VCall.enter Try.call189 Try.func189 rfl 22 Try.ntmps189 (by simp) [.tmp 4] rfl ?_
  show VW _ _ _ (mk [(0, .val (.agg [i64 a0_0, dI a0_1])), (1, .val (dM a1))]) _
  refine VW.ws tau_ok Sound.none [some 2, some 4] [(1, .val (dM a1)), (2, .val (.ptr [i64 a0_0, dI a0_1]))] rfl ?_ ?_
  · simp <;> simp [ieq, ilt, ile]
  refine VW.sqc fun K1 hK1 hCK1 => ?_
  obtain ⟨v2, hv2, h⟩ := bind_some h
  refine VW.ws tau_ok (Sound.none.add 7 (s_l11Is_ok hv2) rfl) [some 6, some 7, some 8] [(1, .val (dM a1)), (2, .val (.ptr [i64 a0_0, dI a0_1])), (8, .val (.bool (!v2)))] rfl ?_ ?_
  · simp <;> simp [ieq, ilt, ile]
  refine VW.cond rfl (fun hb3 => ?_) (fun hb3 => ?_)
  ·
    replace hb3 : v2 = false := by simpa [ieq, ilt, ile] using hb3
    rw [if_pos hb3] at h
    refine VW.ws tau_ok Sound.none [some 4] [(4, .val (i64 1))] rfl ?_ ?_
    · simp <;> simp [ieq, ilt, ile]
    cases h
    refine VW.ret ?_
    simp [Post, PostM, PostC, PostC2, Nx, Bk]
  replace hb3 : ¬ (v2 = false) := by simpa [ieq, ilt, ile] using hb3
  rw [if_neg hb3] at h
  refine VW.skip ?_
  refine hK1 _ ?_
  refine VW.sqc fun K4 hK4 hCK4 => ?_
  refine VW.ws tau_ok Sound.none [some 5] [(1, .val (dM a1)), (2, .val (.ptr [i64 a0_0, dI a0_1])), (5, .val (i64 0))] rfl ?_ ?_
  · simp <;> simp [ieq, ilt, ile]
  obtain ⟨x5, hx5, h⟩ := bind_some h
  refine VW.tlO (fun y7 => []) x5 (hCK4) ?_ ?_
  · clear hx5
    rintro y7 rfl
    dsimp only at h
    refine hK4 _ ?_
    refine VW.ws tau_ok Sound.none [some 4] [(4, .val (i64 0))] rfl ?_ ?_
    · simp <;> simp [ieq, ilt, ile]
    cases h
    refine VW.ret ?_
    simp [Post, PostM, PostC, PostC2, Nx, Bk]
  refine VW.block ?_
  refine VW.loopF (s_l11Code_L0 a0_0 a0_1 a1) (fun s5 => [(1, .val (dM a1)), (2, .val (.ptr [i64 a0_0, dI a0_1])), (5, .val (i64 s5))]) hx5 (Fits.of rfl) ?_
  clear hx5
  intro s5 ox5 hx5o hx5b
  unfold s_l11Code_L0 at hx5o
  refine VW.sqc fun K8 hK8 hCK8 => ?_
  refine VW.ws tau_ok Sound.none [some 9, some 10, some 11, some 12] [(1, .val (dM a1)), (2, .val (.ptr [i64 a0_0, dI a0_1])), (5, .val (i64 s5)), (12, .val (.bool (ilt s5 (a1.length : Int))))] rfl ?_ ?_
  · simp <;> simp [ieq, ilt, ile]
  refine VW.cond rfl (fun hb9 => ?_) (fun hb9 => ?_)
  rotate_left
  ·
    replace hb9 : ¬ (s5 < (a1.length : Int)) := by simpa [ieq, ilt, ile] using hb9
    rw [if_neg hb9] at hx5o
    refine VW.exit ?_
    cases hx5o
    have hq := hx5b _ rfl
    subst hq
    exact ⟨_, rfl, Fits.of rfl⟩
  replace hb9 : s5 < (a1.length : Int) := by simpa [ieq, ilt, ile] using hb9
  rw [if_pos hb9] at hx5o
  refine VW.skip ?_
  refine hK8 _ ?_
  refine VW.sqc fun K10 hK10 hCK10 => ?_
  refine VW.block ?_
  obtain ⟨v11, hv11, hx5o⟩ := bind_some hx5o
  obtain ⟨hv11a, hv11b, hv11c, hv11d⟩ := idx_some hv11
  obtain ⟨v12, hv12, hx5o⟩ := bind_some hx5o
  refine VW.wds tau_ok (Sound.none.add 20 (s_l11Element_ok hv12) rfl) try_mixed [some 15, some 16, some 17, some 18, some 19, some 20, some 21] [(1, .val (dM a1)), (2, .val (.ptr [i64 a0_0, dI a0_1])), (5, .val (i64 s5)), (21, .val (.bool (!v12)))] 7 rfl (by kernel_rfl) (by rfl) ?_ ?_
  · simp [hv11a, hv11b, hv11c, hv11d] <;> simp [ieq, ilt, ile]
  refine VW.cond rfl (fun hb13 => ?_) (fun hb13 => ?_)
  rotate_left
  ·
    replace hb13 : ¬ (v12 = false) := by simpa [ieq, ilt, ile] using hb13
    rw [if_neg hb13] at hx5o
    refine VW.skip ?_
    refine hK10 _ ?_
    refine VW.wr tau_ok Sound.none [some 13, some 14, some 5] [(1, .val (dM a1)), (2, .val (.ptr [i64 a0_0, dI a0_1])), (5, .val (i64 (w64 (s5 + 1))))] rfl ?_ ?_
    · simp <;> simp [ieq, ilt, ile]
    cases hx5o
    exact ⟨_, rfl, Fits.of rfl⟩
  replace hb13 : v12 = false := by simpa [ieq, ilt, ile] using hb13
  rw [if_pos hb13] at hx5o
  refine VW.ws tau_ok Sound.none [some 4] [(4, .val (i64 2))] rfl ?_ ?_
  · simp <;> simp [ieq, ilt, ile]
  cases hx5o
  have hq := hx5b _ rfl
  subst hq
  dsimp only at h
  cases h
  refine VW.ret ?_
  simp [Post, PostM, PostC, PostC2, Nx, Bk]

theorem s_l14Elements_ok {a0_0 : Int} {a0_1 : List Int} {a1 : List (List Int)} {r : Int} (h : s_l14Elements a0_0 a0_1 a1 = some r) :
    VCall Try.prog 120 [.agg [i64 a0_0, dI a0_1], dM a1] [.sc (i64 r)] := by
  unfold s_l14Elements at h
  refine VCall.enter Try.call120 Try.func120 rfl 14 Try.ntmps120 (by simp) [.tmp 4] rfl ?_
  show VW _ _ _ (mk [(0, .val (.agg [i64 a0_0, dI a0_1])), (1, .val (dM a1))]) _
  refine VW.ws tau_ok Sound.none [some 2, some 4] [(1, .val (dM a1)), (2, .val (.ptr [i64 a0_0, dI a0_1]))] rfl ?_ ?_
  · simp <;> simp [ieq, ilt, ile]
  refine VW.sqc fun K1 hK1 hCK1 => ?_
  obtain ⟨v2, hv2, h⟩ := bind_some h
  refine VW.ws tau_ok (Sound.none.add 7 (s_l14Code_ok hv2) rfl) [some 6, some 7, some 5] [(1, .val (dM a1)), (2, .val (.ptr [i64 a0_0, dI a0_1])), (5, .val (i64 v2))] rfl ?_ ?_
  · simp <;> simp [ieq, ilt, ile]
  refine VW.ws tau_ok Sound.none [some 8, some 9] [(1, .val (dM a1)), (2, .val (.ptr [i64 a0_0, dI a0_1])), (5, .val (i64 v2)), (9, .val (.bool (!(ieq v2 0))))] rfl ?_ ?_
  · simp <;> simp [ieq, ilt, ile]
  refine VW.cond rfl (fun hb3 => ?_) (fun hb3 => ?_)
  ·
    replace hb3 : ¬ v2 = 0 := by simpa [ieq, ilt, ile] using hb3
    rw [if_pos hb3] at h
    refine VW.ws tau_ok Sound.none [some 10, some 4] [(4, .val (i64 v2))] rfl ?_ ?_
    · simp <;> simp [ieq, ilt, ile]
    cases h
    refine VW.ret ?_
    simp [Post, PostM, PostC, PostC2, Nx, Bk]
  replace hb3 : ¬ (¬ v2 = 0) := by simpa [ieq, ilt, ile] using hb3
  rw [if_neg hb3] at h
  refine VW.skip ?_
  refine hK1 _ ?_
  obtain ⟨v4, hv4, h⟩ := bind_some h
  refine VW.ws tau_ok (Sound.none.add 13 (s_l11Code_ok hv4) rfl) [some 11, some 12, some 13, some 4] [(4, .val (i64 v4))] rfl ?_ ?_
  · simp <;> simp [ieq, ilt, ile]
  cases h
  refine VW.ret ?_
  simp [Post, PostM, PostC, PostC2, Nx, Bk]

theorem s_l11One_ok {a0_0 : Int} {a0_1 : List Int} {a1 : Int} {r : List Int} (h : s_l11One a0_0 a0_1 a1 = some r) :
    VCall Try.prog 171 [.agg [i64 a0_0, dI a0_1], i64 a1] [.own true (dI r)] := by
  unfold s_l11One at h
  refine VCall.enter Try.call171 Try.func171 rfl 13 Try.ntmps171 (by simp) [.tmp 4] rfl ?_
  show VW _ _ _ (mk [(0, .val (.agg [i64 a0_0, dI a0_1])), (1, .val (i64 a1))]) _
  refine VW.ws tau_ok Sound.none [some 2, some 4] [(1, .val (i64 a1)), (2, .val (.ptr [i64 a0_0, dI a0_1]))] rfl ?_ ?_
  · simp <;> simp [ieq, ilt, ile]
  obtain ⟨v1, hv1, h⟩ := bind_some h
  obtain ⟨hc2, h⟩ := chk_some h
  have hc2s := hc2
  try simp at hc2s
  refine VW.ws tau_ok (Sound.none.add 7 (s_l11Size_ok hv1) rfl) [some 6, some 7, some 8, some 5] [(1, .val (i64 a1)), (5, .ref 5 [] true (dI (List.replicate v1.toNat 0)))] rfl ?_ ?_
  · simp [hc2, hc2s] <;> simp [ieq, ilt, ile]
  obtain ⟨l3, hl3, h⟩ := bind_some h
  rw [Option.some.inj hl3]
  obtain ⟨v4, hv4, h⟩ := bind_some h
  obtain ⟨hv4a, hv4b, hv4c, hv4d⟩ := idx_some hv4
  refine VW.ws tau_ok Sound.none [some 9, some 10, some 11, none] [(5, .ref 5 [] true (dI (l3.set a1.toNat 1)))] rfl ?_ ?_
  · simp [hv4a, hv4b, hv4c, hv4d] <;> simp [ieq, ilt, ile]
  refine VW.ws tau_ok Sound.none [some 12, some 4] [(4, .ref 4 [] true (dI (l3.set a1.toNat 1)))] rfl ?_ ?_
  · simp <;> simp [ieq, ilt, ile]
  cases h
  refine VW.ret ?_
  simp [Post, PostM, PostC, PostC2, Nx, Bk]

theorem s_l01Mod_ok {a0 : Int} {a1 : Int} {r : Int} (h : s_l01Mod a0 a1 = some r) :
    VCall Try.prog 190 [i64 a0, i64 a1] [.sc (i64 r)] := by
  unfold s_l01Mod at h
  refine VCall.enter Try.call190 Try.func190 rfl 12 Try.ntmps190 (by simp) [.tmp 4] rfl ?_
  show VW _ _ _ (mk [(0, .val (i64 a0)), (1, .val (i64 a1))]) _
  refine VW.ws tau_ok Sound.none [some 4] [(0, .val (i64 a0)), (1, .val (i64 a1))] rfl ?_ ?_
  · simp <;> simp [ieq, ilt, ile]
  obtain ⟨hc1, h⟩ := chk_some h
  have hc1s := hc1
  try simp at hc1s
  obtain ⟨hc2, h⟩ := chk_some h
  have hc2s := hc2
  try simp at hc2s
  refine VW.ws tau_ok Sound.none [some 5, some 6, some 7, some 8, some 9, some 10, some 11, some 4] [(4, .val (i64 ((w64 ((a1.tmod a0) + a0)).tmod a0)))] rfl ?_ ?_
  · simp [hc1, hc1s, hc2, hc2s] <;> simp [ieq, ilt, ile]
  cases h
  refine VW.ret ?_
  simp [Post, PostM, PostC, PostC2, Nx, Bk]

theorem s_l11Scale_ok {a0 : Int} {a1 : Int} {a2 : List Int} {r : List Int} (h : s_l11Scale a0 a1 a2 = some r) :
    VCall Try.prog 223 [i64 a0, i64 a1, dI a2] [.own true (dI r)] := by
  unfold s_l11Scale at h
  refine VCall.enter Try.call223 Try.func223 rfl 28 Try.ntmps223 (by simp) [.tmp 6] rfl ?_
  show VW _ _ _ (mk [(0, .val (i64 a0)), (1, .val (i64 a1)), (2, .val (dI a2))]) _
  refine VW.ws tau_ok Sound.none [some 6] [(0, .val (i64 a0)), (1, .val (i64 a1)), (2, .val (dI a2))] rfl ?_ ?_
  · simp <;> simp [ieq, ilt, ile]
  refine VW.ws tau_ok Sound.none [some 9, some 7] [(0, .val (i64 a0)), (1, .val (i64 a1)), (2, .val (dI a2)), (7, .ref 7 [] true (dI []))] rfl ?_ ?_
  · simp <;> simp [ieq, ilt, ile]
  refine VW.sqc fun K1 hK1 hCK1 => ?_
  refine VW.ws tau_ok Sound.none [some 8] [(0, .val (i64 a0)), (1, .val (i64 a1)), (2, .val (dI a2)), (7, .ref 7 [] true (dI [])), (8, .val (i64 0))] rfl ?_ ?_
  · simp <;> simp [ieq, ilt, ile]
  obtain ⟨x2, hx2, h⟩ := bind_some h
  refine VW.tlE [(7, .ref 7 [] true (dI x2))] (hCK1) ?_ ?_
  · clear hx2
    refine hK1 _ ?_
    refine VW.ws tau_ok Sound.none [some 27, some 6] [(6, .ref 6 [] true (dI x2))] rfl ?_ ?_
    · simp <;> simp [ieq, ilt, ile]
    cases h
    refine VW.ret ?_
    simp [Post, PostM, PostC, PostC2, Nx, Bk]
  refine VW.block ?_
  refine VW.loopF (s_l11Scale_L0 a0 a1 a2) (fun s2 => [(0, .val (i64 a0)), (1, .val (i64 a1)), (2, .val (dI a2)), (7, .ref 7 [] true (dI s2.1)), (8, .val (i64 s2.2))]) hx2 (Fits.of rfl) ?_
  clear hx2
  intro s2 ox2 hx2o hx2b
  unfold s_l11Scale_L0 at hx2o
  refine VW.sqc fun K4 hK4 hCK4 => ?_
  refine VW.ws tau_ok Sound.none [some 10, some 11, some 12, some 13] [(0, .val (i64 a0)), (1, .val (i64 a1)), (2, .val (dI a2)), (7, .ref 7 [] true (dI s2.1)), (8, .val (i64 s2.2)), (13, .val (.bool (ilt s2.2 (a2.length : Int))))] rfl ?_ ?_
  · simp <;> simp [ieq, ilt, ile]
  refine VW.cond rfl (fun hb5 => ?_) (fun hb5 => ?_)
  rotate_left
  ·
    replace hb5 : ¬ (s2.2 < (a2.length : Int)) := by simpa [ieq, ilt, ile] using hb5
    rw [if_neg hb5] at hx2o
    refine VW.exit ?_
    cases hx2o
    have hq := hx2b _ rfl
    subst hq
    exact Fits.of rfl
  replace hb5 : s2.2 < (a2.length : Int) := by simpa [ieq, ilt, ile] using hb5
  rw [if_pos hb5] at hx2o
  refine VW.skip ?_
  refine hK4 _ ?_
  refine VW.sqc fun K6 hK6 hCK6 => ?_
  refine VW.block ?_
  obtain ⟨v7, hv7, hx2o⟩ := bind_some hx2o
  obtain ⟨hv7a, hv7b, hv7c, hv7d⟩ := idx_some hv7
  obtain ⟨v8, hv8, hx2o⟩ := bind_some hx2o
  obtain ⟨hc9, hx2o⟩ := chk_some hx2o
  have hc9s := hc9
  try simp at hc9s
  refine VW.wr tau_ok (Sound.none.add 24 (s_l01Mod_ok hv8) rfl) [some 16, some 17, some 18, some 19, some 20, some 21, some 22, some 23, some 24, some 25, some 26, some 7] [(0, .val (i64 a0)), (1, .val (i64 a1)), (2, .val (dI a2)), (7, .ref 7 [] true (dI (s2.1 ++ [v8]))), (8, .val (i64 s2.2))] rfl ?_ ?_
  · simp [hv7a, hv7b, hv7c, hv7d, hc9, hc9s] <;> simp [ieq, ilt, ile]
  refine hK6 _ ?_
  refine VW.wr tau_ok Sound.none [some 14, some 15, some 8] [(0, .val (i64 a0)), (1, .val (i64 a1)), (2, .val (dI a2)), (7, .ref 7 [] true (dI (s2.1 ++ [v8]))), (8, .val (i64 (w64 (s2.2 + 1))))] rfl ?_ ?_
  · simp <;> simp [ieq, ilt, ile]
  cases hx2o
  exact ⟨_, rfl, Fits.of rfl⟩

theorem s_l11Star_ok {a0 : Int} {a1 : List Int} {r : List Int} (h : s_l11Star a0 a1 = some r) :
    VCall Try.prog 247 [i64 a0, dI a1] [.own true (dI r)] := by
  unfold s_l11Star at h
  refine VCall.enter Try.call247 Try.func247 rfl 17 Try.ntmps247 (by simp) [.tmp 4] rfl ?_
  show VW _ _ _ (mk [(0, .val (i64 a0)), (1, .val (dI a1))]) _
  refine VW.ws tau_ok Sound.none [some 4] [(0, .val (i64 a0)), (1, .val (dI a1))] rfl ?_ ?_
  · simp <;> simp [ieq, ilt, ile]
  obtain ⟨v1, hv1, h⟩ := bind_some h
  refine VW.ws tau_ok (Sound.none.add 10 (s_l11Scale_ok hv1) rfl) [some 6, some 7, some 8, some 9, some 10, some 5] [(1, .val (dI a1)), (5, .ref 5 [] true (dI v1))] rfl ?_ ?_
  · simp <;> simp [ieq, ilt, ile]
  obtain ⟨v2, hv2, h⟩ := bind_some h
  obtain ⟨hv2a, hv2b, hv2c, hv2d⟩ := idx_some hv2
  replace hv2b : 0 < a1.length := hv2b
  replace hv2c : a1[0]? = some v2 := hv2c
  replace hv2d : ∀ h, a1[0]'h = v2 := hv2d
  obtain ⟨v3, hv3, h⟩ := bind_some h
  obtain ⟨hv3a, hv3b, hv3c, hv3d⟩ := idx_some hv3
  replace hv3b : 0 < v1.length := hv3b
  replace hv3c : v1[0]? = some v3 := hv3c
  replace hv3d : ∀ h, v1[0]'h = v3 := hv3d
  refine VW.ws tau_ok Sound.none [some 11, some 12, some 13, some 14, some 15, none] [(5, .ref 5 [] true (dI (v1.set 0 v2)))] rfl ?_ ?_
  · simp [hv2a, hv2b, hv2c, hv2d, hv3a, hv3b, hv3c, hv3d] <;> simp [ieq, ilt, ile]
  refine VW.ws tau_ok Sound.none [some 16, some 4] [(4, .ref 4 [] true (dI (v1.set 0 v2)))] rfl ?_ ?_
  · simp <;> simp [ieq, ilt, ile]
  cases h
  refine VW.ret ?_
  simp [Post, PostM, PostC, PostC2, Nx, Bk]

theorem s_l11Add_ok {a0 : Int} {a1 : List Int} {a2 : List Int} {r : List Int} (h : s_l11Add a0 a1 a2 = some r) :
    VCall Try.prog 246 [i64 a0, dI a1, dI a2] [.own true (dI r)] := by
  unfold s_l11Add at h
  refine VCall.enter Try.call246 Try.func246 rfl 31 Try.ntmps246 (by simp) [.tmp 6] rfl ?_
  show VW _ _ _ (mk [(0, .val (i64 a0)), (1, .val (dI a1)), (2, .val (dI a2))]) _
  refine VW.ws tau_ok Sound.none [some 6] [(0, .val (i64 a0)), (1, .val (dI a1)), (2, .val (dI a2))] rfl ?_ ?_
  · simp <;> simp [ieq, ilt, ile]
  refine VW.ws tau_ok Sound.none [some 9, some 7] [(0, .val (i64 a0)), (1, .val (dI a1)), (2, .val (dI a2)), (7, .ref 7 [] true (dI []))] rfl ?_ ?_
  · simp <;> simp [ieq, ilt, ile]
  refine VW.sqc fun K1 hK1 hCK1 => ?_
  refine VW.ws tau_ok Sound.none [some 8] [(0, .val (i64 a0)), (1, .val (dI a1)), (2, .val (dI a2)), (7, .ref 7 [] true (dI [])), (8, .val (i64 0))] rfl ?_ ?_
  · simp <;> simp [ieq, ilt, ile]
  obtain ⟨x2, hx2, h⟩ := bind_some h
  refine VW.tlE [(7, .ref 7 [] true (dI x2))] (hCK1) ?_ ?_
  · clear hx2
    refine hK1 _ ?_
    refine VW.ws tau_ok Sound.none [some 30, some 6] [(6, .ref 6 [] true (dI x2))] rfl ?_ ?_
    · simp <;> simp [ieq, ilt, ile]
    cases h
    refine VW.ret ?_
    simp [Post, PostM, PostC, PostC2, Nx, Bk]
  refine VW.block ?_
  refine VW.loopF (s_l11Add_L0 a0 a1 a2) (fun s2 => [(0, .val (i64 a0)), (1, .val (dI a1)), (2, .val (dI a2)), (7, .ref 7 [] true (dI s2.1)), (8, .val (i64 s2.2))]) hx2 (Fits.of rfl) ?_
  clear hx2
  intro s2 ox2 hx2o hx2b
  unfold s_l11Add_L0 at hx2o
  refine VW.sqc fun K4 hK4 hCK4 => ?_
  refine VW.ws tau_ok Sound.none [some 10, some 11, some 12, some 13] [(0, .val (i64 a0)), (1, .val (dI a1)), (2, .val (dI a2)), (7, .ref 7 [] true (dI s2.1)), (8, .val (i64 s2.2)), (13, .val (.bool (ilt s2.2 (a1.length : Int))))] rfl ?_ ?_
  · simp <;> simp [ieq, ilt, ile]
  refine VW.cond rfl (fun hb5 => ?_) (fun hb5 => ?_)
  rotate_left
  ·
    replace hb5 : ¬ (s2.2 < (a1.length : Int)) := by simpa [ieq, ilt, ile] using hb5
    rw [if_neg hb5] at hx2o
    refine VW.exit ?_
    cases hx2o
    have hq := hx2b _ rfl
    subst hq
    exact Fits.of rfl
  replace hb5 : s2.2 < (a1.length : Int) := by simpa [ieq, ilt, ile] using hb5
  rw [if_pos hb5] at hx2o
  refine VW.skip ?_
  refine hK4 _ ?_
  refine VW.sqc fun K6 hK6 hCK6 => ?_
  refine VW.block ?_
  obtain ⟨v7, hv7, hx2o⟩ := bind_some hx2o
  obtain ⟨hv7a, hv7b, hv7c, hv7d⟩ := idx_some hv7
  obtain ⟨v8, hv8, hx2o⟩ := bind_some hx2o
  obtain ⟨hv8a, hv8b, hv8c, hv8d⟩ := idx_some hv8
  obtain ⟨v9, hv9, hx2o⟩ := bind_some hx2o
  obtain ⟨hc10, hx2o⟩ := chk_some hx2o
  have hc10s := hc10
  try simp at hc10s
  refine VW.wdr tau_ok (Sound.none.add 27 (s_l01Mod_ok hv9) rfl) try_mixed [some 16, some 17, some 18, some 19, some 20, some 21, some 22, some 23, some 24, some 25, some 26, some 27, some 28, some 29, some 7] [(0, .val (i64 a0)), (1, .val (dI a1)), (2, .val (dI a2)), (7, .ref 7 [] true (dI (s2.1 ++ [v9]))), (8, .val (i64 s2.2))] 13 rfl (by kernel_rfl) (by rfl) ?_ ?_
  · simp [hv7a, hv7b, hv7c, hv7d, hv8a, hv8b, hv8c, hv8d, hc10, hc10s] <;> simp [ieq, ilt, ile]
  refine hK6 _ ?_
  refine VW.wr tau_ok Sound.none [some 14, some 15, some 8] [(0, .val (i64 a0)), (1, .val (dI a1)), (2, .val (dI a2)), (7, .ref 7 [] true (dI (s2.1 ++ [v9]))), (8, .val (i64 (w64 (s2.2 + 1))))] rfl ?_ ?_
  · simp <;> simp [ieq, ilt, ile]
  cases hx2o
  exact ⟨_, rfl, Fits.of rfl⟩

theorem s_l11Mul_b_ok {self : Int → (List Int) → (List Int) → (List Int) → Option (List Int)} (hself : ∀ {a0 a1 a2 a3} {r : List Int}, self a0 a1 a2 a3 = some r → VCall Try.prog 221 [i64 a0, dI a1, dI a2, dI a3] [.own true (dI r)]) {a0 : Int} {a1 : List Int} {a2 : List Int} {a3 : List Int} {r : List Int} (h : s_l11Mul_b self a0 a1 a2 a3 = some r) :
    VCall Try.prog 221 [i64 a0, dI a1, dI a2, dI a3] [.own true (dI r)] := by
  unfold s_l11Mul_b at h
  refine VCall.enter Try.call221 Try.func221 rfl 91 Try.ntmps221 (by simp) [.tmp 8] rfl ?_
  show VW _ _ _ (mk [(0, .val (i64 a0)), (1, .val (dI a1)), (2, .val (dI a2)), (3, .val (dI a3))]) _
  refine VW.ws tau_ok Sound.none [some 8] [(0, .val (i64 a0)), (1, .val (dI a1)), (2, .val (dI a2)), (3, .val (dI a3))] rfl ?_ ?_
  · simp <;> simp [ieq, ilt, ile]
  refine VW.sqc fun K1 hK1 hCK1 => ?_
  refine VW.ws tau_ok Sound.none [some 19, some 20, some 21] [(0, .val (i64 a0)), (1, .val (dI a1)), (2, .val (dI a2)), (3, .val (dI a3)), (21, .val (.bool (ieq (a1.length : Int) 0)))] rfl ?_ ?_
  · simp <;> simp [ieq, ilt, ile]
  refine VW.cond rfl (fun hb2 => ?_) (fun hb2 => ?_)
  ·
    replace hb2 : (a1.length : Int) = 0 := by simpa [ieq, ilt, ile] using hb2
    rw [if_pos hb2] at h
    obtain ⟨v3, hv3, h⟩ := bind_some h
    obtain ⟨hv3a, hv3b, hv3c, hv3d⟩ := idx_some hv3
    replace hv3b : 0 < a2.length := hv3b
    replace hv3c : a2[0]? = some v3 := hv3c
    replace hv3d : ∀ h, a2[0]'h = v3 := hv3d
    obtain ⟨v4, hv4, h⟩ := bind_some h
    obtain ⟨hv4a, hv4b, hv4c, hv4d⟩ := idx_some hv4
    replace hv4b : 0 < a3.length := hv4b
    replace hv4c : a3[0]? = some v4 := hv4c
    replace hv4d : ∀ h, a3[0]'h = v4 := hv4d
    obtain ⟨v5, hv5, h⟩ := bind_some h
    refine VW.wds tau_ok (Sound.none.add 30 (s_l01Mod_ok hv5) rfl) try_mixed [some 22, some 23, some 24, some 25, some 26, some 27, some 28, some 29, some 30, some 31, some 8] [(8, .ref 8 [] true (dI [v5]))] 10 rfl (by kernel_rfl) (by rfl) ?_ ?_
    · simp [hv3a, hv3b, hv3c, hv3d, hv4a, hv4b, hv4c, hv4d] <;> simp [ieq, ilt, ile]
    cases h
    refine VW.ret ?_
    simp [Post, PostM, PostC, PostC2, Nx, Bk]
  replace hb2 : ¬ ((a1.length : Int) = 0) := by simpa [ieq, ilt, ile] using hb2
  rw [if_neg hb2] at h
  refine VW.skip ?_
  refine hK1 _ ?_
  refine VW.ws tau_ok Sound.none [some 32, some 33, some 34, some 9] [(0, .val (i64 a0)), (1, .val (dI a1)), (2, .val (dI a2)), (3, .val (dI a3)), (9, .val (i64 (w64 ((a1.length : Int) - 1))))] rfl ?_ ?_
  · simp <;> simp [ieq, ilt, ile]
  obtain ⟨hc6, h⟩ := chk_some h
  have hc6s := hc6
  try simp at hc6s
  obtain ⟨v7, hv7, h⟩ := bind_some h
  obtain ⟨hv7a, hv7b, hv7c, hv7d⟩ := idx_some hv7
  refine VW.wds tau_ok Sound.none try_mixed [some 35, some 36, some 37, some 38, some 39, some 40, some 41, some 42, some 43, some 44, some 10, some 11, some 12] [(0, .val (i64 a0)), (2, .val (dI a2)), (3, .val (dI a3)), (10, .val (i64 (w64 ((a2.length : Int).tdiv 2)))), (11, .val (dI (a1.take (w64 ((a1.length : Int) - 1)).toNat))), (12, .val (i64 v7))] 13 rfl (by kernel_rfl) (by rfl) ?_ ?_
  · simp [hc6, hc6s, hv7a, hv7b, hv7c, hv7d] <;> simp [ieq, ilt, ile]
  obtain ⟨hc8, h⟩ := chk_some h
  have hc8s := hc8
  try simp at hc8s
  obtain ⟨hc9, h⟩ := chk_some h
  have hc9s := hc9
  try simp at hc9s
  obtain ⟨hc10, h⟩ := chk_some h
  have hc10s := hc10
  try simp at hc10s
  obtain ⟨hc11, h⟩ := chk_some h
  have hc11s := hc11
  try simp at hc11s
  refine VW.wds tau_ok Sound.none try_mixed [some 45, some 46, some 47, some 48, some 49, some 50, some 51, some 52, some 53, some 54, some 55, some 56, some 13, some 14, some 15, some 16] [(0, .val (i64 a0)), (11, .val (dI (a1.take (w64 ((a1.length : Int) - 1)).toNat))), (12, .val (i64 v7)), (13, .val (dI (a2.take (w64 ((a2.length : Int).tdiv 2)).toNat))), (14, .val (dI (a2.drop (w64 ((a2.length : Int).tdiv 2)).toNat))), (15, .val (dI (a3.take (w64 ((a2.length : Int).tdiv 2)).toNat))), (16, .val (dI (a3.drop (w64 ((a2.length : Int).tdiv 2)).toNat)))] 16 rfl (by kernel_rfl) (by rfl) ?_ ?_
  · simp [hc8, hc8s, hc9, hc9s, hc10, hc10s, hc11, hc11s] <;> simp [ieq, ilt, ile]
  obtain ⟨v12, hv12, h⟩ := bind_some h
  obtain ⟨v13, hv13, h⟩ := bind_some h
  obtain ⟨v14, hv14, h⟩ := bind_some h
  obtain ⟨v15, hv15, h⟩ := bind_some h
  obtain ⟨v16, hv16, h⟩ := bind_some h
  refine VW.ws tau_ok (((((Sound.none.add 62 (hself hv12) rfl).add 69 (s_l11Star_ok hv13) rfl).add 71 (hself hv14) rfl).add 72 (s_l11Scale_ok hv15) rfl).add 73 (s_l11Add_ok hv16) rfl) [some 57, some 58, some 59, some 60, some 61, some 62, some 63, some 64, some 65, some 66, some 67, some 68, some 69, some 70, some 71, some 72, some 73, some 17] [(0, .val (i64 a0)), (11, .val (dI (a1.take (w64 ((a1.length : Int) - 1)).toNat))), (13, .val (dI (a2.take (w64 ((a2.length : Int).tdiv 2)).toNat))), (14, .val (dI (a2.drop (w64 ((a2.length : Int).tdiv 2)).toNat))), (15, .val (dI (a3.take (w64 ((a2.length : Int).tdiv 2)).toNat))), (16, .val (dI (a3.drop (w64 ((a2.length : Int).tdiv 2)).toNat))), (17, .ref 17 [] true (dI v16))] rfl ?_ ?_
  · simp <;> simp [ieq, ilt, ile]
  obtain ⟨v17, hv17, h⟩ := bind_some h
  obtain ⟨v18, hv18, h⟩ := bind_some h
  obtain ⟨v19, hv19, h⟩ := bind_some h
  obtain ⟨v20, hv20, h⟩ := bind_some h
  refine VW.ws tau_ok ((((Sound.none.add 79 (hself hv17) rfl).add 85 (s_l11Star_ok hv18) rfl).add 86 (hself hv19) rfl).add 87 (s_l11Add_ok hv20) rfl) [some 74, some 75, some 76, some 77, some 78, some 79, some 80, some 81, some 82, some 83, some 84, some 85, some 86, some 87, some 18] [(17, .ref 17 [] true (dI v16)), (18, .ref 18 [] true (dI v20))] rfl ?_ ?_
  · simp <;> simp [ieq, ilt, ile]
  obtain ⟨hc21, h⟩ := chk_some h
  have hc21s := hc21
  try simp at hc21s
  refine VW.ws tau_ok Sound.none [some 88, some 89, some 90, some 8] [(8, .ref 8 [] true (dI (v16 ++ v20)))] rfl ?_ ?_
  · simp [hc21, hc21s] <;> simp [ieq, ilt, ile]
  cases h
  refine VW.ret ?_
  simp [Post, PostM, PostC, PostC2, Nx, Bk]
theorem s_l11Mul_ok : ∀ {n : Nat} {a0 : Int} {a1 : List Int} {a2 : List Int} {a3 : List Int} {r : List Int} (_ : s_l11Mul n a0 a1 a2 a3 = some r),
    VCall Try.prog 221 [i64 a0, dI a1, dI a2, dI a3] [.own true (dI r)]
  | 0, _, _, _, _, _, h => by cases h
  | n + 1, _, _, _, _, _, h => s_l11Mul_b_ok (fun h => s_l11Mul_ok (n := n) h) h

theorem s_l11Times_ok {a0_0 : Int} {a0_1 : List Int} {a1 : List Int} {a2 : List Int} {r : List Int} (h : s_l11Times a0_0 a0_1 a1 a2 = some r) :
    VCall Try.prog 170 [.agg [i64 a0_0, dI a0_1], dI a1, dI a2] [.own true (dI r)] := by
  unfold s_l11Times at h
  refine VCall.enter Try.call170 Try.func170 rfl 14 Try.ntmps170 (by simp) [.tmp 6] rfl ?_
  show VW _ _ _ (mk [(0, .val (.agg [i64 a0_0, dI a0_1])), (1, .val (dI a1)), (2, .val (dI a2))]) _
  refine VW.ws tau_ok Sound.none [some 3, some 6] [(1, .val (dI a1)), (2, .val (dI a2)), (3, .val (.ptr [i64 a0_0, dI a0_1]))] rfl ?_ ?_
  · simp <;> simp [ieq, ilt, ile]
  obtain ⟨v1, hv1, h⟩ := bind_some h
  refine VW.ws tau_ok (Sound.none.add 13 (s_l11Mul_ok (n := BIG) hv1) rfl) [some 7, some 8, some 9, some 10, some 11, some 12, some 13, some 6] [(6, .ref 6 [] true (dI v1))] rfl ?_ ?_
  · simp <;> simp [ieq, ilt, ile]
  cases h
  refine VW.ret ?_
  simp [Post, PostM, PostC, PostC2, Nx, Bk]

theorem s_l11Basis_ok {a0_0 : Int} {a0_1 : List Int} {r : List (List Int)} (h : s_l11Basis a0_0 a0_1 = some r) :
    VCall Try.prog 94 [.agg [i64 a0_0, dI a0_1]] [.own true (dM r)] := by
  unfold s_l11Basis at h
  refine VCall.enter Try.call94 Try.func94 rfl 42 Try.ntmps94 (by simp) [.tmp 2] rfl ?_
  show VW _ _ _ (mk [(0, .val (.agg [i64 a0_0, dI a0_1]))]) _
  refine VW.ws tau_ok Sound.none [some 1, some 2] [(1, .val (.ptr [i64 a0_0, dI a0_1]))] rfl ?_ ?_
  · simp <;> simp [ieq, ilt, ile]
  refine VW.ws tau_ok Sound.none [some 7, some 3] [(1, .val (.ptr [i64 a0_0, dI a0_1])), (3, .ref 3 [] true (dM []))] rfl ?_ ?_
  · simp <;> simp [ieq, ilt, ile]
  refine VW.sqc fun K1 hK1 hCK1 => ?_
  refine VW.ws tau_ok Sound.none [some 4] [(1, .val (.ptr [i64 a0_0, dI a0_1])), (3, .ref 3 [] true (dM [])), (4, .val (i64 0))] rfl ?_ ?_
  · simp <;> simp [ieq, ilt, ile]
  obtain ⟨x2, hx2, h⟩ := bind_some h
  refine VW.tlE [(3, .ref 3 [] true (dM x2))] (hCK1) ?_ ?_
  · clear hx2
    refine hK1 _ ?_
    refine VW.ws tau_ok Sound.none [some 41, some 2] [(2, .ref 2 [] true (dM x2))] rfl ?_ ?_
    · simp <;> simp [ieq, ilt, ile]
    cases h
    refine VW.ret ?_
    simp [Post, PostM, PostC, PostC2, Nx, Bk]
  refine VW.block ?_
  refine VW.loopF (s_l11Basis_L0 a0_0 a0_1) (fun s2 => [(1, .val (.ptr [i64 a0_0, dI a0_1])), (3, .ref 3 [] true (dM s2.1)), (4, .val (i64 s2.2))]) hx2 (Fits.of rfl) ?_
  clear hx2
  intro s2 ox2 hx2o hx2b
  unfold s_l11Basis_L0 at hx2o
  refine VW.sqc fun K4 hK4 hCK4 => ?_
  obtain ⟨v5, hv5, hx2o⟩ := bind_some hx2o
  refine VW.ws tau_ok (Sound.none.add 10 (s_l11Size_ok hv5) rfl) [some 8, some 9, some 10, some 11] [(1, .val (.ptr [i64 a0_0, dI a0_1])), (3, .ref 3 [] true (dM s2.1)), (4, .val (i64 s2.2)), (11, .val (.bool (ilt s2.2 v5)))] rfl ?_ ?_
  · simp <;> simp [ieq, ilt, ile]
  refine VW.cond rfl (fun hb6 => ?_) (fun hb6 => ?_)
  rotate_left
  ·
    replace hb6 : ¬ (s2.2 < v5) := by simpa [ieq, ilt, ile] using hb6
    rw [if_neg hb6] at hx2o
    refine VW.exit ?_
    cases hx2o
    have hq := hx2b _ rfl
    subst hq
    exact Fits.of rfl
  replace hb6 : s2.2 < v5 := by simpa [ieq, ilt, ile] using hb6
  rw [if_pos hb6] at hx2o
  refine VW.skip ?_
  refine hK4 _ ?_
  refine VW.sqc fun K7 hK7 hCK7 => ?_
  refine VW.block ?_
  refine VW.ws tau_ok Sound.none [some 14, some 5] [(1, .val (.ptr [i64 a0_0, dI a0_1])), (3, .ref 3 [] true (dM s2.1)), (4, .val (i64 s2.2)), (5, .ref 5 [] true (dI []))] rfl ?_ ?_
  · simp <;> simp [ieq, ilt, ile]
  refine VW.sqc fun K8 hK8 hCK8 => ?_
  refine VW.ws tau_ok Sound.none [some 6] [(1, .val (.ptr [i64 a0_0, dI a0_1])), (3, .ref 3 [] true (dM s2.1)), (4, .val (i64 s2.2)), (5, .ref 5 [] true (dI [])), (6, .val (i64 0))] rfl ?_ ?_
  · simp <;> simp [ieq, ilt, ile]
  obtain ⟨x9, hx9, hx2o⟩ := bind_some hx2o
  refine VW.tlE [(1, .val (.ptr [i64 a0_0, dI a0_1])), (3, .ref 3 [] true (dM s2.1)), (4, .val (i64 s2.2)), (5, .ref 5 [] true (dI x9))] (hCK8) ?_ ?_
  · clear hx9
    refine hK8 _ ?_
    obtain ⟨hc20, hx2o⟩ := chk_some hx2o
    have hc20s := hc20
    try simp at hc20s
    refine VW.wr tau_ok Sound.none [some 37, some 38, some 39, some 40, some 3] [(1, .val (.ptr [i64 a0_0, dI a0_1])), (3, .ref 3 [] true (dM (s2.1 ++ [x9]))), (4, .val (i64 s2.2))] rfl ?_ ?_
    · simp [hc20, hc20s] <;> simp [ieq, ilt, ile]
    refine hK7 _ ?_
    refine VW.wr tau_ok Sound.none [some 12, some 13, some 4] [(1, .val (.ptr [i64 a0_0, dI a0_1])), (3, .ref 3 [] true (dM (s2.1 ++ [x9]))), (4, .val (i64 (w64 (s2.2 + 1))))] rfl ?_ ?_
    · simp <;> simp [ieq, ilt, ile]
    cases hx2o
    exact ⟨_, rfl, Fits.of rfl⟩
  refine VW.block ?_
  refine VW.loopF (s_l11Basis_L1 a0_0 a0_1 s2) (fun s9 => [(1, .val (.ptr [i64 a0_0, dI a0_1])), (3, .ref 3 [] true (dM s2.1)), (4, .val (i64 s2.2)), (5, .ref 5 [] true (dI s9.1)), (6, .val (i64 s9.2))]) hx9 (Fits.of rfl) ?_
  clear hx9
  intro s9 ox9 hx9o hx9b
  unfold s_l11Basis_L1 at hx9o
  refine VW.sqc fun K11 hK11 hCK11 => ?_
  obtain ⟨v12, hv12, hx9o⟩ := bind_some hx9o
  refine VW.ws tau_ok (Sound.none.add 17 (s_l11Size_ok hv12) rfl) [some 15, some 16, some 17, some 18] [(1, .val (.ptr [i64 a0_0, dI a0_1])), (3, .ref 3 [] true (dM s2.1)), (4, .val (i64 s2.2)), (5, .ref 5 [] true (dI s9.1)), (6, .val (i64 s9.2)), (18, .val (.bool (ilt s9.2 v12)))] rfl ?_ ?_
  · simp <;> simp [ieq, ilt, ile]
  refine VW.cond rfl (fun hb13 => ?_) (fun hb13 => ?_)
  rotate_left
  ·
    replace hb13 : ¬ (s9.2 < v12) := by simpa [ieq, ilt, ile] using hb13
    rw [if_neg hb13] at hx9o
    refine VW.exit ?_
    cases hx9o
    have hq := hx9b _ rfl
    subst hq
    exact Fits.of rfl
  replace hb13 : s9.2 < v12 := by simpa [ieq, ilt, ile] using hb13
  rw [if_pos hb13] at hx9o
  refine VW.skip ?_
  refine hK11 _ ?_
  refine VW.sqc fun K14 hK14 hCK14 => ?_
  refine VW.block ?_
  obtain ⟨v15, hv15, hx9o⟩ := bind_some hx9o
  obtain ⟨v16, hv16, hx9o⟩ := bind_some hx9o
  obtain ⟨v17, hv17, hx9o⟩ := bind_some hx9o
  obtain ⟨v18, hv18, hx9o⟩ := bind_some hx9o
  obtain ⟨hv18a, hv18b, hv18c, hv18d⟩ := idx_some hv18
  obtain ⟨hc19, hx9o⟩ := chk_some hx9o
  have hc19s := hc19
  try simp at hc19s
  refine VW.wdr tau_ok (((Sound.none.add 25 (s_l11One_ok hv15) rfl).add 28 (s_l11One_ok hv16) rfl).add 29 (s_l11Times_ok hv17) rfl) try_mixed [some 21, some 22, some 23, some 24, some 25, some 26, some 27, some 28, some 29, some 30, some 31, some 32, some 33, some 34, some 35, some 36, some 5] [(1, .val (.ptr [i64 a0_0, dI a0_1])), (3, .ref 3 [] true (dM s2.1)), (4, .val (i64 s2.2)), (5, .ref 5 [] true (dI (s9.1 ++ [v18]))), (6, .val (i64 s9.2))] 15 rfl (by kernel_rfl) (by rfl) ?_ ?_
  · simp [hv18a, hv18b, hv18c, hv18d, hc19, hc19s] <;> simp [ieq, ilt, ile]
  refine hK14 _ ?_
  refine VW.wr tau_ok Sound.none [some 19, some 20, some 6] [(1, .val (.ptr [i64 a0_0, dI a0_1])), (3, .ref 3 [] true (dM s2.1)), (4, .val (i64 s2.2)), (5, .ref 5 [] true (dI (s9.1 ++ [v18]))), (6, .val (i64 (w64 (s9.2 + 1))))] rfl ?_ ?_
  · simp <;> simp [ieq, ilt, ile]
  cases hx9o
  exact ⟨_, rfl, Fits.of rfl⟩

theorem s_l14Equations_ok {a0_0 : Int} {a0_1 : List Int} {r : List (List Int)} (h : s_l14Equations a0_0 a0_1 = some r) :
    VCall Try.prog 121 [.agg [i64 a0_0, dI a0_1]] [.own true (dM r)] := by
  unfold s_l14Equations at h
  refine VCall.enter Try.call121 Try.func121 rfl 119 Try.ntmps121 (by simp) [.tmp 2] rfl ?_
  show VW _ _ _ (mk [(0, .val (.agg [i64 a0_0, dI a0_1]))]) _
  refine VW.ws tau_ok Sound.none [some 1, some 2] [(1, .val (.ptr [i64 a0_0, dI a0_1]))] rfl ?_ ?_
  · simp <;> simp [ieq, ilt, ile]
  obtain ⟨v1, hv1, h⟩ := bind_some h
  obtain ⟨v2, hv2, h⟩ := bind_some h
  refine VW.wds tau_ok ((Sound.none.add 12 (s_l11Basis_ok hv1) rfl).add 14 (s_l11Size_ok hv2) rfl) try_mixed [some 11, some 12, some 13, some 14, some 3, some 4] [(1, .val (.ptr [i64 a0_0, dI a0_1])), (3, .ref 3 [] true (dM v1)), (4, .val (i64 v2))] 4 rfl (by kernel_rfl) (by rfl) ?_ ?_
  · simp <;> simp [ieq, ilt, ile]
  refine VW.ws tau_ok Sound.none [some 15, some 5] [(1, .val (.ptr [i64 a0_0, dI a0_1])), (3, .ref 3 [] true (dM v1)), (4, .val (i64 v2)), (5, .ref 5 [] true (dM []))] rfl ?_ ?_
  · simp <;> simp [ieq, ilt, ile]
  refine VW.sqc fun K3 hK3 hCK3 => ?_
  refine VW.ws tau_ok Sound.none [some 6] [(1, .val (.ptr [i64 a0_0, dI a0_1])), (3, .ref 3 [] true (dM v1)), (4, .val (i64 v2)), (5, .ref 5 [] true (dM [])), (6, .val (i64 0))] rfl ?_ ?_
  · simp <;> simp [ieq, ilt, ile]
  obtain ⟨x4, hx4, h⟩ := bind_some h
  refine VW.tlE [(5, .ref 5 [] true (dM x4))] (hCK3) ?_ ?_
  · clear hx4
    refine hK3 _ ?_
    refine VW.ws tau_ok Sound.none [some 118, some 2] [(2, .ref 2 [] true (dM x4))] rfl ?_ ?_
    · simp <;> simp [ieq, ilt, ile]
    cases h
    refine VW.ret ?_
    simp [Post, PostM, PostC, PostC2, Nx, Bk]
  refine VW.block ?_
  refine VW.loopF (s_l14Equations_L0 a0_0 v1 v2) (fun s4 => [(1, .val (.ptr [i64 a0_0, dI a0_1])), (3, .ref 3 [] true (dM v1)), (4, .val (i64 v2)), (5, .ref 5 [] true (dM s4.1)), (6, .val (i64 s4.2))]) hx4 (Fits.of rfl) ?_
  clear hx4
  intro s4 ox4 hx4o hx4b
  unfold s_l14Equations_L0 at hx4o
  refine VW.sqc fun K6 hK6 hCK6 => ?_
  refine VW.ws tau_ok Sound.none [some 16, some 17, some 18] [(1, .val (.ptr [i64 a0_0, dI a0_1])), (3, .ref 3 [] true (dM v1)), (4, .val (i64 v2)), (5, .ref 5 [] true (dM s4.1)), (6, .val (i64 s4.2)), (18, .val (.bool (ilt s4.2 v2)))] rfl ?_ ?_
  · simp <;> simp [ieq, ilt, ile]
  refine VW.cond rfl (fun hb7 => ?_) (fun hb7 => ?_)
  rotate_left
  ·
    replace hb7 : ¬ (s4.2 < v2) := by simpa [ieq, ilt, ile] using hb7
    rw [if_neg hb7] at hx4o
    refine VW.exit ?_
    cases hx4o
    have hq := hx4b _ rfl
    subst hq
    exact Fits.of rfl
  replace hb7 : s4.2 < v2 := by simpa [ieq, ilt, ile] using hb7
  rw [if_pos hb7] at hx4o
  refine VW.skip ?_
  refine hK6 _ ?_
  refine VW.sqc fun K8 hK8 hCK8 => ?_
  refine VW.block ?_
  refine VW.ws tau_ok Sound.none [some 7] [(1, .val (.ptr [i64 a0_0, dI a0_1])), (3, .ref 3 [] true (dM v1)), (4, .val (i64 v2)), (5, .ref 5 [] true (dM s4.1)), (6, .val (i64 s4.2)), (7, .val (i64 0))] rfl ?_ ?_
  · simp <;> simp [ieq, ilt, ile]
  obtain ⟨x9, hx9, hx4o⟩ := bind_some hx4o
  refine VW.tlE [(1, .val (.ptr [i64 a0_0, dI a0_1])), (3, .ref 3 [] true (dM v1)), (4, .val (i64 v2)), (5, .ref 5 [] true (dM x9)), (6, .val (i64 s4.2))] (hCK8) ?_ ?_
  · clear hx9
    refine hK8 _ ?_
    refine VW.wr tau_ok Sound.none [some 19, some 20, some 6] [(1, .val (.ptr [i64 a0_0, dI a0_1])), (3, .ref 3 [] true (dM v1)), (4, .val (i64 v2)), (5, .ref 5 [] true (dM x9)), (6, .val (i64 (w64 (s4.2 + 1))))] rfl ?_ ?_
    · simp <;> simp [ieq, ilt, ile]
    cases hx4o
    exact ⟨_, rfl, Fits.of rfl⟩
  refine VW.block ?_
  refine VW.loopF (s_l14Equations_L1 a0_0 v1 v2 s4) (fun s9 => [(1, .val (.ptr [i64 a0_0, dI a0_1])), (3, .ref 3 [] true (dM v1)), (4, .val (i64 v2)), (5, .ref 5 [] true (dM s9.1)), (6, .val (i64 s4.2)), (7, .val (i64 s9.2))]) hx9 (Fits.of rfl) ?_
  clear hx9
  intro s9 ox9 hx9o hx9b
  unfold s_l14Equations_L1 at hx9o
  refine VW.sqc fun K11 hK11 hCK11 => ?_
  refine VW.ws tau_ok Sound.none [some 21, some 22, some 23] [(1, .val (.ptr [i64 a0_0, dI a0_1])), (3, .ref 3 [] true (dM v1)), (4, .val (i64 v2)), (5, .ref 5 [] true (dM s9.1)), (6, .val (i64 s4.2)), (7, .val (i64 s9.2)), (23, .val (.bool (ilt s9.2 v2)))] rfl ?_ ?_
  · simp <;> simp [ieq, ilt, ile]
  refine VW.cond rfl (fun hb12 => ?_) (fun hb12 => ?_)
  rotate_left
  ·
    replace hb12 : ¬ (s9.2 < v2) := by simpa [ieq, ilt, ile] using hb12
    rw [if_neg hb12] at hx9o
    refine VW.exit ?_
    cases hx9o
    have hq := hx9b _ rfl
    subst hq
    exact Fits.of rfl
  replace hb12 : s9.2 < v2 := by simpa [ieq, ilt, ile] using hb12
  rw [if_pos hb12] at hx9o
  refine VW.skip ?_
  refine hK11 _ ?_
  refine VW.sqc fun K13 hK13 hCK13 => ?_
  refine VW.block ?_
  refine VW.ws tau_ok Sound.none [some 8] [(1, .val (.ptr [i64 a0_0, dI a0_1])), (3, .ref 3 [] true (dM v1)), (4, .val (i64 v2)), (5, .ref 5 [] true (dM s9.1)), (6, .val (i64 s4.2)), (7, .val (i64 s9.2)), (8, .val (i64 0))] rfl ?_ ?_
  · simp <;> simp [ieq, ilt, ile]
  obtain ⟨x14, hx14, hx9o⟩ := bind_some hx9o
  refine VW.tlE [(1, .val (.ptr [i64 a0_0, dI a0_1])), (3, .ref 3 [] true (dM v1)), (4, .val (i64 v2)), (5, .ref 5 [] true (dM x14)), (6, .val (i64 s4.2)), (7, .val (i64 s9.2))] (hCK13) ?_ ?_
  · clear hx14
    refine hK13 _ ?_
    refine VW.wr tau_ok Sound.none [some 24, some 25, some 7] [(1, .val (.ptr [i64 a0_0, dI a0_1])), (3, .ref 3 [] true (dM v1)), (4, .val (i64 v2)), (5, .ref 5 [] true (dM x14)), (6, .val (i64 s4.2)), (7, .val (i64 (w64 (s9.2 + 1))))] rfl ?_ ?_
    · simp <;> simp [ieq, ilt, ile]
    cases hx9o
    exact ⟨_, rfl, Fits.of rfl⟩
  refine VW.block ?_
  refine VW.loopF (s_l14Equations_L2 a0_0 v1 v2 s4 s9) (fun s14 => [(1, .val (.ptr [i64 a0_0, dI a0_1])), (3, .ref 3 [] true (dM v1)), (4, .val (i64 v2)), (5, .ref 5 [] true (dM s14.1)), (6, .val (i64 s4.2)), (7, .val (i64 s9.2)), (8, .val (i64 s14.2))]) hx14 (Fits.of rfl) ?_
  clear hx14
  intro s14 ox14 hx14o hx14b
  unfold s_l14Equations_L2 at hx14o
  refine VW.sqc fun K16 hK16 hCK16 => ?_
  refine VW.ws tau_ok Sound.none [some 26, some 27, some 28] [(1, .val (.ptr [i64 a0_0, dI a0_1])), (3, .ref 3 [] true (dM v1)), (4, .val (i64 v2)), (5, .ref 5 [] true (dM s14.1)), (6, .val (i64 s4.2)), (7, .val (i64 s9.2)), (8, .val (i64 s14.2)), (28, .val (.bool (ilt s14.2 v2)))] rfl ?_ ?_
  · simp <;> simp [ieq, ilt, ile]
  refine VW.cond rfl (fun hb17 => ?_) (fun hb17 => ?_)
  rotate_left
  ·
    replace hb17 : ¬ (s14.2 < v2) := by simpa [ieq, ilt, ile] using hb17
    rw [if_neg hb17] at hx14o
    refine VW.exit ?_
    cases hx14o
    have hq := hx14b _ rfl
    subst hq
    exact Fits.of rfl
  replace hb17 : s14.2 < v2 := by simpa [ieq, ilt, ile] using hb17
  rw [if_pos hb17] at hx14o
  refine VW.skip ?_
  refine hK16 _ ?_
  refine VW.sqc fun K18 hK18 hCK18 => ?_
  refine VW.block ?_
  obtain ⟨hc19, hx14o⟩ := chk_some hx14o
  have hc19s := hc19
  try simp at hc19s
  refine VW.ws tau_ok Sound.none [some 31, some 32, some 33, some 34, some 9] [(1, .val (.ptr [i64 a0_0, dI a0_1])), (3, .ref 3 [] true (dM v1)), (4, .val (i64 v2)), (5, .ref 5 [] true (dM s14.1)), (6, .val (i64 s4.2)), (7, .val (i64 s9.2)), (8, .val (i64 s14.2)), (9, .ref 9 [] true (dI (List.replicate (w64 (v2 * v2)).toNat 0)))] rfl ?_ ?_
  · simp [hc19, hc19s] <;> simp [ieq, ilt, ile]
  refine VW.ws tau_ok Sound.none [some 35, some 36, some 37, some 38, some 39, some 40, some 41, some 10] [(1, .val (.ptr [i64 a0_0, dI a0_1])), (3, .ref 3 [] true (dM v1)), (4, .val (i64 v2)), (5, .ref 5 [] true (dM s14.1)), (6, .val (i64 s4.2)), (7, .val (i64 s9.2)), (8, .val (i64 s14.2)), (9, .ref 9 [] true (dI (List.replicate (w64 (v2 * v2)).toNat 0))), (10, .val (i64 (w64 ((w64 (s14.2 * v2)) + (bxor .i64 s4.2 s9.2)))))] rfl ?_ ?_
  · simp <;> simp [ieq, ilt, ile]
  obtain ⟨l20, hl20, hx14o⟩ := bind_some hx14o
  rw [Option.some.inj hl20]
  obtain ⟨v21, hv21, hx14o⟩ := bind_some hx14o
  obtain ⟨hv21a, hv21b, hv21c, hv21d⟩ := idx_some hv21
  obtain ⟨v22, hv22, hx14o⟩ := bind_some hx14o
  obtain ⟨hv22a, hv22b, hv22c, hv22d⟩ := idx_some hv22
  obtain ⟨v23, hv23, hx14o⟩ := bind_some hx14o
  obtain ⟨hv23a, hv23b, hv23c, hv23d⟩ := idx_some hv23
  obtain ⟨v24, hv24, hx14o⟩ := bind_some hx14o
  refine VW.wds tau_ok (Sound.none.add 58 (s_l01Mod_ok hv24) rfl) try_mixed [some 42, some 43, some 44, some 45, some 46, some 47, some 48, some 49, some 50, some 51, some 52, some 53, some 54, some 55, some 56, some 57, some 58, some 59, none] [(1, .val (.ptr [i64 a0_0, dI a0_1])), (3, .ref 3 [] true (dM v1)), (4, .val (i64 v2)), (5, .ref 5 [] true (dM s14.1)), (6, .val (i64 s4.2)), (7, .val (i64 s9.2)), (8, .val (i64 s14.2)), (9, .ref 9 [] true (dI (l20.set (w64 ((w64 (s14.2 * v2)) + (bxor .i64 s4.2 s9.2))).toNat v24)))] 18 rfl (by kernel_rfl) (by rfl) ?_ ?_
  · simp [hv21a, hv21b, hv21c, hv21d, hv22a, hv22b, hv22c, hv22d, hv23a, hv23b, hv23c, hv23d] <;> simp [ieq, ilt, ile]
  refine VW.ws tau_ok Sound.none [some 60, some 61, some 62, some 63, some 64, some 65, some 66, some 10] [(1, .val (.ptr [i64 a0_0, dI a0_1])), (3, .ref 3 [] true (dM v1)), (4, .val (i64 v2)), (5, .ref 5 [] true (dM s14.1)), (6, .val (i64 s4.2)), (7, .val (i64 s9.2)), (8, .val (i64 s14.2)), (9, .ref 9 [] true (dI (l20.set (w64 ((w64 (s14.2 * v2)) + (bxor .i64 s4.2 s9.2))).toNat v24))), (10, .val (i64 (w64 ((w64 ((bxor .i64 s14.2 s9.2) * v2)) + s4.2))))] rfl ?_ ?_
  · simp <;> simp [ieq, ilt, ile]
  obtain ⟨l25, hl25, hx14o⟩ := bind_some hx14o
  rw [Option.some.inj hl25]
  obtain ⟨v26, hv26, hx14o⟩ := bind_some hx14o
  obtain ⟨hv26a, hv26b, hv26c, hv26d⟩ := idx_some hv26
  obtain ⟨v27, hv27, hx14o⟩ := bind_some hx14o
  obtain ⟨hv27a, hv27b, hv27c, hv27d⟩ := idx_some hv27
  obtain ⟨v28, hv28, hx14o⟩ := bind_some hx14o
  obtain ⟨hv28a, hv28b, hv28c, hv28d⟩ := idx_some hv28
  obtain ⟨v29, hv29, hx14o⟩ := bind_some hx14o
  refine VW.wds tau_ok (Sound.none.add 85 (s_l01Mod_ok hv29) rfl) try_mixed [some 67, some 68, some 69, some 70, some 71, some 72, some 73, some 74, some 75, some 76, some 77, some 78, some 79, some 80, some 81, some 82, some 83, some 84, some 85, some 86, none] [(1, .val (.ptr [i64 a0_0, dI a0_1])), (3, .ref 3 [] true (dM v1)), (4, .val (i64 v2)), (5, .ref 5 [] true (dM s14.1)), (6, .val (i64 s4.2)), (7, .val (i64 s9.2)), (8, .val (i64 s14.2)), (9, .ref 9 [] true (dI (l25.set (w64 ((w64 ((bxor .i64 s14.2 s9.2) * v2)) + s4.2)).toNat v29)))] 20 rfl (by kernel_rfl) (by rfl) ?_ ?_
  · simp [hv26a, hv26b, hv26c, hv26d, hv27a, hv27b, hv27c, hv27d, hv28a, hv28b, hv28c, hv28d] <;> simp [ieq, ilt, ile]
  refine VW.ws tau_ok Sound.none [some 87, some 88, some 89, some 90, some 91, some 92, some 93, some 10] [(1, .val (.ptr [i64 a0_0, dI a0_1])), (3, .ref 3 [] true (dM v1)), (4, .val (i64 v2)), (5, .ref 5 [] true (dM s14.1)), (6, .val (i64 s4.2)), (7, .val (i64 s9.2)), (8, .val (i64 s14.2)), (9, .ref 9 [] true (dI (l25.set (w64 ((w64 ((bxor .i64 s14.2 s9.2) * v2)) + s4.2)).toNat v29))), (10, .val (i64 (w64 ((w64 ((bxor .i64 s14.2 s4.2) * v2)) + s9.2))))] rfl ?_ ?_
  · simp <;> simp [ieq, ilt, ile]
  obtain ⟨l30, hl30, hx14o⟩ := bind_some hx14o
  rw [Option.some.inj hl30]
  obtain ⟨v31, hv31, hx14o⟩ := bind_some hx14o
  obtain ⟨hv31a, hv31b, hv31c, hv31d⟩ := idx_some hv31
  obtain ⟨v32, hv32, hx14o⟩ := bind_some hx14o
  obtain ⟨hv32a, hv32b, hv32c, hv32d⟩ := idx_some hv32
  obtain ⟨v33, hv33, hx14o⟩ := bind_some hx14o
  refine VW.wds tau_ok (Sound.none.add 112 (s_l01Mod_ok hv33) rfl) try_mixed [some 94, some 95, some 96, some 97, some 98, some 99, some 100, some 101, some 102, some 103, some 104, some 105, some 106, some 107, some 108, some 109, some 110, some 111, some 112, some 113, none] [(1, .val (.ptr [i64 a0_0, dI a0_1])), (3, .ref 3 [] true (dM v1)), (4, .val (i64 v2)), (5, .ref 5 [] true (dM s14.1)), (6, .val (i64 s4.2)), (7, .val (i64 s9.2)), (8, .val (i64 s14.2)), (9, .ref 9 [] true (dI (l30.set (w64 ((w64 ((bxor .i64 s14.2 s4.2) * v2)) + s9.2)).toNat v33)))] 20 rfl (by kernel_rfl) (by rfl) ?_ ?_
  · simp [hv31a, hv31b, hv31c, hv31d, hv22a, hv22b, hv22c, hv22d, hv32a, hv32b, hv32c, hv32d] <;> simp [ieq, ilt, ile]
  obtain ⟨hc34, hx14o⟩ := chk_some hx14o
  have hc34s := hc34
  try simp at hc34s
  refine VW.wr tau_ok Sound.none [some 114, some 115, some 116, some 117, some 5] [(1, .val (.ptr [i64 a0_0, dI a0_1])), (3, .ref 3 [] true (dM v1)), (4, .val (i64 v2)), (5, .ref 5 [] true (dM (s14.1 ++ [l30.set (w64 ((w64 ((bxor .i64 s14.2 s4.2) * v2)) + s9.2)).toNat v33]))), (6, .val (i64 s4.2)), (7, .val (i64 s9.2)), (8, .val (i64 s14.2))] rfl ?_ ?_
  · simp [hc34, hc34s] <;> simp [ieq, ilt, ile]
  refine hK18 _ ?_
  refine VW.wr tau_ok Sound.none [some 29, some 30, some 8] [(1, .val (.ptr [i64 a0_0, dI a0_1])), (3, .ref 3 [] true (dM v1)), (4, .val (i64 v2)), (5, .ref 5 [] true (dM (s14.1 ++ [l30.set (w64 ((w64 ((bxor .i64 s14.2 s4.2) * v2)) + s9.2)).toNat v33]))), (6, .val (i64 s4.2)), (7, .val (i64 s9.2)), (8, .val (i64 (w64 (s14.2 + 1))))] rfl ?_ ?_
  · simp <;> simp [ieq, ilt, ile]
  cases hx14o
  exact ⟨_, rfl, Fits.of rfl⟩

theorem s_l01Own_ok {a0 : List Int} {r : List Int} (h : s_l01Own a0 = some r) :
    VCall Try.prog 205 [dI a0] [.own true (dI r)] := by
  unfold s_l01Own at h
  refine VCall.enter Try.call205 Try.func205 rfl 6 Try.ntmps205 (by simp) [.tmp 2] rfl ?_
  show VW _ _ _ (mk [(0, .val (dI a0))]) _
  refine VW.ws tau_ok Sound.none [some 2] [(0, .val (dI a0))] rfl ?_ ?_
  · simp <;> simp [ieq, ilt, ile]
  obtain ⟨hc1, h⟩ := chk_some h
  have hc1s := hc1
  try simp at hc1s
  refine VW.ws tau_ok Sound.none [some 3, some 4, some 5, some 2] [(2, .ref 2 [] true (dI (([] : List Int) ++ a0)))] rfl ?_ ?_
  · simp [hc1, hc1s] <;> simp [ieq, ilt, ile]
  cases h
  refine VW.ret ?_
  simp [Post, PostM, PostC, PostC2, Nx, Bk]

theorem s_l12First_ok {a0 : List Int} {r : Int} (h : s_l12First a0 = some r) :
    VCall Try.prog 192 [dI a0] [.sc (i64 r)] := by
  unfold s_l12First at h
  refine VCall.enter Try.call192 Try.func192 rfl 18 Try.ntmps192 (by simp) [.tmp 2] rfl ?_
  show VW _ _ _ (mk [(0, .val (dI a0))]) _
  refine VW.ws tau_ok Sound.none [some 2] [(0, .val (dI a0))] rfl ?_ ?_
  · simp <;> simp [ieq, ilt, ile]
  refine VW.ws tau_ok Sound.none [some 3] [(0, .val (dI a0)), (3, .val (i64 0))] rfl ?_ ?_
  · simp <;> simp [ieq, ilt, ile]
  refine VW.sqc fun K1 hK1 hCK1 => ?_
  obtain ⟨x2, hx2, h⟩ := bind_some h
  refine VW.tlE [(3, .val (i64 x2))] (hCK1) ?_ ?_
  · clear hx2
    refine hK1 _ ?_
    refine VW.ws tau_ok Sound.none [some 17, some 2] [(2, .val (i64 x2))] rfl ?_ ?_
    · simp <;> simp [ieq, ilt, ile]
    cases h
    refine VW.ret ?_
    simp [Post, PostM, PostC, PostC2, Nx, Bk]
  refine VW.block ?_
  refine VW.loopF (s_l12First_L0 a0) (fun s2 => [(0, .val (dI a0)), (3, .val (i64 s2))]) hx2 (Fits.of rfl) ?_
  clear hx2
  intro s2 ox2 hx2o hx2b
  unfold s_l12First_L0 at hx2o
  refine VW.sqc fun K4 hK4 hCK4 => ?_
  obtain ⟨x7, hx7, hx2o⟩ := bind_some hx2o
  refine VW.cut [(0, .val (dI a0)), (3, .val (i64 s2)), (14, .val (.bool x7))] ?_ fun hy => ?_
  rotate_left
  · clear hx2o
    by_cases hp5 : s2 < (a0.length : Int)
    · rw [if_pos hp5] at hx7
      have hp5b : ilt s2 (a0.length : Int) = true := by simpa [ieq, ilt, ile] using hp5
      have hp5s := hp5b
      try simp at hp5s
      obtain ⟨v6, hv6, hx7⟩ := bind_some hx7
      obtain ⟨hv6a, hv6b, hv6c, hv6d⟩ := idx_some hv6
      cases hx7
      refine VW.ws tau_ok Sound.none [some 4, some 5, some 6, some 7, some 8, some 9, some 10, some 11, some 12, some 13, some 14] _ rfl ?_ hy
      simp [hp5b, hp5s, hv6a, hv6b, hv6c, hv6d] <;> simp [ieq, ilt, ile]
    · rw [if_neg hp5] at hx7
      have hp5b : ilt s2 (a0.length : Int) = false := by simpa [ieq, ilt, ile] using hp5
      have hp5s := hp5b
      try simp at hp5s
      cases hx7
      refine VW.ws tau_ok Sound.none [some 4, some 5, some 6, some 7, some 8, some 9, some 10, some 11, some 12, some 13, some 14] _ rfl ?_ hy
      simp [hp5b, hp5s] <;> simp [ieq, ilt, ile]
  refine VW.cond rfl (fun hb8 => ?_) (fun hb8 => ?_)
  rotate_left
  ·
    replace hb8 : ¬ (x7 = true) := by simpa [ieq, ilt, ile] using hb8
    rw [if_neg hb8] at hx2o
    refine VW.exit ?_
    cases hx2o
    have hq := hx2b _ rfl
    subst hq
    exact Fits.of rfl
  replace hb8 : x7 = true := by simpa [ieq, ilt, ile] using hb8
  rw [if_pos hb8] at hx2o
  refine VW.skip ?_
  refine hK4 _ ?_
  refine VW.block ?_
  refine VW.wr tau_ok Sound.none [some 15, some 16, some 3] [(0, .val (dI a0)), (3, .val (i64 (w64 (s2 + 1))))] rfl ?_ ?_
  · simp <;> simp [ieq, ilt, ile]
  cases hx2o
  exact ⟨_, rfl, Fits.of rfl⟩

theorem s_l11Minus_ok {a0 : Int} {a1 : List Int} {a2 : List Int} {r : List Int} (h : s_l11Minus a0 a1 a2 = some r) :
    VCall Try.prog 251 [i64 a0, dI a1, dI a2] [.own true (dI r)] := by
  unfold s_l11Minus at h
  refine VCall.enter Try.call251 Try.func251 rfl 15 Try.ntmps251 (by simp) [.tmp 6] rfl ?_
  show VW _ _ _ (mk [(0, .val (i64 a0)), (1, .val (dI a1)), (2, .val (dI a2))]) _
  refine VW.ws tau_ok Sound.none [some 6] [(0, .val (i64 a0)), (1, .val (dI a1)), (2, .val (dI a2))] rfl ?_ ?_
  · simp <;> simp [ieq, ilt, ile]
  obtain ⟨v1, hv1, h⟩ := bind_some h
  obtain ⟨v2, hv2, h⟩ := bind_some h
  refine VW.ws tau_ok ((Sound.none.add 13 (s_l11Scale_ok hv1) rfl).add 14 (s_l11Add_ok hv2) rfl) [some 7, some 8, some 9, some 10, some 11, some 12, some 13, some 14, some 6] [(6, .ref 6 [] true (dI v2))] rfl ?_ ?_
  · simp <;> simp [ieq, ilt, ile]
  cases h
  refine VW.ret ?_
  simp [Post, PostM, PostC, PostC2, Nx, Bk]

theorem s_l12Rest_ok {a0 : Int} {a1 : List (List Int)} {a2 : List Int} {r : List Int} (h : s_l12Rest a0 a1 a2 = some r) :
    VCall Try.prog 249 [i64 a0, dM a1, dI a2] [.own true (dI r)] := by
  unfold s_l12Rest at h
  refine VCall.enter Try.call249 Try.func249 rfl 39 Try.ntmps249 (by simp) [.tmp 6] rfl ?_
  show VW _ _ _ (mk [(0, .val (i64 a0)), (1, .val (dM a1)), (2, .val (dI a2))]) _
  refine VW.ws tau_ok Sound.none [some 6] [(0, .val (i64 a0)), (1, .val (dM a1)), (2, .val (dI a2))] rfl ?_ ?_
  · simp <;> simp [ieq, ilt, ile]
  obtain ⟨v1, hv1, h⟩ := bind_some h
  refine VW.ws tau_ok (Sound.none.add 11 (s_l01Own_ok hv1) rfl) [some 10, some 11, some 7] [(0, .val (i64 a0)), (1, .val (dM a1)), (7, .ref 7 [] true (dI v1))] rfl ?_ ?_
  · simp <;> simp [ieq, ilt, ile]
  refine VW.sqc fun K2 hK2 hCK2 => ?_
  refine VW.ws tau_ok Sound.none [some 8] [(0, .val (i64 a0)), (1, .val (dM a1)), (7, .ref 7 [] true (dI v1)), (8, .val (i64 0))] rfl ?_ ?_
  · simp <;> simp [ieq, ilt, ile]
  obtain ⟨x3, hx3, h⟩ := bind_some h
  refine VW.tlE [(7, .ref 7 [] true (dI x3))] (hCK2) ?_ ?_
  · clear hx3
    refine hK2 _ ?_
    refine VW.ws tau_ok Sound.none [some 38, some 6] [(6, .ref 6 [] true (dI x3))] rfl ?_ ?_
    · simp <;> simp [ieq, ilt, ile]
    cases h
    refine VW.ret ?_
    simp [Post, PostM, PostC, PostC2, Nx, Bk]
  refine VW.block ?_
  refine VW.loopF (s_l12Rest_L0 a0 a1) (fun s3 => [(0, .val (i64 a0)), (1, .val (dM a1)), (7, .ref 7 [] true (dI s3.1)), (8, .val (i64 s3.2))]) hx3 (Fits.of rfl) ?_
  clear hx3
  intro s3 ox3 hx3o hx3b
  unfold s_l12Rest_L0 at hx3o
  refine VW.sqc fun K5 hK5 hCK5 => ?_
  refine VW.ws tau_ok Sound.none [some 12, some 13, some 14, some 15] [(0, .val (i64 a0)), (1, .val (dM a1)), (7, .ref 7 [] true (dI s3.1)), (8, .val (i64 s3.2)), (15, .val (.bool (ilt s3.2 (a1.length : Int))))] rfl ?_ ?_
  · simp <;> simp [ieq, ilt, ile]
  refine VW.cond rfl (fun hb6 => ?_) (fun hb6 => ?_)
  rotate_left
  ·
    replace hb6 : ¬ (s3.2 < (a1.length : Int)) := by simpa [ieq, ilt, ile] using hb6
    rw [if_neg hb6] at hx3o
    refine VW.exit ?_
    cases hx3o
    have hq := hx3b _ rfl
    subst hq
    exact Fits.of rfl
  replace hb6 : s3.2 < (a1.length : Int) := by simpa [ieq, ilt, ile] using hb6
  rw [if_pos hb6] at hx3o
  refine VW.skip ?_
  refine hK5 _ ?_
  obtain ⟨x7, hx7, hx3o⟩ := bind_some hx3o
  refine VW.sqE [(0, .val (i64 a0)), (1, .val (dM a1)), (7, .ref 7 [] true (dI x7)), (8, .val (i64 s3.2))] ?_ ?_
  · clear hx7
    refine VW.wr tau_ok Sound.none [some 16, some 17, some 8] [(0, .val (i64 a0)), (1, .val (dM a1)), (7, .ref 7 [] true (dI x7)), (8, .val (i64 (w64 (s3.2 + 1))))] rfl ?_ ?_
    · simp <;> simp [ieq, ilt, ile]
    cases hx3o
    exact ⟨_, rfl, Fits.of rfl⟩
  refine VW.block ?_
  obtain ⟨v9, hv9, hx7⟩ := bind_some hx7
  obtain ⟨hv9a, hv9b, hv9c, hv9d⟩ := idx_some hv9
  obtain ⟨v10, hv10, hx7⟩ := bind_some hx7
  obtain ⟨v11, hv11, hx7⟩ := bind_some hx7
  obtain ⟨hv11a, hv11b, hv11c, hv11d⟩ := idx_some hv11
  refine VW.ws tau_ok (Sound.none.add 23 (s_l12First_ok hv10) rfl) [some 18, some 19, some 20, some 21, some 22, some 23, some 24, some 25, some 9] [(0, .val (i64 a0)), (1, .val (dM a1)), (7, .ref 7 [] true (dI s3.1)), (8, .val (i64 s3.2)), (9, .val (i64 v11))] rfl ?_ ?_
  · simp [hv9a, hv9b, hv9c, hv9d, hv11a, hv11b, hv11c, hv11d] <;> simp [ieq, ilt, ile]
  refine VW.ws tau_ok Sound.none [some 26, some 27] [(0, .val (i64 a0)), (1, .val (dM a1)), (7, .ref 7 [] true (dI s3.1)), (8, .val (i64 s3.2)), (9, .val (i64 v11)), (27, .val (.bool (!(ieq v11 0))))] rfl ?_ ?_
  · simp <;> simp [ieq, ilt, ile]
  refine VW.cond rfl (fun hb12 => ?_) (fun hb12 => ?_)
  rotate_left
  ·
    replace hb12 : ¬ (¬ v11 = 0) := by simpa [ieq, ilt, ile] using hb12
    rw [if_neg hb12] at hx7
    refine VW.skip ?_
    cases hx7
    exact Fits.of rfl
  replace hb12 : ¬ v11 = 0 := by simpa [ieq, ilt, ile] using hb12
  rw [if_pos hb12] at hx7
  obtain ⟨v13, hv13, hx7⟩ := bind_some hx7
  obtain ⟨v14, hv14, hx7⟩ := bind_some hx7
  refine VW.wr tau_ok ((Sound.none.add 36 (s_l11Scale_ok hv13) rfl).add 37 (s_l11Minus_ok hv14) rfl) [some 28, some 29, some 30, some 31, some 32, some 33, some 34, some 35, some 36, some 37, some 7] [(0, .val (i64 a0)), (1, .val (dM a1)), (7, .ref 7 [] true (dI v14)), (8, .val (i64 s3.2))] rfl ?_ ?_
  · simp [hv9a, hv9b, hv9c, hv9d] <;> simp [ieq, ilt, ile]
  cases hx7
  exact Fits.of rfl

theorem s_l01Inv_ok {a0 : Int} {a1 : Int} {r : Int} (h : s_l01Inv a0 a1 = some r) :
    VCall Try.prog 250 [i64 a0, i64 a1] [.sc (i64 r)] := by
  unfold s_l01Inv at h
  refine VCall.enter Try.call250 Try.func250 rfl 15 Try.ntmps250 (by simp) [.tmp 4] rfl ?_
  show VW _ _ _ (mk [(0, .val (i64 a0)), (1, .val (i64 a1))]) _
  refine VW.ws tau_ok Sound.none [some 4] [(0, .val (i64 a0)), (1, .val (i64 a1))] rfl ?_ ?_
  · simp <;> simp [ieq, ilt, ile]
  refine VW.ws tau_ok Sound.none [some 5] [(0, .val (i64 a0)), (1, .val (i64 a1)), (5, .val (i64 1))] rfl ?_ ?_
  · simp <;> simp [ieq, ilt, ile]
  refine VW.sqc fun K1 hK1 hCK1 => ?_
  obtain ⟨x2, hx2, h⟩ := bind_some h
  refine VW.tlE [(5, .val (i64 x2))] (hCK1) ?_ ?_
  · clear hx2
    refine hK1 _ ?_
    refine VW.ws tau_ok Sound.none [some 14, some 4] [(4, .val (i64 x2))] rfl ?_ ?_
    · simp <;> simp [ieq, ilt, ile]
    cases h
    refine VW.ret ?_
    simp [Post, PostM, PostC, PostC2, Nx, Bk]
  refine VW.block ?_
  refine VW.loopF (s_l01Inv_L0 a0 a1) (fun s2 => [(0, .val (i64 a0)), (1, .val (i64 a1)), (5, .val (i64 s2))]) hx2 (Fits.of rfl) ?_
  clear hx2
  intro s2 ox2 hx2o hx2b
  unfold s_l01Inv_L0 at hx2o
  refine VW.sqc fun K4 hK4 hCK4 => ?_
  obtain ⟨hc5, hx2o⟩ := chk_some hx2o
  have hc5s := hc5
  try simp at hc5s
  refine VW.ws tau_ok Sound.none [some 6, some 7, some 8, some 9, some 10, some 11] [(0, .val (i64 a0)), (1, .val (i64 a1)), (5, .val (i64 s2)), (11, .val (.bool (!(ieq ((w64 (a1 * s2)).tmod a0) 1))))] rfl ?_ ?_
  · simp [hc5, hc5s] <;> simp [ieq, ilt, ile]
  refine VW.cond rfl (fun hb6 => ?_) (fun hb6 => ?_)
  rotate_left
  ·
    replace hb6 : ¬ (¬ ((w64 (a1 * s2)).tmod a0) = 1) := by simpa [ieq, ilt, ile] using hb6
    rw [if_neg hb6] at hx2o
    refine VW.exit ?_
    cases hx2o
    have hq := hx2b _ rfl
    subst hq
    exact Fits.of rfl
  replace hb6 : ¬ ((w64 (a1 * s2)).tmod a0) = 1 := by simpa [ieq, ilt, ile] using hb6
  rw [if_pos hb6] at hx2o
  refine VW.skip ?_
  refine hK4 _ ?_
  refine VW.block ?_
  refine VW.wr tau_ok Sound.none [some 12, some 13, some 5] [(0, .val (i64 a0)), (1, .val (i64 a1)), (5, .val (i64 (w64 (s2 + 1))))] rfl ?_ ?_
  · simp <;> simp [ieq, ilt, ile]
  cases hx2o
  exact ⟨_, rfl, Fits.of rfl⟩
end Go.Vam
