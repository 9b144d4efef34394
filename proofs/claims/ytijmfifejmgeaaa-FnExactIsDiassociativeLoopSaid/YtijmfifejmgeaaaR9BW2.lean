import Derived.Test.YtijmfifejmgeaaaR9T
import Derived.Test.YtijmfifejmgeaaaFmG0
import Derived.Test.YtijmfifejmgeaaaR9BW1
namespace Go.Vam
open Go Go.RowKit Go.Proofs
set_option maxRecDepth 100000
set_option linter.unusedSimpArgs false
set_option linter.unusedVariables false

theorem i_IsDiassociativeLoop_ok {a0 : List (List Int)} {r : Bool × Int} (h : i_IsDiassociativeLoop a0 = some r) :
    VCall Try.prog 22 [dM a0] [.sc (.bool r.1), .sc (i64 r.2)] := by
  unfold i_IsDiassociativeLoop at h
  refine VCall.enter Try.call22 Try.func22 rfl 54 Try.ntmps22 (by simp) [.tmp 2, .tmp 3] rfl ?_
  show VW _ _ _ (mk [(0, .val (dM a0))]) _
  -- region 0
  refine VW.ws tau_ok Sound.none [some 1, some 2, some 3] [(1, .val (.ptr [dM a0]))] rfl ?_ ?_
  · simp <;> simp [ieq, ilt, ile]
  refine VW.sqc fun K1 hK1 hCK1 => ?_
  -- region 1
  obtain ⟨v2, hv2, h⟩ := bind_some h
  refine VW.ws tau_ok (Sound.none.add 13 (i_checkLoop_ok hv2) rfl) [some 12, some 13, some 4] [(1, .val (.ptr [dM a0])), (4, .val (i64 v2))] rfl ?_ ?_
  · simp <;> simp [ieq, ilt, ile]
  -- region 2
  refine VW.ws tau_ok Sound.none [some 14, some 15] [(1, .val (.ptr [dM a0])), (4, .val (i64 v2)), (15, .val (.bool (!(ieq v2 0))))] rfl ?_ ?_
  · simp <;> simp [ieq, ilt, ile]
  refine VW.cond rfl (fun hb3 => ?_) (fun hb3 => ?_)
  ·
    replace hb3 : ¬ v2 = 0 := by simpa [ieq, ilt, ile] using hb3
    rw [if_pos hb3] at h
    -- region 3
    refine VW.ws tau_ok Sound.none [some 16, some 2, some 3] [(2, .val (.bool false)), (3, .val (i64 v2))] rfl ?_ ?_
    · simp <;> simp [ieq, ilt, ile]
    cases h
    refine VW.ret ?_
    simp [Post, PostM, PostC, PostC2, Nx, Bk]
  replace hb3 : ¬ (¬ v2 = 0) := by simpa [ieq, ilt, ile] using hb3
  rw [if_neg hb3] at h
  refine VW.skip ?_
  refine hK1 _ ?_
  refine VW.sqc fun K4 hK4 hCK4 => ?_
  -- region 4
  refine VW.ws tau_ok Sound.none [some 17, some 18, some 19] [(1, .val (.ptr [dM a0])), (19, .val (.bool (ilt 32 (a0.length : Int))))] rfl ?_ ?_
  · simp <;> simp [ieq, ilt, ile]
  refine VW.cond rfl (fun hb5 => ?_) (fun hb5 => ?_)
  ·
    replace hb5 : 32 < (a0.length : Int) := by simpa [ieq, ilt, ile] using hb5
    rw [if_pos hb5] at h
    -- region 5
    refine VW.ws tau_ok Sound.none [some 2, some 3] [(2, .val (.bool false)), (3, .val (i64 3))] rfl ?_ ?_
    · simp <;> simp [ieq, ilt, ile]
    cases h
    refine VW.ret ?_
    simp [Post, PostM, PostC, PostC2, Nx, Bk]
  replace hb5 : ¬ (32 < (a0.length : Int)) := by simpa [ieq, ilt, ile] using hb5
  rw [if_neg hb5] at h
  refine VW.skip ?_
  refine hK4 _ ?_
  refine VW.sqc fun K6 hK6 hCK6 => ?_
  -- region 6
  obtain ⟨v7, hv7, h⟩ := bind_some h
  refine VW.ws tau_ok (Sound.none.add 21 (i_length_LI_ok hv7) rfl) [some 20, some 21, some 22] [(1, .val (.ptr [dM a0])), (21, .val (i64 v7)), (22, .val (i64 0))] rfl ?_ ?_
  · simp <;> simp [ieq, ilt, ile]
  obtain ⟨x8, hx8, h⟩ := bind_some h
  refine VW.tlO (fun y10 => []) x8 (hCK6) ?_ ?_
  · clear hx8
    rintro y10 rfl
    dsimp only at h
    refine hK6 _ ?_
    -- region 25
    refine VW.ws tau_ok Sound.none [some 2, some 3] [(2, .val (.bool true)), (3, .val (i64 0))] rfl ?_ ?_
    · simp <;> simp [ieq, ilt, ile]
    cases h
    refine VW.ret ?_
    simp [Post, PostM, PostC, PostC2, Nx, Bk]
  refine VW.block ?_
  refine VW.loopF (i_IsDiassociativeLoop_L0 a0 v7) (fun s8 => [(1, .val (.ptr [dM a0])), (21, .val (i64 v7)), (22, .val (i64 s8))]) hx8 (Fits.of rfl) ?_
  clear hx8
  intro s8 ox8 hx8o hx8b
  unfold i_IsDiassociativeLoop_L0 at hx8o
  -- region 7
  refine VW.ws tau_ok Sound.none [some 23] [(1, .val (.ptr [dM a0])), (21, .val (i64 v7)), (22, .val (i64 s8)), (23, .val (.bool (ilt s8 v7)))] rfl ?_ ?_
  · simp <;> simp [ieq, ilt, ile]
  refine VW.sqc fun K11 hK11 hCK11 => ?_
  refine VW.cond rfl (fun hb12 => ?_) (fun hb12 => ?_)
  rotate_left
  ·
    replace hb12 : ¬ (s8 < v7) := by simpa [ieq, ilt, ile] using hb12
    rw [if_neg hb12] at hx8o
    refine VW.exit ?_
    cases hx8o
    have hq := hx8b _ rfl
    subst hq
    exact ⟨_, rfl, Fits.of rfl⟩
  replace hb12 : s8 < v7 := by simpa [ieq, ilt, ile] using hb12
  rw [if_pos hb12] at hx8o
  refine VW.skip ?_
  refine hK11 _ ?_
  refine VW.sqc fun K13 hK13 hCK13 => ?_
  refine VW.block ?_
  -- region 8
  refine VW.ws tau_ok Sound.none [some 24, some 5] [(1, .val (.ptr [dM a0])), (5, .val (i64 s8)), (21, .val (i64 v7)), (22, .val (i64 s8))] rfl ?_ ?_
  · simp <;> simp [ieq, ilt, ile]
  -- region 9
  refine VW.ws tau_ok Sound.none [some 25, some 26, some 27] [(1, .val (.ptr [dM a0])), (5, .val (i64 s8)), (21, .val (i64 v7)), (22, .val (i64 s8)), (26, .val (i64 (w64 (s8 + 1)))), (27, .val (i64 0))] rfl ?_ ?_
  · simp <;> simp [ieq, ilt, ile]
  obtain ⟨x14, hx14, hx8o⟩ := bind_some hx8o
  refine VW.tlO (fun y16 => [(1, .val (.ptr [dM a0])), (21, .val (i64 v7)), (22, .val (i64 s8))]) x14 (hCK13) ?_ ?_
  · clear hx14
    rintro y16 rfl
    dsimp only at hx8o
    refine hK13 _ ?_
    -- region 24
    refine VW.wr tau_ok Sound.none [some 53, some 22] [(1, .val (.ptr [dM a0])), (21, .val (i64 v7)), (22, .val (i64 (w64 (s8 + 1))))] rfl ?_ ?_
    · simp <;> simp [ieq, ilt, ile]
    cases hx8o
    exact ⟨_, rfl, Fits.of rfl⟩
  refine VW.block ?_
  refine VW.loopF (i_IsDiassociativeLoop_L1 a0 s8) (fun s14 => [(1, .val (.ptr [dM a0])), (5, .val (i64 s8)), (21, .val (i64 v7)), (22, .val (i64 s8)), (26, .val (i64 (w64 (s8 + 1)))), (27, .val (i64 s14))]) hx14 (Fits.of rfl) ?_
  clear hx14
  intro s14 ox14 hx14o hx14b
  unfold i_IsDiassociativeLoop_L1 at hx14o
  -- region 10
  refine VW.ws tau_ok Sound.none [some 28] [(1, .val (.ptr [dM a0])), (5, .val (i64 s8)), (21, .val (i64 v7)), (22, .val (i64 s8)), (26, .val (i64 (w64 (s8 + 1)))), (27, .val (i64 s14)), (28, .val (.bool (ilt s14 (w64 (s8 + 1)))))] rfl ?_ ?_
  · simp <;> simp [ieq, ilt, ile]
  refine VW.sqc fun K17 hK17 hCK17 => ?_
  refine VW.cond rfl (fun hb18 => ?_) (fun hb18 => ?_)
  rotate_left
  ·
    replace hb18 : ¬ (s14 < (w64 (s8 + 1))) := by simpa [ieq, ilt, ile] using hb18
    rw [if_neg hb18] at hx14o
    refine VW.exit ?_
    cases hx14o
    have hq := hx14b _ rfl
    subst hq
    exact ⟨_, rfl, Fits.of rfl⟩
  replace hb18 : s14 < (w64 (s8 + 1)) := by simpa [ieq, ilt, ile] using hb18
  rw [if_pos hb18] at hx14o
  refine VW.skip ?_
  refine hK17 _ ?_
  refine VW.sqc fun K19 hK19 hCK19 => ?_
  refine VW.block ?_
  -- region 11
  refine VW.ws tau_ok Sound.none [some 29, some 6] [(1, .val (.ptr [dM a0])), (5, .val (i64 s8)), (6, .val (i64 s14)), (21, .val (i64 v7)), (22, .val (i64 s8)), (26, .val (i64 (w64 (s8 + 1)))), (27, .val (i64 s14))] rfl ?_ ?_
  · simp <;> simp [ieq, ilt, ile]
  -- region 12
  obtain ⟨v20, hv20, hx14o⟩ := bind_some hx14o
  refine VW.ws tau_ok (Sound.none.add 34 (i_subloop_ok hv20) rfl) [some 30, some 31, some 32, some 33, some 34, some 7] [(1, .val (.ptr [dM a0])), (5, .val (i64 s8)), (7, .ref 7 [] true (dI v20)), (21, .val (i64 v7)), (22, .val (i64 s8)), (26, .val (i64 (w64 (s8 + 1)))), (27, .val (i64 s14))] rfl ?_ ?_
  · simp <;> simp [ieq, ilt, ile]
  -- region 13
  refine VW.ws tau_ok Sound.none [some 35, some 36, some 37] [(1, .val (.ptr [dM a0])), (5, .val (i64 s8)), (7, .ref 7 [] true (dI v20)), (21, .val (i64 v7)), (22, .val (i64 s8)), (26, .val (i64 (w64 (s8 + 1)))), (27, .val (i64 s14)), (35, .ref 7 [] true (dI v20)), (36, .val (i64 (v20.length : Int))), (37, .val (i64 0))] rfl ?_ ?_
  · simp <;> simp [ieq, ilt, ile]
  obtain ⟨x21, hx21, hx14o⟩ := bind_some hx14o
  refine VW.tlO (fun y23 => [(1, .val (.ptr [dM a0])), (5, .val (i64 s8)), (21, .val (i64 v7)), (22, .val (i64 s8)), (26, .val (i64 (w64 (s8 + 1)))), (27, .val (i64 s14))]) x21 (hCK19) ?_ ?_
  · clear hx21
    rintro y23 rfl
    dsimp only at hx14o
    refine hK19 _ ?_
    -- region 23
    refine VW.wr tau_ok Sound.none [some 52, some 27] [(1, .val (.ptr [dM a0])), (5, .val (i64 s8)), (21, .val (i64 v7)), (22, .val (i64 s8)), (26, .val (i64 (w64 (s8 + 1)))), (27, .val (i64 (w64 (s14 + 1))))] rfl ?_ ?_
    · simp <;> simp [ieq, ilt, ile]
    cases hx14o
    exact ⟨_, rfl, Fits.of rfl⟩
  refine VW.block ?_
  refine VW.loopF (i_IsDiassociativeLoop_L2 a0 v20) (fun s21 => [(1, .val (.ptr [dM a0])), (5, .val (i64 s8)), (7, .ref 7 [] true (dI v20)), (21, .val (i64 v7)), (22, .val (i64 s8)), (26, .val (i64 (w64 (s8 + 1)))), (27, .val (i64 s14)), (35, .ref 7 [] true (dI v20)), (36, .val (i64 (v20.length : Int))), (37, .val (i64 s21))]) hx21 (Fits.of rfl) ?_
  clear hx21
  intro s21 ox21 hx21o hx21b
  unfold i_IsDiassociativeLoop_L2 at hx21o
  -- region 14
  refine VW.ws tau_ok Sound.none [some 38] [(1, .val (.ptr [dM a0])), (5, .val (i64 s8)), (7, .ref 7 [] true (dI v20)), (21, .val (i64 v7)), (22, .val (i64 s8)), (26, .val (i64 (w64 (s8 + 1)))), (27, .val (i64 s14)), (35, .ref 7 [] true (dI v20)), (36, .val (i64 (v20.length : Int))), (37, .val (i64 s21)), (38, .val (.bool (ilt s21 (v20.length : Int))))] rfl ?_ ?_
  · simp <;> simp [ieq, ilt, ile]
  refine VW.sqc fun K24 hK24 hCK24 => ?_
  refine VW.cond rfl (fun hb25 => ?_) (fun hb25 => ?_)
  rotate_left
  ·
    replace hb25 : ¬ (s21 < (v20.length : Int)) := by simpa [ieq, ilt, ile] using hb25
    rw [if_neg hb25] at hx21o
    refine VW.exit ?_
    cases hx21o
    have hq := hx21b _ rfl
    subst hq
    exact ⟨_, rfl, Fits.of rfl⟩
  replace hb25 : s21 < (v20.length : Int) := by simpa [ieq, ilt, ile] using hb25
  rw [if_pos hb25] at hx21o
  refine VW.skip ?_
  refine hK24 _ ?_
  refine VW.sqc fun K26 hK26 hCK26 => ?_
  refine VW.block ?_
  -- region 15
  obtain ⟨v27, hv27, hx21o⟩ := bind_some hx21o
  obtain ⟨hv27a, hv27b, hv27c, hv27d⟩ := idx_some hv27
  refine VW.ws tau_ok Sound.none [some 39, some 40, some 9, none] [(1, .val (.ptr [dM a0])), (5, .val (i64 s8)), (7, .ref 7 [] true (dI v20)), (9, .ref 9 [] true (.ptr [i64 v27])), (21, .val (i64 v7)), (22, .val (i64 s8)), (26, .val (i64 (w64 (s8 + 1)))), (27, .val (i64 s14)), (35, .ref 7 [] true (dI v20)), (36, .val (i64 (v20.length : Int))), (37, .val (i64 s21))] rfl ?_ ?_
  · simp [hv27a, hv27b, hv27c, hv27d] <;> simp [ieq, ilt, ile]
  -- region 16
  refine VW.ws tau_ok Sound.none [some 41, some 42, some 43] [(1, .val (.ptr [dM a0])), (5, .val (i64 s8)), (7, .ref 7 [] true (dI v20)), (9, .ref 9 [] true (.ptr [i64 v27])), (21, .val (i64 v7)), (22, .val (i64 s8)), (26, .val (i64 (w64 (s8 + 1)))), (27, .val (i64 s14)), (35, .ref 7 [] true (dI v20)), (36, .val (i64 (v20.length : Int))), (37, .val (i64 s21)), (41, .ref 7 [] true (dI v20)), (42, .val (i64 (v20.length : Int))), (43, .val (i64 0))] rfl ?_ ?_
  · simp <;> simp [ieq, ilt, ile]
  obtain ⟨x28, hx28, hx21o⟩ := bind_some hx21o
  refine VW.tlO (fun y30 => [(1, .val (.ptr [dM a0])), (5, .val (i64 s8)), (7, .ref 7 [] true (dI v20)), (21, .val (i64 v7)), (22, .val (i64 s8)), (26, .val (i64 (w64 (s8 + 1)))), (27, .val (i64 s14)), (35, .ref 7 [] true (dI v20)), (36, .val (i64 (v20.length : Int))), (37, .val (i64 s21))]) x28 (hCK26) ?_ ?_
  · clear hx28
    rintro y30 rfl
    dsimp only at hx21o
    refine hK26 _ ?_
    -- region 22
    refine VW.wr tau_ok Sound.none [some 51, some 37] [(1, .val (.ptr [dM a0])), (5, .val (i64 s8)), (7, .ref 7 [] true (dI v20)), (21, .val (i64 v7)), (22, .val (i64 s8)), (26, .val (i64 (w64 (s8 + 1)))), (27, .val (i64 s14)), (35, .ref 7 [] true (dI v20)), (36, .val (i64 (v20.length : Int))), (37, .val (i64 (w64 (s21 + 1))))] rfl ?_ ?_
    · simp <;> simp [ieq, ilt, ile]
    cases hx21o
    exact ⟨_, rfl, Fits.of rfl⟩
  refine VW.block ?_
  refine VW.loopF (i_IsDiassociativeLoop_L3 a0 v20 v27) (fun s28 => [(1, .val (.ptr [dM a0])), (5, .val (i64 s8)), (7, .ref 7 [] true (dI v20)), (9, .val (.ptr [i64 v27])), (21, .val (i64 v7)), (22, .val (i64 s8)), (26, .val (i64 (w64 (s8 + 1)))), (27, .val (i64 s14)), (35, .ref 7 [] true (dI v20)), (36, .val (i64 (v20.length : Int))), (37, .val (i64 s21)), (41, .ref 7 [] true (dI v20)), (42, .val (i64 (v20.length : Int))), (43, .val (i64 s28))]) hx28 (Fits.freeze (s := 9) rfl (by simp) (Fits.of rfl)) ?_
  clear hx28
  intro s28 ox28 hx28o hx28b
  unfold i_IsDiassociativeLoop_L3 at hx28o
  -- region 17
  refine VW.ws tau_ok Sound.none [some 44] [(1, .val (.ptr [dM a0])), (5, .val (i64 s8)), (7, .ref 7 [] true (dI v20)), (9, .val (.ptr [i64 v27])), (21, .val (i64 v7)), (22, .val (i64 s8)), (26, .val (i64 (w64 (s8 + 1)))), (27, .val (i64 s14)), (35, .ref 7 [] true (dI v20)), (36, .val (i64 (v20.length : Int))), (37, .val (i64 s21)), (41, .ref 7 [] true (dI v20)), (42, .val (i64 (v20.length : Int))), (43, .val (i64 s28)), (44, .val (.bool (ilt s28 (v20.length : Int))))] rfl ?_ ?_
  · simp <;> simp [ieq, ilt, ile]
  refine VW.sqc fun K31 hK31 hCK31 => ?_
  refine VW.cond rfl (fun hb32 => ?_) (fun hb32 => ?_)
  rotate_left
  ·
    replace hb32 : ¬ (s28 < (v20.length : Int)) := by simpa [ieq, ilt, ile] using hb32
    rw [if_neg hb32] at hx28o
    refine VW.exit ?_
    cases hx28o
    have hq := hx28b _ rfl
    subst hq
    exact ⟨_, rfl, Fits.of rfl⟩
  replace hb32 : s28 < (v20.length : Int) := by simpa [ieq, ilt, ile] using hb32
  rw [if_pos hb32] at hx28o
  refine VW.skip ?_
  refine hK31 _ ?_
  refine VW.sqc fun K33 hK33 hCK33 => ?_
  refine VW.block ?_
  -- region 18
  obtain ⟨v34, hv34, hx28o⟩ := bind_some hx28o
  obtain ⟨hv34a, hv34b, hv34c, hv34d⟩ := idx_some hv34
  refine VW.ws tau_ok Sound.none [some 45, some 46, some 11, none] [(1, .val (.ptr [dM a0])), (5, .val (i64 s8)), (7, .ref 7 [] true (dI v20)), (9, .val (.ptr [i64 v27])), (11, .ref 11 [] true (.ptr [i64 v34])), (21, .val (i64 v7)), (22, .val (i64 s8)), (26, .val (i64 (w64 (s8 + 1)))), (27, .val (i64 s14)), (35, .ref 7 [] true (dI v20)), (36, .val (i64 (v20.length : Int))), (37, .val (i64 s21)), (41, .ref 7 [] true (dI v20)), (42, .val (i64 (v20.length : Int))), (43, .val (i64 s28))] rfl ?_ ?_
  · simp [hv34a, hv34b, hv34c, hv34d] <;> simp [ieq, ilt, ile]
  refine VW.fits (fl' := [(1, .val (.ptr [dM a0])), (5, .val (i64 s8)), (7, .ref 7 [] true (dI v20)), (9, .val (.ptr [i64 v27])), (11, .val (.ptr [i64 v34])), (21, .val (i64 v7)), (22, .val (i64 s8)), (26, .val (i64 (w64 (s8 + 1)))), (27, .val (i64 s14)), (35, .ref 7 [] true (dI v20)), (36, .val (i64 (v20.length : Int))), (37, .val (i64 s21)), (41, .ref 7 [] true (dI v20)), (42, .val (i64 (v20.length : Int))), (43, .val (i64 s28))]) (Fits.freeze (s := 11) rfl (by simp) (Fits.of rfl)) ?_
  -- region 19
  obtain ⟨v35, hv35, hx28o⟩ := bind_some hx28o
  refine VW.ws tau_ok (Sound.none.add 49 (g_slices_ContainsFunc_LI_I_of_i_IsDiassociativeLoop_c1_ok hv35) rfl) [some 47, some 48, some 49] [(1, .val (.ptr [dM a0])), (5, .val (i64 s8)), (7, .ref 7 [] true (dI v20)), (9, .val (.ptr [i64 v27])), (21, .val (i64 v7)), (22, .val (i64 s8)), (26, .val (i64 (w64 (s8 + 1)))), (27, .val (i64 s14)), (35, .ref 7 [] true (dI v20)), (36, .val (i64 (v20.length : Int))), (37, .val (i64 s21)), (41, .ref 7 [] true (dI v20)), (42, .val (i64 (v20.length : Int))), (43, .val (i64 s28)), (49, .val (.bool v35))] rfl ?_ ?_
  · simp <;> simp [ieq, ilt, ile]
  refine VW.cond rfl (fun hb36 => ?_) (fun hb36 => ?_)
  rotate_left
  ·
    replace hb36 : ¬ (v35 = true) := by simpa [ieq, ilt, ile] using hb36
    rw [if_neg hb36] at hx28o
    refine VW.skip ?_
    refine hK33 _ ?_
    -- region 21
    refine VW.wr tau_ok Sound.none [some 50, some 43] [(1, .val (.ptr [dM a0])), (5, .val (i64 s8)), (7, .ref 7 [] true (dI v20)), (9, .val (.ptr [i64 v27])), (21, .val (i64 v7)), (22, .val (i64 s8)), (26, .val (i64 (w64 (s8 + 1)))), (27, .val (i64 s14)), (35, .ref 7 [] true (dI v20)), (36, .val (i64 (v20.length : Int))), (37, .val (i64 s21)), (41, .ref 7 [] true (dI v20)), (42, .val (i64 (v20.length : Int))), (43, .val (i64 (w64 (s28 + 1))))] rfl ?_ ?_
    · simp <;> simp [ieq, ilt, ile]
    cases hx28o
    exact ⟨_, rfl, Fits.of rfl⟩
  replace hb36 : v35 = true := by simpa [ieq, ilt, ile] using hb36
  rw [if_pos hb36] at hx28o
  -- region 20
  refine VW.ws tau_ok Sound.none [some 2, some 3] [(2, .val (.bool false)), (3, .val (i64 0))] rfl ?_ ?_
  · simp <;> simp [ieq, ilt, ile]
  cases hx28o
  have hq := hx28b _ rfl
  subst hq
  dsimp only at hx21o
  cases hx21o
  have hq := hx21b _ rfl
  subst hq
  dsimp only at hx14o
  cases hx14o
  have hq := hx14b _ rfl
  subst hq
  dsimp only at hx8o
  cases hx8o
  have hq := hx8b _ rfl
  subst hq
  dsimp only at h
  cases h
  refine VW.ret ?_
  simp [Post, PostM, PostC, PostC2, Nx, Bk]

theorem l_eqInt64S_ok {a0 : List Int} {a1 : List Int} {r : Bool} (h : l_eqInt64S a0 a1 = some r) :
    VCall Try.prog 16 [dI a0, dI a1] [.sc (.bool r)] := by
  unfold l_eqInt64S at h
  refine VCall.enter Try.call16 Try.func16 rfl 26 Try.ntmps16 (by simp) [.tmp 4] rfl ?_
  show VW _ _ _ (mk [(0, .val (dI a0)), (1, .val (dI a1))]) _
  -- region 0
  refine VW.ws tau_ok Sound.none [some 4] [(0, .val (dI a0)), (1, .val (dI a1))] rfl ?_ ?_
  · simp <;> simp [ieq, ilt, ile]
  refine VW.sqc fun K1 hK1 hCK1 => ?_
  -- region 1
  refine VW.ws tau_ok Sound.none [some 6, some 7, some 8, some 9, some 10] [(0, .val (dI a0)), (1, .val (dI a1)), (10, .val (.bool (!(ieq (a0.length : Int) (a1.length : Int)))))] rfl ?_ ?_
  · simp <;> simp [ieq, ilt, ile]
  refine VW.cond rfl (fun hb2 => ?_) (fun hb2 => ?_)
  ·
    replace hb2 : ¬ (a0.length : Int) = (a1.length : Int) := by simpa [ieq, ilt, ile] using hb2
    rw [if_pos hb2] at h
    -- region 2
    refine VW.ws tau_ok Sound.none [some 4] [(4, .val (.bool false))] rfl ?_ ?_
    · simp <;> simp [ieq, ilt, ile]
    cases h
    refine VW.ret ?_
    simp [Post, PostM, PostC, PostC2, Nx, Bk]
  replace hb2 : ¬ (¬ (a0.length : Int) = (a1.length : Int)) := by simpa [ieq, ilt, ile] using hb2
  rw [if_neg hb2] at h
  refine VW.skip ?_
  refine hK1 _ ?_
  refine VW.sqc fun K3 hK3 hCK3 => ?_
  -- region 3
  refine VW.ws tau_ok Sound.none [some 5] [(0, .val (dI a0)), (1, .val (dI a1)), (5, .val (i64 0))] rfl ?_ ?_
  · simp <;> simp [ieq, ilt, ile]
  obtain ⟨x4, hx4, h⟩ := bind_some h
  refine VW.tlO (fun y6 => []) x4 (hCK3) ?_ ?_
  · clear hx4
    rintro y6 rfl
    dsimp only at h
    refine hK3 _ ?_
    -- region 8
    refine VW.ws tau_ok Sound.none [some 4] [(4, .val (.bool true))] rfl ?_ ?_
    · simp <;> simp [ieq, ilt, ile]
    cases h
    refine VW.ret ?_
    simp [Post, PostM, PostC, PostC2, Nx, Bk]
  refine VW.block ?_
  refine VW.loopF (l_eqInt64S_L0 a0 a1) (fun s4 => [(0, .val (dI a0)), (1, .val (dI a1)), (5, .val (i64 s4))]) hx4 (Fits.of rfl) ?_
  clear hx4
  intro s4 ox4 hx4o hx4b
  unfold l_eqInt64S_L0 at hx4o
  refine VW.sqc fun K7 hK7 hCK7 => ?_
  -- region 4
  refine VW.ws tau_ok Sound.none [some 11, some 12, some 13, some 14] [(0, .val (dI a0)), (1, .val (dI a1)), (5, .val (i64 s4)), (14, .val (.bool (ilt s4 (a0.length : Int))))] rfl ?_ ?_
  · simp <;> simp [ieq, ilt, ile]
  refine VW.cond rfl (fun hb8 => ?_) (fun hb8 => ?_)
  rotate_left
  ·
    replace hb8 : ¬ (s4 < (a0.length : Int)) := by simpa [ieq, ilt, ile] using hb8
    rw [if_neg hb8] at hx4o
    refine VW.exit ?_
    cases hx4o
    have hq := hx4b _ rfl
    subst hq
    exact ⟨_, rfl, Fits.of rfl⟩
  replace hb8 : s4 < (a0.length : Int) := by simpa [ieq, ilt, ile] using hb8
  rw [if_pos hb8] at hx4o
  refine VW.skip ?_
  refine hK7 _ ?_
  refine VW.sqc fun K9 hK9 hCK9 => ?_
  refine VW.block ?_
  -- region 6
  obtain ⟨v10, hv10, hx4o⟩ := bind_some hx4o
  obtain ⟨hv10a, hv10b, hv10c, hv10d⟩ := idx_some hv10
  obtain ⟨v11, hv11, hx4o⟩ := bind_some hx4o
  obtain ⟨hv11a, hv11b, hv11c, hv11d⟩ := idx_some hv11
  refine VW.wds tau_ok Sound.none try_mixed [some 17, some 18, some 19, some 20, some 21, some 22, some 23, some 24, some 25] [(0, .val (dI a0)), (1, .val (dI a1)), (5, .val (i64 s4)), (25, .val (.bool (!(ieq v10 v11))))] 9 rfl (by kernel_rfl) (by rfl) ?_ ?_
  · simp [hv10a, hv10b, hv10c, hv10d, hv11a, hv11b, hv11c, hv11d] <;> simp [ieq, ilt, ile]
  refine VW.cond rfl (fun hb12 => ?_) (fun hb12 => ?_)
  rotate_left
  ·
    replace hb12 : ¬ (¬ v10 = v11) := by simpa [ieq, ilt, ile] using hb12
    rw [if_neg hb12] at hx4o
    refine VW.skip ?_
    refine hK9 _ ?_
    -- region 5
    refine VW.wr tau_ok Sound.none [some 15, some 16, some 5] [(0, .val (dI a0)), (1, .val (dI a1)), (5, .val (i64 (w64 (s4 + 1))))] rfl ?_ ?_
    · simp <;> simp [ieq, ilt, ile]
    cases hx4o
    exact ⟨_, rfl, Fits.of rfl⟩
  replace hb12 : ¬ v10 = v11 := by simpa [ieq, ilt, ile] using hb12
  rw [if_pos hb12] at hx4o
  -- region 7
  refine VW.ws tau_ok Sound.none [some 4] [(4, .val (.bool false))] rfl ?_ ?_
  · simp <;> simp [ieq, ilt, ile]
  cases hx4o
  have hq := hx4b _ rfl
  subst hq
  dsimp only at h
  cases h
  refine VW.ret ?_
  simp [Post, PostM, PostC, PostC2, Nx, Bk]

theorem l_eqInt64SS_ok {a0 : List (List Int)} {a1 : List (List Int)} {r : Bool} (h : l_eqInt64SS a0 a1 = some r) :
    VCall Try.prog 17 [dM a0, dM a1] [.sc (.bool r)] := by
  unfold l_eqInt64SS at h
  refine VCall.enter Try.call17 Try.func17 rfl 27 Try.ntmps17 (by simp) [.tmp 4] rfl ?_
  show VW _ _ _ (mk [(0, .val (dM a0)), (1, .val (dM a1))]) _
  -- region 0
  refine VW.ws tau_ok Sound.none [some 4] [(0, .val (dM a0)), (1, .val (dM a1))] rfl ?_ ?_
  · simp <;> simp [ieq, ilt, ile]
  refine VW.sqc fun K1 hK1 hCK1 => ?_
  -- region 1
  refine VW.ws tau_ok Sound.none [some 6, some 7, some 8, some 9, some 10] [(0, .val (dM a0)), (1, .val (dM a1)), (10, .val (.bool (!(ieq (a0.length : Int) (a1.length : Int)))))] rfl ?_ ?_
  · simp <;> simp [ieq, ilt, ile]
  refine VW.cond rfl (fun hb2 => ?_) (fun hb2 => ?_)
  ·
    replace hb2 : ¬ (a0.length : Int) = (a1.length : Int) := by simpa [ieq, ilt, ile] using hb2
    rw [if_pos hb2] at h
    -- region 2
    refine VW.ws tau_ok Sound.none [some 4] [(4, .val (.bool false))] rfl ?_ ?_
    · simp <;> simp [ieq, ilt, ile]
    cases h
    refine VW.ret ?_
    simp [Post, PostM, PostC, PostC2, Nx, Bk]
  replace hb2 : ¬ (¬ (a0.length : Int) = (a1.length : Int)) := by simpa [ieq, ilt, ile] using hb2
  rw [if_neg hb2] at h
  refine VW.skip ?_
  refine hK1 _ ?_
  refine VW.sqc fun K3 hK3 hCK3 => ?_
  -- region 3
  refine VW.ws tau_ok Sound.none [some 5] [(0, .val (dM a0)), (1, .val (dM a1)), (5, .val (i64 0))] rfl ?_ ?_
  · simp <;> simp [ieq, ilt, ile]
  obtain ⟨x4, hx4, h⟩ := bind_some h
  refine VW.tlO (fun y6 => []) x4 (hCK3) ?_ ?_
  · clear hx4
    rintro y6 rfl
    dsimp only at h
    refine hK3 _ ?_
    -- region 8
    refine VW.ws tau_ok Sound.none [some 4] [(4, .val (.bool true))] rfl ?_ ?_
    · simp <;> simp [ieq, ilt, ile]
    cases h
    refine VW.ret ?_
    simp [Post, PostM, PostC, PostC2, Nx, Bk]
  refine VW.block ?_
  refine VW.loopF (l_eqInt64SS_L0 a0 a1) (fun s4 => [(0, .val (dM a0)), (1, .val (dM a1)), (5, .val (i64 s4))]) hx4 (Fits.of rfl) ?_
  clear hx4
  intro s4 ox4 hx4o hx4b
  unfold l_eqInt64SS_L0 at hx4o
  refine VW.sqc fun K7 hK7 hCK7 => ?_
  -- region 4
  refine VW.ws tau_ok Sound.none [some 11, some 12, some 13, some 14] [(0, .val (dM a0)), (1, .val (dM a1)), (5, .val (i64 s4)), (14, .val (.bool (ilt s4 (a0.length : Int))))] rfl ?_ ?_
  · simp <;> simp [ieq, ilt, ile]
  refine VW.cond rfl (fun hb8 => ?_) (fun hb8 => ?_)
  rotate_left
  ·
    replace hb8 : ¬ (s4 < (a0.length : Int)) := by simpa [ieq, ilt, ile] using hb8
    rw [if_neg hb8] at hx4o
    refine VW.exit ?_
    cases hx4o
    have hq := hx4b _ rfl
    subst hq
    exact ⟨_, rfl, Fits.of rfl⟩
  replace hb8 : s4 < (a0.length : Int) := by simpa [ieq, ilt, ile] using hb8
  rw [if_pos hb8] at hx4o
  refine VW.skip ?_
  refine hK7 _ ?_
  refine VW.sqc fun K9 hK9 hCK9 => ?_
  refine VW.block ?_
  -- region 6
  obtain ⟨v10, hv10, hx4o⟩ := bind_some hx4o
  obtain ⟨hv10a, hv10b, hv10c, hv10d⟩ := idx_some hv10
  obtain ⟨v11, hv11, hx4o⟩ := bind_some hx4o
  obtain ⟨hv11a, hv11b, hv11c, hv11d⟩ := idx_some hv11
  obtain ⟨v12, hv12, hx4o⟩ := bind_some hx4o
  refine VW.wds tau_ok (Sound.none.add 25 (l_eqInt64S_ok hv12) rfl) try_mixed [some 17, some 18, some 19, some 20, some 21, some 22, some 23, some 24, some 25, some 26] [(0, .val (dM a0)), (1, .val (dM a1)), (5, .val (i64 s4)), (26, .val (.bool (!v12)))] 10 rfl (by kernel_rfl) (by rfl) ?_ ?_
  · simp [hv10a, hv10b, hv10c, hv10d, hv11a, hv11b, hv11c, hv11d] <;> simp [ieq, ilt, ile]
  refine VW.cond rfl (fun hb13 => ?_) (fun hb13 => ?_)
  rotate_left
  ·
    replace hb13 : ¬ (v12 = false) := by simpa [ieq, ilt, ile] using hb13
    rw [if_neg hb13] at hx4o
    refine VW.skip ?_
    refine hK9 _ ?_
    -- region 5
    refine VW.wr tau_ok Sound.none [some 15, some 16, some 5] [(0, .val (dM a0)), (1, .val (dM a1)), (5, .val (i64 (w64 (s4 + 1))))] rfl ?_ ?_
    · simp <;> simp [ieq, ilt, ile]
    cases hx4o
    exact ⟨_, rfl, Fits.of rfl⟩
  replace hb13 : v12 = false := by simpa [ieq, ilt, ile] using hb13
  rw [if_pos hb13] at hx4o
  -- region 7
  refine VW.ws tau_ok Sound.none [some 4] [(4, .val (.bool false))] rfl ?_ ?_
  · simp <;> simp [ieq, ilt, ile]
  cases hx4o
  have hq := hx4b _ rfl
  subst hq
  dsimp only at h
  cases h
  refine VW.ret ?_
  simp [Post, PostM, PostC, PostC2, Nx, Bk]

theorem l_FnExactIsDiassociativeLoop_ok {a0 : List (List Int)} {r : Bool} (h : l_FnExactIsDiassociativeLoop a0 = some r) :
    VCall Try.prog 4 [dM a0] [.sc (.bool r)] := by
  unfold l_FnExactIsDiassociativeLoop at h
  refine VCall.enter Try.call4 Try.func4 rfl 40 Try.ntmps4 (by simp) [.tmp 2] rfl ?_
  show VW _ _ _ (mk [(0, .val (dM a0))]) _
  -- region 0
  refine VW.ws tau_ok Sound.none [some 2] [(0, .val (dM a0))] rfl ?_ ?_
  · simp <;> simp [ieq, ilt, ile]
  -- region 1
  refine VW.ws tau_ok Sound.none [some 3] [(0, .val (dM a0)), (3, .val (i64 1048576))] rfl ?_ ?_
  · simp <;> simp [ieq, ilt, ile]
  -- region 2
  obtain ⟨v1, hv1, h⟩ := bind_some h
  refine VW.ws tau_ok (Sound.none.add 11 (l_szInt64SS_ok hv1) rfl) [some 9, some 10, some 11, some 3] [(0, .val (dM a0)), (3, .val (i64 v1))] rfl ?_ ?_
  · simp <;> simp [ieq, ilt, ile]
  refine VW.sqc fun K2 hK2 hCK2 => ?_
  -- region 3
  refine VW.ws tau_ok Sound.none [some 12, some 13] [(0, .val (dM a0)), (13, .val (.bool (ilt v1 0)))] rfl ?_ ?_
  · simp <;> simp [ieq, ilt, ile]
  refine VW.cond rfl (fun hb3 => ?_) (fun hb3 => ?_)
  ·
    replace hb3 : v1 < 0 := by simpa [ieq, ilt, ile] using hb3
    rw [if_pos hb3] at h
    -- region 4
    refine VW.ws tau_ok Sound.none [some 2] [(2, .val (.bool true))] rfl ?_ ?_
    · simp <;> simp [ieq, ilt, ile]
    cases h
    refine VW.ret ?_
    simp [Post, PostM, PostC, PostC2, Nx, Bk]
  replace hb3 : ¬ (v1 < 0) := by simpa [ieq, ilt, ile] using hb3
  rw [if_neg hb3] at h
  refine VW.skip ?_
  refine hK2 _ ?_
  -- region 5
  obtain ⟨v4, hv4, h⟩ := bind_some h
  obtain ⟨v5, hv5, h⟩ := bind_some h
  refine VW.ws tau_ok ((Sound.none.add 16 (l_toInt64SS_ok hv4) rfl).add 17 (s_IsDiassociativeLoop_ok hv5) rfl) [some 15, some 16, some 17, some 14, some 18, some 19, some 4, some 5] [(0, .val (dM a0)), (4, .val (.bool v5.1)), (5, .val (i64 v5.2))] rfl ?_ ?_
  · simp <;> simp [ieq, ilt, ile]
  -- region 6
  obtain ⟨v6, hv6, h⟩ := bind_some h
  refine VW.ws tau_ok (Sound.none.add 21 (l_toInt64SS_ok hv6) rfl) [some 20, some 21, some 6] [(0, .val (dM a0)), (4, .val (.bool v5.1)), (5, .val (i64 v5.2)), (6, .ref 6 [] true (dM v6))] rfl ?_ ?_
  · simp <;> simp [ieq, ilt, ile]
  -- region 7
  obtain ⟨v7, hv7, h⟩ := bind_some h
  refine VW.ws tau_ok (Sound.none.add 24 (i_IsDiassociativeLoop_ok hv7) rfl) [some 23, some 24, some 22, some 25, some 26, some 7, some 8] [(0, .val (dM a0)), (4, .val (.bool v5.1)), (5, .val (i64 v5.2)), (6, .ref 6 [] true (dM v6)), (7, .val (.bool v7.1)), (8, .val (i64 v7.2))] rfl ?_ ?_
  · simp <;> simp [ieq, ilt, ile]
  refine VW.sqc fun K8 hK8 hCK8 => ?_
  -- region 8
  obtain ⟨x10, hx10, h⟩ := bind_some h
  refine VW.cut [(0, .val (dM a0)), (6, .ref 6 [] true (dM v6)), (34, .val (.bool x10))] ?_ fun hy => ?_
  rotate_left
  · clear h
    by_cases hp9 : (v7.1 != v5.1) = true
    · rw [if_pos hp9] at hx10
      have hp9b : (v7.1 != v5.1) = true := by simpa [ieq, ilt, ile] using hp9
      have hp9s := hp9b
      try simp at hp9s
      cases hx10
      refine VW.ws tau_ok Sound.none [some 27, some 28, some 29, some 30, some 31, some 32, some 33, some 34] _ rfl ?_ hy
      simp [hp9b, hp9s] <;> simp [ieq, ilt, ile]
    · rw [if_neg hp9] at hx10
      have hp9b : (v7.1 != v5.1) = false := by simpa [ieq, ilt, ile] using hp9
      have hp9s := hp9b
      try simp at hp9s
      cases hx10
      refine VW.ws tau_ok Sound.none [some 27, some 28, some 29, some 30, some 31, some 32, some 33, some 34] _ rfl ?_ hy
      simp [hp9b, hp9s] <;> simp [ieq, ilt, ile]
  refine VW.cond rfl (fun hb11 => ?_) (fun hb11 => ?_)
  ·
    replace hb11 : x10 = true := by simpa [ieq, ilt, ile] using hb11
    rw [if_pos hb11] at h
    -- region 9
    refine VW.ws tau_ok Sound.none [some 2] [(2, .val (.bool false))] rfl ?_ ?_
    · simp <;> simp [ieq, ilt, ile]
    cases h
    refine VW.ret ?_
    simp [Post, PostM, PostC, PostC2, Nx, Bk]
  replace hb11 : ¬ (x10 = true) := by simpa [ieq, ilt, ile] using hb11
  rw [if_neg hb11] at h
  refine VW.skip ?_
  refine hK8 _ ?_
  refine VW.sqc fun K12 hK12 hCK12 => ?_
  -- region 10
  obtain ⟨v13, hv13, h⟩ := bind_some h
  obtain ⟨v14, hv14, h⟩ := bind_some h
  refine VW.ws tau_ok ((Sound.none.add 37 (l_toInt64SS_ok hv13) rfl).add 38 (l_eqInt64SS_ok hv14) rfl) [some 35, some 36, some 37, some 38, some 39] [(39, .val (.bool (!v14)))] rfl ?_ ?_
  · simp <;> simp [ieq, ilt, ile]
  refine VW.cond rfl (fun hb15 => ?_) (fun hb15 => ?_)
  ·
    replace hb15 : v14 = false := by simpa [ieq, ilt, ile] using hb15
    rw [if_pos hb15] at h
    -- region 11
    refine VW.ws tau_ok Sound.none [some 2] [(2, .val (.bool false))] rfl ?_ ?_
    · simp <;> simp [ieq, ilt, ile]
    cases h
    refine VW.ret ?_
    simp [Post, PostM, PostC, PostC2, Nx, Bk]
  replace hb15 : ¬ (v14 = false) := by simpa [ieq, ilt, ile] using hb15
  rw [if_neg hb15] at h
  refine VW.skip ?_
  refine hK12 _ ?_
  -- region 12
  refine VW.ws tau_ok Sound.none [some 2] [(2, .val (.bool true))] rfl ?_ ?_
  · simp <;> simp [ieq, ilt, ile]
  cases h
  refine VW.ret ?_
  simp [Post, PostM, PostC, PostC2, Nx, Bk]
end Go.Vam
