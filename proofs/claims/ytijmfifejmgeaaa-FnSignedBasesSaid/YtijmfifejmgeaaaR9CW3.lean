import Derived.Test.YtijmfifejmgeaaaR9T
import Derived.Test.YtijmfifejmgeaaaFmG0
import Derived.Test.YtijmfifejmgeaaaR9CW1
import Derived.Test.YtijmfifejmgeaaaR9CW2
namespace Go.Vam
open Go Go.RowKit Go.Proofs
set_option maxRecDepth 100000
set_option linter.unusedSimpArgs false
set_option linter.unusedVariables false

theorem i_IsDiassociativeLoop_ok {a0 : List (List Int)} {r : Bool × Int} (h : i_IsDiassociativeLoop a0 = some r) :
    VCall Try.prog 22 [dM a0] [.sc (.bool r.1), .sc (i64 r.2)] := by
  unfold i_IsDiassociativeLoop at h
  refine VCall.enter Try.call22 Try.func22 rfl 54 Try.ntmps22 (by simp) [.tmp 2, .tmp 3] rfl ?_
  show VW _ _ _ (mk [(0, .val (dM a0))]) _
  -- region 0
  refine VW.ws tau_ok Sound.none [some 1, some 2, some 3] [(1, .val (.ptr [dM a0]))] rfl ?_ ?_
  · simp <;> simp [ieq, ilt, ile]
  refine VW.sqc fun K1 hK1 hCK1 => ?_
  -- region 1
  obtain ⟨v2, hv2, h⟩ := bind_some h
  refine VW.ws tau_ok (Sound.none.add 13 (i_checkLoop_ok hv2) rfl) [some 12, some 13, some 4] [(1, .val (.ptr [dM a0])), (4, .val (i64 v2))] rfl ?_ ?_
  · simp <;> simp [ieq, ilt, ile]
  -- region 2
  refine VW.ws tau_ok Sound.none [some 14, some 15] [(1, .val (.ptr [dM a0])), (4, .val (i64 v2)), (15, .val (.bool (!(ieq v2 0))))] rfl ?_ ?_
  · simp <;> simp [ieq, ilt, ile]
  refine VW.cond rfl (fun hb3 => ?_) (fun hb3 => ?_)
  ·
    replace hb3 : ¬ v2 = 0 := by simpa [ieq, ilt, ile] using hb3
    rw [if_pos hb3] at h
    -- region 3
    refine VW.ws tau_ok Sound.none [some 16, some 2, some 3] [(2, .val (.bool false)), (3, .val (i64 v2))] rfl ?_ ?_
    · simp <;> simp [ieq, ilt, ile]
    cases h
    refine VW.ret ?_
    simp [Post, PostM, PostC, PostC2, Nx, Bk]
  replace hb3 : ¬ (¬ v2 = 0) := by simpa [ieq, ilt, ile] using hb3
  rw [if_neg hb3] at h
  refine VW.skip ?_
  refine hK1 _ ?_
  refine VW.sqc fun K4 hK4 hCK4 => ?_
  -- region 4
  refine VW.ws tau_ok Sound.none [some 17, some 18, some 19] [(1, .val (.ptr [dM a0])), (19, .val (.bool (ilt 32 (a0.length : Int))))] rfl ?_ ?_
  · simp <;> simp [ieq, ilt, ile]
  refine VW.cond rfl (fun hb5 => ?_) (fun hb5 => ?_)
  ·
    replace hb5 : 32 < (a0.length : Int) := by simpa [ieq, ilt, ile] using hb5
    rw [if_pos hb5] at h
    -- region 5
    refine VW.ws tau_ok Sound.none [some 2, some 3] [(2, .val (.bool false)), (3, .val (i64 3))] rfl ?_ ?_
    · simp <;> simp [ieq, ilt, ile]
    cases h
    refine VW.ret ?_
    simp [Post, PostM, PostC, PostC2, Nx, Bk]
  replace hb5 : ¬ (32 < (a0.length : Int)) := by simpa [ieq, ilt, ile] using hb5
  rw [if_neg hb5] at h
  refine VW.skip ?_
  refine hK4 _ ?_
  refine VW.sqc fun K6 hK6 hCK6 => ?_
  -- region 6
  obtain ⟨v7, hv7, h⟩ := bind_some h
  refine VW.ws tau_ok (Sound.none.add 21 (i_length_LI_ok hv7) rfl) [some 20, some 21, some 22] [(1, .val (.ptr [dM a0])), (21, .val (i64 v7)), (22, .val (i64 0))] rfl ?_ ?_
  · simp <;> simp [ieq, ilt, ile]
  obtain ⟨x8, hx8, h⟩ := bind_some h
  refine VW.tlO (fun y10 => []) x8 (hCK6) ?_ ?_
  · clear hx8
    rintro y10 rfl
    dsimp only at h
    refine hK6 _ ?_
    -- region 25
    refine VW.ws tau_ok Sound.none [some 2, some 3] [(2, .val (.bool true)), (3, .val (i64 0))] rfl ?_ ?_
    · simp <;> simp [ieq, ilt, ile]
    cases h
    refine VW.ret ?_
    simp [Post, PostM, PostC, PostC2, Nx, Bk]
  refine VW.block ?_
  refine VW.loopF (i_IsDiassociativeLoop_L0 a0 v7) (fun s8 => [(1, .val (.ptr [dM a0])), (21, .val (i64 v7)), (22, .val (i64 s8))]) hx8 (Fits.of rfl) ?_
  clear hx8
  intro s8 ox8 hx8o hx8b
  unfold i_IsDiassociativeLoop_L0 at hx8o
  -- region 7
  refine VW.ws tau_ok Sound.none [some 23] [(1, .val (.ptr [dM a0])), (21, .val (i64 v7)), (22, .val (i64 s8)), (23, .val (.bool (ilt s8 v7)))] rfl ?_ ?_
  · simp <;> simp [ieq, ilt, ile]
  refine VW.sqc fun K11 hK11 hCK11 => ?_
  refine VW.cond rfl (fun hb12 => ?_) (fun hb12 => ?_)
  rotate_left
  ·
    replace hb12 : ¬ (s8 < v7) := by simpa [ieq, ilt, ile] using hb12
    rw [if_neg hb12] at hx8o
    refine VW.exit ?_
    cases hx8o
    have hq := hx8b _ rfl
    subst hq
    exact ⟨_, rfl, Fits.of rfl⟩
  replace hb12 : s8 < v7 := by simpa [ieq, ilt, ile] using hb12
  rw [if_pos hb12] at hx8o
  refine VW.skip ?_
  refine hK11 _ ?_
  refine VW.sqc fun K13 hK13 hCK13 => ?_
  refine VW.block ?_
  -- region 8
  refine VW.ws tau_ok Sound.none [some 24, some 5] [(1, .val (.ptr [dM a0])), (5, .val (i64 s8)), (21, .val (i64 v7)), (22, .val (i64 s8))] rfl ?_ ?_
  · simp <;> simp [ieq, ilt, ile]
  -- region 9
  refine VW.ws tau_ok Sound.none [some 25, some 26, some 27] [(1, .val (.ptr [dM a0])), (5, .val (i64 s8)), (21, .val (i64 v7)), (22, .val (i64 s8)), (26, .val (i64 (w64 (s8 + 1)))), (27, .val (i64 0))] rfl ?_ ?_
  · simp <;> simp [ieq, ilt, ile]
  obtain ⟨x14, hx14, hx8o⟩ := bind_some hx8o
  refine VW.tlO (fun y16 => [(1, .val (.ptr [dM a0])), (21, .val (i64 v7)), (22, .val (i64 s8))]) x14 (hCK13) ?_ ?_
  · clear hx14
    rintro y16 rfl
    dsimp only at hx8o
    refine hK13 _ ?_
    -- region 24
    refine VW.wr tau_ok Sound.none [some 53, some 22] [(1, .val (.ptr [dM a0])), (21, .val (i64 v7)), (22, .val (i64 (w64 (s8 + 1))))] rfl ?_ ?_
    · simp <;> simp [ieq, ilt, ile]
    cases hx8o
    exact ⟨_, rfl, Fits.of rfl⟩
  refine VW.block ?_
  refine VW.loopF (i_IsDiassociativeLoop_L1 a0 s8) (fun s14 => [(1, .val (.ptr [dM a0])), (5, .val (i64 s8)), (21, .val (i64 v7)), (22, .val (i64 s8)), (26, .val (i64 (w64 (s8 + 1)))), (27, .val (i64 s14))]) hx14 (Fits.of rfl) ?_
  clear hx14
  intro s14 ox14 hx14o hx14b
  unfold i_IsDiassociativeLoop_L1 at hx14o
  -- region 10
  refine VW.ws tau_ok Sound.none [some 28] [(1, .val (.ptr [dM a0])), (5, .val (i64 s8)), (21, .val (i64 v7)), (22, .val (i64 s8)), (26, .val (i64 (w64 (s8 + 1)))), (27, .val (i64 s14)), (28, .val (.bool (ilt s14 (w64 (s8 + 1)))))] rfl ?_ ?_
  · simp <;> simp [ieq, ilt, ile]
  refine VW.sqc fun K17 hK17 hCK17 => ?_
  refine VW.cond rfl (fun hb18 => ?_) (fun hb18 => ?_)
  rotate_left
  ·
    replace hb18 : ¬ (s14 < (w64 (s8 + 1))) := by simpa [ieq, ilt, ile] using hb18
    rw [if_neg hb18] at hx14o
    refine VW.exit ?_
    cases hx14o
    have hq := hx14b _ rfl
    subst hq
    exact ⟨_, rfl, Fits.of rfl⟩
  replace hb18 : s14 < (w64 (s8 + 1)) := by simpa [ieq, ilt, ile] using hb18
  rw [if_pos hb18] at hx14o
  refine VW.skip ?_
  refine hK17 _ ?_
  refine VW.sqc fun K19 hK19 hCK19 => ?_
  refine VW.block ?_
  -- region 11
  refine VW.ws tau_ok Sound.none [some 29, some 6] [(1, .val (.ptr [dM a0])), (5, .val (i64 s8)), (6, .val (i64 s14)), (21, .val (i64 v7)), (22, .val (i64 s8)), (26, .val (i64 (w64 (s8 + 1)))), (27, .val (i64 s14))] rfl ?_ ?_
  · simp <;> simp [ieq, ilt, ile]
  -- region 12
  obtain ⟨v20, hv20, hx14o⟩ := bind_some hx14o
  refine VW.ws tau_ok (Sound.none.add 34 (i_subloop_ok hv20) rfl) [some 30, some 31, some 32, some 33, some 34, some 7] [(1, .val (.ptr [dM a0])), (5, .val (i64 s8)), (7, .ref 7 [] true (dI v20)), (21, .val (i64 v7)), (22, .val (i64 s8)), (26, .val (i64 (w64 (s8 + 1)))), (27, .val (i64 s14))] rfl ?_ ?_
  · simp <;> simp [ieq, ilt, ile]
  -- region 13
  refine VW.ws tau_ok Sound.none [some 35, some 36, some 37] [(1, .val (.ptr [dM a0])), (5, .val (i64 s8)), (7, .ref 7 [] true (dI v20)), (21, .val (i64 v7)), (22, .val (i64 s8)), (26, .val (i64 (w64 (s8 + 1)))), (27, .val (i64 s14)), (35, .ref 7 [] true (dI v20)), (36, .val (i64 (v20.length : Int))), (37, .val (i64 0))] rfl ?_ ?_
  · simp <;> simp [ieq, ilt, ile]
  obtain ⟨x21, hx21, hx14o⟩ := bind_some hx14o
  refine VW.tlO (fun y23 => [(1, .val (.ptr [dM a0])), (5, .val (i64 s8)), (21, .val (i64 v7)), (22, .val (i64 s8)), (26, .val (i64 (w64 (s8 + 1)))), (27, .val (i64 s14))]) x21 (hCK19) ?_ ?_
  · clear hx21
    rintro y23 rfl
    dsimp only at hx14o
    refine hK19 _ ?_
    -- region 23
    refine VW.wr tau_ok Sound.none [some 52, some 27] [(1, .val (.ptr [dM a0])), (5, .val (i64 s8)), (21, .val (i64 v7)), (22, .val (i64 s8)), (26, .val (i64 (w64 (s8 + 1)))), (27, .val (i64 (w64 (s14 + 1))))] rfl ?_ ?_
    · simp <;> simp [ieq, ilt, ile]
    cases hx14o
    exact ⟨_, rfl, Fits.of rfl⟩
  refine VW.block ?_
  refine VW.loopF (i_IsDiassociativeLoop_L2 a0 v20) (fun s21 => [(1, .val (.ptr [dM a0])), (5, .val (i64 s8)), (7, .ref 7 [] true (dI v20)), (21, .val (i64 v7)), (22, .val (i64 s8)), (26, .val (i64 (w64 (s8 + 1)))), (27, .val (i64 s14)), (35, .ref 7 [] true (dI v20)), (36, .val (i64 (v20.length : Int))), (37, .val (i64 s21))]) hx21 (Fits.of rfl) ?_
  clear hx21
  intro s21 ox21 hx21o hx21b
  unfold i_IsDiassociativeLoop_L2 at hx21o
  -- region 14
  refine VW.ws tau_ok Sound.none [some 38] [(1, .val (.ptr [dM a0])), (5, .val (i64 s8)), (7, .ref 7 [] true (dI v20)), (21, .val (i64 v7)), (22, .val (i64 s8)), (26, .val (i64 (w64 (s8 + 1)))), (27, .val (i64 s14)), (35, .ref 7 [] true (dI v20)), (36, .val (i64 (v20.length : Int))), (37, .val (i64 s21)), (38, .val (.bool (ilt s21 (v20.length : Int))))] rfl ?_ ?_
  · simp <;> simp [ieq, ilt, ile]
  refine VW.sqc fun K24 hK24 hCK24 => ?_
  refine VW.cond rfl (fun hb25 => ?_) (fun hb25 => ?_)
  rotate_left
  ·
    replace hb25 : ¬ (s21 < (v20.length : Int)) := by simpa [ieq, ilt, ile] using hb25
    rw [if_neg hb25] at hx21o
    refine VW.exit ?_
    cases hx21o
    have hq := hx21b _ rfl
    subst hq
    exact ⟨_, rfl, Fits.of rfl⟩
  replace hb25 : s21 < (v20.length : Int) := by simpa [ieq, ilt, ile] using hb25
  rw [if_pos hb25] at hx21o
  refine VW.skip ?_
  refine hK24 _ ?_
  refine VW.sqc fun K26 hK26 hCK26 => ?_
  refine VW.block ?_
  -- region 15
  obtain ⟨v27, hv27, hx21o⟩ := bind_some hx21o
  obtain ⟨hv27a, hv27b, hv27c, hv27d⟩ := idx_some hv27
  refine VW.ws tau_ok Sound.none [some 39, some 40, some 9, none] [(1, .val (.ptr [dM a0])), (5, .val (i64 s8)), (7, .ref 7 [] true (dI v20)), (9, .ref 9 [] true (.ptr [i64 v27])), (21, .val (i64 v7)), (22, .val (i64 s8)), (26, .val (i64 (w64 (s8 + 1)))), (27, .val (i64 s14)), (35, .ref 7 [] true (dI v20)), (36, .val (i64 (v20.length : Int))), (37, .val (i64 s21))] rfl ?_ ?_
  · simp [hv27a, hv27b, hv27c, hv27d] <;> simp [ieq, ilt, ile]
  -- region 16
  refine VW.ws tau_ok Sound.none [some 41, some 42, some 43] [(1, .val (.ptr [dM a0])), (5, .val (i64 s8)), (7, .ref 7 [] true (dI v20)), (9, .ref 9 [] true (.ptr [i64 v27])), (21, .val (i64 v7)), (22, .val (i64 s8)), (26, .val (i64 (w64 (s8 + 1)))), (27, .val (i64 s14)), (35, .ref 7 [] true (dI v20)), (36, .val (i64 (v20.length : Int))), (37, .val (i64 s21)), (41, .ref 7 [] true (dI v20)), (42, .val (i64 (v20.length : Int))), (43, .val (i64 0))] rfl ?_ ?_
  · simp <;> simp [ieq, ilt, ile]
  obtain ⟨x28, hx28, hx21o⟩ := bind_some hx21o
  refine VW.tlO (fun y30 => [(1, .val (.ptr [dM a0])), (5, .val (i64 s8)), (7, .ref 7 [] true (dI v20)), (21, .val (i64 v7)), (22, .val (i64 s8)), (26, .val (i64 (w64 (s8 + 1)))), (27, .val (i64 s14)), (35, .ref 7 [] true (dI v20)), (36, .val (i64 (v20.length : Int))), (37, .val (i64 s21))]) x28 (hCK26) ?_ ?_
  · clear hx28
    rintro y30 rfl
    dsimp only at hx21o
    refine hK26 _ ?_
    -- region 22
    refine VW.wr tau_ok Sound.none [some 51, some 37] [(1, .val (.ptr [dM a0])), (5, .val (i64 s8)), (7, .ref 7 [] true (dI v20)), (21, .val (i64 v7)), (22, .val (i64 s8)), (26, .val (i64 (w64 (s8 + 1)))), (27, .val (i64 s14)), (35, .ref 7 [] true (dI v20)), (36, .val (i64 (v20.length : Int))), (37, .val (i64 (w64 (s21 + 1))))] rfl ?_ ?_
    · simp <;> simp [ieq, ilt, ile]
    cases hx21o
    exact ⟨_, rfl, Fits.of rfl⟩
  refine VW.block ?_
  refine VW.loopF (i_IsDiassociativeLoop_L3 a0 v20 v27) (fun s28 => [(1, .val (.ptr [dM a0])), (5, .val (i64 s8)), (7, .ref 7 [] true (dI v20)), (9, .val (.ptr [i64 v27])), (21, .val (i64 v7)), (22, .val (i64 s8)), (26, .val (i64 (w64 (s8 + 1)))), (27, .val (i64 s14)), (35, .ref 7 [] true (dI v20)), (36, .val (i64 (v20.length : Int))), (37, .val (i64 s21)), (41, .ref 7 [] true (dI v20)), (42, .val (i64 (v20.length : Int))), (43, .val (i64 s28))]) hx28 (Fits.freeze (s := 9) rfl (by simp) (Fits.of rfl)) ?_
  clear hx28
  intro s28 ox28 hx28o hx28b
  unfold i_IsDiassociativeLoop_L3 at hx28o
  -- region 17
  refine VW.ws tau_ok Sound.none [some 44] [(1, .val (.ptr [dM a0])), (5, .val (i64 s8)), (7, .ref 7 [] true (dI v20)), (9, .val (.ptr [i64 v27])), (21, .val (i64 v7)), (22, .val (i64 s8)), (26, .val (i64 (w64 (s8 + 1)))), (27, .val (i64 s14)), (35, .ref 7 [] true (dI v20)), (36, .val (i64 (v20.length : Int))), (37, .val (i64 s21)), (41, .ref 7 [] true (dI v20)), (42, .val (i64 (v20.length : Int))), (43, .val (i64 s28)), (44, .val (.bool (ilt s28 (v20.length : Int))))] rfl ?_ ?_
  · simp <;> simp [ieq, ilt, ile]
  refine VW.sqc fun K31 hK31 hCK31 => ?_
  refine VW.cond rfl (fun hb32 => ?_) (fun hb32 => ?_)
  rotate_left
  ·
    replace hb32 : ¬ (s28 < (v20.length : Int)) := by simpa [ieq, ilt, ile] using hb32
    rw [if_neg hb32] at hx28o
    refine VW.exit ?_
    cases hx28o
    have hq := hx28b _ rfl
    subst hq
    exact ⟨_, rfl, Fits.of rfl⟩
  replace hb32 : s28 < (v20.length : Int) := by simpa [ieq, ilt, ile] using hb32
  rw [if_pos hb32] at hx28o
  refine VW.skip ?_
  refine hK31 _ ?_
  refine VW.sqc fun K33 hK33 hCK33 => ?_
  refine VW.block ?_
  -- region 18
  obtain ⟨v34, hv34, hx28o⟩ := bind_some hx28o
  obtain ⟨hv34a, hv34b, hv34c, hv34d⟩ := idx_some hv34
  refine VW.ws tau_ok Sound.none [some 45, some 46, some 11, none] [(1, .val (.ptr [dM a0])), (5, .val (i64 s8)), (7, .ref 7 [] true (dI v20)), (9, .val (.ptr [i64 v27])), (11, .ref 11 [] true (.ptr [i64 v34])), (21, .val (i64 v7)), (22, .val (i64 s8)), (26, .val (i64 (w64 (s8 + 1)))), (27, .val (i64 s14)), (35, .ref 7 [] true (dI v20)), (36, .val (i64 (v20.length : Int))), (37, .val (i64 s21)), (41, .ref 7 [] true (dI v20)), (42, .val (i64 (v20.length : Int))), (43, .val (i64 s28))] rfl ?_ ?_
  · simp [hv34a, hv34b, hv34c, hv34d] <;> simp [ieq, ilt, ile]
  refine VW.fits (fl' := [(1, .val (.ptr [dM a0])), (5, .val (i64 s8)), (7, .ref 7 [] true (dI v20)), (9, .val (.ptr [i64 v27])), (11, .val (.ptr [i64 v34])), (21, .val (i64 v7)), (22, .val (i64 s8)), (26, .val (i64 (w64 (s8 + 1)))), (27, .val (i64 s14)), (35, .ref 7 [] true (dI v20)), (36, .val (i64 (v20.length : Int))), (37, .val (i64 s21)), (41, .ref 7 [] true (dI v20)), (42, .val (i64 (v20.length : Int))), (43, .val (i64 s28))]) (Fits.freeze (s := 11) rfl (by simp) (Fits.of rfl)) ?_
  -- region 19
  obtain ⟨v35, hv35, hx28o⟩ := bind_some hx28o
  refine VW.ws tau_ok (Sound.none.add 49 (g_slices_ContainsFunc_LI_I_of_i_IsDiassociativeLoop_c1_ok hv35) rfl) [some 47, some 48, some 49] [(1, .val (.ptr [dM a0])), (5, .val (i64 s8)), (7, .ref 7 [] true (dI v20)), (9, .val (.ptr [i64 v27])), (21, .val (i64 v7)), (22, .val (i64 s8)), (26, .val (i64 (w64 (s8 + 1)))), (27, .val (i64 s14)), (35, .ref 7 [] true (dI v20)), (36, .val (i64 (v20.length : Int))), (37, .val (i64 s21)), (41, .ref 7 [] true (dI v20)), (42, .val (i64 (v20.length : Int))), (43, .val (i64 s28)), (49, .val (.bool v35))] rfl ?_ ?_
  · simp <;> simp [ieq, ilt, ile]
  refine VW.cond rfl (fun hb36 => ?_) (fun hb36 => ?_)
  rotate_left
  ·
    replace hb36 : ¬ (v35 = true) := by simpa [ieq, ilt, ile] using hb36
    rw [if_neg hb36] at hx28o
    refine VW.skip ?_
    refine hK33 _ ?_
    -- region 21
    refine VW.wr tau_ok Sound.none [some 50, some 43] [(1, .val (.ptr [dM a0])), (5, .val (i64 s8)), (7, .ref 7 [] true (dI v20)), (9, .val (.ptr [i64 v27])), (21, .val (i64 v7)), (22, .val (i64 s8)), (26, .val (i64 (w64 (s8 + 1)))), (27, .val (i64 s14)), (35, .ref 7 [] true (dI v20)), (36, .val (i64 (v20.length : Int))), (37, .val (i64 s21)), (41, .ref 7 [] true (dI v20)), (42, .val (i64 (v20.length : Int))), (43, .val (i64 (w64 (s28 + 1))))] rfl ?_ ?_
    · simp <;> simp [ieq, ilt, ile]
    cases hx28o
    exact ⟨_, rfl, Fits.of rfl⟩
  replace hb36 : v35 = true := by simpa [ieq, ilt, ile] using hb36
  rw [if_pos hb36] at hx28o
  -- region 20
  refine VW.ws tau_ok Sound.none [some 2, some 3] [(2, .val (.bool false)), (3, .val (i64 0))] rfl ?_ ?_
  · simp <;> simp [ieq, ilt, ile]
  cases hx28o
  have hq := hx28b _ rfl
  subst hq
  dsimp only at hx21o
  cases hx21o
  have hq := hx21b _ rfl
  subst hq
  dsimp only at hx14o
  cases hx14o
  have hq := hx14b _ rfl
  subst hq
  dsimp only at hx8o
  cases hx8o
  have hq := hx8b _ rfl
  subst hq
  dsimp only at h
  cases h
  refine VW.ret ?_
  simp [Post, PostM, PostC, PostC2, Nx, Bk]

theorem l_FnSignedBases_ok {a0 : List Int} {r : Bool} (h : l_FnSignedBases a0 = some r) :
    VCall Try.prog 5 [.list (a0.map (D.int .u8))] [.sc (.bool r)] := by
  unfold l_FnSignedBases at h
  refine VCall.enter Try.call5 Try.func5 rfl 119 Try.ntmps5 (by simp) [.tmp 2] rfl ?_
  show VW _ _ _ (mk [(0, .val (.list (a0.map (D.int .u8))))]) _
  -- region 0
  refine VW.ws tau_ok Sound.none [some 2] [(0, .val (.list (a0.map (D.int .u8))))] rfl ?_ ?_
  · simp <;> simp [ieq, ilt, ile]
  refine VW.sqc fun K1 hK1 hCK1 => ?_
  -- region 1
  obtain ⟨v2, hv2, h⟩ := bind_some h
  refine VW.ws tau_ok (Sound.none.add 18 (l_big_ok hv2) rfl) [some 17, some 18] [(0, .val (.list (a0.map (D.int .u8)))), (18, .val (.bool v2))] rfl ?_ ?_
  · simp <;> simp [ieq, ilt, ile]
  refine VW.cond rfl (fun hb3 => ?_) (fun hb3 => ?_)
  ·
    replace hb3 : v2 = true := by simpa [ieq, ilt, ile] using hb3
    rw [if_pos hb3] at h
    -- region 2
    refine VW.ws tau_ok Sound.none [some 2] [(2, .val (.bool true))] rfl ?_ ?_
    · simp <;> simp [ieq, ilt, ile]
    cases h
    refine VW.ret ?_
    simp [Post, PostM, PostC, PostC2, Nx, Bk]
  replace hb3 : ¬ (v2 = true) := by simpa [ieq, ilt, ile] using hb3
  rw [if_neg hb3] at h
  refine VW.skip ?_
  refine hK1 _ ?_
  -- region 3
  obtain ⟨v4, hv4, h⟩ := bind_some h
  refine VW.ws tau_ok (Sound.none.add 20 (s_DrawSignedBasis_ok hv4) rfl) [some 19, some 20, some 3, none] [(3, .ref 3 [] true (.ptr [i64 v4.1, dI v4.2]))] rfl ?_ ?_
  · simp <;> simp [ieq, ilt, ile]
  -- region 4
  obtain ⟨v5, hv5, h⟩ := bind_some h
  refine VW.ws tau_ok (Sound.none.add 23 (i_SignedBasis_ok hv5) rfl) [some 22, some 23, some 21, some 24, some 25, some 4, some 5] [(3, .ref 3 [] true (.ptr [i64 v4.1, dI v4.2])), (4, .ref 4 [] true (dM v5.1)), (5, .val (i64 v5.2))] rfl ?_ ?_
  · simp <;> simp [ieq, ilt, ile]
  refine VW.sqc fun K6 hK6 hCK6 => ?_
  -- region 5
  obtain ⟨v7, hv7, h⟩ := bind_some h
  refine VW.ws tau_ok (Sound.none.add 28 (s_SignedBasis_ok hv7) rfl) [some 27, some 28, some 26, some 29, some 30, some 6, some 7] [(3, .ref 3 [] true (.ptr [i64 v4.1, dI v4.2])), (4, .ref 4 [] true (dM v5.1)), (5, .val (i64 v5.2)), (6, .ref 6 [] true (dM v7.1)), (7, .val (i64 v7.2))] rfl ?_ ?_
  · simp <;> simp [ieq, ilt, ile]
  -- region 6
  obtain ⟨x10, hx10, h⟩ := bind_some h
  refine VW.cut [(3, .ref 3 [] true (.ptr [i64 v4.1, dI v4.2])), (4, .ref 4 [] true (dM v5.1)), (5, .val (i64 v5.2)), (39, .val (.bool x10))] ?_ fun hy => ?_
  rotate_left
  · clear h
    by_cases hp8 : ¬ v5.2 = v7.2
    · rw [if_pos hp8] at hx10
      have hp8b : ieq v5.2 v7.2 = false := by simpa [ieq, ilt, ile] using hp8
      have hp8s := hp8b
      try simp at hp8s
      cases hx10
      refine VW.ws tau_ok Sound.none [some 31, some 32, some 33, some 34, some 35, some 36, some 37, some 38, some 39] _ rfl ?_ hy
      simp [hp8b, hp8s] <;> simp [ieq, ilt, ile]
    · rw [if_neg hp8] at hx10
      have hp8b : ieq v5.2 v7.2 = true := by simpa [ieq, ilt, ile] using hp8
      have hp8s := hp8b
      try simp at hp8s
      obtain ⟨v9, hv9, hx10⟩ := bind_some hx10
      cases hx10
      refine VW.ws tau_ok (Sound.none.add 37 (l_same9_ok hv9) rfl) [some 31, some 32, some 33, some 34, some 35, some 36, some 37, some 38, some 39] _ rfl ?_ hy
      simp [hp8b, hp8s] <;> simp [ieq, ilt, ile]
  refine VW.cond rfl (fun hb11 => ?_) (fun hb11 => ?_)
  ·
    replace hb11 : x10 = true := by simpa [ieq, ilt, ile] using hb11
    rw [if_pos hb11] at h
    -- region 7
    refine VW.ws tau_ok Sound.none [some 2] [(2, .val (.bool false))] rfl ?_ ?_
    · simp <;> simp [ieq, ilt, ile]
    cases h
    refine VW.ret ?_
    simp [Post, PostM, PostC, PostC2, Nx, Bk]
  replace hb11 : ¬ (x10 = true) := by simpa [ieq, ilt, ile] using hb11
  rw [if_neg hb11] at h
  refine VW.skip ?_
  refine hK6 _ ?_
  refine VW.sqc fun K12 hK12 hCK12 => ?_
  -- region 8
  refine VW.ws tau_ok Sound.none [some 40, some 41] [(3, .ref 3 [] true (.ptr [i64 v4.1, dI v4.2])), (4, .ref 4 [] true (dM v5.1)), (41, .val (.bool (!(ieq v5.2 0))))] rfl ?_ ?_
  · simp <;> simp [ieq, ilt, ile]
  refine VW.cond rfl (fun hb13 => ?_) (fun hb13 => ?_)
  ·
    replace hb13 : ¬ v5.2 = 0 := by simpa [ieq, ilt, ile] using hb13
    rw [if_pos hb13] at h
    -- region 9
    refine VW.ws tau_ok Sound.none [some 42, some 43, some 44, some 2] [(2, .val (.bool (ieq (v5.1.length : Int) 0)))] rfl ?_ ?_
    · simp <;> simp [ieq, ilt, ile]
    cases h
    refine VW.ret ?_
    simp [Post, PostM, PostC, PostC2, Nx, Bk]
  replace hb13 : ¬ (¬ v5.2 = 0) := by simpa [ieq, ilt, ile] using hb13
  rw [if_neg hb13] at h
  refine VW.skip ?_
  refine hK12 _ ?_
  -- region 10
  refine VW.ws tau_ok Sound.none [some 45, some 46, some 47, some 8] [(4, .ref 4 [] true (dM v5.1)), (8, .val (i64 (v4.2.length : Int)))] rfl ?_ ?_
  · simp <;> simp [ieq, ilt, ile]
  -- region 11
  obtain ⟨v14, hv14, h⟩ := bind_some h
  refine VW.ws tau_ok (Sound.none.add 50 (i_IsAssociativeLoop_ok hv14) rfl) [some 49, some 50, some 48, some 51, some 52, some 9, some 10] [(4, .ref 4 [] true (dM v5.1)), (8, .val (i64 (v4.2.length : Int))), (9, .val (.bool v14.1)), (10, .val (i64 v14.2))] rfl ?_ ?_
  · simp <;> simp [ieq, ilt, ile]
  -- region 12
  obtain ⟨v15, hv15, h⟩ := bind_some h
  refine VW.ws tau_ok (Sound.none.add 55 (i_IsMoufangLoop_ok hv15) rfl) [some 54, some 55, some 53, some 56, some 57, some 11, some 12] [(4, .ref 4 [] true (dM v5.1)), (8, .val (i64 (v4.2.length : Int))), (9, .val (.bool v14.1)), (10, .val (i64 v14.2)), (11, .val (.bool v15.1)), (12, .val (i64 v15.2))] rfl ?_ ?_
  · simp <;> simp [ieq, ilt, ile]
  -- region 13
  obtain ⟨v16, hv16, h⟩ := bind_some h
  refine VW.ws tau_ok (Sound.none.add 60 (i_IsCommutativeLoop_ok hv16) rfl) [some 59, some 60, some 58, some 61, some 62, some 13, some 14] [(4, .ref 4 [] true (dM v5.1)), (8, .val (i64 (v4.2.length : Int))), (9, .val (.bool v14.1)), (10, .val (i64 v14.2)), (11, .val (.bool v15.1)), (12, .val (i64 v15.2)), (13, .val (.bool v16.1)), (14, .val (i64 v16.2))] rfl ?_ ?_
  · simp <;> simp [ieq, ilt, ile]
  -- region 14
  obtain ⟨v17, hv17, h⟩ := bind_some h
  refine VW.ws tau_ok (Sound.none.add 65 (i_IsDiassociativeLoop_ok hv17) rfl) [some 64, some 65, some 63, some 66, some 67, some 15, some 16] [(4, .ref 4 [] true (dM v5.1)), (8, .val (i64 (v4.2.length : Int))), (9, .val (.bool v14.1)), (10, .val (i64 v14.2)), (11, .val (.bool v15.1)), (12, .val (i64 v15.2)), (13, .val (.bool v16.1)), (14, .val (i64 v16.2)), (15, .val (.bool v17.1)), (16, .val (i64 v17.2))] rfl ?_ ?_
  · simp <;> simp [ieq, ilt, ile]
  -- region 15
  obtain ⟨x30, hx30, h⟩ := bind_some h
  refine VW.cut [(2, .val (.bool x30))] ?_ fun hy => ?_
  rotate_left
  · clear h
    by_cases hp18 : v14.2 = 0
    · rw [if_pos hp18] at hx30
      have hp18b : ieq v14.2 0 = true := by simpa [ieq, ilt, ile] using hp18
      have hp18s := hp18b
      try simp at hp18s
      by_cases hp19 : v15.2 = 0
      · rw [if_pos hp19] at hx30
        have hp19b : ieq v15.2 0 = true := by simpa [ieq, ilt, ile] using hp19
        have hp19s := hp19b
        try simp at hp19s
        by_cases hp20 : v16.2 = 0
        · rw [if_pos hp20] at hx30
          have hp20b : ieq v16.2 0 = true := by simpa [ieq, ilt, ile] using hp20
          have hp20s := hp20b
          try simp at hp20s
          by_cases hp21 : v17.2 = 0
          · rw [if_pos hp21] at hx30
            have hp21b : ieq v17.2 0 = true := by simpa [ieq, ilt, ile] using hp21
            have hp21s := hp21b
            try simp at hp21s
            obtain ⟨v22, hv22, hx30⟩ := bind_some hx30
            by_cases hp23 : v22 = true
            · rw [if_pos hp23] at hx30
              have hp23b : v22 = true := by simpa [ieq, ilt, ile] using hp23
              have hp23s := hp23b
              try simp at hp23s
              obtain ⟨hc24, hx30⟩ := chk_some hx30
              have hc24s := hc24
              try simp at hc24s
              by_cases hp25 : (v5.1.length : Int) = (shl .i64 2 (IntKind.u64.wrap ((v4.2.length : Int))))
              · rw [if_pos hp25] at hx30
                have hp25b : ieq (v5.1.length : Int) (shl .i64 2 (IntKind.u64.wrap ((v4.2.length : Int)))) = true := by simpa [ieq, ilt, ile] using hp25
                have hp25s := hp25b
                try simp at hp25s
                by_cases hp26 : (v14.1 == (ile (v4.2.length : Int) 2)) = true
                · rw [if_pos hp26] at hx30
                  have hp26b : (v14.1 == (ile (v4.2.length : Int) 2)) = true := by simpa [ieq, ilt, ile] using hp26
                  have hp26s := hp26b
                  try simp at hp26s
                  by_cases hp27 : (v15.1 == (ile (v4.2.length : Int) 3)) = true
                  · rw [if_pos hp27] at hx30
                    have hp27b : (v15.1 == (ile (v4.2.length : Int) 3)) = true := by simpa [ieq, ilt, ile] using hp27
                    have hp27s := hp27b
                    try simp at hp27s
                    by_cases hp28 : (v16.1 == (ile (v4.2.length : Int) 1)) = true
                    · rw [if_pos hp28] at hx30
                      have hp28b : (v16.1 == (ile (v4.2.length : Int) 1)) = true := by simpa [ieq, ilt, ile] using hp28
                      have hp28s := hp28b
                      try simp at hp28s
                      by_cases hp29 : v17.1 = true
                      · rw [if_pos hp29] at hx30
                        have hp29b : v17.1 = true := by simpa [ieq, ilt, ile] using hp29
                        have hp29s := hp29b
                        try simp at hp29s
                        cases hx30
                        refine VW.ws tau_ok (Sound.none.add 84 (i_IsLoop_ok hv22) rfl) [some 68, some 69, some 70, some 71, some 72, some 73, some 74, some 75, some 76, some 77, some 78, some 79, some 80, some 81, some 82, some 83, some 84, some 85, some 86, some 87, some 88, some 89, some 90, some 91, some 92, some 93, some 94, some 95, some 96, some 97, some 98, some 99, some 100, some 101, some 102, some 103, some 104, some 105, some 106, some 107, some 108, some 109, some 110, some 111, some 112, some 113, some 114, some 115, some 116, some 117, some 118, some 2] _ rfl ?_ hy
                        simp [hp18b, hp18s, hp19b, hp19s, hp20b, hp20s, hp21b, hp21s, hp23b, hp23s, hc24, hc24s, hp25b, hp25s, hp26b, hp26s, hp27b, hp27s, hp28b, hp28s, hp29b, hp29s] <;> simp [ieq, ilt, ile]
                      · rw [if_neg hp29] at hx30
                        have hp29b : v17.1 = false := by simpa [ieq, ilt, ile] using hp29
                        have hp29s := hp29b
                        try simp at hp29s
                        cases hx30
                        refine VW.ws tau_ok (Sound.none.add 84 (i_IsLoop_ok hv22) rfl) [some 68, some 69, some 70, some 71, some 72, some 73, some 74, some 75, some 76, some 77, some 78, some 79, some 80, some 81, some 82, some 83, some 84, some 85, some 86, some 87, some 88, some 89, some 90, some 91, some 92, some 93, some 94, some 95, some 96, some 97, some 98, some 99, some 100, some 101, some 102, some 103, some 104, some 105, some 106, some 107, some 108, some 109, some 110, some 111, some 112, some 113, some 114, some 115, some 116, some 117, some 118, some 2] _ rfl ?_ hy
                        simp [hp18b, hp18s, hp19b, hp19s, hp20b, hp20s, hp21b, hp21s, hp23b, hp23s, hc24, hc24s, hp25b, hp25s, hp26b, hp26s, hp27b, hp27s, hp28b, hp28s, hp29b, hp29s] <;> simp [ieq, ilt, ile]
                    · rw [if_neg hp28] at hx30
                      have hp28b : (v16.1 == (ile (v4.2.length : Int) 1)) = false := by simpa [ieq, ilt, ile] using hp28
                      have hp28s := hp28b
                      try simp at hp28s
                      cases hx30
                      refine VW.ws tau_ok (Sound.none.add 84 (i_IsLoop_ok hv22) rfl) [some 68, some 69, some 70, some 71, some 72, some 73, some 74, some 75, some 76, some 77, some 78, some 79, some 80, some 81, some 82, some 83, some 84, some 85, some 86, some 87, some 88, some 89, some 90, some 91, some 92, some 93, some 94, some 95, some 96, some 97, some 98, some 99, some 100, some 101, some 102, some 103, some 104, some 105, some 106, some 107, some 108, some 109, some 110, some 111, some 112, some 113, some 114, some 115, some 116, some 117, some 118, some 2] _ rfl ?_ hy
                      simp [hp18b, hp18s, hp19b, hp19s, hp20b, hp20s, hp21b, hp21s, hp23b, hp23s, hc24, hc24s, hp25b, hp25s, hp26b, hp26s, hp27b, hp27s, hp28b, hp28s] <;> simp [ieq, ilt, ile]
                  · rw [if_neg hp27] at hx30
                    have hp27b : (v15.1 == (ile (v4.2.length : Int) 3)) = false := by simpa [ieq, ilt, ile] using hp27
                    have hp27s := hp27b
                    try simp at hp27s
                    cases hx30
                    refine VW.ws tau_ok (Sound.none.add 84 (i_IsLoop_ok hv22) rfl) [some 68, some 69, some 70, some 71, some 72, some 73, some 74, some 75, some 76, some 77, some 78, some 79, some 80, some 81, some 82, some 83, some 84, some 85, some 86, some 87, some 88, some 89, some 90, some 91, some 92, some 93, some 94, some 95, some 96, some 97, some 98, some 99, some 100, some 101, some 102, some 103, some 104, some 105, some 106, some 107, some 108, some 109, some 110, some 111, some 112, some 113, some 114, some 115, some 116, some 117, some 118, some 2] _ rfl ?_ hy
                    simp [hp18b, hp18s, hp19b, hp19s, hp20b, hp20s, hp21b, hp21s, hp23b, hp23s, hc24, hc24s, hp25b, hp25s, hp26b, hp26s, hp27b, hp27s] <;> simp [ieq, ilt, ile]
                · rw [if_neg hp26] at hx30
                  have hp26b : (v14.1 == (ile (v4.2.length : Int) 2)) = false := by simpa [ieq, ilt, ile] using hp26
                  have hp26s := hp26b
                  try simp at hp26s
                  cases hx30
                  refine VW.ws tau_ok (Sound.none.add 84 (i_IsLoop_ok hv22) rfl) [some 68, some 69, some 70, some 71, some 72, some 73, some 74, some 75, some 76, some 77, some 78, some 79, some 80, some 81, some 82, some 83, some 84, some 85, some 86, some 87, some 88, some 89, some 90, some 91, some 92, some 93, some 94, some 95, some 96, some 97, some 98, some 99, some 100, some 101, some 102, some 103, some 104, some 105, some 106, some 107, some 108, some 109, some 110, some 111, some 112, some 113, some 114, some 115, some 116, some 117, some 118, some 2] _ rfl ?_ hy
                  simp [hp18b, hp18s, hp19b, hp19s, hp20b, hp20s, hp21b, hp21s, hp23b, hp23s, hc24, hc24s, hp25b, hp25s, hp26b, hp26s] <;> simp [ieq, ilt, ile]
              · rw [if_neg hp25] at hx30
                have hp25b : ieq (v5.1.length : Int) (shl .i64 2 (IntKind.u64.wrap ((v4.2.length : Int)))) = false := by simpa [ieq, ilt, ile] using hp25
                have hp25s := hp25b
                try simp at hp25s
                cases hx30
                refine VW.ws tau_ok (Sound.none.add 84 (i_IsLoop_ok hv22) rfl) [some 68, some 69, some 70, some 71, some 72, some 73, some 74, some 75, some 76, some 77, some 78, some 79, some 80, some 81, some 82, some 83, some 84, some 85, some 86, some 87, some 88, some 89, some 90, some 91, some 92, some 93, some 94, some 95, some 96, some 97, some 98, some 99, some 100, some 101, some 102, some 103, some 104, some 105, some 106, some 107, some 108, some 109, some 110, some 111, some 112, some 113, some 114, some 115, some 116, some 117, some 118, some 2] _ rfl ?_ hy
                simp [hp18b, hp18s, hp19b, hp19s, hp20b, hp20s, hp21b, hp21s, hp23b, hp23s, hc24, hc24s, hp25b, hp25s] <;> simp [ieq, ilt, ile]
            · rw [if_neg hp23] at hx30
              have hp23b : v22 = false := by simpa [ieq, ilt, ile] using hp23
              have hp23s := hp23b
              try simp at hp23s
              cases hx30
              refine VW.ws tau_ok (Sound.none.add 84 (i_IsLoop_ok hv22) rfl) [some 68, some 69, some 70, some 71, some 72, some 73, some 74, some 75, some 76, some 77, some 78, some 79, some 80, some 81, some 82, some 83, some 84, some 85, some 86, some 87, some 88, some 89, some 90, some 91, some 92, some 93, some 94, some 95, some 96, some 97, some 98, some 99, some 100, some 101, some 102, some 103, some 104, some 105, some 106, some 107, some 108, some 109, some 110, some 111, some 112, some 113, some 114, some 115, some 116, some 117, some 118, some 2] _ rfl ?_ hy
              simp [hp18b, hp18s, hp19b, hp19s, hp20b, hp20s, hp21b, hp21s, hp23b, hp23s] <;> simp [ieq, ilt, ile]
          · rw [if_neg hp21] at hx30
            have hp21b : ieq v17.2 0 = false := by simpa [ieq, ilt, ile] using hp21
            have hp21s := hp21b
            try simp at hp21s
            cases hx30
            refine VW.ws tau_ok Sound.none [some 68, some 69, some 70, some 71, some 72, some 73, some 74, some 75, some 76, some 77, some 78, some 79, some 80, some 81, some 82, some 83, some 84, some 85, some 86, some 87, some 88, some 89, some 90, some 91, some 92, some 93, some 94, some 95, some 96, some 97, some 98, some 99, some 100, some 101, some 102, some 103, some 104, some 105, some 106, some 107, some 108, some 109, some 110, some 111, some 112, some 113, some 114, some 115, some 116, some 117, some 118, some 2] _ rfl ?_ hy
            simp [hp18b, hp18s, hp19b, hp19s, hp20b, hp20s, hp21b, hp21s] <;> simp [ieq, ilt, ile]
        · rw [if_neg hp20] at hx30
          have hp20b : ieq v16.2 0 = false := by simpa [ieq, ilt, ile] using hp20
          have hp20s := hp20b
          try simp at hp20s
          cases hx30
          refine VW.ws tau_ok Sound.none [some 68, some 69, some 70, some 71, some 72, some 73, some 74, some 75, some 76, some 77, some 78, some 79, some 80, some 81, some 82, some 83, some 84, some 85, some 86, some 87, some 88, some 89, some 90, some 91, some 92, some 93, some 94, some 95, some 96, some 97, some 98, some 99, some 100, some 101, some 102, some 103, some 104, some 105, some 106, some 107, some 108, some 109, some 110, some 111, some 112, some 113, some 114, some 115, some 116, some 117, some 118, some 2] _ rfl ?_ hy
          simp [hp18b, hp18s, hp19b, hp19s, hp20b, hp20s] <;> simp [ieq, ilt, ile]
      · rw [if_neg hp19] at hx30
        have hp19b : ieq v15.2 0 = false := by simpa [ieq, ilt, ile] using hp19
        have hp19s := hp19b
        try simp at hp19s
        cases hx30
        refine VW.ws tau_ok Sound.none [some 68, some 69, some 70, some 71, some 72, some 73, some 74, some 75, some 76, some 77, some 78, some 79, some 80, some 81, some 82, some 83, some 84, some 85, some 86, some 87, some 88, some 89, some 90, some 91, some 92, some 93, some 94, some 95, some 96, some 97, some 98, some 99, some 100, some 101, some 102, some 103, some 104, some 105, some 106, some 107, some 108, some 109, some 110, some 111, some 112, some 113, some 114, some 115, some 116, some 117, some 118, some 2] _ rfl ?_ hy
        simp [hp18b, hp18s, hp19b, hp19s] <;> simp [ieq, ilt, ile]
    · rw [if_neg hp18] at hx30
      have hp18b : ieq v14.2 0 = false := by simpa [ieq, ilt, ile] using hp18
      have hp18s := hp18b
      try simp at hp18s
      cases hx30
      refine VW.ws tau_ok Sound.none [some 68, some 69, some 70, some 71, some 72, some 73, some 74, some 75, some 76, some 77, some 78, some 79, some 80, some 81, some 82, some 83, some 84, some 85, some 86, some 87, some 88, some 89, some 90, some 91, some 92, some 93, some 94, some 95, some 96, some 97, some 98, some 99, some 100, some 101, some 102, some 103, some 104, some 105, some 106, some 107, some 108, some 109, some 110, some 111, some 112, some 113, some 114, some 115, some 116, some 117, some 118, some 2] _ rfl ?_ hy
      simp [hp18b, hp18s] <;> simp [ieq, ilt, ile]
  cases h
  refine VW.ret ?_
  simp [Post, PostM, PostC, PostC2, Nx, Bk]
end Go.Vam
