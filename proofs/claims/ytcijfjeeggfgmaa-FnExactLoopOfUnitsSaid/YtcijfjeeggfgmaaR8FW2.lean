import Derived.Test.YtcijfjeeggfgmaaR8T
import Derived.Test.YtcijfjeeggfgmaaFmG0
import Derived.Test.YtcijfjeeggfgmaaR8FW1
namespace Go.Vam
open Go Go.RowKit Go.Proofs
set_option maxRecDepth 100000
set_option linter.unusedSimpArgs false
set_option linter.unusedVariables false

theorem i_Doubling_normCounts_ok {a0_0 : Int} {a0_1 : List Int} {r : List (List Int)} (h : i_Doubling_normCounts a0_0 a0_1 = some r) :
    VCall Try.prog 106 [.agg [i64 a0_0, dI a0_1]] [.own true (dM r)] := by
  unfold i_Doubling_normCounts at h
  refine VCall.enter Try.call106 Try.func106 rfl 82 Try.ntmps106 (by simp) [.tmp 2] rfl ?_
  show VW _ _ _ (mk [(0, .val (.agg [i64 a0_0, dI a0_1]))]) _
  -- region 0
  refine VW.ws tau_ok Sound.none [some 1, some 2] [(1, .val (.ptr [i64 a0_0, dI a0_1]))] rfl ?_ ?_
  · simp <;> simp [ieq, ilt, ile]
  -- region 1
  obtain ⟨v1, hv1, h⟩ := bind_some h
  refine VW.ws tau_ok (Sound.none.add 10 (i_Doubling_diagonal_ok hv1) rfl) [some 9, some 10, some 3] [(1, .val (.ptr [i64 a0_0, dI a0_1])), (3, .ref 3 [] true (dI v1))] rfl ?_ ?_
  · simp <;> simp [ieq, ilt, ile]
  -- region 2
  obtain ⟨hc2, h⟩ := chk_some h
  have hc2s := hc2
  try simp at hc2s
  refine VW.ws tau_ok Sound.none [some 11, some 12, some 13, some 14, some 4] [(1, .val (.ptr [i64 a0_0, dI a0_1])), (3, .ref 3 [] true (dI v1)), (4, .ref 4 [] true (dM (List.replicate (w64 ((v1.length : Int) + 1)).toNat [])))] rfl ?_ ?_
  · simp [hc2, hc2s] <;> simp [ieq, ilt, ile]
  obtain ⟨l3, hl3, h⟩ := bind_some h
  rw [Option.some.inj hl3]
  -- region 3
  obtain ⟨hc4, h⟩ := chk_some h
  have hc4s := hc4
  try simp at hc4s
  obtain ⟨v5, hv5, h⟩ := bind_some h
  obtain ⟨hv5a, hv5b, hv5c, hv5d⟩ := idx_some hv5
  replace hv5b : v1.length < l3.length := hv5b
  replace hv5c : l3[v1.length]? = some v5 := hv5c
  replace hv5d : ∀ h, l3[v1.length]'h = v5 := hv5d
  refine VW.ws tau_ok Sound.none [some 15, some 16, some 17, some 18, some 19, some 20, some 21, none] [(1, .val (.ptr [i64 a0_0, dI a0_1])), (3, .ref 3 [] true (dI v1)), (4, .ref 4 [] true (dM (l3.set (v1.length : Int).toNat (List.replicate a0_0.toNat 0))))] rfl ?_ ?_
  · simp [hc4, hc4s, hv5a, hv5b, hv5c, hv5d] <;> simp [ieq, ilt, ile]
  obtain ⟨l6, hl6, h⟩ := bind_some h
  rw [Option.some.inj hl6]
  -- region 4
  obtain ⟨v7, hv7, h⟩ := bind_some h
  obtain ⟨hv7a, hv7b, hv7c, hv7d⟩ := idx_some hv7
  replace hv7b : v1.length < l6.length := hv7b
  replace hv7c : l6[v1.length]? = some v7 := hv7c
  replace hv7d : ∀ h, l6[v1.length]'h = v7 := hv7d
  obtain ⟨v8, hv8, h⟩ := bind_some h
  obtain ⟨hv8a, hv8b, hv8c, hv8d⟩ := idx_some hv8
  replace hv8b : 0 < v7.length := hv8b
  replace hv8c : v7[0]? = some v8 := hv8c
  replace hv8d : ∀ h, v7[0]'h = v8 := hv8d
  refine VW.ws tau_ok Sound.none [some 22, some 23, some 24, some 25, some 26, some 27, none] [(1, .val (.ptr [i64 a0_0, dI a0_1])), (3, .ref 3 [] true (dI v1)), (4, .ref 4 [] true (dM (l6.set (v1.length : Int).toNat (v7.set 0 1))))] rfl ?_ ?_
  · simp [hv7a, hv7b, hv7c, hv7d, hv8a, hv8b, hv8c, hv8d] <;> simp [ieq, ilt, ile]
  refine VW.sqc fun K9 hK9 hCK9 => ?_
  -- region 5
  refine VW.ws tau_ok Sound.none [some 28, some 29, some 30, some 5] [(1, .val (.ptr [i64 a0_0, dI a0_1])), (3, .ref 3 [] true (dI v1)), (4, .ref 4 [] true (dM (l6.set (v1.length : Int).toNat (v7.set 0 1)))), (5, .val (i64 (w64 ((v1.length : Int) - 1))))] rfl ?_ ?_
  · simp <;> simp [ieq, ilt, ile]
  obtain ⟨x10, hx10, h⟩ := bind_some h
  refine VW.tlE [(4, .ref 4 [] true (dM x10))] (hCK9) ?_ ?_
  · clear hx10
    refine hK9 _ ?_
    -- region 18
    refine VW.ws tau_ok Sound.none [some 81, some 2] [(2, .ref 2 [] true (dM x10))] rfl ?_ ?_
    · simp <;> simp [ieq, ilt, ile]
    cases h
    refine VW.ret ?_
    simp [Post, PostM, PostC, PostC2, Nx, Bk]
  refine VW.block ?_
  refine VW.loopF (i_Doubling_normCounts_L0 a0_0 a0_1 v1) (fun s10 => [(1, .val (.ptr [i64 a0_0, dI a0_1])), (3, .ref 3 [] true (dI v1)), (4, .ref 4 [] true (dM s10.1)), (5, .val (i64 s10.2))]) hx10 (Fits.of rfl) ?_
  clear hx10
  intro s10 ox10 hx10o hx10b
  unfold i_Doubling_normCounts_L0 at hx10o
  refine VW.sqc fun K12 hK12 hCK12 => ?_
  -- region 6
  refine VW.ws tau_ok Sound.none [some 31, some 32] [(1, .val (.ptr [i64 a0_0, dI a0_1])), (3, .ref 3 [] true (dI v1)), (4, .ref 4 [] true (dM s10.1)), (5, .val (i64 s10.2)), (32, .val (.bool (ile 0 s10.2)))] rfl ?_ ?_
  · simp <;> simp [ieq, ilt, ile]
  refine VW.cond rfl (fun hb13 => ?_) (fun hb13 => ?_)
  rotate_left
  ·
    replace hb13 : ¬ (0 ≤ s10.2) := by simpa [ieq, ilt, ile] using hb13
    rw [if_neg hb13] at hx10o
    refine VW.exit ?_
    cases hx10o
    have hq := hx10b _ rfl
    subst hq
    exact Fits.of rfl
  replace hb13 : 0 ≤ s10.2 := by simpa [ieq, ilt, ile] using hb13
  rw [if_pos hb13] at hx10o
  refine VW.skip ?_
  refine hK12 _ ?_
  refine VW.sqc fun K14 hK14 hCK14 => ?_
  refine VW.block ?_
  -- region 8
  obtain ⟨hc15, hx10o⟩ := chk_some hx10o
  have hc15s := hc15
  try simp at hc15s
  obtain ⟨v16, hv16, hx10o⟩ := bind_some hx10o
  obtain ⟨hv16a, hv16b, hv16c, hv16d⟩ := idx_some hv16
  refine VW.ws tau_ok Sound.none [some 35, some 36, some 37, some 38, some 39, some 40, none] [(1, .val (.ptr [i64 a0_0, dI a0_1])), (3, .ref 3 [] true (dI v1)), (4, .ref 4 [] true (dM (s10.1.set s10.2.toNat (List.replicate a0_0.toNat 0)))), (5, .val (i64 s10.2))] rfl ?_ ?_
  · simp [hc15, hc15s, hv16a, hv16b, hv16c, hv16d] <;> simp [ieq, ilt, ile]
  obtain ⟨l17, hl17, hx10o⟩ := bind_some hx10o
  rw [Option.some.inj hl17]
  -- region 9
  obtain ⟨v18, hv18, hx10o⟩ := bind_some hx10o
  obtain ⟨hv18a, hv18b, hv18c, hv18d⟩ := idx_some hv18
  refine VW.ws tau_ok Sound.none [some 41, some 42, some 43, some 44, some 45, some 46, some 47] [(1, .val (.ptr [i64 a0_0, dI a0_1])), (3, .ref 3 [] true (dI v1)), (4, .ref 4 [] true (dM l17)), (5, .val (i64 s10.2)), (45, .ref 4 [(w64 (s10.2 + 1)).toNat] true (dI v18)), (46, .val (i64 (v18.length : Int))), (47, .val (i64 0))] rfl ?_ ?_
  · simp [hv18a, hv18b, hv18c, hv18d] <;> simp [ieq, ilt, ile]
  obtain ⟨x19, hx19, hx10o⟩ := bind_some hx10o
  refine VW.tlE [(1, .val (.ptr [i64 a0_0, dI a0_1])), (3, .ref 3 [] true (dI v1)), (4, .ref 4 [] true (dM x19)), (5, .val (i64 s10.2))] (hCK14) ?_ ?_
  · clear hx19
    refine hK14 _ ?_
    -- region 7
    refine VW.wr tau_ok Sound.none [some 33, some 34, some 5] [(1, .val (.ptr [i64 a0_0, dI a0_1])), (3, .ref 3 [] true (dI v1)), (4, .ref 4 [] true (dM x19)), (5, .val (i64 (w64 (s10.2 - 1))))] rfl ?_ ?_
    · simp <;> simp [ieq, ilt, ile]
    cases hx10o
    exact ⟨_, rfl, Fits.of rfl⟩
  refine VW.block ?_
  refine VW.loopF (i_Doubling_normCounts_L1 a0_0 a0_1 v1 s10 v18) (fun s19 => [(1, .val (.ptr [i64 a0_0, dI a0_1])), (3, .ref 3 [] true (dI v1)), (4, .ref 4 [] true (dM s19.1)), (5, .val (i64 s10.2)), (45, .ref 4 [(w64 (s10.2 + 1)).toNat] true (dI v18)), (46, .val (i64 (v18.length : Int))), (47, .val (i64 s19.2))]) hx19 (Fits.of rfl) ?_
  clear hx19
  intro s19 ox19 hx19o hx19b
  unfold i_Doubling_normCounts_L1 at hx19o
  -- region 10
  refine VW.ws tau_ok Sound.none [some 48] [(1, .val (.ptr [i64 a0_0, dI a0_1])), (3, .ref 3 [] true (dI v1)), (4, .ref 4 [] true (dM s19.1)), (5, .val (i64 s10.2)), (45, .ref 4 [(w64 (s10.2 + 1)).toNat] true (dI v18)), (46, .val (i64 (v18.length : Int))), (47, .val (i64 s19.2)), (48, .val (.bool (ilt s19.2 (v18.length : Int))))] rfl ?_ ?_
  · simp <;> simp [ieq, ilt, ile]
  refine VW.sqc fun K21 hK21 hCK21 => ?_
  refine VW.cond rfl (fun hb22 => ?_) (fun hb22 => ?_)
  rotate_left
  ·
    replace hb22 : ¬ (s19.2 < (v18.length : Int)) := by simpa [ieq, ilt, ile] using hb22
    rw [if_neg hb22] at hx19o
    refine VW.exit ?_
    cases hx19o
    have hq := hx19b _ rfl
    subst hq
    exact Fits.of rfl
  replace hb22 : s19.2 < (v18.length : Int) := by simpa [ieq, ilt, ile] using hb22
  rw [if_pos hb22] at hx19o
  refine VW.skip ?_
  refine hK21 _ ?_
  refine VW.sqc fun K23 hK23 hCK23 => ?_
  refine VW.block ?_
  -- region 11
  obtain ⟨v24, hv24, hx19o⟩ := bind_some hx19o
  obtain ⟨hv24a, hv24b, hv24c, hv24d⟩ := idx_some hv24
  refine VW.ws tau_ok Sound.none [some 49, some 50, some 51, some 6, some 7] [(1, .val (.ptr [i64 a0_0, dI a0_1])), (3, .ref 3 [] true (dI v1)), (4, .ref 4 [] true (dM s19.1)), (5, .val (i64 s10.2)), (6, .val (i64 s19.2)), (7, .val (i64 v24)), (45, .ref 4 [(w64 (s10.2 + 1)).toNat] true (dI v18)), (46, .val (i64 (v18.length : Int))), (47, .val (i64 s19.2))] rfl ?_ ?_
  · simp [hv24a, hv24b, hv24c, hv24d] <;> simp [ieq, ilt, ile]
  -- region 12
  refine VW.ws tau_ok Sound.none [some 52, some 53, some 54] [(1, .val (.ptr [i64 a0_0, dI a0_1])), (3, .ref 3 [] true (dI v1)), (4, .ref 4 [] true (dM s19.1)), (5, .val (i64 s10.2)), (6, .val (i64 s19.2)), (7, .val (i64 v24)), (45, .ref 4 [(w64 (s10.2 + 1)).toNat] true (dI v18)), (46, .val (i64 (v18.length : Int))), (47, .val (i64 s19.2)), (53, .val (i64 a0_0)), (54, .val (i64 0))] rfl ?_ ?_
  · simp <;> simp [ieq, ilt, ile]
  obtain ⟨x25, hx25, hx19o⟩ := bind_some hx19o
  refine VW.tlE [(1, .val (.ptr [i64 a0_0, dI a0_1])), (3, .ref 3 [] true (dI v1)), (4, .ref 4 [] true (dM x25)), (5, .val (i64 s10.2)), (45, .ref 4 [(w64 (s10.2 + 1)).toNat] true (dI v18)), (46, .val (i64 (v18.length : Int))), (47, .val (i64 s19.2))] (hCK23) ?_ ?_
  · clear hx25
    refine hK23 _ ?_
    -- region 17
    refine VW.wr tau_ok Sound.none [some 80, some 47] [(1, .val (.ptr [i64 a0_0, dI a0_1])), (3, .ref 3 [] true (dI v1)), (4, .ref 4 [] true (dM x25)), (5, .val (i64 s10.2)), (45, .ref 4 [(w64 (s10.2 + 1)).toNat] true (dI v18)), (46, .val (i64 (v18.length : Int))), (47, .val (i64 (w64 (s19.2 + 1))))] rfl ?_ ?_
    · simp <;> simp [ieq, ilt, ile]
    cases hx19o
    exact ⟨_, rfl, Fits.of rfl⟩
  refine VW.block ?_
  refine VW.loopF (i_Doubling_normCounts_L2 a0_0 a0_1 v1 s10 s19 v24) (fun s25 => [(1, .val (.ptr [i64 a0_0, dI a0_1])), (3, .ref 3 [] true (dI v1)), (4, .ref 4 [] true (dM s25.1)), (5, .val (i64 s10.2)), (6, .val (i64 s19.2)), (7, .val (i64 v24)), (45, .ref 4 [(w64 (s10.2 + 1)).toNat] true (dI v18)), (46, .val (i64 (v18.length : Int))), (47, .val (i64 s19.2)), (53, .val (i64 a0_0)), (54, .val (i64 s25.2))]) hx25 (Fits.of rfl) ?_
  clear hx25
  intro s25 ox25 hx25o hx25b
  unfold i_Doubling_normCounts_L2 at hx25o
  -- region 13
  refine VW.ws tau_ok Sound.none [some 55] [(1, .val (.ptr [i64 a0_0, dI a0_1])), (3, .ref 3 [] true (dI v1)), (4, .ref 4 [] true (dM s25.1)), (5, .val (i64 s10.2)), (6, .val (i64 s19.2)), (7, .val (i64 v24)), (45, .ref 4 [(w64 (s10.2 + 1)).toNat] true (dI v18)), (46, .val (i64 (v18.length : Int))), (47, .val (i64 s19.2)), (53, .val (i64 a0_0)), (54, .val (i64 s25.2)), (55, .val (.bool (ilt s25.2 a0_0)))] rfl ?_ ?_
  · simp <;> simp [ieq, ilt, ile]
  refine VW.sqc fun K27 hK27 hCK27 => ?_
  refine VW.cond rfl (fun hb28 => ?_) (fun hb28 => ?_)
  rotate_left
  ·
    replace hb28 : ¬ (s25.2 < a0_0) := by simpa [ieq, ilt, ile] using hb28
    rw [if_neg hb28] at hx25o
    refine VW.exit ?_
    cases hx25o
    have hq := hx25b _ rfl
    subst hq
    exact Fits.of rfl
  replace hb28 : s25.2 < a0_0 := by simpa [ieq, ilt, ile] using hb28
  rw [if_pos hb28] at hx25o
  refine VW.skip ?_
  refine hK27 _ ?_
  refine VW.sqc fun K29 hK29 hCK29 => ?_
  refine VW.block ?_
  -- region 14
  refine VW.ws tau_ok Sound.none [some 56, some 8] [(1, .val (.ptr [i64 a0_0, dI a0_1])), (3, .ref 3 [] true (dI v1)), (4, .ref 4 [] true (dM s25.1)), (5, .val (i64 s10.2)), (6, .val (i64 s19.2)), (7, .val (i64 v24)), (8, .val (i64 s25.2)), (45, .ref 4 [(w64 (s10.2 + 1)).toNat] true (dI v18)), (46, .val (i64 (v18.length : Int))), (47, .val (i64 s19.2)), (53, .val (i64 a0_0)), (54, .val (i64 s25.2))] rfl ?_ ?_
  · simp <;> simp [ieq, ilt, ile]
  -- region 15
  obtain ⟨v30, hv30, hx25o⟩ := bind_some hx25o
  obtain ⟨hv30a, hv30b, hv30c, hv30d⟩ := idx_some hv30
  obtain ⟨v31, hv31, hx25o⟩ := bind_some hx25o
  obtain ⟨v32, hv32, hx25o⟩ := bind_some hx25o
  obtain ⟨hv32a, hv32b, hv32c, hv32d⟩ := idx_some hv32
  obtain ⟨v33, hv33, hx25o⟩ := bind_some hx25o
  obtain ⟨v34, hv34, hx25o⟩ := bind_some hx25o
  obtain ⟨hv34a, hv34b, hv34c, hv34d⟩ := idx_some hv34
  have hdv35 := w64_succ_ne (s10.2) (by first | assumption | omega)
  have hdv35s := hdv35.symm
  refine VW.wdr tau_ok ((Sound.none.add 62 (i_Doubling_field_ok hv31) rfl).add 73 (i_field_num_ok hv33) rfl) try_mixed [some 57, some 58, some 59, some 60, some 61, some 62, some 63, some 64, some 65, some 66, some 67, some 68, some 69, some 70, some 71, some 72, some 73, some 74, some 75, some 76, some 77, some 78, none] [(1, .val (.ptr [i64 a0_0, dI a0_1])), (3, .ref 3 [] true (dI v1)), (4, .ref 4 [] true (dM (s25.1.set s10.2.toNat (v30.set v33.toNat (w64 (v34 + v24)))))), (5, .val (i64 s10.2)), (6, .val (i64 s19.2)), (7, .val (i64 v24)), (45, .ref 4 [(w64 (s10.2 + 1)).toNat] true (dI v18)), (46, .val (i64 (v18.length : Int))), (47, .val (i64 s19.2)), (53, .val (i64 a0_0)), (54, .val (i64 s25.2))] 22 rfl (by kernel_rfl) (by rfl) ?_ ?_
  · simp [hv30a, hv30b, hv30c, hv30d, hv32a, hv32b, hv32c, hv32d, hv34a, hv34b, hv34c, hv34d, hdv35, hdv35s] <;> simp [ieq, ilt, ile]
  refine hK29 _ ?_
  -- region 16
  refine VW.wr tau_ok Sound.none [some 79, some 54] [(1, .val (.ptr [i64 a0_0, dI a0_1])), (3, .ref 3 [] true (dI v1)), (4, .ref 4 [] true (dM (s25.1.set s10.2.toNat (v30.set v33.toNat (w64 (v34 + v24)))))), (5, .val (i64 s10.2)), (6, .val (i64 s19.2)), (7, .val (i64 v24)), (45, .ref 4 [(w64 (s10.2 + 1)).toNat] true (dI v18)), (46, .val (i64 (v18.length : Int))), (47, .val (i64 s19.2)), (53, .val (i64 a0_0)), (54, .val (i64 (w64 (s25.2 + 1))))] rfl ?_ ?_
  · simp <;> simp [ieq, ilt, ile]
  cases hx25o
  exact ⟨_, rfl, Fits.of rfl⟩

theorem i_Doubling_element_ok {a0_0 : Int} {a0_1 : List Int} {a1 : Int} {r : List Int} (h : i_Doubling_element a0_0 a0_1 a1 = some r) :
    VCall Try.prog 108 [.agg [i64 a0_0, dI a0_1], i64 a1] [.own true (dI r)] := by
  unfold i_Doubling_element at h
  refine VCall.enter Try.call108 Try.func108 rfl 11 Try.ntmps108 (by simp) [.tmp 4] rfl ?_
  show VW _ _ _ (mk [(0, .val (.agg [i64 a0_0, dI a0_1])), (1, .val (i64 a1))]) _
  -- region 0
  refine VW.ws tau_ok Sound.none [some 2, some 4] [(1, .val (i64 a1)), (2, .val (.ptr [i64 a0_0, dI a0_1]))] rfl ?_ ?_
  · simp <;> simp [ieq, ilt, ile]
  -- region 1
  obtain ⟨v1, hv1, h⟩ := bind_some h
  obtain ⟨v2, hv2, h⟩ := bind_some h
  obtain ⟨v3, hv3, h⟩ := bind_some h
  obtain ⟨hv3a, hv3b, hv3c, hv3d⟩ := idx_some hv3
  refine VW.ws tau_ok ((Sound.none.add 6 (i_Doubling_size_ok hv1) rfl).add 7 (i_unit_ok hv2) rfl) [some 5, some 6, some 7, some 8, some 9, some 10, some 4] [(4, .ref 7 [a1.toNat] true (dI v3))] rfl ?_ ?_
  · simp [hv3a, hv3b, hv3c, hv3d] <;> simp [ieq, ilt, ile]
  have hr0 := Option.some.inj h
  subst hr0
  refine VW.fits (fl' := [(4, .ref 4 [] true (dI v3))]) (Fits.part (s := 4) rfl (by decide) (Fits.of rfl)) ?_
  refine VW.ret ?_
  simp [Post, PostM, PostC, PostC2, Nx, Bk]

theorem g_slices_Equal_LI_I_ok {a0 : List Int} {a1 : List Int} {r : Bool} (h : g_slices_Equal_LI_I a0 a1 = some r) :
    VCall Try.prog 100 [dI a0, dI a1] [.sc (.bool r)] := by
  unfold g_slices_Equal_LI_I at h
  refine VCall.enter Try.call100 Try.func100 rfl 26 Try.ntmps100 (by simp) [.tmp 4] rfl ?_
  show VW _ _ _ (mk [(0, .val (dI a0)), (1, .val (dI a1))]) _
  -- region 0
  refine VW.ws tau_ok Sound.none [some 4] [(0, .val (dI a0)), (1, .val (dI a1))] rfl ?_ ?_
  · simp <;> simp [ieq, ilt, ile]
  refine VW.sqc fun K1 hK1 hCK1 => ?_
  -- region 1
  refine VW.ws tau_ok Sound.none [some 6, some 7, some 8, some 9, some 10] [(0, .val (dI a0)), (1, .val (dI a1)), (10, .val (.bool (!(ieq (a0.length : Int) (a1.length : Int)))))] rfl ?_ ?_
  · simp <;> simp [ieq, ilt, ile]
  refine VW.cond rfl (fun hb2 => ?_) (fun hb2 => ?_)
  ·
    replace hb2 : ¬ (a0.length : Int) = (a1.length : Int) := by simpa [ieq, ilt, ile] using hb2
    rw [if_pos hb2] at h
    -- region 2
    refine VW.ws tau_ok Sound.none [some 4] [(4, .val (.bool false))] rfl ?_ ?_
    · simp <;> simp [ieq, ilt, ile]
    cases h
    refine VW.ret ?_
    simp [Post, PostM, PostC, PostC2, Nx, Bk]
  replace hb2 : ¬ (¬ (a0.length : Int) = (a1.length : Int)) := by simpa [ieq, ilt, ile] using hb2
  rw [if_neg hb2] at h
  refine VW.skip ?_
  refine hK1 _ ?_
  refine VW.sqc fun K3 hK3 hCK3 => ?_
  -- region 3
  refine VW.ws tau_ok Sound.none [some 11, some 12, some 13] [(0, .val (dI a0)), (1, .val (dI a1)), (12, .val (i64 (a0.length : Int))), (13, .val (i64 0))] rfl ?_ ?_
  · simp <;> simp [ieq, ilt, ile]
  obtain ⟨x4, hx4, h⟩ := bind_some h
  refine VW.tlO (fun y6 => []) x4 (hCK3) ?_ ?_
  · clear hx4
    rintro y6 rfl
    dsimp only at h
    refine hK3 _ ?_
    -- region 9
    refine VW.ws tau_ok Sound.none [some 4] [(4, .val (.bool true))] rfl ?_ ?_
    · simp <;> simp [ieq, ilt, ile]
    cases h
    refine VW.ret ?_
    simp [Post, PostM, PostC, PostC2, Nx, Bk]
  refine VW.block ?_
  refine VW.loopF (g_slices_Equal_LI_I_L0 a0 a1) (fun s4 => [(0, .val (dI a0)), (1, .val (dI a1)), (12, .val (i64 (a0.length : Int))), (13, .val (i64 s4))]) hx4 (Fits.of rfl) ?_
  clear hx4
  intro s4 ox4 hx4o hx4b
  unfold g_slices_Equal_LI_I_L0 at hx4o
  -- region 4
  refine VW.ws tau_ok Sound.none [some 14] [(0, .val (dI a0)), (1, .val (dI a1)), (12, .val (i64 (a0.length : Int))), (13, .val (i64 s4)), (14, .val (.bool (ilt s4 (a0.length : Int))))] rfl ?_ ?_
  · simp <;> simp [ieq, ilt, ile]
  refine VW.sqc fun K7 hK7 hCK7 => ?_
  refine VW.cond rfl (fun hb8 => ?_) (fun hb8 => ?_)
  rotate_left
  ·
    replace hb8 : ¬ (s4 < (a0.length : Int)) := by simpa [ieq, ilt, ile] using hb8
    rw [if_neg hb8] at hx4o
    refine VW.exit ?_
    cases hx4o
    have hq := hx4b _ rfl
    subst hq
    exact ⟨_, rfl, Fits.of rfl⟩
  replace hb8 : s4 < (a0.length : Int) := by simpa [ieq, ilt, ile] using hb8
  rw [if_pos hb8] at hx4o
  refine VW.skip ?_
  refine hK7 _ ?_
  refine VW.sqc fun K9 hK9 hCK9 => ?_
  refine VW.block ?_
  -- region 5
  refine VW.ws tau_ok Sound.none [some 15, some 5] [(0, .val (dI a0)), (1, .val (dI a1)), (5, .val (i64 s4)), (12, .val (i64 (a0.length : Int))), (13, .val (i64 s4))] rfl ?_ ?_
  · simp <;> simp [ieq, ilt, ile]
  -- region 6
  obtain ⟨v10, hv10, hx4o⟩ := bind_some hx4o
  obtain ⟨hv10a, hv10b, hv10c, hv10d⟩ := idx_some hv10
  obtain ⟨v11, hv11, hx4o⟩ := bind_some hx4o
  obtain ⟨hv11a, hv11b, hv11c, hv11d⟩ := idx_some hv11
  refine VW.wds tau_ok Sound.none try_mixed [some 16, some 17, some 18, some 19, some 20, some 21, some 22, some 23, some 24] [(0, .val (dI a0)), (1, .val (dI a1)), (12, .val (i64 (a0.length : Int))), (13, .val (i64 s4)), (24, .val (.bool (!(ieq v10 v11))))] 9 rfl (by kernel_rfl) (by rfl) ?_ ?_
  · simp [hv10a, hv10b, hv10c, hv10d, hv11a, hv11b, hv11c, hv11d] <;> simp [ieq, ilt, ile]
  refine VW.cond rfl (fun hb12 => ?_) (fun hb12 => ?_)
  rotate_left
  ·
    replace hb12 : ¬ (¬ v10 = v11) := by simpa [ieq, ilt, ile] using hb12
    rw [if_neg hb12] at hx4o
    refine VW.skip ?_
    refine hK9 _ ?_
    -- region 8
    refine VW.wr tau_ok Sound.none [some 25, some 13] [(0, .val (dI a0)), (1, .val (dI a1)), (12, .val (i64 (a0.length : Int))), (13, .val (i64 (w64 (s4 + 1))))] rfl ?_ ?_
    · simp <;> simp [ieq, ilt, ile]
    cases hx4o
    exact ⟨_, rfl, Fits.of rfl⟩
  replace hb12 : ¬ v10 = v11 := by simpa [ieq, ilt, ile] using hb12
  rw [if_pos hb12] at hx4o
  -- region 7
  refine VW.ws tau_ok Sound.none [some 4] [(4, .val (.bool false))] rfl ?_ ?_
  · simp <;> simp [ieq, ilt, ile]
  cases hx4o
  have hq := hx4b _ rfl
  subst hq
  dsimp only at h
  cases h
  refine VW.ret ?_
  simp [Post, PostM, PostC, PostC2, Nx, Bk]

theorem g_slices_Clone_LI_I_ok {a0 r : List Int} (h : g_slices_Clone_LI_I a0 = some r) :
    VCall Try.prog 185 [dI a0] [.own true (dI r)] := by
  unfold g_slices_Clone_LI_I at h
  obtain ⟨hc, h⟩ := chk_some h
  cases h
  refine VCall.enter Try.call185 Try.func185 rfl 8 Try.ntmps185 (by simp) [.tmp 2] rfl ?_
  show VW _ _ _ (mk [(0, .val (dI a0))]) _
  refine VW.ws tau_ok Sound.none [some 2] [(0, .val (dI a0))] rfl ?_ ?_
  · simp
  refine VW.sqc fun K hK hCK => ?_
  refine VW.nilcmp tau_ok (T := 22) (e := 2) rfl rfl rfl rfl rfl (by simp) rfl rfl rfl (by simp) fun b hb => ?_
  refine VW.cond rfl (fun h1 => ?_) (fun h1 => ?_)
  · have e := hb h1
    simp at e
    subst e
    refine VW.ws tau_ok Sound.none [some 2] [(2, .ref 2 [] true (.list []))] rfl ?_ ?_
    · simp
    refine VW.ret ?_
    simp [Post, Nx]
  · refine VW.skip ?_
    refine hK _ ?_
    refine VW.ws tau_ok Sound.none [some 5, some 6, some 7, some 2] [(2, .ref 2 [] true (dI a0))] rfl ?_ ?_
    · simp [hc]
    refine VW.ret ?_
    simp [Post, Nx]

theorem i_Doubling_units_c1_b_ok {self : (List Int) → Int → (List (List Int)) → (List Int) → (List (List Int)) → Int → (List Int) → Option (List (List Int))} (hself : ∀ {a0 a1 a2_0 a3_0 a4_0 a5_0 a5_1} {r : List (List Int)}, self a0 a1 a2_0 a3_0 a4_0 a5_0 a5_1 = some r → VClo Try.prog 184 [dI a0, i64 a1] [.fro (.ptr [dM a2_0]), .fro (.ptr [dI a3_0]), .own [dM a4_0], .fro (.ptr [i64 a5_0, dI a5_1]), .self] [.fro (.ptr [dM a2_0]), .fro (.ptr [dI a3_0]), .own [dM r], .fro (.ptr [i64 a5_0, dI a5_1]), .self]) {a0 : List Int} {a1 : Int} {a2_0 : List (List Int)} {a3_0 : List Int} {a4_0 : List (List Int)} {a5_0 : Int} {a5_1 : List Int} {r : List (List Int)} (h : i_Doubling_units_c1_b self a0 a1 a2_0 a3_0 a4_0 a5_0 a5_1 = some r) :
    VClo Try.prog 184 [dI a0, i64 a1] [.fro (.ptr [dM a2_0]), .fro (.ptr [dI a3_0]), .own [dM a4_0], .fro (.ptr [i64 a5_0, dI a5_1]), .self] [.fro (.ptr [dM a2_0]), .fro (.ptr [dI a3_0]), .own [dM r], .fro (.ptr [i64 a5_0, dI a5_1]), .self] := by
  unfold i_Doubling_units_c1_b at h
  refine VClo.enter Try.call184 Try.func184 rfl 64 7 Try.ntmps184 rfl (by decide) rfl rfl ?_
  show VW _ _ _ (mk [(0, .val (dI a0)), (1, .val (i64 a1)), (2, .val (.ptr [dM a2_0])), (3, .val (.ptr [dI a3_0])), (4, .ref 4 [] true (.ptr [dM a4_0])), (5, .val (.ptr [i64 a5_0, dI a5_1])), (6, .cel 6 184 [.dat (.ptr [dM a2_0]), .dat (.ptr [dI a3_0]), .tok 4, .dat (.ptr [i64 a5_0, dI a5_1]), .tok 6])]) _
  -- region 0
  refine VW.ws tau_ok Sound.none [some 11, some 12, some 9] [(0, .val (dI a0)), (1, .val (i64 a1)), (2, .val (.ptr [dM a2_0])), (3, .val (.ptr [dI a3_0])), (4, .ref 4 [] true (.ptr [dM a4_0])), (5, .val (.ptr [i64 a5_0, dI a5_1])), (6, .cel 6 184 [.dat (.ptr [dM a2_0]), .dat (.ptr [dI a3_0]), .tok 4, .dat (.ptr [i64 a5_0, dI a5_1]), .tok 6]), (9, .val (i64 (a0.length : Int)))] rfl ?_ ?_
  · simp <;> simp [ieq, ilt, ile]
  refine VW.sqc fun K1 hK1 hCK1 => ?_
  refine VW.block ?_
  -- region 1
  obtain ⟨v2, hv2, h⟩ := bind_some h
  obtain ⟨hv2a, hv2b, hv2c, hv2d⟩ := idx_some hv2
  replace hv2b : a0.length < a2_0.length := hv2b
  replace hv2c : a2_0[a0.length]? = some v2 := hv2c
  replace hv2d : ∀ h, a2_0[a0.length]'h = v2 := hv2d
  obtain ⟨v3, hv3, h⟩ := bind_some h
  obtain ⟨hv3a, hv3b, hv3c, hv3d⟩ := idx_some hv3
  refine VW.ws tau_ok Sound.none [some 14, some 15, some 16, some 17, some 18, some 19, some 20, some 21, some 13] [(0, .val (dI a0)), (1, .val (i64 a1)), (3, .val (.ptr [dI a3_0])), (4, .ref 4 [] true (.ptr [dM a4_0])), (5, .val (.ptr [i64 a5_0, dI a5_1])), (6, .cel 6 184 [.dat (.ptr [dM a2_0]), .dat (.ptr [dI a3_0]), .tok 4, .dat (.ptr [i64 a5_0, dI a5_1]), .tok 6]), (9, .val (i64 (a0.length : Int))), (13, .val (.bool (ieq v3 0)))] rfl ?_ ?_
  · simp [hv2a, hv2b, hv2c, hv2d, hv3a, hv3b, hv3c, hv3d] <;> simp [ieq, ilt, ile]
  refine VW.cond rfl (fun hb4 => ?_) (fun hb4 => ?_)
  ·
    replace hb4 : v3 = 0 := by simpa [ieq, ilt, ile] using hb4
    rw [if_pos hb4] at h
    cases h
    refine VW.ret ?_
    exact PostClx.r (by simp [postOk, capV, capsAs, capAs])
  replace hb4 : ¬ (v3 = 0) := by simpa [ieq, ilt, ile] using hb4
  rw [if_neg hb4] at h
  -- region 2
  refine VW.ws tau_ok Sound.none [some 23, some 24, some 25, some 26, some 22] [(0, .val (dI a0)), (1, .val (i64 a1)), (3, .val (.ptr [dI a3_0])), (4, .ref 4 [] true (.ptr [dM a4_0])), (5, .val (.ptr [i64 a5_0, dI a5_1])), (6, .cel 6 184 [.dat (.ptr [dM a2_0]), .dat (.ptr [dI a3_0]), .tok 4, .dat (.ptr [i64 a5_0, dI a5_1]), .tok 6]), (9, .val (i64 (a0.length : Int))), (22, .val (.bool (ieq (a0.length : Int) (a3_0.length : Int))))] rfl ?_ ?_
  · simp <;> simp [ieq, ilt, ile]
  refine VW.cond rfl (fun hb5 => ?_) (fun hb5 => ?_)
  ·
    replace hb5 : (a0.length : Int) = (a3_0.length : Int) := by simpa [ieq, ilt, ile] using hb5
    rw [if_pos hb5] at h
    refine VW.sqc fun K6 hK6 hCK6 => ?_
    -- region 3
    obtain ⟨v7, hv7, h⟩ := bind_some h
    obtain ⟨hv7a, hv7b, hv7c, hv7d⟩ := idx_some hv7
    replace hv7b : 0 < a4_0.length := hv7b
    replace hv7c : a4_0[0]? = some v7 := hv7c
    replace hv7d : ∀ h, a4_0[0]'h = v7 := hv7d
    obtain ⟨v8, hv8, h⟩ := bind_some h
    refine VW.ws tau_ok (Sound.none.add 31 (g_slices_Equal_LI_I_ok hv8) rfl) [some 27, some 28, some 29, some 30, some 31, some 32] [(0, .val (dI a0)), (4, .ref 4 [] true (.ptr [dM a4_0])), (6, .cel 6 184 [.dat (.ptr [dM a2_0]), .dat (.ptr [dI a3_0]), .tok 4, .dat (.ptr [i64 a5_0, dI a5_1]), .tok 6]), (32, .val (.bool (!v8)))] rfl ?_ ?_
    · simp [hv7a, hv7b, hv7c, hv7d] <;> simp [ieq, ilt, ile]
    obtain ⟨x9, hx9, h⟩ := bind_some h
    refine VW.tlE [(4, .ref 4 [] true (.ptr [dM x9])), (6, .cel 6 184 [.dat (.ptr [dM a2_0]), .dat (.ptr [dI a3_0]), .tok 4, .dat (.ptr [i64 a5_0, dI a5_1]), .tok 6])] (hCK6) ?_ ?_
    · clear hx9
      refine hK6 _ ?_
      cases h
      refine VW.ret ?_
      exact PostClx.r (by simp [postOk, capV, capsAs, capAs])
    refine VW.cond rfl (fun hb11 => ?_) (fun hb11 => ?_)
    rotate_left
    ·
      replace hb11 : ¬ (v8 = false) := by simpa [ieq, ilt, ile] using hb11
      rw [if_neg hb11] at hx9
      refine VW.skip ?_
      cases hx9
      exact Fits.of rfl
    replace hb11 : v8 = false := by simpa [ieq, ilt, ile] using hb11
    rw [if_pos hb11] at hx9
    -- region 4
    obtain ⟨v12, hv12, hx9⟩ := bind_some hx9
    obtain ⟨hc13, hx9⟩ := chk_some hx9
    have hc13s := hc13
    try simp at hc13s
    refine VW.wxr tau_ok (Sound.none.add 35 (g_slices_Clone_LI_I_ok hv12) rfl) try_mixed [some 33, some 34, some 35, some 36, some 37, none] [(4, .ref 4 [] true (.ptr [dM (a4_0 ++ [v12])])), (6, .cel 6 184 [.dat (.ptr [dM a2_0]), .dat (.ptr [dI a3_0]), .tok 4, .dat (.ptr [i64 a5_0, dI a5_1]), .tok 6])] [1, 0, 0, 2, 3, 3] [[4], [0], [34], [35], [33, 36], [4, 37]] [35, 36] rfl rfl (by kernel_rfl) (by rfl) ?_ ?_
    · simp [hc13, hc13s] <;> simp [ieq, ilt, ile]
    cases hx9
    exact Fits.of rfl
  replace hb5 : ¬ ((a0.length : Int) = (a3_0.length : Int)) := by simpa [ieq, ilt, ile] using hb5
  rw [if_neg hb5] at h
  refine VW.skip ?_
  refine hK1 _ ?_
  -- region 5
  refine VW.ws tau_ok Sound.none [some 38, some 39, some 40] [(0, .val (dI a0)), (1, .val (i64 a1)), (3, .val (.ptr [dI a3_0])), (4, .ref 4 [] true (.ptr [dM a4_0])), (5, .val (.ptr [i64 a5_0, dI a5_1])), (6, .cel 6 184 [.dat (.ptr [dM a2_0]), .dat (.ptr [dI a3_0]), .tok 4, .dat (.ptr [i64 a5_0, dI a5_1]), .tok 6]), (9, .val (i64 (a0.length : Int))), (39, .val (i64 a5_0)), (40, .val (i64 0))] rfl ?_ ?_
  · simp <;> simp [ieq, ilt, ile]
  obtain ⟨x14, hx14, h⟩ := bind_some h
  refine VW.tlE [(4, .ref 4 [] true (.ptr [dM x14])), (6, .cel 6 184 [.dat (.ptr [dM a2_0]), .dat (.ptr [dI a3_0]), .tok 4, .dat (.ptr [i64 a5_0, dI a5_1]), .tok 6])] (Cl.post _ _) ?_ ?_
  · clear hx14
    cases h
    exact PostClx.n (by simp [postOk, capV, capsAs, capAs])
  refine VW.block ?_
  refine VW.loopF (i_Doubling_units_c1_L0 a0 a1 a2_0 a3_0 a5_0 a5_1 self) (fun s14 => [(0, .val (dI a0)), (1, .val (i64 a1)), (3, .val (.ptr [dI a3_0])), (4, .ref 4 [] true (.ptr [dM s14.1])), (5, .val (.ptr [i64 a5_0, dI a5_1])), (6, .cel 6 184 [.dat (.ptr [dM a2_0]), .dat (.ptr [dI a3_0]), .tok 4, .dat (.ptr [i64 a5_0, dI a5_1]), .tok 6]), (9, .val (i64 (a0.length : Int))), (39, .val (i64 a5_0)), (40, .val (i64 s14.2))]) hx14 (Fits.of rfl) ?_
  clear hx14
  intro s14 ox14 hx14o hx14b
  unfold i_Doubling_units_c1_L0 at hx14o
  -- region 6
  refine VW.ws tau_ok Sound.none [some 41] [(0, .val (dI a0)), (1, .val (i64 a1)), (3, .val (.ptr [dI a3_0])), (4, .ref 4 [] true (.ptr [dM s14.1])), (5, .val (.ptr [i64 a5_0, dI a5_1])), (6, .cel 6 184 [.dat (.ptr [dM a2_0]), .dat (.ptr [dI a3_0]), .tok 4, .dat (.ptr [i64 a5_0, dI a5_1]), .tok 6]), (9, .val (i64 (a0.length : Int))), (39, .val (i64 a5_0)), (40, .val (i64 s14.2)), (41, .val (.bool (ilt s14.2 a5_0)))] rfl ?_ ?_
  · simp <;> simp [ieq, ilt, ile]
  refine VW.sqc fun K16 hK16 hCK16 => ?_
  refine VW.cond rfl (fun hb17 => ?_) (fun hb17 => ?_)
  rotate_left
  ·
    replace hb17 : ¬ (s14.2 < a5_0) := by simpa [ieq, ilt, ile] using hb17
    rw [if_neg hb17] at hx14o
    refine VW.exit ?_
    cases hx14o
    have hq := hx14b _ rfl
    subst hq
    exact Fits.of rfl
  replace hb17 : s14.2 < a5_0 := by simpa [ieq, ilt, ile] using hb17
  rw [if_pos hb17] at hx14o
  refine VW.skip ?_
  refine hK16 _ ?_
  refine VW.sqc fun K18 hK18 hCK18 => ?_
  refine VW.block ?_
  -- region 7
  refine VW.ws tau_ok Sound.none [some 42, some 10] [(0, .val (dI a0)), (1, .val (i64 a1)), (3, .val (.ptr [dI a3_0])), (4, .ref 4 [] true (.ptr [dM s14.1])), (5, .val (.ptr [i64 a5_0, dI a5_1])), (6, .cel 6 184 [.dat (.ptr [dM a2_0]), .dat (.ptr [dI a3_0]), .tok 4, .dat (.ptr [i64 a5_0, dI a5_1]), .tok 6]), (9, .val (i64 (a0.length : Int))), (10, .val (i64 s14.2)), (39, .val (i64 a5_0)), (40, .val (i64 s14.2))] rfl ?_ ?_
  · simp <;> simp [ieq, ilt, ile]
  -- region 8
  obtain ⟨v19, hv19, hx14o⟩ := bind_some hx14o
  obtain ⟨hc20, hx14o⟩ := chk_some hx14o
  have hc20s := hc20
  try simp at hc20s
  obtain ⟨v21, hv21, hx14o⟩ := bind_some hx14o
  obtain ⟨v22, hv22, hx14o⟩ := bind_some hx14o
  obtain ⟨hv22a, hv22b, hv22c, hv22d⟩ := idx_some hv22
  replace hv22b : a0.length < a3_0.length := hv22b
  replace hv22c : a3_0[a0.length]? = some v22 := hv22c
  replace hv22d : ∀ h, a3_0[a0.length]'h = v22 := hv22d
  obtain ⟨v23, hv23, hx14o⟩ := bind_some hx14o
  obtain ⟨v24, hv24, hx14o⟩ := bind_some hx14o
  refine VW.dxr tau_ok (((Sound.none.add 45 (g_slices_Clone_LI_I_ok hv19) rfl).add 50 (i_Doubling_field_ok hv21) rfl).add 61 (i_field_num_ok hv23) rfl) try_mixed [some 43, some 44, some 45, some 46, some 47, some 48, some 49, some 50, some 51, some 52, some 53, some 54, some 55, some 56, some 57, some 58, some 59, some 60, some 61, some 62] 19 [(0, .val (dI a0)), (1, .val (i64 a1)), (3, .val (.ptr [dI a3_0])), (4, .ref 4 [] true (.ptr [dM s14.1])), (5, .val (.ptr [i64 a5_0, dI a5_1])), (6, .cel 6 184 [.dat (.ptr [dM a2_0]), .dat (.ptr [dI a3_0]), .tok 4, .dat (.ptr [i64 a5_0, dI a5_1]), .tok 6]), (9, .val (i64 (a0.length : Int))), (39, .val (i64 a5_0)), (40, .val (i64 s14.2)), (43, .clo 184 [.dat (.ptr [dM a2_0]), .dat (.ptr [dI a3_0]), .tok 4, .dat (.ptr [i64 a5_0, dI a5_1]), .tok 6]), (48, .ref 48 [] true (dI (v19 ++ [s14.2]))), (61, .val (i64 v23))] _ (fun _ => [(0, .val (dI a0)), (1, .val (i64 a1)), (3, .val (.ptr [dI a3_0])), (4, .ref 4 [] true (.ptr [dM v24])), (5, .val (.ptr [i64 a5_0, dI a5_1])), (6, .cel 6 184 [.dat (.ptr [dM a2_0]), .dat (.ptr [dI a3_0]), .tok 4, .dat (.ptr [i64 a5_0, dI a5_1]), .tok 6]), (9, .val (i64 (a0.length : Int))), (39, .val (i64 a5_0)), (40, .val (i64 s14.2))]) (fun _ => True) [1, 0, 0, 0, 0, 2, 1, 1, 0, 1, 0, 1, 1, 0, 1, 0, 1, 1, 1, 3] [[6], [0], [44], [10], [46], [45, 47], [5], [49], [1], [3], [9], [52, 53], [54], [10], [55, 56], [10], [57, 58], [51, 59], [50, 60], [43, 48, 61]] [45, 48] _ rfl rfl rfl rfl (by kernel_rfl) (by kernel_rfl) (by rfl) ?_ (OStep.fits (f1 := [(0, .val (dI a0)), (1, .val (i64 a1)), (3, .val (.ptr [dI a3_0])), (4, .ref 4 [] true (.ptr [dM s14.1])), (5, .val (.ptr [i64 a5_0, dI a5_1])), (6, .cel 6 184 [.dat (.ptr [dM a2_0]), .dat (.ptr [dI a3_0]), .tok 4, .dat (.ptr [i64 a5_0, dI a5_1]), .tok 6]), (9, .val (i64 (a0.length : Int))), (39, .val (i64 a5_0)), (40, .val (i64 s14.2)), (43, .clo 184 [.dat (.ptr [dM a2_0]), .dat (.ptr [dI a3_0]), .tok 4, .dat (.ptr [i64 a5_0, dI a5_1]), .tok 6]), (48, .val (dI (v19 ++ [s14.2]))), (61, .val (i64 v23))]) (Fits.freeze (s := 48) rfl (by simp) (Fits.of rfl)) (step_clo [(4, 4, 2, .own [dM v24]), (6, 6, 4, .self)] [43] rfl rfl (by simp) rfl rfl (hself hv24) (.cons (CapOk.dat') (.cons (CapOk.dat') (.cons (CapOk.tok' 4 rfl) (.cons (CapOk.dat') (.cons (CapOk.self' 6 rfl) (.nil)))))) (.cons CapAs.dat' (.cons CapAs.dat' (.cons CapAs.tok' (.cons CapAs.dat' (.cons CapAs.self' (.nil)))))) (show List.Nodup ([4, 6] : List Nat) by decide) (by intro q hq; simp only [List.mem_cons, List.not_mem_nil, or_false] at hq; rcases hq with rfl | rfl <;> first | exact ⟨rfl, rfl, rfl, .inl ⟨_, rfl⟩⟩ | exact ⟨rfl, rfl, rfl, .inr rfl⟩) (by intro s hs; simp only [List.mem_cons, List.not_mem_nil, or_false] at hs; rcases hs with rfl <;> rfl))) (fun _ _ => ?_) (fun _ _ => ?_)
  · simp [hc20, hc20s, hv22a, hv22b, hv22c, hv22d] <;> simp [ieq, ilt, ile]
  · simp [hc20, hc20s, hv22a, hv22b, hv22c, hv22d] <;> simp [ieq, ilt, ile]
  refine hK18 _ ?_
  -- region 9
  refine VW.wr tau_ok Sound.none [some 63, some 40] [(0, .val (dI a0)), (1, .val (i64 a1)), (3, .val (.ptr [dI a3_0])), (4, .ref 4 [] true (.ptr [dM v24])), (5, .val (.ptr [i64 a5_0, dI a5_1])), (6, .cel 6 184 [.dat (.ptr [dM a2_0]), .dat (.ptr [dI a3_0]), .tok 4, .dat (.ptr [i64 a5_0, dI a5_1]), .tok 6]), (9, .val (i64 (a0.length : Int))), (39, .val (i64 a5_0)), (40, .val (i64 (w64 (s14.2 + 1))))] rfl ?_ ?_
  · simp <;> simp [ieq, ilt, ile]
  cases hx14o
  exact ⟨_, rfl, Fits.of rfl⟩
theorem i_Doubling_units_c1_ok : ∀ {n : Nat} {a0 : List Int} {a1 : Int} {a2_0 : List (List Int)} {a3_0 : List Int} {a4_0 : List (List Int)} {a5_0 : Int} {a5_1 : List Int} {r : List (List Int)} (_ : i_Doubling_units_c1 n a0 a1 a2_0 a3_0 a4_0 a5_0 a5_1 = some r),
    VClo Try.prog 184 [dI a0, i64 a1] [.fro (.ptr [dM a2_0]), .fro (.ptr [dI a3_0]), .own [dM a4_0], .fro (.ptr [i64 a5_0, dI a5_1]), .self] [.fro (.ptr [dM a2_0]), .fro (.ptr [dI a3_0]), .own [dM r], .fro (.ptr [i64 a5_0, dI a5_1]), .self]
  | 0, _, _, _, _, _, _, _, _, h => by cases h
  | n + 1, _, _, _, _, _, _, _, _, h => i_Doubling_units_c1_b_ok (fun h => i_Doubling_units_c1_ok (n := n) h) h

theorem i_Doubling_units_ok {a0_0 : Int} {a0_1 : List Int} {r : (List (List Int)) × Int} (h : i_Doubling_units a0_0 a0_1 = some r) :
    VCall Try.prog 94 [.agg [i64 a0_0, dI a0_1]] [.own true (dM r.1), .sc (i64 r.2)] := by
  unfold i_Doubling_units at h
  refine VCall.enter Try.call94 Try.func94 rfl 34 Try.ntmps94 (by simp) [.tmp 2, .tmp 3] rfl ?_
  show VW _ _ _ (mk [(0, .val (.agg [i64 a0_0, dI a0_1]))]) _
  -- region 0
  refine VW.ws tau_ok Sound.none [some 1, some 2, some 3] [(1, .val (.ptr [i64 a0_0, dI a0_1]))] rfl ?_ ?_
  · simp <;> simp [ieq, ilt, ile]
  refine VW.sqc fun K1 hK1 hCK1 => ?_
  refine VW.block ?_
  -- region 1
  obtain ⟨v2, hv2, h⟩ := bind_some h
  refine VW.ws tau_ok (Sound.none.add 10 (i_IsDoubling_ok hv2) rfl) [some 9, some 10, some 11, some 8] [(1, .val (.ptr [i64 a0_0, dI a0_1])), (8, .val (.bool (!v2)))] rfl ?_ ?_
  · simp <;> simp [ieq, ilt, ile]
  refine VW.cond rfl (fun hb3 => ?_) (fun hb3 => ?_)
  ·
    replace hb3 : v2 = false := by simpa [ieq, ilt, ile] using hb3
    rw [if_pos hb3] at h
    -- region 2
    refine VW.ws tau_ok Sound.none [some 2, some 3] [(2, .ref 2 [] true (.list [])), (3, .val (i64 1))] rfl ?_ ?_
    · simp <;> simp [ieq, ilt, ile]
    cases h
    refine VW.ret ?_
    simp [Post, PostM, PostC, PostC2, Nx, Bk]
  replace hb3 : ¬ (v2 = false) := by simpa [ieq, ilt, ile] using hb3
  rw [if_neg hb3] at h
  -- region 3
  refine VW.ws tau_ok Sound.none [some 13, some 14, some 15, some 16, some 12] [(1, .val (.ptr [i64 a0_0, dI a0_1])), (12, .val (.bool (ilt 3 (a0_1.length : Int))))] rfl ?_ ?_
  · simp <;> simp [ieq, ilt, ile]
  refine VW.cond rfl (fun hb4 => ?_) (fun hb4 => ?_)
  ·
    replace hb4 : 3 < (a0_1.length : Int) := by simpa [ieq, ilt, ile] using hb4
    rw [if_pos hb4] at h
    -- region 4
    refine VW.ws tau_ok Sound.none [some 2, some 3] [(2, .ref 2 [] true (.list [])), (3, .val (i64 5))] rfl ?_ ?_
    · simp <;> simp [ieq, ilt, ile]
    cases h
    refine VW.ret ?_
    simp [Post, PostM, PostC, PostC2, Nx, Bk]
  replace hb4 : ¬ (3 < (a0_1.length : Int)) := by simpa [ieq, ilt, ile] using hb4
  rw [if_neg hb4] at h
  refine VW.skip ?_
  refine hK1 _ ?_
  -- region 5
  obtain ⟨v5, hv5, h⟩ := bind_some h
  obtain ⟨v6, hv6, h⟩ := bind_some h
  refine VW.wds tau_ok ((Sound.none.add 18 (i_Doubling_normCounts_ok hv5) rfl).add 20 (i_Doubling_diagonal_ok hv6) rfl) try_mixed [some 17, some 18, some 19, some 20, some 4, some 5, none, none] [(1, .val (.ptr [i64 a0_0, dI a0_1])), (4, .ref 4 [] true (.ptr [dM v5])), (5, .ref 5 [] true (.ptr [dI v6]))] 6 rfl (by kernel_rfl) (by rfl) ?_ ?_
  · simp <;> simp [ieq, ilt, ile]
  refine VW.sqc fun K7 hK7 hCK7 => ?_
  -- region 6
  obtain ⟨v8, hv8, h⟩ := bind_some h
  obtain ⟨hv8a, hv8b, hv8c, hv8d⟩ := idx_some hv8
  replace hv8b : 0 < v5.length := hv8b
  replace hv8c : v5[0]? = some v8 := hv8c
  replace hv8d : ∀ h, v5[0]'h = v8 := hv8d
  obtain ⟨v9, hv9, h⟩ := bind_some h
  obtain ⟨hv9a, hv9b, hv9c, hv9d⟩ := idx_some hv9
  replace hv9b : 1 < v8.length := hv9b
  replace hv9c : v8[1]? = some v9 := hv9c
  replace hv9d : ∀ h, v8[1]'h = v9 := hv9d
  refine VW.ws tau_ok Sound.none [some 21, some 22, some 23, some 24, some 25, some 26] [(1, .val (.ptr [i64 a0_0, dI a0_1])), (4, .ref 4 [] true (.ptr [dM v5])), (5, .ref 5 [] true (.ptr [dI v6])), (26, .val (.bool (ilt 128 v9)))] rfl ?_ ?_
  · simp [hv8a, hv8b, hv8c, hv8d, hv9a, hv9b, hv9c, hv9d] <;> simp [ieq, ilt, ile]
  refine VW.cond rfl (fun hb10 => ?_) (fun hb10 => ?_)
  ·
    replace hb10 : 128 < v9 := by simpa [ieq, ilt, ile] using hb10
    rw [if_pos hb10] at h
    -- region 7
    refine VW.ws tau_ok Sound.none [some 2, some 3] [(2, .ref 2 [] true (.list [])), (3, .val (i64 3))] rfl ?_ ?_
    · simp <;> simp [ieq, ilt, ile]
    cases h
    refine VW.ret ?_
    simp [Post, PostM, PostC, PostC2, Nx, Bk]
  replace hb10 : ¬ (128 < v9) := by simpa [ieq, ilt, ile] using hb10
  rw [if_neg hb10] at h
  refine VW.skip ?_
  refine hK7 _ ?_
  -- region 8
  obtain ⟨v11, hv11, h⟩ := bind_some h
  refine VW.ws tau_ok (Sound.none.add 28 (i_Doubling_element_ok hv11) rfl) [some 27, some 28, some 29, some 6, none] [(1, .val (.ptr [i64 a0_0, dI a0_1])), (4, .ref 4 [] true (.ptr [dM v5])), (5, .ref 5 [] true (.ptr [dI v6])), (6, .ref 6 [] true (.ptr [dM [v11]]))] rfl ?_ ?_
  · simp <;> simp [ieq, ilt, ile]
  -- region 9
  refine VW.ws tau_ok Sound.none [some 7] [(1, .val (.ptr [i64 a0_0, dI a0_1])), (4, .ref 4 [] true (.ptr [dM v5])), (5, .ref 5 [] true (.ptr [dI v6])), (6, .ref 6 [] true (.ptr [dM [v11]])), (7, .ref 7 [] true (.ptr [.gone]))] rfl ?_ ?_
  · simp <;> simp [ieq, ilt, ile]
  refine VW.fits (fl' := [(1, .val (.ptr [i64 a0_0, dI a0_1])), (4, .val (.ptr [dM v5])), (5, .val (.ptr [dI v6])), (6, .ref 6 [] true (.ptr [dM [v11]])), (7, .ref 7 [] true (.ptr [.gone]))]) (Fits.freeze (s := 4) rfl (by simp) (Fits.freeze (s := 5) rfl (by simp) (Fits.of rfl))) ?_
  -- region 10
  refine VW.end2 tau_ok Sound.none [some 30, none] 0 [(1, .val (.ptr [i64 a0_0, dI a0_1])), (4, .val (.ptr [dM v5])), (5, .val (.ptr [dI v6])), (6, .ref 6 [] true (.ptr [dM [v11]])), (7, .ref 7 [] true (.ptr [.gone]))] _ [(1, .val (.ptr [i64 a0_0, dI a0_1])), (4, .val (.ptr [dM v5])), (5, .val (.ptr [dI v6])), (6, .ref 6 [] true (.ptr [dM [v11]])), (7, .ref 7 [] true (.ptr [.gone])), (30, .clo 184 [.dat (.ptr [dM v5]), .dat (.ptr [dI v6]), .tok 6, .dat (.ptr [i64 a0_0, dI a0_1]), .tok 7])] _ [(1, .val (.ptr [i64 a0_0, dI a0_1])), (4, .val (.ptr [dM v5])), (5, .val (.ptr [dI v6])), (6, .ref 6 [] true (.ptr [dM [v11]])), (7, .cel 7 184 [.dat (.ptr [dM v5]), .dat (.ptr [dI v6]), .tok 6, .dat (.ptr [i64 a0_0, dI a0_1]), .tok 7])] _ _ rfl rfl rfl rfl ?_ (step_mkf rfl rfl (by simp) rfl) ?_ (step_stc tau_ok rfl rfl rfl rfl rfl (by simp)) ?_ ?_
  · simp
  · simp
  · simp [kmap, VV.on, Cap.on]
  -- region 11
  obtain ⟨v12, hv12, h⟩ := bind_some h
  refine VW.mid tau_ok Sound.none [some 31, some 32] 1 [(1, .val (.ptr [i64 a0_0, dI a0_1])), (4, .val (.ptr [dM v5])), (5, .val (.ptr [dI v6])), (6, .ref 6 [] true (.ptr [dM [v11]])), (7, .cel 7 184 [.dat (.ptr [dM v5]), .dat (.ptr [dI v6]), .tok 6, .dat (.ptr [i64 a0_0, dI a0_1]), .tok 7]), (31, .clo 184 [.dat (.ptr [dM v5]), .dat (.ptr [dI v6]), .tok 6, .dat (.ptr [i64 a0_0, dI a0_1]), .tok 7])] _ (fun _ => [(6, .ref 6 [] true (.ptr [dM v12]))]) (fun _ => True) _ rfl rfl rfl ?_ (step_clo [(6, 6, 2, .own [dM v12]), (7, 7, 4, .self)] [31] rfl rfl (by simp) rfl rfl (i_Doubling_units_c1_ok (n := BIG) hv12) (.cons (CapOk.dat') (.cons (CapOk.dat') (.cons (CapOk.tok' 6 rfl) (.cons (CapOk.dat') (.cons (CapOk.self' 7 rfl) (.nil)))))) (.cons CapAs.dat' (.cons CapAs.dat' (.cons CapAs.tok' (.cons CapAs.dat' (.cons CapAs.self' (.nil)))))) (show List.Nodup ([6, 7] : List Nat) by decide) (by intro q hq; simp only [List.mem_cons, List.not_mem_nil, or_false] at hq; rcases hq with rfl | rfl <;> first | exact ⟨rfl, rfl, rfl, .inl ⟨_, rfl⟩⟩ | exact ⟨rfl, rfl, rfl, .inr rfl⟩) (by intro s hs; simp only [List.mem_cons, List.not_mem_nil, or_false] at hs; rcases hs with rfl <;> rfl)) (fun _ _ => ?_) (fun _ _ => ?_)
  · simp <;> simp [ieq, ilt, ile]
  · simp <;> simp [ieq, ilt, ile]
  -- region 12
  refine VW.ws tau_ok Sound.none [some 33, some 2, some 3] [(2, .ref 6 [0] true (dM v12)), (3, .val (i64 0))] rfl ?_ ?_
  · simp <;> simp [ieq, ilt, ile]
  have hr0 := Option.some.inj h
  subst hr0
  refine VW.fits (fl' := [(2, .ref 2 [] true (dM v12)), (3, .val (i64 0))]) (Fits.part (s := 2) rfl (by decide) (Fits.of rfl)) ?_
  refine VW.ret ?_
  simp [Post, PostM, PostC, PostC2, Nx, Bk]

theorem i_LoopOfUnits_c1_ok {a0 : List Int} {a1_0 : List Int} {r : Bool} (h : i_LoopOfUnits_c1 a0 a1_0 = some r) :
    VCall Try.prog 99 [dI a0, .ptr [dI a1_0]] [.sc (.bool r)] := by
  unfold i_LoopOfUnits_c1 at h
  refine VCall.enter Try.call99 Try.func99 rfl 7 Try.ntmps99 (by simp) [.tmp 3] rfl ?_
  show VW _ _ _ (mk [(0, .val (dI a0)), (1, .val (.ptr [dI a1_0]))]) _
  -- region 0
  refine VW.ws tau_ok Sound.none [some 3] [(0, .val (dI a0)), (1, .val (.ptr [dI a1_0]))] rfl ?_ ?_
  · simp <;> simp [ieq, ilt, ile]
  -- region 1
  obtain ⟨v1, hv1, h⟩ := bind_some h
  refine VW.ws tau_ok (Sound.none.add 6 (g_slices_Equal_LI_I_ok hv1) rfl) [some 4, some 5, some 6, some 3] [(3, .val (.bool v1))] rfl ?_ ?_
  · simp <;> simp [ieq, ilt, ile]
  cases h
  refine VW.ret ?_
  simp [Post, PostM, PostC, PostC2, Nx, Bk]

theorem g_slices_IndexFunc_LLI_LI_of_i_LoopOfUnits_c1_ok {a0 : List (List Int)} {a1_0_0 : List Int} {r : Int} (h : g_slices_IndexFunc_LLI_LI_of_i_LoopOfUnits_c1 a0 a1_0_0 = some r) :
    VCall Try.prog 98 [dM a0, .fn 99 [.ptr [dI a1_0_0]]] [.sc (i64 r)] := by
  unfold g_slices_IndexFunc_LLI_LI_of_i_LoopOfUnits_c1 at h
  refine VCall.enter Try.call98 Try.func98 rfl 19 Try.ntmps98 (by simp) [.tmp 4] rfl ?_
  show VW _ _ _ (mk [(0, .val (dM a0)), (1, .val (.fn 99 [.ptr [dI a1_0_0]]))]) _
  -- region 0
  refine VW.ws tau_ok Sound.none [some 4] [(0, .val (dM a0)), (1, .val (.fn 99 [.ptr [dI a1_0_0]]))] rfl ?_ ?_
  · simp <;> simp [ieq, ilt, ile]
  refine VW.sqc fun K1 hK1 hCK1 => ?_
  -- region 1
  refine VW.ws tau_ok Sound.none [some 6, some 7, some 8] [(0, .val (dM a0)), (1, .val (.fn 99 [.ptr [dI a1_0_0]])), (7, .val (i64 (a0.length : Int))), (8, .val (i64 0))] rfl ?_ ?_
  · simp <;> simp [ieq, ilt, ile]
  obtain ⟨x2, hx2, h⟩ := bind_some h
  refine VW.tlO (fun y4 => []) x2 (hCK1) ?_ ?_
  · clear hx2
    rintro y4 rfl
    dsimp only at h
    refine hK1 _ ?_
    -- region 7
    refine VW.ws tau_ok Sound.none [some 4] [(4, .val (i64 (-1)))] rfl ?_ ?_
    · simp <;> simp [ieq, ilt, ile]
    cases h
    refine VW.ret ?_
    simp [Post, PostM, PostC, PostC2, Nx, Bk]
  refine VW.block ?_
  refine VW.loopF (g_slices_IndexFunc_LLI_LI_of_i_LoopOfUnits_c1_L0 a0 a1_0_0) (fun s2 => [(0, .val (dM a0)), (1, .val (.fn 99 [.ptr [dI a1_0_0]])), (7, .val (i64 (a0.length : Int))), (8, .val (i64 s2))]) hx2 (Fits.of rfl) ?_
  clear hx2
  intro s2 ox2 hx2o hx2b
  unfold g_slices_IndexFunc_LLI_LI_of_i_LoopOfUnits_c1_L0 at hx2o
  -- region 2
  refine VW.ws tau_ok Sound.none [some 9] [(0, .val (dM a0)), (1, .val (.fn 99 [.ptr [dI a1_0_0]])), (7, .val (i64 (a0.length : Int))), (8, .val (i64 s2)), (9, .val (.bool (ilt s2 (a0.length : Int))))] rfl ?_ ?_
  · simp <;> simp [ieq, ilt, ile]
  refine VW.sqc fun K5 hK5 hCK5 => ?_
  refine VW.cond rfl (fun hb6 => ?_) (fun hb6 => ?_)
  rotate_left
  ·
    replace hb6 : ¬ (s2 < (a0.length : Int)) := by simpa [ieq, ilt, ile] using hb6
    rw [if_neg hb6] at hx2o
    refine VW.exit ?_
    cases hx2o
    have hq := hx2b _ rfl
    subst hq
    exact ⟨_, rfl, Fits.of rfl⟩
  replace hb6 : s2 < (a0.length : Int) := by simpa [ieq, ilt, ile] using hb6
  rw [if_pos hb6] at hx2o
  refine VW.skip ?_
  refine hK5 _ ?_
  refine VW.sqc fun K7 hK7 hCK7 => ?_
  refine VW.block ?_
  -- region 3
  refine VW.ws tau_ok Sound.none [some 10, some 5] [(0, .val (dM a0)), (1, .val (.fn 99 [.ptr [dI a1_0_0]])), (5, .val (i64 s2)), (7, .val (i64 (a0.length : Int))), (8, .val (i64 s2))] rfl ?_ ?_
  · simp <;> simp [ieq, ilt, ile]
  -- region 4
  obtain ⟨v8, hv8, hx2o⟩ := bind_some hx2o
  obtain ⟨hv8a, hv8b, hv8c, hv8d⟩ := idx_some hv8
  obtain ⟨v9, hv9, hx2o⟩ := bind_some hx2o
  refine VW.ws tau_ok (Sound.none.add 16 (i_LoopOfUnits_c1_ok hv9) rfl) [some 11, some 12, some 13, some 14, some 15, some 16] [(0, .val (dM a0)), (1, .val (.fn 99 [.ptr [dI a1_0_0]])), (5, .val (i64 s2)), (7, .val (i64 (a0.length : Int))), (8, .val (i64 s2)), (16, .val (.bool v9))] rfl ?_ ?_
  · simp [hv8a, hv8b, hv8c, hv8d] <;> simp [ieq, ilt, ile]
  refine VW.cond rfl (fun hb10 => ?_) (fun hb10 => ?_)
  rotate_left
  ·
    replace hb10 : ¬ (v9 = true) := by simpa [ieq, ilt, ile] using hb10
    rw [if_neg hb10] at hx2o
    refine VW.skip ?_
    refine hK7 _ ?_
    -- region 6
    refine VW.wr tau_ok Sound.none [some 18, some 8] [(0, .val (dM a0)), (1, .val (.fn 99 [.ptr [dI a1_0_0]])), (7, .val (i64 (a0.length : Int))), (8, .val (i64 (w64 (s2 + 1))))] rfl ?_ ?_
    · simp <;> simp [ieq, ilt, ile]
    cases hx2o
    exact ⟨_, rfl, Fits.of rfl⟩
  replace hb10 : v9 = true := by simpa [ieq, ilt, ile] using hb10
  rw [if_pos hb10] at hx2o
  -- region 5
  refine VW.ws tau_ok Sound.none [some 17, some 4] [(4, .val (i64 s2))] rfl ?_ ?_
  · simp <;> simp [ieq, ilt, ile]
  cases hx2o
  have hq := hx2b _ rfl
  subst hq
  dsimp only at h
  cases h
  refine VW.ret ?_
  simp [Post, PostM, PostC, PostC2, Nx, Bk]

theorem i_LoopOfUnits_ok {a0_0 : Int} {a0_1 : List Int} {r : (List (List Int)) × Int} (h : i_LoopOfUnits a0_0 a0_1 = some r) :
    VCall Try.prog 33 [.agg [i64 a0_0, dI a0_1]] [.own true (dM r.1), .sc (i64 r.2)] := by
  unfold i_LoopOfUnits at h
  refine VCall.enter Try.call33 Try.func33 rfl 52 Try.ntmps33 (by simp) [.tmp 2, .tmp 3] rfl ?_
  show VW _ _ _ (mk [(0, .val (.agg [i64 a0_0, dI a0_1]))]) _
  -- region 0
  refine VW.ws tau_ok Sound.none [some 1, some 2, some 3] [(1, .val (.ptr [i64 a0_0, dI a0_1]))] rfl ?_ ?_
  · simp <;> simp [ieq, ilt, ile]
  -- region 1
  obtain ⟨v1, hv1, h⟩ := bind_some h
  refine VW.ws tau_ok (Sound.none.add 15 (i_Doubling_units_ok hv1) rfl) [some 14, some 15, some 13, some 16, some 17, some 4, some 5] [(1, .val (.ptr [i64 a0_0, dI a0_1])), (4, .ref 4 [] true (dM v1.1)), (5, .val (i64 v1.2))] rfl ?_ ?_
  · simp <;> simp [ieq, ilt, ile]
  refine VW.sqc fun K2 hK2 hCK2 => ?_
  -- region 2
  refine VW.ws tau_ok Sound.none [some 18, some 19] [(1, .val (.ptr [i64 a0_0, dI a0_1])), (4, .ref 4 [] true (dM v1.1)), (5, .val (i64 v1.2)), (19, .val (.bool (!(ieq v1.2 0))))] rfl ?_ ?_
  · simp <;> simp [ieq, ilt, ile]
  refine VW.cond rfl (fun hb3 => ?_) (fun hb3 => ?_)
  ·
    replace hb3 : ¬ v1.2 = 0 := by simpa [ieq, ilt, ile] using hb3
    rw [if_pos hb3] at h
    -- region 3
    refine VW.ws tau_ok Sound.none [some 20, some 2, some 3] [(2, .ref 2 [] true (.list [])), (3, .val (i64 v1.2))] rfl ?_ ?_
    · simp <;> simp [ieq, ilt, ile]
    cases h
    refine VW.ret ?_
    simp [Post, PostM, PostC, PostC2, Nx, Bk]
  replace hb3 : ¬ (¬ v1.2 = 0) := by simpa [ieq, ilt, ile] using hb3
  rw [if_neg hb3] at h
  refine VW.skip ?_
  refine hK2 _ ?_
  -- region 4
  refine VW.ws tau_ok Sound.none [some 21, some 6] [(1, .val (.ptr [i64 a0_0, dI a0_1])), (4, .ref 4 [] true (dM v1.1)), (6, .ref 6 [] true (dM []))] rfl ?_ ?_
  · simp <;> simp [ieq, ilt, ile]
  refine VW.sqc fun K4 hK4 hCK4 => ?_
  -- region 5
  refine VW.ws tau_ok Sound.none [some 22, some 23, some 24] [(1, .val (.ptr [i64 a0_0, dI a0_1])), (4, .ref 4 [] true (dM v1.1)), (6, .ref 6 [] true (dM [])), (22, .ref 4 [] true (dM v1.1)), (23, .val (i64 (v1.1.length : Int))), (24, .val (i64 0))] rfl ?_ ?_
  · simp <;> simp [ieq, ilt, ile]
  obtain ⟨x5, hx5, h⟩ := bind_some h
  refine VW.tlE [(6, .ref 6 [] true (dM x5))] (hCK4) ?_ ?_
  · clear hx5
    refine hK4 _ ?_
    -- region 17
    refine VW.ws tau_ok Sound.none [some 51, some 2, some 3] [(2, .ref 2 [] true (dM x5)), (3, .val (i64 0))] rfl ?_ ?_
    · simp <;> simp [ieq, ilt, ile]
    cases h
    refine VW.ret ?_
    simp [Post, PostM, PostC, PostC2, Nx, Bk]
  refine VW.block ?_
  refine VW.loopF (i_LoopOfUnits_L0 a0_0 a0_1 v1) (fun s5 => [(1, .val (.ptr [i64 a0_0, dI a0_1])), (4, .ref 4 [] true (dM v1.1)), (6, .ref 6 [] true (dM s5.1)), (22, .ref 4 [] true (dM v1.1)), (23, .val (i64 (v1.1.length : Int))), (24, .val (i64 s5.2))]) hx5 (Fits.of rfl) ?_
  clear hx5
  intro s5 ox5 hx5o hx5b
  unfold i_LoopOfUnits_L0 at hx5o
  -- region 6
  refine VW.ws tau_ok Sound.none [some 25] [(1, .val (.ptr [i64 a0_0, dI a0_1])), (4, .ref 4 [] true (dM v1.1)), (6, .ref 6 [] true (dM s5.1)), (22, .ref 4 [] true (dM v1.1)), (23, .val (i64 (v1.1.length : Int))), (24, .val (i64 s5.2)), (25, .val (.bool (ilt s5.2 (v1.1.length : Int))))] rfl ?_ ?_
  · simp <;> simp [ieq, ilt, ile]
  refine VW.sqc fun K7 hK7 hCK7 => ?_
  refine VW.cond rfl (fun hb8 => ?_) (fun hb8 => ?_)
  rotate_left
  ·
    replace hb8 : ¬ (s5.2 < (v1.1.length : Int)) := by simpa [ieq, ilt, ile] using hb8
    rw [if_neg hb8] at hx5o
    refine VW.exit ?_
    cases hx5o
    have hq := hx5b _ rfl
    subst hq
    exact Fits.of rfl
  replace hb8 : s5.2 < (v1.1.length : Int) := by simpa [ieq, ilt, ile] using hb8
  rw [if_pos hb8] at hx5o
  refine VW.skip ?_
  refine hK7 _ ?_
  refine VW.sqc fun K9 hK9 hCK9 => ?_
  refine VW.block ?_
  -- region 7
  obtain ⟨v10, hv10, hx5o⟩ := bind_some hx5o
  obtain ⟨hv10a, hv10b, hv10c, hv10d⟩ := idx_some hv10
  refine VW.ws tau_ok Sound.none [some 26, some 27, some 8] [(1, .val (.ptr [i64 a0_0, dI a0_1])), (4, .ref 4 [] true (dM v1.1)), (6, .ref 6 [] true (dM s5.1)), (8, .ref 4 [s5.2.toNat] true (dI v10)), (22, .ref 4 [] true (dM v1.1)), (23, .val (i64 (v1.1.length : Int))), (24, .val (i64 s5.2))] rfl ?_ ?_
  · simp [hv10a, hv10b, hv10c, hv10d] <;> simp [ieq, ilt, ile]
  -- region 8
  refine VW.ws tau_ok Sound.none [some 28, some 9] [(1, .val (.ptr [i64 a0_0, dI a0_1])), (4, .ref 4 [] true (dM v1.1)), (6, .ref 6 [] true (dM s5.1)), (8, .ref 4 [s5.2.toNat] true (dI v10)), (9, .ref 9 [] true (dI [])), (22, .ref 4 [] true (dM v1.1)), (23, .val (i64 (v1.1.length : Int))), (24, .val (i64 s5.2))] rfl ?_ ?_
  · simp <;> simp [ieq, ilt, ile]
  refine VW.sqc fun K11 hK11 hCK11 => ?_
  -- region 9
  refine VW.ws tau_ok Sound.none [some 29, some 30, some 31] [(1, .val (.ptr [i64 a0_0, dI a0_1])), (4, .ref 4 [] true (dM v1.1)), (6, .ref 6 [] true (dM s5.1)), (8, .ref 4 [s5.2.toNat] true (dI v10)), (9, .ref 9 [] true (dI [])), (22, .ref 4 [] true (dM v1.1)), (23, .val (i64 (v1.1.length : Int))), (24, .val (i64 s5.2)), (29, .ref 4 [] true (dM v1.1)), (30, .val (i64 (v1.1.length : Int))), (31, .val (i64 0))] rfl ?_ ?_
  · simp <;> simp [ieq, ilt, ile]
  obtain ⟨x12, hx12, hx5o⟩ := bind_some hx5o
  refine VW.tlE [(1, .val (.ptr [i64 a0_0, dI a0_1])), (4, .ref 4 [] true (dM v1.1)), (6, .ref 6 [] true (dM s5.1)), (9, .ref 9 [] true (dI x12)), (22, .ref 4 [] true (dM v1.1)), (23, .val (i64 (v1.1.length : Int))), (24, .val (i64 s5.2))] (hCK11) ?_ ?_
  · clear hx12
    refine hK11 _ ?_
    -- region 15
    obtain ⟨hc21, hx5o⟩ := chk_some hx5o
    have hc21s := hc21
    try simp at hc21s
    refine VW.wr tau_ok Sound.none [some 46, some 47, some 48, some 49, some 6] [(1, .val (.ptr [i64 a0_0, dI a0_1])), (4, .ref 4 [] true (dM v1.1)), (6, .ref 6 [] true (dM (s5.1 ++ [x12]))), (22, .ref 4 [] true (dM v1.1)), (23, .val (i64 (v1.1.length : Int))), (24, .val (i64 s5.2))] rfl ?_ ?_
    · simp [hc21, hc21s] <;> simp [ieq, ilt, ile]
    refine hK9 _ ?_
    -- region 16
    refine VW.wr tau_ok Sound.none [some 50, some 24] [(1, .val (.ptr [i64 a0_0, dI a0_1])), (4, .ref 4 [] true (dM v1.1)), (6, .ref 6 [] true (dM (s5.1 ++ [x12]))), (22, .ref 4 [] true (dM v1.1)), (23, .val (i64 (v1.1.length : Int))), (24, .val (i64 (w64 (s5.2 + 1))))] rfl ?_ ?_
    · simp <;> simp [ieq, ilt, ile]
    cases hx5o
    exact ⟨_, rfl, Fits.of rfl⟩
  refine VW.block ?_
  refine VW.loopF (i_LoopOfUnits_L1 a0_0 a0_1 v1 v10) (fun s12 => [(1, .val (.ptr [i64 a0_0, dI a0_1])), (4, .ref 4 [] true (dM v1.1)), (6, .ref 6 [] true (dM s5.1)), (8, .ref 4 [s5.2.toNat] true (dI v10)), (9, .ref 9 [] true (dI s12.1)), (22, .ref 4 [] true (dM v1.1)), (23, .val (i64 (v1.1.length : Int))), (24, .val (i64 s5.2)), (29, .ref 4 [] true (dM v1.1)), (30, .val (i64 (v1.1.length : Int))), (31, .val (i64 s12.2))]) hx12 (Fits.of rfl) ?_
  clear hx12
  intro s12 ox12 hx12o hx12b
  unfold i_LoopOfUnits_L1 at hx12o
  -- region 10
  refine VW.ws tau_ok Sound.none [some 32] [(1, .val (.ptr [i64 a0_0, dI a0_1])), (4, .ref 4 [] true (dM v1.1)), (6, .ref 6 [] true (dM s5.1)), (8, .ref 4 [s5.2.toNat] true (dI v10)), (9, .ref 9 [] true (dI s12.1)), (22, .ref 4 [] true (dM v1.1)), (23, .val (i64 (v1.1.length : Int))), (24, .val (i64 s5.2)), (29, .ref 4 [] true (dM v1.1)), (30, .val (i64 (v1.1.length : Int))), (31, .val (i64 s12.2)), (32, .val (.bool (ilt s12.2 (v1.1.length : Int))))] rfl ?_ ?_
  · simp <;> simp [ieq, ilt, ile]
  refine VW.sqc fun K14 hK14 hCK14 => ?_
  refine VW.cond rfl (fun hb15 => ?_) (fun hb15 => ?_)
  rotate_left
  ·
    replace hb15 : ¬ (s12.2 < (v1.1.length : Int)) := by simpa [ieq, ilt, ile] using hb15
    rw [if_neg hb15] at hx12o
    refine VW.exit ?_
    cases hx12o
    have hq := hx12b _ rfl
    subst hq
    exact Fits.of rfl
  replace hb15 : s12.2 < (v1.1.length : Int) := by simpa [ieq, ilt, ile] using hb15
  rw [if_pos hb15] at hx12o
  refine VW.skip ?_
  refine hK14 _ ?_
  refine VW.sqc fun K16 hK16 hCK16 => ?_
  refine VW.block ?_
  -- region 11
  obtain ⟨v17, hv17, hx12o⟩ := bind_some hx12o
  obtain ⟨hv17a, hv17b, hv17c, hv17d⟩ := idx_some hv17
  refine VW.ws tau_ok Sound.none [some 33, some 34, some 11] [(1, .val (.ptr [i64 a0_0, dI a0_1])), (4, .ref 4 [] true (dM v1.1)), (6, .ref 6 [] true (dM s5.1)), (8, .ref 4 [s5.2.toNat] true (dI v10)), (9, .ref 9 [] true (dI s12.1)), (11, .ref 4 [s12.2.toNat] true (dI v17)), (22, .ref 4 [] true (dM v1.1)), (23, .val (i64 (v1.1.length : Int))), (24, .val (i64 s5.2)), (29, .ref 4 [] true (dM v1.1)), (30, .val (i64 (v1.1.length : Int))), (31, .val (i64 s12.2))] rfl ?_ ?_
  · simp [hv17a, hv17b, hv17c, hv17d] <;> simp [ieq, ilt, ile]
  -- region 12
  obtain ⟨v18, hv18, hx12o⟩ := bind_some hx12o
  refine VW.ws tau_ok (Sound.none.add 38 (i_Doubling_times_ok hv18) rfl) [some 35, some 36, some 37, some 38, some 12, none] [(1, .val (.ptr [i64 a0_0, dI a0_1])), (4, .ref 4 [] true (dM v1.1)), (6, .ref 6 [] true (dM s5.1)), (8, .ref 4 [s5.2.toNat] true (dI v10)), (9, .ref 9 [] true (dI s12.1)), (12, .ref 12 [] true (.ptr [dI v18])), (22, .ref 4 [] true (dM v1.1)), (23, .val (i64 (v1.1.length : Int))), (24, .val (i64 s5.2)), (29, .ref 4 [] true (dM v1.1)), (30, .val (i64 (v1.1.length : Int))), (31, .val (i64 s12.2))] rfl ?_ ?_
  · simp <;> simp [ieq, ilt, ile]
  refine VW.fits (fl' := [(1, .val (.ptr [i64 a0_0, dI a0_1])), (4, .ref 4 [] true (dM v1.1)), (6, .ref 6 [] true (dM s5.1)), (8, .ref 4 [s5.2.toNat] true (dI v10)), (9, .ref 9 [] true (dI s12.1)), (12, .val (.ptr [dI v18])), (22, .ref 4 [] true (dM v1.1)), (23, .val (i64 (v1.1.length : Int))), (24, .val (i64 s5.2)), (29, .ref 4 [] true (dM v1.1)), (30, .val (i64 (v1.1.length : Int))), (31, .val (i64 s12.2))]) (Fits.freeze (s := 12) rfl (by simp) (Fits.of rfl)) ?_
  -- region 13
  obtain ⟨v19, hv19, hx12o⟩ := bind_some hx12o
  obtain ⟨hc20, hx12o⟩ := chk_some hx12o
  have hc20s := hc20
  try simp at hc20s
  refine VW.wr tau_ok (Sound.none.add 42 (g_slices_IndexFunc_LLI_LI_of_i_LoopOfUnits_c1_ok hv19) rfl) [some 39, some 40, some 41, some 42, some 43, some 44, some 9] [(1, .val (.ptr [i64 a0_0, dI a0_1])), (4, .ref 4 [] true (dM v1.1)), (6, .ref 6 [] true (dM s5.1)), (8, .ref 4 [s5.2.toNat] true (dI v10)), (9, .ref 9 [] true (dI (s12.1 ++ [v19]))), (22, .ref 4 [] true (dM v1.1)), (23, .val (i64 (v1.1.length : Int))), (24, .val (i64 s5.2)), (29, .ref 4 [] true (dM v1.1)), (30, .val (i64 (v1.1.length : Int))), (31, .val (i64 s12.2))] rfl ?_ ?_
  · simp [hc20, hc20s] <;> simp [ieq, ilt, ile]
  refine hK16 _ ?_
  -- region 14
  refine VW.wr tau_ok Sound.none [some 45, some 31] [(1, .val (.ptr [i64 a0_0, dI a0_1])), (4, .ref 4 [] true (dM v1.1)), (6, .ref 6 [] true (dM s5.1)), (8, .ref 4 [s5.2.toNat] true (dI v10)), (9, .ref 9 [] true (dI (s12.1 ++ [v19]))), (22, .ref 4 [] true (dM v1.1)), (23, .val (i64 (v1.1.length : Int))), (24, .val (i64 s5.2)), (29, .ref 4 [] true (dM v1.1)), (30, .val (i64 (v1.1.length : Int))), (31, .val (i64 (w64 (s12.2 + 1))))] rfl ?_ ?_
  · simp <;> simp [ieq, ilt, ile]
  cases hx12o
  exact ⟨_, rfl, Fits.of rfl⟩

theorem l_eqInt64S_ok {a0 : List Int} {a1 : List Int} {r : Bool} (h : l_eqInt64S a0 a1 = some r) :
    VCall Try.prog 48 [dI a0, dI a1] [.sc (.bool r)] := by
  unfold l_eqInt64S at h
  refine VCall.enter Try.call48 Try.func48 rfl 26 Try.ntmps48 (by simp) [.tmp 4] rfl ?_
  show VW _ _ _ (mk [(0, .val (dI a0)), (1, .val (dI a1))]) _
  -- region 0
  refine VW.ws tau_ok Sound.none [some 4] [(0, .val (dI a0)), (1, .val (dI a1))] rfl ?_ ?_
  · simp <;> simp [ieq, ilt, ile]
  refine VW.sqc fun K1 hK1 hCK1 => ?_
  -- region 1
  refine VW.ws tau_ok Sound.none [some 6, some 7, some 8, some 9, some 10] [(0, .val (dI a0)), (1, .val (dI a1)), (10, .val (.bool (!(ieq (a0.length : Int) (a1.length : Int)))))] rfl ?_ ?_
  · simp <;> simp [ieq, ilt, ile]
  refine VW.cond rfl (fun hb2 => ?_) (fun hb2 => ?_)
  ·
    replace hb2 : ¬ (a0.length : Int) = (a1.length : Int) := by simpa [ieq, ilt, ile] using hb2
    rw [if_pos hb2] at h
    -- region 2
    refine VW.ws tau_ok Sound.none [some 4] [(4, .val (.bool false))] rfl ?_ ?_
    · simp <;> simp [ieq, ilt, ile]
    cases h
    refine VW.ret ?_
    simp [Post, PostM, PostC, PostC2, Nx, Bk]
  replace hb2 : ¬ (¬ (a0.length : Int) = (a1.length : Int)) := by simpa [ieq, ilt, ile] using hb2
  rw [if_neg hb2] at h
  refine VW.skip ?_
  refine hK1 _ ?_
  refine VW.sqc fun K3 hK3 hCK3 => ?_
  -- region 3
  refine VW.ws tau_ok Sound.none [some 5] [(0, .val (dI a0)), (1, .val (dI a1)), (5, .val (i64 0))] rfl ?_ ?_
  · simp <;> simp [ieq, ilt, ile]
  obtain ⟨x4, hx4, h⟩ := bind_some h
  refine VW.tlO (fun y6 => []) x4 (hCK3) ?_ ?_
  · clear hx4
    rintro y6 rfl
    dsimp only at h
    refine hK3 _ ?_
    -- region 8
    refine VW.ws tau_ok Sound.none [some 4] [(4, .val (.bool true))] rfl ?_ ?_
    · simp <;> simp [ieq, ilt, ile]
    cases h
    refine VW.ret ?_
    simp [Post, PostM, PostC, PostC2, Nx, Bk]
  refine VW.block ?_
  refine VW.loopF (l_eqInt64S_L0 a0 a1) (fun s4 => [(0, .val (dI a0)), (1, .val (dI a1)), (5, .val (i64 s4))]) hx4 (Fits.of rfl) ?_
  clear hx4
  intro s4 ox4 hx4o hx4b
  unfold l_eqInt64S_L0 at hx4o
  refine VW.sqc fun K7 hK7 hCK7 => ?_
  -- region 4
  refine VW.ws tau_ok Sound.none [some 11, some 12, some 13, some 14] [(0, .val (dI a0)), (1, .val (dI a1)), (5, .val (i64 s4)), (14, .val (.bool (ilt s4 (a0.length : Int))))] rfl ?_ ?_
  · simp <;> simp [ieq, ilt, ile]
  refine VW.cond rfl (fun hb8 => ?_) (fun hb8 => ?_)
  rotate_left
  ·
    replace hb8 : ¬ (s4 < (a0.length : Int)) := by simpa [ieq, ilt, ile] using hb8
    rw [if_neg hb8] at hx4o
    refine VW.exit ?_
    cases hx4o
    have hq := hx4b _ rfl
    subst hq
    exact ⟨_, rfl, Fits.of rfl⟩
  replace hb8 : s4 < (a0.length : Int) := by simpa [ieq, ilt, ile] using hb8
  rw [if_pos hb8] at hx4o
  refine VW.skip ?_
  refine hK7 _ ?_
  refine VW.sqc fun K9 hK9 hCK9 => ?_
  refine VW.block ?_
  -- region 6
  obtain ⟨v10, hv10, hx4o⟩ := bind_some hx4o
  obtain ⟨hv10a, hv10b, hv10c, hv10d⟩ := idx_some hv10
  obtain ⟨v11, hv11, hx4o⟩ := bind_some hx4o
  obtain ⟨hv11a, hv11b, hv11c, hv11d⟩ := idx_some hv11
  refine VW.wds tau_ok Sound.none try_mixed [some 17, some 18, some 19, some 20, some 21, some 22, some 23, some 24, some 25] [(0, .val (dI a0)), (1, .val (dI a1)), (5, .val (i64 s4)), (25, .val (.bool (!(ieq v10 v11))))] 9 rfl (by kernel_rfl) (by rfl) ?_ ?_
  · simp [hv10a, hv10b, hv10c, hv10d, hv11a, hv11b, hv11c, hv11d] <;> simp [ieq, ilt, ile]
  refine VW.cond rfl (fun hb12 => ?_) (fun hb12 => ?_)
  rotate_left
  ·
    replace hb12 : ¬ (¬ v10 = v11) := by simpa [ieq, ilt, ile] using hb12
    rw [if_neg hb12] at hx4o
    refine VW.skip ?_
    refine hK9 _ ?_
    -- region 5
    refine VW.wr tau_ok Sound.none [some 15, some 16, some 5] [(0, .val (dI a0)), (1, .val (dI a1)), (5, .val (i64 (w64 (s4 + 1))))] rfl ?_ ?_
    · simp <;> simp [ieq, ilt, ile]
    cases hx4o
    exact ⟨_, rfl, Fits.of rfl⟩
  replace hb12 : ¬ v10 = v11 := by simpa [ieq, ilt, ile] using hb12
  rw [if_pos hb12] at hx4o
  -- region 7
  refine VW.ws tau_ok Sound.none [some 4] [(4, .val (.bool false))] rfl ?_ ?_
  · simp <;> simp [ieq, ilt, ile]
  cases hx4o
  have hq := hx4b _ rfl
  subst hq
  dsimp only at h
  cases h
  refine VW.ret ?_
  simp [Post, PostM, PostC, PostC2, Nx, Bk]

theorem l_eqInt64SS_ok {a0 : List (List Int)} {a1 : List (List Int)} {r : Bool} (h : l_eqInt64SS a0 a1 = some r) :
    VCall Try.prog 21 [dM a0, dM a1] [.sc (.bool r)] := by
  unfold l_eqInt64SS at h
  refine VCall.enter Try.call21 Try.func21 rfl 27 Try.ntmps21 (by simp) [.tmp 4] rfl ?_
  show VW _ _ _ (mk [(0, .val (dM a0)), (1, .val (dM a1))]) _
  -- region 0
  refine VW.ws tau_ok Sound.none [some 4] [(0, .val (dM a0)), (1, .val (dM a1))] rfl ?_ ?_
  · simp <;> simp [ieq, ilt, ile]
  refine VW.sqc fun K1 hK1 hCK1 => ?_
  -- region 1
  refine VW.ws tau_ok Sound.none [some 6, some 7, some 8, some 9, some 10] [(0, .val (dM a0)), (1, .val (dM a1)), (10, .val (.bool (!(ieq (a0.length : Int) (a1.length : Int)))))] rfl ?_ ?_
  · simp <;> simp [ieq, ilt, ile]
  refine VW.cond rfl (fun hb2 => ?_) (fun hb2 => ?_)
  ·
    replace hb2 : ¬ (a0.length : Int) = (a1.length : Int) := by simpa [ieq, ilt, ile] using hb2
    rw [if_pos hb2] at h
    -- region 2
    refine VW.ws tau_ok Sound.none [some 4] [(4, .val (.bool false))] rfl ?_ ?_
    · simp <;> simp [ieq, ilt, ile]
    cases h
    refine VW.ret ?_
    simp [Post, PostM, PostC, PostC2, Nx, Bk]
  replace hb2 : ¬ (¬ (a0.length : Int) = (a1.length : Int)) := by simpa [ieq, ilt, ile] using hb2
  rw [if_neg hb2] at h
  refine VW.skip ?_
  refine hK1 _ ?_
  refine VW.sqc fun K3 hK3 hCK3 => ?_
  -- region 3
  refine VW.ws tau_ok Sound.none [some 5] [(0, .val (dM a0)), (1, .val (dM a1)), (5, .val (i64 0))] rfl ?_ ?_
  · simp <;> simp [ieq, ilt, ile]
  obtain ⟨x4, hx4, h⟩ := bind_some h
  refine VW.tlO (fun y6 => []) x4 (hCK3) ?_ ?_
  · clear hx4
    rintro y6 rfl
    dsimp only at h
    refine hK3 _ ?_
    -- region 8
    refine VW.ws tau_ok Sound.none [some 4] [(4, .val (.bool true))] rfl ?_ ?_
    · simp <;> simp [ieq, ilt, ile]
    cases h
    refine VW.ret ?_
    simp [Post, PostM, PostC, PostC2, Nx, Bk]
  refine VW.block ?_
  refine VW.loopF (l_eqInt64SS_L0 a0 a1) (fun s4 => [(0, .val (dM a0)), (1, .val (dM a1)), (5, .val (i64 s4))]) hx4 (Fits.of rfl) ?_
  clear hx4
  intro s4 ox4 hx4o hx4b
  unfold l_eqInt64SS_L0 at hx4o
  refine VW.sqc fun K7 hK7 hCK7 => ?_
  -- region 4
  refine VW.ws tau_ok Sound.none [some 11, some 12, some 13, some 14] [(0, .val (dM a0)), (1, .val (dM a1)), (5, .val (i64 s4)), (14, .val (.bool (ilt s4 (a0.length : Int))))] rfl ?_ ?_
  · simp <;> simp [ieq, ilt, ile]
  refine VW.cond rfl (fun hb8 => ?_) (fun hb8 => ?_)
  rotate_left
  ·
    replace hb8 : ¬ (s4 < (a0.length : Int)) := by simpa [ieq, ilt, ile] using hb8
    rw [if_neg hb8] at hx4o
    refine VW.exit ?_
    cases hx4o
    have hq := hx4b _ rfl
    subst hq
    exact ⟨_, rfl, Fits.of rfl⟩
  replace hb8 : s4 < (a0.length : Int) := by simpa [ieq, ilt, ile] using hb8
  rw [if_pos hb8] at hx4o
  refine VW.skip ?_
  refine hK7 _ ?_
  refine VW.sqc fun K9 hK9 hCK9 => ?_
  refine VW.block ?_
  -- region 6
  obtain ⟨v10, hv10, hx4o⟩ := bind_some hx4o
  obtain ⟨hv10a, hv10b, hv10c, hv10d⟩ := idx_some hv10
  obtain ⟨v11, hv11, hx4o⟩ := bind_some hx4o
  obtain ⟨hv11a, hv11b, hv11c, hv11d⟩ := idx_some hv11
  obtain ⟨v12, hv12, hx4o⟩ := bind_some hx4o
  refine VW.wds tau_ok (Sound.none.add 25 (l_eqInt64S_ok hv12) rfl) try_mixed [some 17, some 18, some 19, some 20, some 21, some 22, some 23, some 24, some 25, some 26] [(0, .val (dM a0)), (1, .val (dM a1)), (5, .val (i64 s4)), (26, .val (.bool (!v12)))] 10 rfl (by kernel_rfl) (by rfl) ?_ ?_
  · simp [hv10a, hv10b, hv10c, hv10d, hv11a, hv11b, hv11c, hv11d] <;> simp [ieq, ilt, ile]
  refine VW.cond rfl (fun hb13 => ?_) (fun hb13 => ?_)
  rotate_left
  ·
    replace hb13 : ¬ (v12 = false) := by simpa [ieq, ilt, ile] using hb13
    rw [if_neg hb13] at hx4o
    refine VW.skip ?_
    refine hK9 _ ?_
    -- region 5
    refine VW.wr tau_ok Sound.none [some 15, some 16, some 5] [(0, .val (dM a0)), (1, .val (dM a1)), (5, .val (i64 (w64 (s4 + 1))))] rfl ?_ ?_
    · simp <;> simp [ieq, ilt, ile]
    cases hx4o
    exact ⟨_, rfl, Fits.of rfl⟩
  replace hb13 : v12 = false := by simpa [ieq, ilt, ile] using hb13
  rw [if_pos hb13] at hx4o
  -- region 7
  refine VW.ws tau_ok Sound.none [some 4] [(4, .val (.bool false))] rfl ?_ ?_
  · simp <;> simp [ieq, ilt, ile]
  cases hx4o
  have hq := hx4b _ rfl
  subst hq
  dsimp only at h
  cases h
  refine VW.ret ?_
  simp [Post, PostM, PostC, PostC2, Nx, Bk]

theorem l_eqDoubling_ok {a0_0 : Int} {a0_1 : List Int} {a1_0 : Int} {a1_1 : List Int} {r : Bool} (h : l_eqDoubling a0_0 a0_1 a1_0 a1_1 = some r) :
    VCall Try.prog 30 [.agg [i64 a0_0, dI a0_1], .agg [i64 a1_0, dI a1_1]] [.sc (.bool r)] := by
  unfold l_eqDoubling at h
  refine VCall.enter Try.call30 Try.func30 rfl 16 Try.ntmps30 (by simp) [.tmp 4] rfl ?_
  show VW _ _ _ (mk [(0, .val (.agg [i64 a0_0, dI a0_1])), (1, .val (.agg [i64 a1_0, dI a1_1]))]) _
  -- region 0
  refine VW.ws tau_ok Sound.none [some 2, some 3, some 4] [(2, .val (.ptr [i64 a0_0, dI a0_1])), (3, .val (.ptr [i64 a1_0, dI a1_1]))] rfl ?_ ?_
  · simp <;> simp [ieq, ilt, ile]
  refine VW.sqc fun K1 hK1 hCK1 => ?_
  -- region 1
  refine VW.ws tau_ok Sound.none [some 5, some 6, some 7, some 8, some 9] [(2, .val (.ptr [i64 a0_0, dI a0_1])), (3, .val (.ptr [i64 a1_0, dI a1_1])), (9, .val (.bool (!(ieq a0_0 a1_0))))] rfl ?_ ?_
  · simp <;> simp [ieq, ilt, ile]
  refine VW.cond rfl (fun hb2 => ?_) (fun hb2 => ?_)
  ·
    replace hb2 : ¬ a0_0 = a1_0 := by simpa [ieq, ilt, ile] using hb2
    rw [if_pos hb2] at h
    -- region 2
    refine VW.ws tau_ok Sound.none [some 4] [(4, .val (.bool false))] rfl ?_ ?_
    · simp <;> simp [ieq, ilt, ile]
    cases h
    refine VW.ret ?_
    simp [Post, PostM, PostC, PostC2, Nx, Bk]
  replace hb2 : ¬ (¬ a0_0 = a1_0) := by simpa [ieq, ilt, ile] using hb2
  rw [if_neg hb2] at h
  refine VW.skip ?_
  refine hK1 _ ?_
  refine VW.sqc fun K3 hK3 hCK3 => ?_
  -- region 3
  obtain ⟨v4, hv4, h⟩ := bind_some h
  refine VW.ws tau_ok (Sound.none.add 14 (l_eqInt64S_ok hv4) rfl) [some 10, some 11, some 12, some 13, some 14, some 15] [(15, .val (.bool (!v4)))] rfl ?_ ?_
  · simp <;> simp [ieq, ilt, ile]
  refine VW.cond rfl (fun hb5 => ?_) (fun hb5 => ?_)
  ·
    replace hb5 : v4 = false := by simpa [ieq, ilt, ile] using hb5
    rw [if_pos hb5] at h
    -- region 4
    refine VW.ws tau_ok Sound.none [some 4] [(4, .val (.bool false))] rfl ?_ ?_
    · simp <;> simp [ieq, ilt, ile]
    cases h
    refine VW.ret ?_
    simp [Post, PostM, PostC, PostC2, Nx, Bk]
  replace hb5 : ¬ (v4 = false) := by simpa [ieq, ilt, ile] using hb5
  rw [if_neg hb5] at h
  refine VW.skip ?_
  refine hK3 _ ?_
  -- region 5
  refine VW.ws tau_ok Sound.none [some 4] [(4, .val (.bool true))] rfl ?_ ?_
  · simp <;> simp [ieq, ilt, ile]
  cases h
  refine VW.ret ?_
  simp [Post, PostM, PostC, PostC2, Nx, Bk]

theorem l_markInt64S_ok {a0 : List Int} {a1 : Int} {r : Int × (List Int)} (h : l_markInt64S a0 a1 = some r) :
    VMut Try.prog 49 (dI a0) [i64 a1] (i64 r.1) (dI r.2) := by
  unfold l_markInt64S at h
  refine VMut.enter Try.call49 Try.func49 rfl 19 Try.ntmps49 (by simp) [.tmp 4] rfl ?_
  show VW _ _ _ (mk [(0, .ref 0 [] true (dI a0)), (1, .val (i64 a1))]) _
  -- region 0
  refine VW.ws tau_ok Sound.none [some 4] [(0, .ref 0 [] true (dI a0)), (1, .val (i64 a1))] rfl ?_ ?_
  · simp <;> simp [ieq, ilt, ile]
  refine VW.sqc fun K1 hK1 hCK1 => ?_
  -- region 1
  refine VW.ws tau_ok Sound.none [some 5] [(0, .ref 0 [] true (dI a0)), (1, .val (i64 a1)), (5, .val (i64 0))] rfl ?_ ?_
  · simp <;> simp [ieq, ilt, ile]
  obtain ⟨x2, hx2, h⟩ := bind_some h
  refine VW.tlE [(0, .ref 0 [] true (dI x2.1)), (1, .val (i64 x2.2))] (hCK1) ?_ ?_
  · clear hx2
    refine hK1 _ ?_
    -- region 6
    refine VW.ws tau_ok Sound.none [some 18, some 4] [(0, .ref 0 [] true (dI x2.1)), (4, .val (i64 x2.2))] rfl ?_ ?_
    · simp <;> simp [ieq, ilt, ile]
    cases h
    refine VW.ret ?_
    simp [Post, PostM, PostC, PostC2, Nx, Bk]
  refine VW.block ?_
  refine VW.loopF l_markInt64S_L0 (fun s2 => [(0, .ref 0 [] true (dI s2.1)), (1, .val (i64 s2.2.1)), (5, .val (i64 s2.2.2))]) hx2 (Fits.of rfl) ?_
  clear hx2
  intro s2 ox2 hx2o hx2b
  unfold l_markInt64S_L0 at hx2o
  refine VW.sqc fun K4 hK4 hCK4 => ?_
  -- region 2
  refine VW.ws tau_ok Sound.none [some 6, some 7, some 8, some 9] [(0, .ref 0 [] true (dI s2.1)), (1, .val (i64 s2.2.1)), (5, .val (i64 s2.2.2)), (9, .val (.bool (ilt s2.2.2 (s2.1.length : Int))))] rfl ?_ ?_
  · simp <;> simp [ieq, ilt, ile]
  refine VW.cond rfl (fun hb5 => ?_) (fun hb5 => ?_)
  rotate_left
  ·
    replace hb5 : ¬ (s2.2.2 < (s2.1.length : Int)) := by simpa [ieq, ilt, ile] using hb5
    rw [if_neg hb5] at hx2o
    refine VW.exit ?_
    cases hx2o
    have hq := hx2b _ rfl
    subst hq
    exact Fits.of rfl
  replace hb5 : s2.2.2 < (s2.1.length : Int) := by simpa [ieq, ilt, ile] using hb5
  rw [if_pos hb5] at hx2o
  refine VW.skip ?_
  refine hK4 _ ?_
  refine VW.sqc fun K6 hK6 hCK6 => ?_
  refine VW.block ?_
  -- region 4
  obtain ⟨v7, hv7, hx2o⟩ := bind_some hx2o
  obtain ⟨hv7a, hv7b, hv7c, hv7d⟩ := idx_some hv7
  refine VW.ws tau_ok Sound.none [some 12, some 13, some 14, some 15, none] [(0, .ref 0 [] true (dI (s2.1.set s2.2.2.toNat s2.2.1))), (1, .val (i64 s2.2.1)), (5, .val (i64 s2.2.2))] rfl ?_ ?_
  · simp [hv7a, hv7b, hv7c, hv7d] <;> simp [ieq, ilt, ile]
  -- region 5
  refine VW.wr tau_ok Sound.none [some 16, some 17, some 1] [(0, .ref 0 [] true (dI (s2.1.set s2.2.2.toNat s2.2.1))), (1, .val (i64 (w64 (s2.2.1 + 1)))), (5, .val (i64 s2.2.2))] rfl ?_ ?_
  · simp <;> simp [ieq, ilt, ile]
  refine hK6 _ ?_
  -- region 3
  refine VW.wr tau_ok Sound.none [some 10, some 11, some 5] [(0, .ref 0 [] true (dI (s2.1.set s2.2.2.toNat s2.2.1))), (1, .val (i64 (w64 (s2.2.1 + 1)))), (5, .val (i64 (w64 (s2.2.2 + 1))))] rfl ?_ ?_
  · simp <;> simp [ieq, ilt, ile]
  cases hx2o
  exact ⟨_, rfl, Fits.of rfl⟩

theorem l_markDoubling_ok {a0_0 : Int} {a0_1 : List Int} {a1 : Int} {r : Int} (h : l_markDoubling a0_0 a0_1 a1 = some r) :
    VSpoil Try.prog 31 (.agg [i64 a0_0, dI a0_1]) [i64 a1] (i64 r) := by
  unfold l_markDoubling at h
  refine VSpoil.enter Try.call31 Try.func31 rfl 10 Try.ntmps31 (by simp) 4 rfl ?_
  show VW _ _ _ (mk [(0, .ref 0 [] true (.agg [i64 a0_0, dI a0_1])), (1, .val (i64 a1))]) _
  -- region 0
  refine VW.ws tau_ok Sound.none [some 2, some 4] [(1, .val (i64 a1)), (2, .al 0 [i64 a0_0, dI a0_1])] rfl ?_ ?_
  · simp <;> simp [ieq, ilt, ile]
  -- region 1
  obtain ⟨v1, hv1, h⟩ := bind_some h
  refine VW.ws tau_ok (Sound.none.mutc 8 (l_markInt64S_ok hv1)) [some 5, some 6, some 7, some 8, some 1] [(1, .val (i64 v1.1))] rfl ?_ ?_
  · simp <;> simp [ieq, ilt, ile]
  -- region 2
  refine VW.ws tau_ok Sound.none [some 9, some 4] [(4, .val (i64 v1.1))] rfl ?_ ?_
  · simp <;> simp [ieq, ilt, ile]
  cases h
  refine VW.ret ?_
  simp [Post, PostM, PostC, PostC2, Nx, Bk]

theorem l_markInt64SS_ok {a0 : List (List Int)} {a1 : Int} {r : Int × (List (List Int))} (h : l_markInt64SS a0 a1 = some r) :
    VMut Try.prog 24 (dM a0) [i64 a1] (i64 r.1) (dM r.2) := by
  unfold l_markInt64SS at h
  refine VMut.enter Try.call24 Try.func24 rfl 19 Try.ntmps24 (by simp) [.tmp 4] rfl ?_
  show VW _ _ _ (mk [(0, .ref 0 [] true (dM a0)), (1, .val (i64 a1))]) _
  -- region 0
  refine VW.ws tau_ok Sound.none [some 4] [(0, .ref 0 [] true (dM a0)), (1, .val (i64 a1))] rfl ?_ ?_
  · simp <;> simp [ieq, ilt, ile]
  refine VW.sqc fun K1 hK1 hCK1 => ?_
  -- region 1
  refine VW.ws tau_ok Sound.none [some 5] [(0, .ref 0 [] true (dM a0)), (1, .val (i64 a1)), (5, .val (i64 0))] rfl ?_ ?_
  · simp <;> simp [ieq, ilt, ile]
  obtain ⟨x2, hx2, h⟩ := bind_some h
  refine VW.tlE [(0, .ref 0 [] true (dM x2.1)), (1, .val (i64 x2.2))] (hCK1) ?_ ?_
  · clear hx2
    refine hK1 _ ?_
    -- region 5
    refine VW.ws tau_ok Sound.none [some 18, some 4] [(0, .ref 0 [] true (dM x2.1)), (4, .val (i64 x2.2))] rfl ?_ ?_
    · simp <;> simp [ieq, ilt, ile]
    cases h
    refine VW.ret ?_
    simp [Post, PostM, PostC, PostC2, Nx, Bk]
  refine VW.block ?_
  refine VW.loopF l_markInt64SS_L0 (fun s2 => [(0, .ref 0 [] true (dM s2.1)), (1, .val (i64 s2.2.1)), (5, .val (i64 s2.2.2))]) hx2 (Fits.of rfl) ?_
  clear hx2
  intro s2 ox2 hx2o hx2b
  unfold l_markInt64SS_L0 at hx2o
  refine VW.sqc fun K4 hK4 hCK4 => ?_
  -- region 2
  refine VW.ws tau_ok Sound.none [some 6, some 7, some 8, some 9] [(0, .ref 0 [] true (dM s2.1)), (1, .val (i64 s2.2.1)), (5, .val (i64 s2.2.2)), (9, .val (.bool (ilt s2.2.2 (s2.1.length : Int))))] rfl ?_ ?_
  · simp <;> simp [ieq, ilt, ile]
  refine VW.cond rfl (fun hb5 => ?_) (fun hb5 => ?_)
  rotate_left
  ·
    replace hb5 : ¬ (s2.2.2 < (s2.1.length : Int)) := by simpa [ieq, ilt, ile] using hb5
    rw [if_neg hb5] at hx2o
    refine VW.exit ?_
    cases hx2o
    have hq := hx2b _ rfl
    subst hq
    exact Fits.of rfl
  replace hb5 : s2.2.2 < (s2.1.length : Int) := by simpa [ieq, ilt, ile] using hb5
  rw [if_pos hb5] at hx2o
  refine VW.skip ?_
  refine hK4 _ ?_
  refine VW.sqc fun K6 hK6 hCK6 => ?_
  refine VW.block ?_
  -- region 4
  obtain ⟨v7, hv7, hx2o⟩ := bind_some hx2o
  obtain ⟨hv7a, hv7b, hv7c, hv7d⟩ := idx_some hv7
  obtain ⟨v8, hv8, hx2o⟩ := bind_some hx2o
  refine VW.wr tau_ok (Sound.none.mutc 17 (l_markInt64S_ok hv8)) [some 12, some 13, some 14, some 15, some 16, some 17, some 1] [(0, .ref 0 [] true (dM (s2.1.set s2.2.2.toNat v8.2))), (1, .val (i64 v8.1)), (5, .val (i64 s2.2.2))] rfl ?_ ?_
  · simp [hv7a, hv7b, hv7c, hv7d] <;> simp [ieq, ilt, ile]
  refine hK6 _ ?_
  -- region 3
  refine VW.wr tau_ok Sound.none [some 10, some 11, some 5] [(0, .ref 0 [] true (dM (s2.1.set s2.2.2.toNat v8.2))), (1, .val (i64 v8.1)), (5, .val (i64 (w64 (s2.2.2 + 1))))] rfl ?_ ?_
  · simp <;> simp [ieq, ilt, ile]
  cases hx2o
  exact ⟨_, rfl, Fits.of rfl⟩

theorem l_heldInt64S_ok {a0 : List Int} {a1 : Int} {r : Int} (h : l_heldInt64S a0 a1 = some r) :
    VCall Try.prog 50 [dI a0, i64 a1] [.sc (i64 r)] := by
  unfold l_heldInt64S at h
  refine VCall.enter Try.call50 Try.func50 rfl 21 Try.ntmps50 (by simp) [.tmp 4] rfl ?_
  show VW _ _ _ (mk [(0, .val (dI a0)), (1, .val (i64 a1))]) _
  -- region 0
  refine VW.ws tau_ok Sound.none [some 4] [(0, .val (dI a0)), (1, .val (i64 a1))] rfl ?_ ?_
  · simp <;> simp [ieq, ilt, ile]
  refine VW.sqc fun K1 hK1 hCK1 => ?_
  -- region 1
  refine VW.ws tau_ok Sound.none [some 5] [(0, .val (dI a0)), (1, .val (i64 a1)), (5, .val (i64 0))] rfl ?_ ?_
  · simp <;> simp [ieq, ilt, ile]
  obtain ⟨x2, hx2, h⟩ := bind_some h
  refine VW.tlO (fun y4 => [(1, .val (i64 y4))]) x2 (hCK1) ?_ ?_
  · clear hx2
    rintro y4 rfl
    dsimp only at h
    refine hK1 _ ?_
    -- region 7
    refine VW.ws tau_ok Sound.none [some 20, some 4] [(4, .val (i64 y4))] rfl ?_ ?_
    · simp <;> simp [ieq, ilt, ile]
    cases h
    refine VW.ret ?_
    simp [Post, PostM, PostC, PostC2, Nx, Bk]
  refine VW.block ?_
  refine VW.loopF (l_heldInt64S_L0 a0) (fun s2 => [(0, .val (dI a0)), (1, .val (i64 s2.1)), (5, .val (i64 s2.2))]) hx2 (Fits.of rfl) ?_
  clear hx2
  intro s2 ox2 hx2o hx2b
  unfold l_heldInt64S_L0 at hx2o
  refine VW.sqc fun K5 hK5 hCK5 => ?_
  -- region 2
  refine VW.ws tau_ok Sound.none [some 6, some 7, some 8, some 9] [(0, .val (dI a0)), (1, .val (i64 s2.1)), (5, .val (i64 s2.2)), (9, .val (.bool (ilt s2.2 (a0.length : Int))))] rfl ?_ ?_
  · simp <;> simp [ieq, ilt, ile]
  refine VW.cond rfl (fun hb6 => ?_) (fun hb6 => ?_)
  rotate_left
  ·
    replace hb6 : ¬ (s2.2 < (a0.length : Int)) := by simpa [ieq, ilt, ile] using hb6
    rw [if_neg hb6] at hx2o
    refine VW.exit ?_
    cases hx2o
    have hq := hx2b _ rfl
    subst hq
    exact ⟨_, rfl, Fits.of rfl⟩
  replace hb6 : s2.2 < (a0.length : Int) := by simpa [ieq, ilt, ile] using hb6
  rw [if_pos hb6] at hx2o
  refine VW.skip ?_
  refine hK5 _ ?_
  refine VW.sqc fun K7 hK7 hCK7 => ?_
  refine VW.block ?_
  refine VW.sqc fun K8 hK8 hCK8 => ?_
  -- region 4
  obtain ⟨v9, hv9, hx2o⟩ := bind_some hx2o
  obtain ⟨hv9a, hv9b, hv9c, hv9d⟩ := idx_some hv9
  refine VW.ws tau_ok Sound.none [some 12, some 13, some 14, some 15, some 16, some 17] [(0, .val (dI a0)), (1, .val (i64 s2.1)), (5, .val (i64 s2.2)), (17, .val (.bool (!(ieq v9 s2.1))))] rfl ?_ ?_
  · simp [hv9a, hv9b, hv9c, hv9d] <;> simp [ieq, ilt, ile]
  refine VW.cond rfl (fun hb10 => ?_) (fun hb10 => ?_)
  ·
    replace hb10 : ¬ v9 = s2.1 := by simpa [ieq, ilt, ile] using hb10
    rw [if_pos hb10] at hx2o
    -- region 5
    refine VW.ws tau_ok Sound.none [some 4] [(4, .val (i64 (-1)))] rfl ?_ ?_
    · simp <;> simp [ieq, ilt, ile]
    cases hx2o
    have hq := hx2b _ rfl
    subst hq
    dsimp only at h
    cases h
    refine VW.ret ?_
    simp [Post, PostM, PostC, PostC2, Nx, Bk]
  replace hb10 : ¬ (¬ v9 = s2.1) := by simpa [ieq, ilt, ile] using hb10
  rw [if_neg hb10] at hx2o
  refine VW.skip ?_
  refine hK8 _ ?_
  -- region 6
  refine VW.wr tau_ok Sound.none [some 18, some 19, some 1] [(0, .val (dI a0)), (1, .val (i64 (w64 (s2.1 + 1)))), (5, .val (i64 s2.2))] rfl ?_ ?_
  · simp <;> simp [ieq, ilt, ile]
  refine hK7 _ ?_
  -- region 3
  refine VW.wr tau_ok Sound.none [some 10, some 11, some 5] [(0, .val (dI a0)), (1, .val (i64 (w64 (s2.1 + 1)))), (5, .val (i64 (w64 (s2.2 + 1))))] rfl ?_ ?_
  · simp <;> simp [ieq, ilt, ile]
  cases hx2o
  exact ⟨_, rfl, Fits.of rfl⟩

theorem l_heldInt64SS_ok {a0 : List (List Int)} {a1 : Int} {r : Int} (h : l_heldInt64SS a0 a1 = some r) :
    VCall Try.prog 25 [dM a0, i64 a1] [.sc (i64 r)] := by
  unfold l_heldInt64SS at h
  refine VCall.enter Try.call25 Try.func25 rfl 21 Try.ntmps25 (by simp) [.tmp 4] rfl ?_
  show VW _ _ _ (mk [(0, .val (dM a0)), (1, .val (i64 a1))]) _
  -- region 0
  refine VW.ws tau_ok Sound.none [some 4] [(0, .val (dM a0)), (1, .val (i64 a1))] rfl ?_ ?_
  · simp <;> simp [ieq, ilt, ile]
  refine VW.sqc fun K1 hK1 hCK1 => ?_
  -- region 1
  refine VW.ws tau_ok Sound.none [some 5] [(0, .val (dM a0)), (1, .val (i64 a1)), (5, .val (i64 0))] rfl ?_ ?_
  · simp <;> simp [ieq, ilt, ile]
  obtain ⟨x2, hx2, h⟩ := bind_some h
  refine VW.tlO (fun y4 => [(1, .val (i64 y4))]) x2 (hCK1) ?_ ?_
  · clear hx2
    rintro y4 rfl
    dsimp only at h
    refine hK1 _ ?_
    -- region 7
    refine VW.ws tau_ok Sound.none [some 20, some 4] [(4, .val (i64 y4))] rfl ?_ ?_
    · simp <;> simp [ieq, ilt, ile]
    cases h
    refine VW.ret ?_
    simp [Post, PostM, PostC, PostC2, Nx, Bk]
  refine VW.block ?_
  refine VW.loopF (l_heldInt64SS_L0 a0) (fun s2 => [(0, .val (dM a0)), (1, .val (i64 s2.1)), (5, .val (i64 s2.2))]) hx2 (Fits.of rfl) ?_
  clear hx2
  intro s2 ox2 hx2o hx2b
  unfold l_heldInt64SS_L0 at hx2o
  refine VW.sqc fun K5 hK5 hCK5 => ?_
  -- region 2
  refine VW.ws tau_ok Sound.none [some 6, some 7, some 8, some 9] [(0, .val (dM a0)), (1, .val (i64 s2.1)), (5, .val (i64 s2.2)), (9, .val (.bool (ilt s2.2 (a0.length : Int))))] rfl ?_ ?_
  · simp <;> simp [ieq, ilt, ile]
  refine VW.cond rfl (fun hb6 => ?_) (fun hb6 => ?_)
  rotate_left
  ·
    replace hb6 : ¬ (s2.2 < (a0.length : Int)) := by simpa [ieq, ilt, ile] using hb6
    rw [if_neg hb6] at hx2o
    refine VW.exit ?_
    cases hx2o
    have hq := hx2b _ rfl
    subst hq
    exact ⟨_, rfl, Fits.of rfl⟩
  replace hb6 : s2.2 < (a0.length : Int) := by simpa [ieq, ilt, ile] using hb6
  rw [if_pos hb6] at hx2o
  refine VW.skip ?_
  refine hK5 _ ?_
  refine VW.sqc fun K7 hK7 hCK7 => ?_
  refine VW.block ?_
  -- region 4
  obtain ⟨v8, hv8, hx2o⟩ := bind_some hx2o
  obtain ⟨hv8a, hv8b, hv8c, hv8d⟩ := idx_some hv8
  obtain ⟨v9, hv9, hx2o⟩ := bind_some hx2o
  refine VW.ws tau_ok (Sound.none.add 17 (l_heldInt64S_ok hv9) rfl) [some 12, some 13, some 14, some 15, some 16, some 17, some 1] [(0, .val (dM a0)), (1, .val (i64 v9)), (5, .val (i64 s2.2))] rfl ?_ ?_
  · simp [hv8a, hv8b, hv8c, hv8d] <;> simp [ieq, ilt, ile]
  -- region 5
  refine VW.ws tau_ok Sound.none [some 18, some 19] [(0, .val (dM a0)), (1, .val (i64 v9)), (5, .val (i64 s2.2)), (19, .val (.bool (ilt v9 0)))] rfl ?_ ?_
  · simp <;> simp [ieq, ilt, ile]
  refine VW.cond rfl (fun hb10 => ?_) (fun hb10 => ?_)
  rotate_left
  ·
    replace hb10 : ¬ (v9 < 0) := by simpa [ieq, ilt, ile] using hb10
    rw [if_neg hb10] at hx2o
    refine VW.skip ?_
    refine hK7 _ ?_
    -- region 3
    refine VW.wr tau_ok Sound.none [some 10, some 11, some 5] [(0, .val (dM a0)), (1, .val (i64 v9)), (5, .val (i64 (w64 (s2.2 + 1))))] rfl ?_ ?_
    · simp <;> simp [ieq, ilt, ile]
    cases hx2o
    exact ⟨_, rfl, Fits.of rfl⟩
  replace hb10 : v9 < 0 := by simpa [ieq, ilt, ile] using hb10
  rw [if_pos hb10] at hx2o
  -- region 6
  refine VW.ws tau_ok Sound.none [some 4] [(4, .val (i64 (-1)))] rfl ?_ ?_
  · simp <;> simp [ieq, ilt, ile]
  cases hx2o
  have hq := hx2b _ rfl
  subst hq
  dsimp only at h
  cases h
  refine VW.ret ?_
  simp [Post, PostM, PostC, PostC2, Nx, Bk]

theorem l_FnExactLoopOfUnits_ok {a0_0 : Int} {a0_1 : List Int} {r : Bool} (h : l_FnExactLoopOfUnits a0_0 a0_1 = some r) :
    VCall Try.prog 5 [.agg [i64 a0_0, dI a0_1]] [.sc (.bool r)] := by
  unfold l_FnExactLoopOfUnits at h
  refine VCall.enter Try.call5 Try.func5 rfl 96 Try.ntmps5 (by simp) [.tmp 2] rfl ?_
  show VW _ _ _ (mk [(0, .val (.agg [i64 a0_0, dI a0_1]))]) _
  -- region 0
  refine VW.ws tau_ok Sound.none [some 1, some 2] [(1, .val (.ptr [i64 a0_0, dI a0_1]))] rfl ?_ ?_
  · simp <;> simp [ieq, ilt, ile]
  -- region 1
  refine VW.ws tau_ok Sound.none [some 3] [(1, .val (.ptr [i64 a0_0, dI a0_1])), (3, .val (i64 1048576))] rfl ?_ ?_
  · simp <;> simp [ieq, ilt, ile]
  -- region 2
  obtain ⟨v1, hv1, h⟩ := bind_some h
  refine VW.ws tau_ok (Sound.none.add 16 (l_szDoubling_ok hv1) rfl) [some 14, some 15, some 16, some 3] [(1, .val (.ptr [i64 a0_0, dI a0_1])), (3, .val (i64 v1))] rfl ?_ ?_
  · simp <;> simp [ieq, ilt, ile]
  refine VW.sqc fun K2 hK2 hCK2 => ?_
  -- region 3
  refine VW.ws tau_ok Sound.none [some 17, some 18] [(1, .val (.ptr [i64 a0_0, dI a0_1])), (18, .val (.bool (ilt v1 0)))] rfl ?_ ?_
  · simp <;> simp [ieq, ilt, ile]
  refine VW.cond rfl (fun hb3 => ?_) (fun hb3 => ?_)
  ·
    replace hb3 : v1 < 0 := by simpa [ieq, ilt, ile] using hb3
    rw [if_pos hb3] at h
    -- region 4
    refine VW.ws tau_ok Sound.none [some 2] [(2, .val (.bool true))] rfl ?_ ?_
    · simp <;> simp [ieq, ilt, ile]
    cases h
    refine VW.ret ?_
    simp [Post, PostM, PostC, PostC2, Nx, Bk]
  replace hb3 : ¬ (v1 < 0) := by simpa [ieq, ilt, ile] using hb3
  rw [if_neg hb3] at h
  refine VW.skip ?_
  refine hK2 _ ?_
  -- region 5
  obtain ⟨v4, hv4, h⟩ := bind_some h
  obtain ⟨v5, hv5, h⟩ := bind_some h
  refine VW.ws tau_ok ((Sound.none.add 21 (l_toDoubling_ok hv4) rfl).add 22 (s_LoopOfUnits_ok hv5) rfl) [some 20, some 21, some 22, some 19, some 23, some 24, some 4, some 5] [(1, .val (.ptr [i64 a0_0, dI a0_1])), (4, .ref 4 [] true (dM v5.1)), (5, .val (i64 v5.2))] rfl ?_ ?_
  · simp <;> simp [ieq, ilt, ile]
  -- region 6
  obtain ⟨v6, hv6, h⟩ := bind_some h
  refine VW.ws tau_ok (Sound.none.add 26 (l_toDoubling_ok hv6) rfl) [some 25, some 26, some 6, none] [(1, .val (.ptr [i64 a0_0, dI a0_1])), (4, .ref 4 [] true (dM v5.1)), (5, .val (i64 v5.2)), (6, .ref 6 [] true (.ptr [i64 v6.1, dI v6.2]))] rfl ?_ ?_
  · simp <;> simp [ieq, ilt, ile]
  -- region 7
  obtain ⟨v7, hv7, h⟩ := bind_some h
  refine VW.ws tau_ok (Sound.none.add 29 (i_LoopOfUnits_ok hv7) rfl) [some 28, some 29, some 27, some 30, some 31, some 7, some 8] [(1, .val (.ptr [i64 a0_0, dI a0_1])), (4, .ref 4 [] true (dM v5.1)), (5, .val (i64 v5.2)), (6, .ref 6 [] true (.ptr [i64 v6.1, dI v6.2])), (7, .ref 7 [] true (dM v7.1)), (8, .val (i64 v7.2))] rfl ?_ ?_
  · simp <;> simp [ieq, ilt, ile]
  refine VW.sqc fun K8 hK8 hCK8 => ?_
  -- region 8
  obtain ⟨x11, hx11, h⟩ := bind_some h
  refine VW.cut [(1, .val (.ptr [i64 a0_0, dI a0_1])), (4, .ref 4 [] true (dM v5.1)), (5, .val (i64 v5.2)), (6, .ref 6 [] true (.ptr [i64 v6.1, dI v6.2])), (7, .ref 7 [] true (dM v7.1)), (8, .val (i64 v7.2)), (40, .val (.bool x11))] ?_ fun hy => ?_
  rotate_left
  · clear h
    obtain ⟨v9, hv9, hx11⟩ := bind_some hx11
    by_cases hp10 : v9 = false
    · rw [if_pos hp10] at hx11
      have hp10b : v9 = false := by simpa [ieq, ilt, ile] using hp10
      have hp10s := hp10b
      try simp at hp10s
      cases hx11
      refine VW.ws tau_ok (Sound.none.add 34 (l_eqInt64SS_ok hv9) rfl) [some 32, some 33, some 34, some 35, some 36, some 37, some 38, some 39, some 40] _ rfl ?_ hy
      simp [hp10b, hp10s] <;> simp [ieq, ilt, ile]
    · rw [if_neg hp10] at hx11
      have hp10b : v9 = true := by simpa [ieq, ilt, ile] using hp10
      have hp10s := hp10b
      try simp at hp10s
      cases hx11
      refine VW.ws tau_ok (Sound.none.add 34 (l_eqInt64SS_ok hv9) rfl) [some 32, some 33, some 34, some 35, some 36, some 37, some 38, some 39, some 40] _ rfl ?_ hy
      simp [hp10b, hp10s] <;> simp [ieq, ilt, ile]
  refine VW.cond rfl (fun hb12 => ?_) (fun hb12 => ?_)
  ·
    replace hb12 : x11 = true := by simpa [ieq, ilt, ile] using hb12
    rw [if_pos hb12] at h
    -- region 9
    refine VW.ws tau_ok Sound.none [some 2] [(2, .val (.bool false))] rfl ?_ ?_
    · simp <;> simp [ieq, ilt, ile]
    cases h
    refine VW.ret ?_
    simp [Post, PostM, PostC, PostC2, Nx, Bk]
  replace hb12 : ¬ (x11 = true) := by simpa [ieq, ilt, ile] using hb12
  rw [if_neg hb12] at h
  refine VW.skip ?_
  refine hK8 _ ?_
  refine VW.sqc fun K13 hK13 hCK13 => ?_
  -- region 10
  obtain ⟨v14, hv14, h⟩ := bind_some h
  obtain ⟨v15, hv15, h⟩ := bind_some h
  refine VW.wds tau_ok ((Sound.none.add 43 (l_toDoubling_ok hv14) rfl).add 44 (l_eqDoubling_ok hv15) rfl) try_mixed [some 41, some 42, some 43, some 44, some 45] [(1, .val (.ptr [i64 a0_0, dI a0_1])), (4, .ref 4 [] true (dM v5.1)), (5, .val (i64 v5.2)), (6, .ref 6 [] true (.ptr [i64 v6.1, dI v6.2])), (7, .ref 7 [] true (dM v7.1)), (8, .val (i64 v7.2)), (45, .val (.bool (!v15)))] 5 rfl (by kernel_rfl) (by rfl) ?_ ?_
  · simp <;> simp [ieq, ilt, ile]
  refine VW.cond rfl (fun hb16 => ?_) (fun hb16 => ?_)
  ·
    replace hb16 : v15 = false := by simpa [ieq, ilt, ile] using hb16
    rw [if_pos hb16] at h
    -- region 11
    refine VW.ws tau_ok Sound.none [some 2] [(2, .val (.bool false))] rfl ?_ ?_
    · simp <;> simp [ieq, ilt, ile]
    cases h
    refine VW.ret ?_
    simp [Post, PostM, PostC, PostC2, Nx, Bk]
  replace hb16 : ¬ (v15 = false) := by simpa [ieq, ilt, ile] using hb16
  rw [if_neg hb16] at h
  refine VW.skip ?_
  refine hK13 _ ?_
  -- region 12
  refine VW.ws tau_ok Sound.none [some 9] [(1, .val (.ptr [i64 a0_0, dI a0_1])), (4, .ref 4 [] true (dM v5.1)), (5, .val (i64 v5.2)), (6, .ref 6 [] true (.ptr [i64 v6.1, dI v6.2])), (7, .ref 7 [] true (dM v7.1)), (8, .val (i64 v7.2)), (9, .val (i64 1))] rfl ?_ ?_
  · simp <;> simp [ieq, ilt, ile]
  -- region 13
  obtain ⟨v17, hv17, h⟩ := bind_some h
  refine VW.ws tau_ok (Sound.none.spoilc 48 (l_markDoubling_ok hv17)) [some 46, some 47, some 48, some 9] [(1, .val (.ptr [i64 a0_0, dI a0_1])), (4, .ref 4 [] true (dM v5.1)), (5, .val (i64 v5.2)), (7, .ref 7 [] true (dM v7.1)), (8, .val (i64 v7.2)), (9, .val (i64 v17))] rfl ?_ ?_
  · simp <;> simp [ieq, ilt, ile]
  refine VW.sqc fun K18 hK18 hCK18 => ?_
  -- region 14
  obtain ⟨x22, hx22, h⟩ := bind_some h
  refine VW.cut [(1, .val (.ptr [i64 a0_0, dI a0_1])), (4, .ref 4 [] true (dM v5.1)), (5, .val (i64 v5.2)), (7, .ref 7 [] true (dM v7.1)), (61, .val (.bool x22))] ?_ fun hy => ?_
  rotate_left
  · clear h
    by_cases hp19 : v17 < 0
    · rw [if_pos hp19] at hx22
      have hp19b : ilt v17 0 = true := by simpa [ieq, ilt, ile] using hp19
      have hp19s := hp19b
      try simp at hp19s
      cases hx22
      refine VW.ws tau_ok Sound.none [some 49, some 50, some 51, some 52, some 53, some 54, some 55, some 56, some 57, some 58, some 59, some 60, some 61] _ rfl ?_ hy
      simp [hp19b, hp19s] <;> simp [ieq, ilt, ile]
    · rw [if_neg hp19] at hx22
      have hp19b : ilt v17 0 = false := by simpa [ieq, ilt, ile] using hp19
      have hp19s := hp19b
      try simp at hp19s
      obtain ⟨v20, hv20, hx22⟩ := bind_some hx22
      by_cases hp21 : v20 = false
      · rw [if_pos hp21] at hx22
        have hp21b : v20 = false := by simpa [ieq, ilt, ile] using hp21
        have hp21s := hp21b
        try simp at hp21s
        cases hx22
        refine VW.ws tau_ok (Sound.none.add 54 (l_eqInt64SS_ok hv20) rfl) [some 49, some 50, some 51, some 52, some 53, some 54, some 55, some 56, some 57, some 58, some 59, some 60, some 61] _ rfl ?_ hy
        simp [hp19b, hp19s, hp21b, hp21s] <;> simp [ieq, ilt, ile]
      · rw [if_neg hp21] at hx22
        have hp21b : v20 = true := by simpa [ieq, ilt, ile] using hp21
        have hp21s := hp21b
        try simp at hp21s
        cases hx22
        refine VW.ws tau_ok (Sound.none.add 54 (l_eqInt64SS_ok hv20) rfl) [some 49, some 50, some 51, some 52, some 53, some 54, some 55, some 56, some 57, some 58, some 59, some 60, some 61] _ rfl ?_ hy
        simp [hp19b, hp19s, hp21b, hp21s] <;> simp [ieq, ilt, ile]
  refine VW.cond rfl (fun hb23 => ?_) (fun hb23 => ?_)
  ·
    replace hb23 : x22 = true := by simpa [ieq, ilt, ile] using hb23
    rw [if_pos hb23] at h
    -- region 15
    refine VW.ws tau_ok Sound.none [some 2] [(2, .val (.bool false))] rfl ?_ ?_
    · simp <;> simp [ieq, ilt, ile]
    cases h
    refine VW.ret ?_
    simp [Post, PostM, PostC, PostC2, Nx, Bk]
  replace hb23 : ¬ (x22 = true) := by simpa [ieq, ilt, ile] using hb23
  rw [if_neg hb23] at h
  refine VW.skip ?_
  refine hK18 _ ?_
  -- region 16
  refine VW.ws tau_ok Sound.none [some 10] [(1, .val (.ptr [i64 a0_0, dI a0_1])), (4, .ref 4 [] true (dM v5.1)), (5, .val (i64 v5.2)), (7, .ref 7 [] true (dM v7.1)), (10, .val (i64 1))] rfl ?_ ?_
  · simp <;> simp [ieq, ilt, ile]
  -- region 17
  obtain ⟨v24, hv24, h⟩ := bind_some h
  refine VW.ws tau_ok (Sound.none.mutc 64 (l_markInt64SS_ok hv24)) [some 62, some 63, some 64, some 10] [(1, .val (.ptr [i64 a0_0, dI a0_1])), (4, .ref 4 [] true (dM v5.1)), (5, .val (i64 v5.2)), (7, .ref 7 [] true (dM v24.2)), (10, .val (i64 v24.1))] rfl ?_ ?_
  · simp <;> simp [ieq, ilt, ile]
  -- region 18
  refine VW.ws tau_ok Sound.none [some 11] [(1, .val (.ptr [i64 a0_0, dI a0_1])), (4, .ref 4 [] true (dM v5.1)), (5, .val (i64 v5.2)), (7, .ref 7 [] true (dM v24.2)), (10, .val (i64 v24.1)), (11, .val (i64 1))] rfl ?_ ?_
  · simp <;> simp [ieq, ilt, ile]
  -- region 19
  obtain ⟨v25, hv25, h⟩ := bind_some h
  refine VW.ws tau_ok (Sound.none.add 67 (l_heldInt64SS_ok hv25) rfl) [some 65, some 66, some 67, some 11] [(1, .val (.ptr [i64 a0_0, dI a0_1])), (4, .ref 4 [] true (dM v5.1)), (5, .val (i64 v5.2)), (7, .ref 7 [] true (dM v24.2)), (10, .val (i64 v24.1)), (11, .val (i64 v25))] rfl ?_ ?_
  · simp <;> simp [ieq, ilt, ile]
  refine VW.sqc fun K26 hK26 hCK26 => ?_
  -- region 20
  refine VW.ws tau_ok Sound.none [some 68, some 69] [(1, .val (.ptr [i64 a0_0, dI a0_1])), (4, .ref 4 [] true (dM v5.1)), (5, .val (i64 v5.2)), (7, .ref 7 [] true (dM v24.2)), (10, .val (i64 v24.1)), (11, .val (i64 v25)), (69, .val (.bool (ilt v25 0)))] rfl ?_ ?_
  · simp <;> simp [ieq, ilt, ile]
  refine VW.cond rfl (fun hb27 => ?_) (fun hb27 => ?_)
  ·
    replace hb27 : v25 < 0 := by simpa [ieq, ilt, ile] using hb27
    rw [if_pos hb27] at h
    -- region 21
    refine VW.ws tau_ok Sound.none [some 2] [(2, .val (.bool false))] rfl ?_ ?_
    · simp <;> simp [ieq, ilt, ile]
    cases h
    refine VW.ret ?_
    simp [Post, PostM, PostC, PostC2, Nx, Bk]
  replace hb27 : ¬ (v25 < 0) := by simpa [ieq, ilt, ile] using hb27
  rw [if_neg hb27] at h
  refine VW.skip ?_
  refine hK26 _ ?_
  refine VW.sqc fun K28 hK28 hCK28 => ?_
  -- region 22
  refine VW.ws tau_ok Sound.none [some 70, some 71, some 72] [(1, .val (.ptr [i64 a0_0, dI a0_1])), (4, .ref 4 [] true (dM v5.1)), (5, .val (i64 v5.2)), (7, .ref 7 [] true (dM v24.2)), (10, .val (i64 v24.1)), (72, .val (.bool (!(ieq v25 v24.1))))] rfl ?_ ?_
  · simp <;> simp [ieq, ilt, ile]
  refine VW.cond rfl (fun hb29 => ?_) (fun hb29 => ?_)
  ·
    replace hb29 : ¬ v25 = v24.1 := by simpa [ieq, ilt, ile] using hb29
    rw [if_pos hb29] at h
    -- region 23
    refine VW.ws tau_ok Sound.none [some 2] [(2, .val (.bool false))] rfl ?_ ?_
    · simp <;> simp [ieq, ilt, ile]
    cases h
    refine VW.ret ?_
    simp [Post, PostM, PostC, PostC2, Nx, Bk]
  replace hb29 : ¬ (¬ v25 = v24.1) := by simpa [ieq, ilt, ile] using hb29
  rw [if_neg hb29] at h
  refine VW.skip ?_
  refine hK28 _ ?_
  -- region 24
  obtain ⟨v30, hv30, h⟩ := bind_some h
  obtain ⟨v31, hv31, h⟩ := bind_some h
  refine VW.ws tau_ok ((Sound.none.add 75 (l_toDoubling_ok hv30) rfl).add 76 (i_LoopOfUnits_ok hv31) rfl) [some 74, some 75, some 76, some 73, some 77, some 78, some 12, some 13] [(4, .ref 4 [] true (dM v5.1)), (5, .val (i64 v5.2)), (7, .ref 7 [] true (dM v24.2)), (10, .val (i64 v24.1)), (12, .ref 12 [] true (dM v31.1)), (13, .val (i64 v31.2))] rfl ?_ ?_
  · simp <;> simp [ieq, ilt, ile]
  refine VW.sqc fun K32 hK32 hCK32 => ?_
  -- region 25
  obtain ⟨x35, hx35, h⟩ := bind_some h
  refine VW.cut [(7, .ref 7 [] true (dM v24.2)), (10, .val (i64 v24.1)), (87, .val (.bool x35))] ?_ fun hy => ?_
  rotate_left
  · clear h
    obtain ⟨v33, hv33, hx35⟩ := bind_some hx35
    by_cases hp34 : v33 = false
    · rw [if_pos hp34] at hx35
      have hp34b : v33 = false := by simpa [ieq, ilt, ile] using hp34
      have hp34s := hp34b
      try simp at hp34s
      cases hx35
      refine VW.ws tau_ok (Sound.none.add 81 (l_eqInt64SS_ok hv33) rfl) [some 79, some 80, some 81, some 82, some 83, some 84, some 85, some 86, some 87] _ rfl ?_ hy
      simp [hp34b, hp34s] <;> simp [ieq, ilt, ile]
    · rw [if_neg hp34] at hx35
      have hp34b : v33 = true := by simpa [ieq, ilt, ile] using hp34
      have hp34s := hp34b
      try simp at hp34s
      cases hx35
      refine VW.ws tau_ok (Sound.none.add 81 (l_eqInt64SS_ok hv33) rfl) [some 79, some 80, some 81, some 82, some 83, some 84, some 85, some 86, some 87] _ rfl ?_ hy
      simp [hp34b, hp34s] <;> simp [ieq, ilt, ile]
  refine VW.cond rfl (fun hb36 => ?_) (fun hb36 => ?_)
  ·
    replace hb36 : x35 = true := by simpa [ieq, ilt, ile] using hb36
    rw [if_pos hb36] at h
    -- region 26
    refine VW.ws tau_ok Sound.none [some 2] [(2, .val (.bool false))] rfl ?_ ?_
    · simp <;> simp [ieq, ilt, ile]
    cases h
    refine VW.ret ?_
    simp [Post, PostM, PostC, PostC2, Nx, Bk]
  replace hb36 : ¬ (x35 = true) := by simpa [ieq, ilt, ile] using hb36
  rw [if_neg hb36] at h
  refine VW.skip ?_
  refine hK32 _ ?_
  -- region 27
  refine VW.ws tau_ok Sound.none [some 11] [(7, .ref 7 [] true (dM v24.2)), (10, .val (i64 v24.1)), (11, .val (i64 1))] rfl ?_ ?_
  · simp <;> simp [ieq, ilt, ile]
  -- region 28
  obtain ⟨v37, hv37, h⟩ := bind_some h
  refine VW.ws tau_ok (Sound.none.add 90 (l_heldInt64SS_ok hv37) rfl) [some 88, some 89, some 90, some 11] [(10, .val (i64 v24.1)), (11, .val (i64 v37))] rfl ?_ ?_
  · simp <;> simp [ieq, ilt, ile]
  refine VW.sqc fun K38 hK38 hCK38 => ?_
  -- region 29
  refine VW.ws tau_ok Sound.none [some 91, some 92] [(10, .val (i64 v24.1)), (11, .val (i64 v37)), (92, .val (.bool (ilt v37 0)))] rfl ?_ ?_
  · simp <;> simp [ieq, ilt, ile]
  refine VW.cond rfl (fun hb39 => ?_) (fun hb39 => ?_)
  ·
    replace hb39 : v37 < 0 := by simpa [ieq, ilt, ile] using hb39
    rw [if_pos hb39] at h
    -- region 30
    refine VW.ws tau_ok Sound.none [some 2] [(2, .val (.bool false))] rfl ?_ ?_
    · simp <;> simp [ieq, ilt, ile]
    cases h
    refine VW.ret ?_
    simp [Post, PostM, PostC, PostC2, Nx, Bk]
  replace hb39 : ¬ (v37 < 0) := by simpa [ieq, ilt, ile] using hb39
  rw [if_neg hb39] at h
  refine VW.skip ?_
  refine hK38 _ ?_
  refine VW.sqc fun K40 hK40 hCK40 => ?_
  -- region 31
  refine VW.ws tau_ok Sound.none [some 93, some 94, some 95] [(95, .val (.bool (!(ieq v37 v24.1))))] rfl ?_ ?_
  · simp <;> simp [ieq, ilt, ile]
  refine VW.cond rfl (fun hb41 => ?_) (fun hb41 => ?_)
  ·
    replace hb41 : ¬ v37 = v24.1 := by simpa [ieq, ilt, ile] using hb41
    rw [if_pos hb41] at h
    -- region 32
    refine VW.ws tau_ok Sound.none [some 2] [(2, .val (.bool false))] rfl ?_ ?_
    · simp <;> simp [ieq, ilt, ile]
    cases h
    refine VW.ret ?_
    simp [Post, PostM, PostC, PostC2, Nx, Bk]
  replace hb41 : ¬ (¬ v37 = v24.1) := by simpa [ieq, ilt, ile] using hb41
  rw [if_neg hb41] at h
  refine VW.skip ?_
  refine hK40 _ ?_
  -- region 33
  refine VW.ws tau_ok Sound.none [some 2] [(2, .val (.bool true))] rfl ?_ ?_
  · simp <;> simp [ieq, ilt, ile]
  cases h
  refine VW.ret ?_
  simp [Post, PostM, PostC, PostC2, Nx, Bk]
end Go.Vam
