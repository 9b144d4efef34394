import Derived.Test.YtbbkiinopmnapaaR3T
import Derived.Test.YtbbkiinopmnapaaFnF
import Derived.Test.YtbbkiinopmnapaaR3AW1
namespace Go.Vam
open Go Go.RowKit Go.Proofs
set_option maxRecDepth 100000
set_option linter.unusedSimpArgs false
set_option linter.unusedVariables false

theorem i_lead_ok {a0 : List Int} {r : Int} (h : i_lead a0 = some r) :
    VCall Try.prog 188 [dI a0] [.sc (i64 r)] := by
  unfold i_lead at h
  refine VCall.enter Try.call188 Try.func188 rfl 18 Try.ntmps188 (by simp) [.tmp 2] rfl ?_
  show VW _ _ _ (mk [(0, .val (dI a0))]) _
  -- region 0
  refine VW.ws tau_ok Sound.none [some 2] [(0, .val (dI a0))] rfl ?_ ?_
  · simp <;> simp [ieq, ilt, ile]
  -- region 1
  refine VW.ws tau_ok Sound.none [some 3] [(0, .val (dI a0)), (3, .val (i64 0))] rfl ?_ ?_
  · simp <;> simp [ieq, ilt, ile]
  refine VW.sqc fun K1 hK1 hCK1 => ?_
  obtain ⟨x2, hx2, h⟩ := bind_some h
  refine VW.tlE [(3, .val (i64 x2))] (hCK1) ?_ ?_
  · clear hx2
    refine hK1 _ ?_
    -- region 4
    refine VW.ws tau_ok Sound.none [some 17, some 2] [(2, .val (i64 x2))] rfl ?_ ?_
    · simp <;> simp [ieq, ilt, ile]
    cases h
    refine VW.ret ?_
    simp [Post, PostM, PostC, PostC2, Nx, Bk]
  refine VW.block ?_
  refine VW.loopF (i_lead_L0 a0) (fun s2 => [(0, .val (dI a0)), (3, .val (i64 s2))]) hx2 (Fits.of rfl) ?_
  clear hx2
  intro s2 ox2 hx2o hx2b
  unfold i_lead_L0 at hx2o
  refine VW.sqc fun K4 hK4 hCK4 => ?_
  -- region 2
  obtain ⟨x7, hx7, hx2o⟩ := bind_some hx2o
  refine VW.cut [(0, .val (dI a0)), (3, .val (i64 s2)), (14, .val (.bool x7))] ?_ fun hy => ?_
  rotate_left
  · clear hx2o
    by_cases hp5 : s2 < (a0.length : Int)
    · rw [if_pos hp5] at hx7
      have hp5b : ilt s2 (a0.length : Int) = true := by simpa [ieq, ilt, ile] using hp5
      have hp5s := hp5b
      try simp at hp5s
      obtain ⟨v6, hv6, hx7⟩ := bind_some hx7
      obtain ⟨hv6a, hv6b, hv6c, hv6d⟩ := idx_some hv6
      cases hx7
      refine VW.ws tau_ok Sound.none [some 4, some 5, some 6, some 7, some 8, some 9, some 10, some 11, some 12, some 13, some 14] _ rfl ?_ hy
      simp [hp5b, hp5s, hv6a, hv6b, hv6c, hv6d] <;> simp [ieq, ilt, ile]
    · rw [if_neg hp5] at hx7
      have hp5b : ilt s2 (a0.length : Int) = false := by simpa [ieq, ilt, ile] using hp5
      have hp5s := hp5b
      try simp at hp5s
      cases hx7
      refine VW.ws tau_ok Sound.none [some 4, some 5, some 6, some 7, some 8, some 9, some 10, some 11, some 12, some 13, some 14] _ rfl ?_ hy
      simp [hp5b, hp5s] <;> simp [ieq, ilt, ile]
  refine VW.cond rfl (fun hb8 => ?_) (fun hb8 => ?_)
  rotate_left
  ·
    replace hb8 : ¬ (x7 = true) := by simpa [ieq, ilt, ile] using hb8
    rw [if_neg hb8] at hx2o
    refine VW.exit ?_
    cases hx2o
    have hq := hx2b _ rfl
    subst hq
    exact Fits.of rfl
  replace hb8 : x7 = true := by simpa [ieq, ilt, ile] using hb8
  rw [if_pos hb8] at hx2o
  refine VW.skip ?_
  refine hK4 _ ?_
  refine VW.block ?_
  -- region 3
  refine VW.wr tau_ok Sound.none [some 15, some 16, some 3] [(0, .val (dI a0)), (3, .val (i64 (w64 (s2 + 1))))] rfl ?_ ?_
  · simp <;> simp [ieq, ilt, ile]
  cases hx2o
  exact ⟨_, rfl, Fits.of rfl⟩

theorem i_field_kernel_ok {a0 : Int} {a1 : List (List Int)} {a2 : Int} {r : List (List Int)} (h : i_field_kernel a0 a1 a2 = some r) :
    VCall Try.prog 122 [i64 a0, dM a1, i64 a2] [.own true (dM r)] := by
  have hT : Try.prog.underlying 161 = some (.map 3 3) := rfl
  have hk : Try.prog.underlying 3 = some (.int .i64) := rfl
  have hz : ∀ w, (zeroValue 3).run Try.prog w = .ok (.int .i64 0) w := fun w => rfl
  unfold i_field_kernel at h
  refine VCall.enter Try.call122 Try.func122 rfl 79 Try.ntmps122 (by simp) [.tmp 6] rfl ?_
  show VW _ _ _ (mk [(0, .val (i64 a0)), (1, .val (dM a1)), (2, .val (i64 a2))]) _
  -- region 0
  refine VW.ws tau_ok Sound.none [some 6] [(0, .val (i64 a0)), (1, .val (dM a1)), (2, .val (i64 a2))] rfl ?_ ?_
  · simp <;> simp [ieq, ilt, ile]
  -- region 1
  obtain ⟨v20, hv20, h⟩ := bind_some h
  refine VW.mid tau_ok (Sound.none.add 20 (i_field_basis_ok hv20) rfl) [some 18, some 19, some 20, some 21, some 7, some 8] 3 [(0, .val (i64 a0)), (2, .val (i64 a2)), (20, .ref 20 [] true (dM v20))] _ (fun _ => [(0, .val (i64 a0)), (2, .val (i64 a2)), (7, .ref 7 [] true (dM v20)), (8, .mp 21 [])]) (fun _ => True) _ rfl rfl rfl ?_ (step_makeMap rfl rfl (by simp)) (fun _ _ => ?_) (fun _ _ => ?_)
  · simp <;> simp [ieq, ilt, ile]
  · simp <;> simp [ieq, ilt, ile]
  refine VW.fits (fl' := [(0, .val (i64 a0)), (2, .val (i64 a2)), (7, .val (dM v20)), (8, .mp 21 [])]) (Fits.freeze (s := 7) rfl (by simp) (Fits.of rfl)) ?_
  obtain ⟨es, hes, h⟩ := bind_some h
  refine VW.sqc fun K2 hK2 hCK2 => ?_
  -- region 2
  refine VW.ws tau_ok Sound.none [some 22, some 23, some 24] [(0, .val (i64 a0)), (2, .val (i64 a2)), (7, .val (dM v20)), (8, .mp 21 []), (22, .val (dM v20)), (23, .val (i64 (v20.length : Int))), (24, .val (i64 0))] rfl ?_ ?_
  · simp <;> simp [ieq, ilt, ile]
  refine VW.tlE [(0, .val (i64 a0)), (2, .val (i64 a2)), (7, .val (dM v20)), (8, .mp 21 es)] hCK2 ?_ ?_
  · clear hes
    refine hK2 _ ?_
    obtain ⟨hnd, h⟩ := chk_some h
    -- region 7
    refine VW.ws tau_ok Sound.none [some 34, some 11] [(0, .val (i64 a0)), (2, .val (i64 a2)), (7, .val (dM v20)), (8, .mp 21 es), (11, .ref 11 [] true (.list []))] rfl ?_ ?_
    · simp <;> simp [ieq, ilt, ile]
    obtain ⟨out, hout, h⟩ := bind_some h
    refine VW.sqc fun K3 hK3 hCK3 => ?_
    -- region 8
    refine VW.ws tau_ok Sound.none [some 35, some 36] [(0, .val (i64 a0)), (2, .val (i64 a2)), (7, .val (dM v20)), (8, .mp 21 es), (11, .ref 11 [] true (.list [])), (35, .val (i64 a2)), (36, .val (i64 0))] rfl ?_ ?_
    · simp <;> simp [ieq, ilt, ile]
    refine VW.tlE [(0, .val (i64 a0)), (11, .ref 11 [] true (dM out))] hCK3 ?_ ?_
    · clear hout
      refine hK3 _ ?_
      -- region 21
      obtain ⟨v78, hv78, h⟩ := bind_some h
      refine VW.ws tau_ok (Sound.none.add 78 (i_field_basis_ok hv78) rfl) [some 76, some 77, some 78, some 6] [(6, .ref 6 [] true (dM v78))] rfl ?_ ?_
      · simp <;> simp [ieq, ilt, ile]
      cases h
      refine VW.ret ?_
      simp [Post, PostM, PostC, PostC2, Nx, Bk]
    refine VW.block ?_
    refine VW.loopF (i_field_kernel_L1 a0 a2 v20 es) (fun s => [(0, .val (i64 a0)), (2, .val (i64 a2)), (7, .val (dM v20)), (8, .mp 21 es), (11, .ref 11 [] true (dM s.1)), (35, .val (i64 a2)), (36, .val (i64 s.2))]) hout (Fits.of rfl) ?_
    clear hout
    intro s o ho hb
    unfold i_field_kernel_L1 at ho
    -- region 9
    refine VW.ws tau_ok Sound.none [some 37] [(0, .val (i64 a0)), (2, .val (i64 a2)), (7, .val (dM v20)), (8, .mp 21 es), (11, .ref 11 [] true (dM s.1)), (35, .val (i64 a2)), (36, .val (i64 s.2)), (37, .val (.bool (ilt s.2 a2)))] rfl ?_ ?_
    · simp <;> simp [ieq, ilt, ile]
    refine VW.sqc fun K4 hK4 hCK4 => ?_
    refine VW.cond rfl (fun hb6 => ?_) (fun hb6 => ?_)
    rotate_left
    ·
      replace hb6 : ¬ (s.2 < a2) := by simpa [ieq, ilt, ile] using hb6
      rw [if_neg hb6] at ho
      refine VW.exit ?_
      cases ho
      have hq := hb _ rfl
      subst hq
      exact Fits.of rfl
    replace hb6 : s.2 < a2 := by simpa [ieq, ilt, ile] using hb6
    rw [if_pos hb6] at ho
    refine VW.skip ?_
    refine hK4 _ ?_
    obtain ⟨x, hx, ho⟩ := bind_some ho
    refine VW.sqE [(0, .val (i64 a0)), (2, .val (i64 a2)), (7, .val (dM v20)), (8, .mp 21 es), (11, .ref 11 [] true (dM x)), (35, .val (i64 a2)), (36, .val (i64 s.2))] ?_ ?_
    · clear hx
      -- region 20
      refine VW.wr tau_ok Sound.none [some 75, some 36] [(0, .val (i64 a0)), (2, .val (i64 a2)), (7, .val (dM v20)), (8, .mp 21 es), (11, .ref 11 [] true (dM x)), (35, .val (i64 a2)), (36, .val (i64 (w64 (s.2 + 1))))] rfl ?_ ?_
      · simp <;> simp [ieq, ilt, ile]
      cases ho
      exact ⟨_, rfl, Fits.of rfl⟩
    refine VW.block ?_
    -- region 10
    refine VW.ws tau_ok Sound.none [some 38, some 12] [(0, .val (i64 a0)), (2, .val (i64 a2)), (7, .val (dM v20)), (8, .mp 21 es), (11, .ref 11 [] true (dM s.1)), (12, .val (i64 s.2)), (35, .val (i64 a2)), (36, .val (i64 s.2))] rfl ?_ ?_
    · simp <;> simp [ieq, ilt, ile]
    refine VW.sqc fun K6 hK6 hCK6 => ?_
    -- region 11
    refine VW.mid tau_ok Sound.none [some 40, some 41, some 42, some 39, some 43, some 44, some 13, some 14] 2 [(0, .val (i64 a0)), (2, .val (i64 a2)), (7, .val (dM v20)), (8, .mp 21 es), (11, .ref 11 [] true (dM s.1)), (12, .val (i64 s.2)), (35, .val (i64 a2)), (36, .val (i64 s.2)), (40, .mp 21 es), (41, .val (i64 s.2))] _ (fun _ => [(0, .val (i64 a0)), (2, .val (i64 a2)), (7, .val (dM v20)), (8, .mp 21 es), (11, .ref 11 [] true (dM s.1)), (12, .val (i64 s.2)), (14, .val (.bool (hasK es s.2))), (35, .val (i64 a2)), (36, .val (i64 s.2))]) (fun _ => True) _ rfl rfl rfl ?_ (step_lookup rfl rfl (by simp) hT hk hz rfl rfl) (fun _ _ => ?_) (fun _ _ => ?_)
    · simp <;> simp [ieq, ilt, ile]
    · simp <;> simp [ieq, ilt, ile]
    -- region 12
    refine VW.ws tau_ok Sound.none [some 45] [(0, .val (i64 a0)), (2, .val (i64 a2)), (7, .val (dM v20)), (8, .mp 21 es), (11, .ref 11 [] true (dM s.1)), (12, .val (i64 s.2)), (35, .val (i64 a2)), (36, .val (i64 s.2)), (45, .val (.bool (hasK es s.2)))] rfl ?_ ?_
    · simp <;> simp [ieq, ilt, ile]
    refine VW.cond rfl (fun hb7 => ?_) (fun hb7 => ?_)
    ·
      rw [if_pos hb7] at hx
      refine VW.exit ?_
      cases hx
      exact Fits.of rfl
    rw [if_neg (by rw [hb7]; decide)] at hx
    refine VW.skip ?_
    refine hK6 _ ?_
    -- region 13
    obtain ⟨hc1, hx⟩ := chk_some hx
    refine VW.ws tau_ok Sound.none [some 46, some 47, some 15] [(0, .val (i64 a0)), (2, .val (i64 a2)), (7, .val (dM v20)), (8, .mp 21 es), (11, .ref 11 [] true (dM s.1)), (12, .val (i64 s.2)), (15, .ref 15 [] true (dI (List.replicate a2.toNat 0))), (35, .val (i64 a2)), (36, .val (i64 s.2))] rfl ?_ ?_
    · simp [hc1] <;> simp [ieq, ilt, ile]
    obtain ⟨l, hl, hx⟩ := bind_some hx
    rw [Option.some.inj hl]
    -- region 14
    obtain ⟨v50, hv50, hx⟩ := bind_some hx
    obtain ⟨hv50a, hv50b, hv50c, hv50d⟩ := idx_some hv50
    refine VW.ws tau_ok Sound.none [some 48, some 49, some 50, none] [(0, .val (i64 a0)), (2, .val (i64 a2)), (7, .val (dM v20)), (8, .mp 21 es), (11, .ref 11 [] true (dM s.1)), (12, .val (i64 s.2)), (15, .ref 15 [] true (dI (l.set s.2.toNat 1))), (35, .val (i64 a2)), (36, .val (i64 s.2))] rfl ?_ ?_
    · simp [hv50a, hv50b, hv50c, hv50d] <;> simp [ieq, ilt, ile]
    obtain ⟨hc2, hx⟩ := chk_some hx
    rw [List.all_eq_true] at hc2
    obtain ⟨vf, hvf, hx⟩ := bind_some hx
    refine VW.sqc fun K7 hK7 hCK7 => ?_
    -- region 15
    refine VW.mid tau_ok Sound.none [some 51, some 52] 1 [(0, .val (i64 a0)), (2, .val (i64 a2)), (7, .val (dM v20)), (8, .mp 21 es), (11, .ref 11 [] true (dM s.1)), (12, .val (i64 s.2)), (15, .ref 15 [] true (dI (l.set s.2.toNat 1))), (35, .val (i64 a2)), (36, .val (i64 s.2)), (51, .mp 21 es)] _ (fun _ => [(0, .val (i64 a0)), (2, .val (i64 a2)), (7, .val (dM v20)), (8, .mp 21 es), (11, .ref 11 [] true (dM s.1)), (12, .val (i64 s.2)), (15, .ref 15 [] true (dI (l.set s.2.toNat 1))), (35, .val (i64 a2)), (36, .val (i64 s.2)), (52, .itr 52 21 es [])]) (fun _ => True) _ rfl rfl rfl ?_ (step_range rfl rfl (by simp) hT rfl (by decide)) (fun _ _ => ?_) (fun _ _ => ?_)
    · simp <;> simp [ieq, ilt, ile]
    · simp <;> simp [ieq, ilt, ile]
    refine VW.tlE [(0, .val (i64 a0)), (2, .val (i64 a2)), (7, .val (dM v20)), (8, .mp 21 es), (11, .ref 11 [] true (dM s.1)), (15, .ref 15 [] true (dI vf)), (35, .val (i64 a2)), (36, .val (i64 s.2))] hCK7 ?_ ?_
    · refine hK7 _ ?_
      -- region 19
      obtain ⟨hc3, hx⟩ := chk_some hx
      refine VW.wr tau_ok Sound.none [some 71, some 72, some 73, some 74, some 11] [(0, .val (i64 a0)), (2, .val (i64 a2)), (7, .val (dM v20)), (8, .mp 21 es), (11, .ref 11 [] true (dM (s.1 ++ [vf]))), (35, .val (i64 a2)), (36, .val (i64 s.2))] rfl ?_ ?_
      · simp [hc3] <;> simp at hc3 ⊢ <;> simp [hc3, ieq, ilt, ile]
      cases hx
      exact Fits.of rfl
    refine VW.block ?_
    refine VW.loopI (ι := List Nat) (fun seen => [(0, .val (i64 a0)), (2, .val (i64 a2)), (7, .val (dM v20)), (8, .mp 21 es), (11, .ref 11 [] true (dM s.1)), (12, .val (i64 s.2)), (15, .ref 15 [] true (dI (kerS a0 v20 s.2 es (l.set s.2.toNat 1) seen))), (35, .val (i64 a2)), (36, .val (i64 s.2)), (52, .itr 52 21 es seen)]) (fun seen => seen.Nodup ∧ ∀ i ∈ seen, i < es.length) (fun seen => es.length - seen.length) [] ⟨List.nodup_nil, fun i hi => absurd hi List.not_mem_nil⟩ (Fits.of rfl) ?_
    intro seen ⟨hs1, hs2⟩
    -- region 16
    refine VW.next rfl rfl (by simp) rfl rfl rfl (by simp) rfl rfl (fun hall => ?_) (fun i hi hni => ?_)
    · refine VW.sqc fun K8 hK8 hCK8 => ?_
      refine VW.cond_f rfl ?_
      refine VW.exit ?_
      have e := kerS_all (p := a0) (red := v20) (free := s.2) (v := l.set s.2.toNat 1) (fun e he => by obtain ⟨_, _, _, _, _, _, _, q, _⟩ := kerOk_some (hc2 e he); exact q) hnd hs1 hs2 hall
      rw [Option.some.inj hvf] at e
      rw [e]
      exact Fits.of rfl
    have hlen : seen.length < es.length := by
      rcases Nat.lt_or_ge seen.length es.length with h | h
      · exact h
      · exact absurd (nodup_full hs1 hs2 h i hi) hni
    refine VW.re [(0, .val (i64 a0)), (2, .val (i64 a2)), (7, .val (dM v20)), (8, .mp 21 es), (11, .ref 11 [] true (dM s.1)), (12, .val (i64 s.2)), (15, .ref 15 [] true (dI (kerS a0 v20 s.2 es (l.set s.2.toNat 1) seen))), (35, .val (i64 a2)), (36, .val (i64 s.2)), (52, .itr 52 21 es (seen ++ [i])), (54, .val (.bool true))] (by simp) ?_
    refine VW.sqc fun K8 hK8 hCK8 => ?_
    refine VW.cond_t rfl ?_
    refine VW.skip ?_
    refine hK8 _ ?_
    refine VW.block ?_
    -- region 17
    refine VW.mid tau_ok Sound.none [some 55, some 56, some 57, some 16, some 17] 0 [(0, .val (i64 a0)), (2, .val (i64 a2)), (7, .val (dM v20)), (8, .mp 21 es), (11, .ref 11 [] true (dM s.1)), (12, .val (i64 s.2)), (15, .ref 15 [] true (dI (kerS a0 v20 s.2 es (l.set s.2.toNat 1) seen))), (35, .val (i64 a2)), (36, .val (i64 s.2)), (52, .itr 52 21 es (seen ++ [i]))] _ (fun _ => [(0, .val (i64 a0)), (2, .val (i64 a2)), (7, .val (dM v20)), (8, .mp 21 es), (11, .ref 11 [] true (dM s.1)), (12, .val (i64 s.2)), (15, .ref 15 [] true (dI (kerS a0 v20 s.2 es (l.set s.2.toNat 1) seen))), (16, .val (i64 es[i].1)), (17, .val (i64 es[i].2)), (35, .val (i64 a2)), (36, .val (i64 s.2)), (52, .itr 52 21 es (seen ++ [i]))]) (fun _ => True) _ rfl rfl rfl ?_ (step_entry rfl rfl (by simp) rfl hi) (fun _ _ => ?_) (fun _ _ => ?_)
    · simp <;> simp [ieq, ilt, ile]
    · simp <;> simp [ieq, ilt, ile]
    -- region 18
    obtain ⟨rw0, x0, y0, hr0, hx0, hy0, hv0, hk0, hk1⟩ := kerOk_some (hc2 es[i] (List.getElem_mem hi))
    obtain ⟨hr0a, hr0b, hr0c, hr0d⟩ := idx_some hr0
    obtain ⟨hx0a, hx0b, hx0c, hx0d⟩ := idx_some hx0
    have hkl : es[i].1.toNat < (kerS a0 v20 s.2 es (l.set s.2.toNat 1) seen).length := by rw [kerS_len, List.length_set]; exact hk1
    have hsn := kerS_snoc (p := a0) (red := v20) (free := s.2) (v := l.set s.2.toNat 1) (seen := seen) hi
    generalize kerS a0 v20 s.2 es (l.set s.2.toNat 1) seen = vs at hkl hsn ⊢
    generalize hke : es[i].1 = k0 at hk0 hk1 hkl ⊢
    generalize hie : es[i].2 = i0 at hr0a hr0b hr0c hr0d ⊢
    refine VW.wr tau_ok (Sound.none.add 69 (i_field_num_ok hy0) rfl) [some 58, some 59, some 60, some 61, some 62, some 63, some 64, some 65, some 66, some 67, some 68, some 69, some 70, none] [(0, .val (i64 a0)), (2, .val (i64 a2)), (7, .val (dM v20)), (8, .mp 21 es), (11, .ref 11 [] true (dM s.1)), (12, .val (i64 s.2)), (15, .ref 15 [] true (dI (vs.set k0.toNat y0))), (35, .val (i64 a2)), (36, .val (i64 s.2)), (52, .itr 52 21 es (seen ++ [i]))] rfl ?_ ?_
    · simp [hk0, hkl, hr0a, hr0b, hr0c, hr0d, hx0a, hx0b, hx0c, hx0d] <;> simp [ieq, ilt, ile]
    refine ⟨seen ++ [i], ⟨⟨?_, ?_⟩, ?_⟩, ?_⟩
    · rw [List.nodup_append]
      exact ⟨hs1, by simp, fun a ha b hb => by simp only [List.mem_singleton] at hb; subst hb; exact fun e => hni (e ▸ ha)⟩
    · intro j hj
      rcases List.mem_append.1 hj with h | h
      · exact hs2 j h
      · simp only [List.mem_singleton] at h; omega
    · simp only [List.length_append, List.length_singleton]; omega
    · have e : kerS a0 v20 s.2 es (l.set s.2.toNat 1) (seen ++ [i]) = vs.set k0.toNat y0 := by rw [hsn]; unfold kerPut; rw [hv0, hke]; rfl
      simp only [e]
      exact Fits.of rfl
  refine VW.block ?_
  refine VW.loopF (i_field_kernel_L0 v20) (fun s => [(0, .val (i64 a0)), (2, .val (i64 a2)), (7, .val (dM v20)), (8, .mp 21 s.1), (22, .val (dM v20)), (23, .val (i64 (v20.length : Int))), (24, .val (i64 s.2))]) hes (Fits.of rfl) ?_
  clear hes
  intro s o ho hb
  unfold i_field_kernel_L0 at ho
  -- region 3
  refine VW.ws tau_ok Sound.none [some 25] [(0, .val (i64 a0)), (2, .val (i64 a2)), (7, .val (dM v20)), (8, .mp 21 s.1), (22, .val (dM v20)), (23, .val (i64 (v20.length : Int))), (24, .val (i64 s.2)), (25, .val (.bool (ilt s.2 (v20.length : Int))))] rfl ?_ ?_
  · simp <;> simp [ieq, ilt, ile]
  refine VW.sqc fun K5 hK5 hCK5 => ?_
  refine VW.cond rfl (fun hb6 => ?_) (fun hb6 => ?_)
  rotate_left
  ·
    replace hb6 : ¬ (s.2 < (v20.length : Int)) := by simpa [ieq, ilt, ile] using hb6
    rw [if_neg hb6] at ho
    refine VW.exit ?_
    cases ho
    have hq := hb _ rfl
    subst hq
    exact Fits.of rfl
  replace hb6 : s.2 < (v20.length : Int) := by simpa [ieq, ilt, ile] using hb6
  rw [if_pos hb6] at ho
  refine VW.skip ?_
  refine hK5 _ ?_
  refine VW.sqc fun K9 hK9 hCK9 => ?_
  refine VW.block ?_
  -- region 4
  obtain ⟨v28, hv28, ho⟩ := bind_some ho
  obtain ⟨hv28a, hv28b, hv28c, hv28d⟩ := idx_some hv28
  refine VW.ws tau_ok Sound.none [some 26, some 27, some 28, some 9, some 10] [(0, .val (i64 a0)), (2, .val (i64 a2)), (7, .val (dM v20)), (8, .mp 21 s.1), (9, .val (i64 s.2)), (10, .val (dI v28)), (22, .val (dM v20)), (23, .val (i64 (v20.length : Int))), (24, .val (i64 s.2))] rfl ?_ ?_
  · simp [hv28a, hv28b, hv28c, hv28d] <;> simp [ieq, ilt, ile]
  -- region 5
  obtain ⟨v31, hv31, ho⟩ := bind_some ho
  obtain ⟨hc, ho⟩ := chk_some ho
  refine VW.midr tau_ok (Sound.none.add 31 (i_lead_ok hv31) rfl) [some 29, some 30, some 31, some 32, none] 4 [(0, .val (i64 a0)), (2, .val (i64 a2)), (7, .val (dM v20)), (8, .mp 21 s.1), (22, .val (dM v20)), (23, .val (i64 (v20.length : Int))), (24, .val (i64 s.2)), (29, .mp 21 s.1), (31, .val (i64 v31)), (32, .val (i64 s.2))] _ (fun _ => [(0, .val (i64 a0)), (2, .val (i64 a2)), (7, .val (dM v20)), (8, .mp 21 (s.1 ++ [(v31, s.2)])), (22, .val (dM v20)), (23, .val (i64 (v20.length : Int))), (24, .val (i64 s.2))]) (fun _ => True) _ rfl rfl rfl ?_ (step_mapUpdate rfl rfl hT hk rfl rfl rfl hc) (fun _ _ => ?_) (fun _ _ => ?_)
  · simp <;> simp [ieq, ilt, ile]
  · simp <;> simp [ieq, ilt, ile]
  refine hK9 _ ?_
  -- region 6
  refine VW.wr tau_ok Sound.none [some 33, some 24] [(0, .val (i64 a0)), (2, .val (i64 a2)), (7, .val (dM v20)), (8, .mp 21 (s.1 ++ [(v31, s.2)])), (22, .val (dM v20)), (23, .val (i64 (v20.length : Int))), (24, .val (i64 (w64 (s.2 + 1))))] rfl ?_ ?_
  · simp <;> simp [ieq, ilt, ile]
  cases ho
  exact ⟨_, rfl, Fits.of rfl⟩

theorem i_KernelBasis_ok {a0 : Int} {a1 : List (List Int)} {r : (List (List Int)) × Int} (h : i_KernelBasis a0 a1 = some r) :
    VCall Try.prog 63 [i64 a0, dM a1] [.own true (dM r.1), .sc (i64 r.2)] := by
  unfold i_KernelBasis at h
  refine VCall.enter Try.call63 Try.func63 rfl 21 Try.ntmps63 (by simp) [.tmp 4, .tmp 5] rfl ?_
  show VW _ _ _ (mk [(0, .val (i64 a0)), (1, .val (dM a1))]) _
  -- region 0
  refine VW.ws tau_ok Sound.none [some 4, some 5] [(0, .val (i64 a0)), (1, .val (dM a1))] rfl ?_ ?_
  · simp <;> simp [ieq, ilt, ile]
  refine VW.sqc fun K1 hK1 hCK1 => ?_
  -- region 1
  obtain ⟨v2, hv2, h⟩ := bind_some h
  refine VW.ws tau_ok (Sound.none.add 10 (i_checkMatrices_ok hv2) rfl) [some 7, some 8, some 9, some 10, some 6] [(0, .val (i64 a0)), (1, .val (dM a1)), (6, .val (i64 v2))] rfl ?_ ?_
  · simp <;> simp [ieq, ilt, ile]
  -- region 2
  refine VW.ws tau_ok Sound.none [some 11, some 12] [(0, .val (i64 a0)), (1, .val (dM a1)), (6, .val (i64 v2)), (12, .val (.bool (!(ieq v2 0))))] rfl ?_ ?_
  · simp <;> simp [ieq, ilt, ile]
  refine VW.cond rfl (fun hb3 => ?_) (fun hb3 => ?_)
  ·
    replace hb3 : ¬ v2 = 0 := by simpa [ieq, ilt, ile] using hb3
    rw [if_pos hb3] at h
    -- region 3
    refine VW.ws tau_ok Sound.none [some 13, some 4, some 5] [(4, .ref 4 [] true (.list [])), (5, .val (i64 v2))] rfl ?_ ?_
    · simp <;> simp [ieq, ilt, ile]
    cases h
    refine VW.ret ?_
    simp [Post, PostM, PostC, PostC2, Nx, Bk]
  replace hb3 : ¬ (¬ v2 = 0) := by simpa [ieq, ilt, ile] using hb3
  rw [if_neg hb3] at h
  refine VW.skip ?_
  refine hK1 _ ?_
  -- region 4
  obtain ⟨v4, hv4, h⟩ := bind_some h
  obtain ⟨hv4a, hv4b, hv4c, hv4d⟩ := idx_some hv4
  replace hv4b : 0 < a1.length := hv4b
  replace hv4c : a1[0]? = some v4 := hv4c
  replace hv4d : ∀ h, a1[0]'h = v4 := hv4d
  obtain ⟨v5, hv5, h⟩ := bind_some h
  refine VW.ws tau_ok (Sound.none.add 20 (i_field_kernel_ok hv5) rfl) [some 14, some 15, some 16, some 17, some 18, some 19, some 20, some 4, some 5] [(4, .ref 4 [] true (dM v5)), (5, .val (i64 0))] rfl ?_ ?_
  · simp [hv4a, hv4b, hv4c, hv4d] <;> simp [ieq, ilt, ile]
  cases h
  refine VW.ret ?_
  simp [Post, PostM, PostC, PostC2, Nx, Bk]

theorem l_eqInt64S_ok {a0 : List Int} {a1 : List Int} {r : Bool} (h : l_eqInt64S a0 a1 = some r) :
    VCall Try.prog 19 [dI a0, dI a1] [.sc (.bool r)] := by
  unfold l_eqInt64S at h
  refine VCall.enter Try.call19 Try.func19 rfl 26 Try.ntmps19 (by simp) [.tmp 4] rfl ?_
  show VW _ _ _ (mk [(0, .val (dI a0)), (1, .val (dI a1))]) _
  -- region 0
  refine VW.ws tau_ok Sound.none [some 4] [(0, .val (dI a0)), (1, .val (dI a1))] rfl ?_ ?_
  · simp <;> simp [ieq, ilt, ile]
  refine VW.sqc fun K1 hK1 hCK1 => ?_
  -- region 1
  refine VW.ws tau_ok Sound.none [some 6, some 7, some 8, some 9, some 10] [(0, .val (dI a0)), (1, .val (dI a1)), (10, .val (.bool (!(ieq (a0.length : Int) (a1.length : Int)))))] rfl ?_ ?_
  · simp <;> simp [ieq, ilt, ile]
  refine VW.cond rfl (fun hb2 => ?_) (fun hb2 => ?_)
  ·
    replace hb2 : ¬ (a0.length : Int) = (a1.length : Int) := by simpa [ieq, ilt, ile] using hb2
    rw [if_pos hb2] at h
    -- region 2
    refine VW.ws tau_ok Sound.none [some 4] [(4, .val (.bool false))] rfl ?_ ?_
    · simp <;> simp [ieq, ilt, ile]
    cases h
    refine VW.ret ?_
    simp [Post, PostM, PostC, PostC2, Nx, Bk]
  replace hb2 : ¬ (¬ (a0.length : Int) = (a1.length : Int)) := by simpa [ieq, ilt, ile] using hb2
  rw [if_neg hb2] at h
  refine VW.skip ?_
  refine hK1 _ ?_
  refine VW.sqc fun K3 hK3 hCK3 => ?_
  -- region 3
  refine VW.ws tau_ok Sound.none [some 5] [(0, .val (dI a0)), (1, .val (dI a1)), (5, .val (i64 0))] rfl ?_ ?_
  · simp <;> simp [ieq, ilt, ile]
  obtain ⟨x4, hx4, h⟩ := bind_some h
  refine VW.tlO (fun y6 => []) x4 (hCK3) ?_ ?_
  · clear hx4
    rintro y6 rfl
    dsimp only at h
    refine hK3 _ ?_
    -- region 8
    refine VW.ws tau_ok Sound.none [some 4] [(4, .val (.bool true))] rfl ?_ ?_
    · simp <;> simp [ieq, ilt, ile]
    cases h
    refine VW.ret ?_
    simp [Post, PostM, PostC, PostC2, Nx, Bk]
  refine VW.block ?_
  refine VW.loopF (l_eqInt64S_L0 a0 a1) (fun s4 => [(0, .val (dI a0)), (1, .val (dI a1)), (5, .val (i64 s4))]) hx4 (Fits.of rfl) ?_
  clear hx4
  intro s4 ox4 hx4o hx4b
  unfold l_eqInt64S_L0 at hx4o
  refine VW.sqc fun K7 hK7 hCK7 => ?_
  -- region 4
  refine VW.ws tau_ok Sound.none [some 11, some 12, some 13, some 14] [(0, .val (dI a0)), (1, .val (dI a1)), (5, .val (i64 s4)), (14, .val (.bool (ilt s4 (a0.length : Int))))] rfl ?_ ?_
  · simp <;> simp [ieq, ilt, ile]
  refine VW.cond rfl (fun hb8 => ?_) (fun hb8 => ?_)
  rotate_left
  ·
    replace hb8 : ¬ (s4 < (a0.length : Int)) := by simpa [ieq, ilt, ile] using hb8
    rw [if_neg hb8] at hx4o
    refine VW.exit ?_
    cases hx4o
    have hq := hx4b _ rfl
    subst hq
    exact ⟨_, rfl, Fits.of rfl⟩
  replace hb8 : s4 < (a0.length : Int) := by simpa [ieq, ilt, ile] using hb8
  rw [if_pos hb8] at hx4o
  refine VW.skip ?_
  refine hK7 _ ?_
  refine VW.sqc fun K9 hK9 hCK9 => ?_
  refine VW.block ?_
  -- region 6
  obtain ⟨v10, hv10, hx4o⟩ := bind_some hx4o
  obtain ⟨hv10a, hv10b, hv10c, hv10d⟩ := idx_some hv10
  obtain ⟨v11, hv11, hx4o⟩ := bind_some hx4o
  obtain ⟨hv11a, hv11b, hv11c, hv11d⟩ := idx_some hv11
  refine VW.wds tau_ok Sound.none try_mixed [some 17, some 18, some 19, some 20, some 21, some 22, some 23, some 24, some 25] [(0, .val (dI a0)), (1, .val (dI a1)), (5, .val (i64 s4)), (25, .val (.bool (!(ieq v10 v11))))] 9 rfl (by kernel_rfl) (by rfl) ?_ ?_
  · simp [hv10a, hv10b, hv10c, hv10d, hv11a, hv11b, hv11c, hv11d] <;> simp [ieq, ilt, ile]
  refine VW.cond rfl (fun hb12 => ?_) (fun hb12 => ?_)
  rotate_left
  ·
    replace hb12 : ¬ (¬ v10 = v11) := by simpa [ieq, ilt, ile] using hb12
    rw [if_neg hb12] at hx4o
    refine VW.skip ?_
    refine hK9 _ ?_
    -- region 5
    refine VW.wr tau_ok Sound.none [some 15, some 16, some 5] [(0, .val (dI a0)), (1, .val (dI a1)), (5, .val (i64 (w64 (s4 + 1))))] rfl ?_ ?_
    · simp <;> simp [ieq, ilt, ile]
    cases hx4o
    exact ⟨_, rfl, Fits.of rfl⟩
  replace hb12 : ¬ v10 = v11 := by simpa [ieq, ilt, ile] using hb12
  rw [if_pos hb12] at hx4o
  -- region 7
  refine VW.ws tau_ok Sound.none [some 4] [(4, .val (.bool false))] rfl ?_ ?_
  · simp <;> simp [ieq, ilt, ile]
  cases hx4o
  have hq := hx4b _ rfl
  subst hq
  dsimp only at h
  cases h
  refine VW.ret ?_
  simp [Post, PostM, PostC, PostC2, Nx, Bk]

theorem l_eqInt64SS_ok {a0 : List (List Int)} {a1 : List (List Int)} {r : Bool} (h : l_eqInt64SS a0 a1 = some r) :
    VCall Try.prog 20 [dM a0, dM a1] [.sc (.bool r)] := by
  unfold l_eqInt64SS at h
  refine VCall.enter Try.call20 Try.func20 rfl 27 Try.ntmps20 (by simp) [.tmp 4] rfl ?_
  show VW _ _ _ (mk [(0, .val (dM a0)), (1, .val (dM a1))]) _
  -- region 0
  refine VW.ws tau_ok Sound.none [some 4] [(0, .val (dM a0)), (1, .val (dM a1))] rfl ?_ ?_
  · simp <;> simp [ieq, ilt, ile]
  refine VW.sqc fun K1 hK1 hCK1 => ?_
  -- region 1
  refine VW.ws tau_ok Sound.none [some 6, some 7, some 8, some 9, some 10] [(0, .val (dM a0)), (1, .val (dM a1)), (10, .val (.bool (!(ieq (a0.length : Int) (a1.length : Int)))))] rfl ?_ ?_
  · simp <;> simp [ieq, ilt, ile]
  refine VW.cond rfl (fun hb2 => ?_) (fun hb2 => ?_)
  ·
    replace hb2 : ¬ (a0.length : Int) = (a1.length : Int) := by simpa [ieq, ilt, ile] using hb2
    rw [if_pos hb2] at h
    -- region 2
    refine VW.ws tau_ok Sound.none [some 4] [(4, .val (.bool false))] rfl ?_ ?_
    · simp <;> simp [ieq, ilt, ile]
    cases h
    refine VW.ret ?_
    simp [Post, PostM, PostC, PostC2, Nx, Bk]
  replace hb2 : ¬ (¬ (a0.length : Int) = (a1.length : Int)) := by simpa [ieq, ilt, ile] using hb2
  rw [if_neg hb2] at h
  refine VW.skip ?_
  refine hK1 _ ?_
  refine VW.sqc fun K3 hK3 hCK3 => ?_
  -- region 3
  refine VW.ws tau_ok Sound.none [some 5] [(0, .val (dM a0)), (1, .val (dM a1)), (5, .val (i64 0))] rfl ?_ ?_
  · simp <;> simp [ieq, ilt, ile]
  obtain ⟨x4, hx4, h⟩ := bind_some h
  refine VW.tlO (fun y6 => []) x4 (hCK3) ?_ ?_
  · clear hx4
    rintro y6 rfl
    dsimp only at h
    refine hK3 _ ?_
    -- region 8
    refine VW.ws tau_ok Sound.none [some 4] [(4, .val (.bool true))] rfl ?_ ?_
    · simp <;> simp [ieq, ilt, ile]
    cases h
    refine VW.ret ?_
    simp [Post, PostM, PostC, PostC2, Nx, Bk]
  refine VW.block ?_
  refine VW.loopF (l_eqInt64SS_L0 a0 a1) (fun s4 => [(0, .val (dM a0)), (1, .val (dM a1)), (5, .val (i64 s4))]) hx4 (Fits.of rfl) ?_
  clear hx4
  intro s4 ox4 hx4o hx4b
  unfold l_eqInt64SS_L0 at hx4o
  refine VW.sqc fun K7 hK7 hCK7 => ?_
  -- region 4
  refine VW.ws tau_ok Sound.none [some 11, some 12, some 13, some 14] [(0, .val (dM a0)), (1, .val (dM a1)), (5, .val (i64 s4)), (14, .val (.bool (ilt s4 (a0.length : Int))))] rfl ?_ ?_
  · simp <;> simp [ieq, ilt, ile]
  refine VW.cond rfl (fun hb8 => ?_) (fun hb8 => ?_)
  rotate_left
  ·
    replace hb8 : ¬ (s4 < (a0.length : Int)) := by simpa [ieq, ilt, ile] using hb8
    rw [if_neg hb8] at hx4o
    refine VW.exit ?_
    cases hx4o
    have hq := hx4b _ rfl
    subst hq
    exact ⟨_, rfl, Fits.of rfl⟩
  replace hb8 : s4 < (a0.length : Int) := by simpa [ieq, ilt, ile] using hb8
  rw [if_pos hb8] at hx4o
  refine VW.skip ?_
  refine hK7 _ ?_
  refine VW.sqc fun K9 hK9 hCK9 => ?_
  refine VW.block ?_
  -- region 6
  obtain ⟨v10, hv10, hx4o⟩ := bind_some hx4o
  obtain ⟨hv10a, hv10b, hv10c, hv10d⟩ := idx_some hv10
  obtain ⟨v11, hv11, hx4o⟩ := bind_some hx4o
  obtain ⟨hv11a, hv11b, hv11c, hv11d⟩ := idx_some hv11
  obtain ⟨v12, hv12, hx4o⟩ := bind_some hx4o
  refine VW.wds tau_ok (Sound.none.add 25 (l_eqInt64S_ok hv12) rfl) try_mixed [some 17, some 18, some 19, some 20, some 21, some 22, some 23, some 24, some 25, some 26] [(0, .val (dM a0)), (1, .val (dM a1)), (5, .val (i64 s4)), (26, .val (.bool (!v12)))] 10 rfl (by kernel_rfl) (by rfl) ?_ ?_
  · simp [hv10a, hv10b, hv10c, hv10d, hv11a, hv11b, hv11c, hv11d] <;> simp [ieq, ilt, ile]
  refine VW.cond rfl (fun hb13 => ?_) (fun hb13 => ?_)
  rotate_left
  ·
    replace hb13 : ¬ (v12 = false) := by simpa [ieq, ilt, ile] using hb13
    rw [if_neg hb13] at hx4o
    refine VW.skip ?_
    refine hK9 _ ?_
    -- region 5
    refine VW.wr tau_ok Sound.none [some 15, some 16, some 5] [(0, .val (dM a0)), (1, .val (dM a1)), (5, .val (i64 (w64 (s4 + 1))))] rfl ?_ ?_
    · simp <;> simp [ieq, ilt, ile]
    cases hx4o
    exact ⟨_, rfl, Fits.of rfl⟩
  replace hb13 : v12 = false := by simpa [ieq, ilt, ile] using hb13
  rw [if_pos hb13] at hx4o
  -- region 7
  refine VW.ws tau_ok Sound.none [some 4] [(4, .val (.bool false))] rfl ?_ ?_
  · simp <;> simp [ieq, ilt, ile]
  cases hx4o
  have hq := hx4b _ rfl
  subst hq
  dsimp only at h
  cases h
  refine VW.ret ?_
  simp [Post, PostM, PostC, PostC2, Nx, Bk]

theorem l_markInt64S_ok {a0 : List Int} {a1 : Int} {r : Int × (List Int)} (h : l_markInt64S a0 a1 = some r) :
    VMut Try.prog 22 (dI a0) [i64 a1] (i64 r.1) (dI r.2) := by
  unfold l_markInt64S at h
  refine VMut.enter Try.call22 Try.func22 rfl 19 Try.ntmps22 (by simp) [.tmp 4] rfl ?_
  show VW _ _ _ (mk [(0, .ref 0 [] true (dI a0)), (1, .val (i64 a1))]) _
  -- region 0
  refine VW.ws tau_ok Sound.none [some 4] [(0, .ref 0 [] true (dI a0)), (1, .val (i64 a1))] rfl ?_ ?_
  · simp <;> simp [ieq, ilt, ile]
  refine VW.sqc fun K1 hK1 hCK1 => ?_
  -- region 1
  refine VW.ws tau_ok Sound.none [some 5] [(0, .ref 0 [] true (dI a0)), (1, .val (i64 a1)), (5, .val (i64 0))] rfl ?_ ?_
  · simp <;> simp [ieq, ilt, ile]
  obtain ⟨x2, hx2, h⟩ := bind_some h
  refine VW.tlE [(0, .ref 0 [] true (dI x2.1)), (1, .val (i64 x2.2))] (hCK1) ?_ ?_
  · clear hx2
    refine hK1 _ ?_
    -- region 6
    refine VW.ws tau_ok Sound.none [some 18, some 4] [(0, .ref 0 [] true (dI x2.1)), (4, .val (i64 x2.2))] rfl ?_ ?_
    · simp <;> simp [ieq, ilt, ile]
    cases h
    refine VW.ret ?_
    simp [Post, PostM, PostC, PostC2, Nx, Bk]
  refine VW.block ?_
  refine VW.loopF l_markInt64S_L0 (fun s2 => [(0, .ref 0 [] true (dI s2.1)), (1, .val (i64 s2.2.1)), (5, .val (i64 s2.2.2))]) hx2 (Fits.of rfl) ?_
  clear hx2
  intro s2 ox2 hx2o hx2b
  unfold l_markInt64S_L0 at hx2o
  refine VW.sqc fun K4 hK4 hCK4 => ?_
  -- region 2
  refine VW.ws tau_ok Sound.none [some 6, some 7, some 8, some 9] [(0, .ref 0 [] true (dI s2.1)), (1, .val (i64 s2.2.1)), (5, .val (i64 s2.2.2)), (9, .val (.bool (ilt s2.2.2 (s2.1.length : Int))))] rfl ?_ ?_
  · simp <;> simp [ieq, ilt, ile]
  refine VW.cond rfl (fun hb5 => ?_) (fun hb5 => ?_)
  rotate_left
  ·
    replace hb5 : ¬ (s2.2.2 < (s2.1.length : Int)) := by simpa [ieq, ilt, ile] using hb5
    rw [if_neg hb5] at hx2o
    refine VW.exit ?_
    cases hx2o
    have hq := hx2b _ rfl
    subst hq
    exact Fits.of rfl
  replace hb5 : s2.2.2 < (s2.1.length : Int) := by simpa [ieq, ilt, ile] using hb5
  rw [if_pos hb5] at hx2o
  refine VW.skip ?_
  refine hK4 _ ?_
  refine VW.sqc fun K6 hK6 hCK6 => ?_
  refine VW.block ?_
  -- region 4
  obtain ⟨v7, hv7, hx2o⟩ := bind_some hx2o
  obtain ⟨hv7a, hv7b, hv7c, hv7d⟩ := idx_some hv7
  refine VW.ws tau_ok Sound.none [some 12, some 13, some 14, some 15, none] [(0, .ref 0 [] true (dI (s2.1.set s2.2.2.toNat s2.2.1))), (1, .val (i64 s2.2.1)), (5, .val (i64 s2.2.2))] rfl ?_ ?_
  · simp [hv7a, hv7b, hv7c, hv7d] <;> simp [ieq, ilt, ile]
  -- region 5
  refine VW.wr tau_ok Sound.none [some 16, some 17, some 1] [(0, .ref 0 [] true (dI (s2.1.set s2.2.2.toNat s2.2.1))), (1, .val (i64 (w64 (s2.2.1 + 1)))), (5, .val (i64 s2.2.2))] rfl ?_ ?_
  · simp <;> simp [ieq, ilt, ile]
  refine hK6 _ ?_
  -- region 3
  refine VW.wr tau_ok Sound.none [some 10, some 11, some 5] [(0, .ref 0 [] true (dI (s2.1.set s2.2.2.toNat s2.2.1))), (1, .val (i64 (w64 (s2.2.1 + 1)))), (5, .val (i64 (w64 (s2.2.2 + 1))))] rfl ?_ ?_
  · simp <;> simp [ieq, ilt, ile]
  cases hx2o
  exact ⟨_, rfl, Fits.of rfl⟩

theorem l_markInt64SS_ok {a0 : List (List Int)} {a1 : Int} {r : Int × (List (List Int))} (h : l_markInt64SS a0 a1 = some r) :
    VMut Try.prog 21 (dM a0) [i64 a1] (i64 r.1) (dM r.2) := by
  unfold l_markInt64SS at h
  refine VMut.enter Try.call21 Try.func21 rfl 19 Try.ntmps21 (by simp) [.tmp 4] rfl ?_
  show VW _ _ _ (mk [(0, .ref 0 [] true (dM a0)), (1, .val (i64 a1))]) _
  -- region 0
  refine VW.ws tau_ok Sound.none [some 4] [(0, .ref 0 [] true (dM a0)), (1, .val (i64 a1))] rfl ?_ ?_
  · simp <;> simp [ieq, ilt, ile]
  refine VW.sqc fun K1 hK1 hCK1 => ?_
  -- region 1
  refine VW.ws tau_ok Sound.none [some 5] [(0, .ref 0 [] true (dM a0)), (1, .val (i64 a1)), (5, .val (i64 0))] rfl ?_ ?_
  · simp <;> simp [ieq, ilt, ile]
  obtain ⟨x2, hx2, h⟩ := bind_some h
  refine VW.tlE [(0, .ref 0 [] true (dM x2.1)), (1, .val (i64 x2.2))] (hCK1) ?_ ?_
  · clear hx2
    refine hK1 _ ?_
    -- region 5
    refine VW.ws tau_ok Sound.none [some 18, some 4] [(0, .ref 0 [] true (dM x2.1)), (4, .val (i64 x2.2))] rfl ?_ ?_
    · simp <;> simp [ieq, ilt, ile]
    cases h
    refine VW.ret ?_
    simp [Post, PostM, PostC, PostC2, Nx, Bk]
  refine VW.block ?_
  refine VW.loopF l_markInt64SS_L0 (fun s2 => [(0, .ref 0 [] true (dM s2.1)), (1, .val (i64 s2.2.1)), (5, .val (i64 s2.2.2))]) hx2 (Fits.of rfl) ?_
  clear hx2
  intro s2 ox2 hx2o hx2b
  unfold l_markInt64SS_L0 at hx2o
  refine VW.sqc fun K4 hK4 hCK4 => ?_
  -- region 2
  refine VW.ws tau_ok Sound.none [some 6, some 7, some 8, some 9] [(0, .ref 0 [] true (dM s2.1)), (1, .val (i64 s2.2.1)), (5, .val (i64 s2.2.2)), (9, .val (.bool (ilt s2.2.2 (s2.1.length : Int))))] rfl ?_ ?_
  · simp <;> simp [ieq, ilt, ile]
  refine VW.cond rfl (fun hb5 => ?_) (fun hb5 => ?_)
  rotate_left
  ·
    replace hb5 : ¬ (s2.2.2 < (s2.1.length : Int)) := by simpa [ieq, ilt, ile] using hb5
    rw [if_neg hb5] at hx2o
    refine VW.exit ?_
    cases hx2o
    have hq := hx2b _ rfl
    subst hq
    exact Fits.of rfl
  replace hb5 : s2.2.2 < (s2.1.length : Int) := by simpa [ieq, ilt, ile] using hb5
  rw [if_pos hb5] at hx2o
  refine VW.skip ?_
  refine hK4 _ ?_
  refine VW.sqc fun K6 hK6 hCK6 => ?_
  refine VW.block ?_
  -- region 4
  obtain ⟨v7, hv7, hx2o⟩ := bind_some hx2o
  obtain ⟨hv7a, hv7b, hv7c, hv7d⟩ := idx_some hv7
  obtain ⟨v8, hv8, hx2o⟩ := bind_some hx2o
  refine VW.wr tau_ok (Sound.none.mutc 17 (l_markInt64S_ok hv8)) [some 12, some 13, some 14, some 15, some 16, some 17, some 1] [(0, .ref 0 [] true (dM (s2.1.set s2.2.2.toNat v8.2))), (1, .val (i64 v8.1)), (5, .val (i64 s2.2.2))] rfl ?_ ?_
  · simp [hv7a, hv7b, hv7c, hv7d] <;> simp [ieq, ilt, ile]
  refine hK6 _ ?_
  -- region 3
  refine VW.wr tau_ok Sound.none [some 10, some 11, some 5] [(0, .ref 0 [] true (dM (s2.1.set s2.2.2.toNat v8.2))), (1, .val (i64 v8.1)), (5, .val (i64 (w64 (s2.2.2 + 1))))] rfl ?_ ?_
  · simp <;> simp [ieq, ilt, ile]
  cases hx2o
  exact ⟨_, rfl, Fits.of rfl⟩

theorem l_heldInt64S_ok {a0 : List Int} {a1 : Int} {r : Int} (h : l_heldInt64S a0 a1 = some r) :
    VCall Try.prog 23 [dI a0, i64 a1] [.sc (i64 r)] := by
  unfold l_heldInt64S at h
  refine VCall.enter Try.call23 Try.func23 rfl 21 Try.ntmps23 (by simp) [.tmp 4] rfl ?_
  show VW _ _ _ (mk [(0, .val (dI a0)), (1, .val (i64 a1))]) _
  -- region 0
  refine VW.ws tau_ok Sound.none [some 4] [(0, .val (dI a0)), (1, .val (i64 a1))] rfl ?_ ?_
  · simp <;> simp [ieq, ilt, ile]
  refine VW.sqc fun K1 hK1 hCK1 => ?_
  -- region 1
  refine VW.ws tau_ok Sound.none [some 5] [(0, .val (dI a0)), (1, .val (i64 a1)), (5, .val (i64 0))] rfl ?_ ?_
  · simp <;> simp [ieq, ilt, ile]
  obtain ⟨x2, hx2, h⟩ := bind_some h
  refine VW.tlO (fun y4 => [(1, .val (i64 y4))]) x2 (hCK1) ?_ ?_
  · clear hx2
    rintro y4 rfl
    dsimp only at h
    refine hK1 _ ?_
    -- region 7
    refine VW.ws tau_ok Sound.none [some 20, some 4] [(4, .val (i64 y4))] rfl ?_ ?_
    · simp <;> simp [ieq, ilt, ile]
    cases h
    refine VW.ret ?_
    simp [Post, PostM, PostC, PostC2, Nx, Bk]
  refine VW.block ?_
  refine VW.loopF (l_heldInt64S_L0 a0) (fun s2 => [(0, .val (dI a0)), (1, .val (i64 s2.1)), (5, .val (i64 s2.2))]) hx2 (Fits.of rfl) ?_
  clear hx2
  intro s2 ox2 hx2o hx2b
  unfold l_heldInt64S_L0 at hx2o
  refine VW.sqc fun K5 hK5 hCK5 => ?_
  -- region 2
  refine VW.ws tau_ok Sound.none [some 6, some 7, some 8, some 9] [(0, .val (dI a0)), (1, .val (i64 s2.1)), (5, .val (i64 s2.2)), (9, .val (.bool (ilt s2.2 (a0.length : Int))))] rfl ?_ ?_
  · simp <;> simp [ieq, ilt, ile]
  refine VW.cond rfl (fun hb6 => ?_) (fun hb6 => ?_)
  rotate_left
  ·
    replace hb6 : ¬ (s2.2 < (a0.length : Int)) := by simpa [ieq, ilt, ile] using hb6
    rw [if_neg hb6] at hx2o
    refine VW.exit ?_
    cases hx2o
    have hq := hx2b _ rfl
    subst hq
    exact ⟨_, rfl, Fits.of rfl⟩
  replace hb6 : s2.2 < (a0.length : Int) := by simpa [ieq, ilt, ile] using hb6
  rw [if_pos hb6] at hx2o
  refine VW.skip ?_
  refine hK5 _ ?_
  refine VW.sqc fun K7 hK7 hCK7 => ?_
  refine VW.block ?_
  refine VW.sqc fun K8 hK8 hCK8 => ?_
  -- region 4
  obtain ⟨v9, hv9, hx2o⟩ := bind_some hx2o
  obtain ⟨hv9a, hv9b, hv9c, hv9d⟩ := idx_some hv9
  refine VW.ws tau_ok Sound.none [some 12, some 13, some 14, some 15, some 16, some 17] [(0, .val (dI a0)), (1, .val (i64 s2.1)), (5, .val (i64 s2.2)), (17, .val (.bool (!(ieq v9 s2.1))))] rfl ?_ ?_
  · simp [hv9a, hv9b, hv9c, hv9d] <;> simp [ieq, ilt, ile]
  refine VW.cond rfl (fun hb10 => ?_) (fun hb10 => ?_)
  ·
    replace hb10 : ¬ v9 = s2.1 := by simpa [ieq, ilt, ile] using hb10
    rw [if_pos hb10] at hx2o
    -- region 5
    refine VW.ws tau_ok Sound.none [some 4] [(4, .val (i64 (-1)))] rfl ?_ ?_
    · simp <;> simp [ieq, ilt, ile]
    cases hx2o
    have hq := hx2b _ rfl
    subst hq
    dsimp only at h
    cases h
    refine VW.ret ?_
    simp [Post, PostM, PostC, PostC2, Nx, Bk]
  replace hb10 : ¬ (¬ v9 = s2.1) := by simpa [ieq, ilt, ile] using hb10
  rw [if_neg hb10] at hx2o
  refine VW.skip ?_
  refine hK8 _ ?_
  -- region 6
  refine VW.wr tau_ok Sound.none [some 18, some 19, some 1] [(0, .val (dI a0)), (1, .val (i64 (w64 (s2.1 + 1)))), (5, .val (i64 s2.2))] rfl ?_ ?_
  · simp <;> simp [ieq, ilt, ile]
  refine hK7 _ ?_
  -- region 3
  refine VW.wr tau_ok Sound.none [some 10, some 11, some 5] [(0, .val (dI a0)), (1, .val (i64 (w64 (s2.1 + 1)))), (5, .val (i64 (w64 (s2.2 + 1))))] rfl ?_ ?_
  · simp <;> simp [ieq, ilt, ile]
  cases hx2o
  exact ⟨_, rfl, Fits.of rfl⟩

theorem l_heldInt64SS_ok {a0 : List (List Int)} {a1 : Int} {r : Int} (h : l_heldInt64SS a0 a1 = some r) :
    VCall Try.prog 64 [dM a0, i64 a1] [.sc (i64 r)] := by
  unfold l_heldInt64SS at h
  refine VCall.enter Try.call64 Try.func64 rfl 21 Try.ntmps64 (by simp) [.tmp 4] rfl ?_
  show VW _ _ _ (mk [(0, .val (dM a0)), (1, .val (i64 a1))]) _
  -- region 0
  refine VW.ws tau_ok Sound.none [some 4] [(0, .val (dM a0)), (1, .val (i64 a1))] rfl ?_ ?_
  · simp <;> simp [ieq, ilt, ile]
  refine VW.sqc fun K1 hK1 hCK1 => ?_
  -- region 1
  refine VW.ws tau_ok Sound.none [some 5] [(0, .val (dM a0)), (1, .val (i64 a1)), (5, .val (i64 0))] rfl ?_ ?_
  · simp <;> simp [ieq, ilt, ile]
  obtain ⟨x2, hx2, h⟩ := bind_some h
  refine VW.tlO (fun y4 => [(1, .val (i64 y4))]) x2 (hCK1) ?_ ?_
  · clear hx2
    rintro y4 rfl
    dsimp only at h
    refine hK1 _ ?_
    -- region 7
    refine VW.ws tau_ok Sound.none [some 20, some 4] [(4, .val (i64 y4))] rfl ?_ ?_
    · simp <;> simp [ieq, ilt, ile]
    cases h
    refine VW.ret ?_
    simp [Post, PostM, PostC, PostC2, Nx, Bk]
  refine VW.block ?_
  refine VW.loopF (l_heldInt64SS_L0 a0) (fun s2 => [(0, .val (dM a0)), (1, .val (i64 s2.1)), (5, .val (i64 s2.2))]) hx2 (Fits.of rfl) ?_
  clear hx2
  intro s2 ox2 hx2o hx2b
  unfold l_heldInt64SS_L0 at hx2o
  refine VW.sqc fun K5 hK5 hCK5 => ?_
  -- region 2
  refine VW.ws tau_ok Sound.none [some 6, some 7, some 8, some 9] [(0, .val (dM a0)), (1, .val (i64 s2.1)), (5, .val (i64 s2.2)), (9, .val (.bool (ilt s2.2 (a0.length : Int))))] rfl ?_ ?_
  · simp <;> simp [ieq, ilt, ile]
  refine VW.cond rfl (fun hb6 => ?_) (fun hb6 => ?_)
  rotate_left
  ·
    replace hb6 : ¬ (s2.2 < (a0.length : Int)) := by simpa [ieq, ilt, ile] using hb6
    rw [if_neg hb6] at hx2o
    refine VW.exit ?_
    cases hx2o
    have hq := hx2b _ rfl
    subst hq
    exact ⟨_, rfl, Fits.of rfl⟩
  replace hb6 : s2.2 < (a0.length : Int) := by simpa [ieq, ilt, ile] using hb6
  rw [if_pos hb6] at hx2o
  refine VW.skip ?_
  refine hK5 _ ?_
  refine VW.sqc fun K7 hK7 hCK7 => ?_
  refine VW.block ?_
  -- region 4
  obtain ⟨v8, hv8, hx2o⟩ := bind_some hx2o
  obtain ⟨hv8a, hv8b, hv8c, hv8d⟩ := idx_some hv8
  obtain ⟨v9, hv9, hx2o⟩ := bind_some hx2o
  refine VW.ws tau_ok (Sound.none.add 17 (l_heldInt64S_ok hv9) rfl) [some 12, some 13, some 14, some 15, some 16, some 17, some 1] [(0, .val (dM a0)), (1, .val (i64 v9)), (5, .val (i64 s2.2))] rfl ?_ ?_
  · simp [hv8a, hv8b, hv8c, hv8d] <;> simp [ieq, ilt, ile]
  -- region 5
  refine VW.ws tau_ok Sound.none [some 18, some 19] [(0, .val (dM a0)), (1, .val (i64 v9)), (5, .val (i64 s2.2)), (19, .val (.bool (ilt v9 0)))] rfl ?_ ?_
  · simp <;> simp [ieq, ilt, ile]
  refine VW.cond rfl (fun hb10 => ?_) (fun hb10 => ?_)
  rotate_left
  ·
    replace hb10 : ¬ (v9 < 0) := by simpa [ieq, ilt, ile] using hb10
    rw [if_neg hb10] at hx2o
    refine VW.skip ?_
    refine hK7 _ ?_
    -- region 3
    refine VW.wr tau_ok Sound.none [some 10, some 11, some 5] [(0, .val (dM a0)), (1, .val (i64 v9)), (5, .val (i64 (w64 (s2.2 + 1))))] rfl ?_ ?_
    · simp <;> simp [ieq, ilt, ile]
    cases hx2o
    exact ⟨_, rfl, Fits.of rfl⟩
  replace hb10 : v9 < 0 := by simpa [ieq, ilt, ile] using hb10
  rw [if_pos hb10] at hx2o
  -- region 6
  refine VW.ws tau_ok Sound.none [some 4] [(4, .val (i64 (-1)))] rfl ?_ ?_
  · simp <;> simp [ieq, ilt, ile]
  cases hx2o
  have hq := hx2b _ rfl
  subst hq
  dsimp only at h
  cases h
  refine VW.ret ?_
  simp [Post, PostM, PostC, PostC2, Nx, Bk]

theorem l_FnExactKernelBasis_ok {a0 : Int} {a1 : List (List Int)} {r : Bool} (h : l_FnExactKernelBasis a0 a1 = some r) :
    VCall Try.prog 9 [i64 a0, dM a1] [.sc (.bool r)] := by
  unfold l_FnExactKernelBasis at h
  refine VCall.enter Try.call9 Try.func9 rfl 101 Try.ntmps9 (by simp) [.tmp 4] rfl ?_
  show VW _ _ _ (mk [(0, .val (i64 a0)), (1, .val (dM a1))]) _
  -- region 0
  refine VW.ws tau_ok Sound.none [some 4] [(0, .val (i64 a0)), (1, .val (dM a1))] rfl ?_ ?_
  · simp <;> simp [ieq, ilt, ile]
  -- region 1
  refine VW.ws tau_ok Sound.none [some 5] [(0, .val (i64 a0)), (1, .val (dM a1)), (5, .val (i64 1048576))] rfl ?_ ?_
  · simp <;> simp [ieq, ilt, ile]
  -- region 2
  obtain ⟨v1, hv1, h⟩ := bind_some h
  refine VW.ws tau_ok (Sound.none.add 18 (l_szInt64SS_ok hv1) rfl) [some 16, some 17, some 18, some 5] [(0, .val (i64 a0)), (1, .val (dM a1)), (5, .val (i64 v1))] rfl ?_ ?_
  · simp <;> simp [ieq, ilt, ile]
  refine VW.sqc fun K2 hK2 hCK2 => ?_
  -- region 3
  refine VW.ws tau_ok Sound.none [some 19, some 20] [(0, .val (i64 a0)), (1, .val (dM a1)), (20, .val (.bool (ilt v1 0)))] rfl ?_ ?_
  · simp <;> simp [ieq, ilt, ile]
  refine VW.cond rfl (fun hb3 => ?_) (fun hb3 => ?_)
  ·
    replace hb3 : v1 < 0 := by simpa [ieq, ilt, ile] using hb3
    rw [if_pos hb3] at h
    -- region 4
    refine VW.ws tau_ok Sound.none [some 4] [(4, .val (.bool true))] rfl ?_ ?_
    · simp <;> simp [ieq, ilt, ile]
    cases h
    refine VW.ret ?_
    simp [Post, PostM, PostC, PostC2, Nx, Bk]
  replace hb3 : ¬ (v1 < 0) := by simpa [ieq, ilt, ile] using hb3
  rw [if_neg hb3] at h
  refine VW.skip ?_
  refine hK2 _ ?_
  -- region 5
  obtain ⟨v4, hv4, h⟩ := bind_some h
  obtain ⟨v5, hv5, h⟩ := bind_some h
  refine VW.ws tau_ok ((Sound.none.add 24 (l_toInt64SS_ok hv4) rfl).add 25 (s_KernelBasis_ok hv5) rfl) [some 22, some 23, some 24, some 25, some 21, some 26, some 27, some 6, some 7] [(0, .val (i64 a0)), (1, .val (dM a1)), (6, .ref 6 [] true (dM v5.1)), (7, .val (i64 v5.2))] rfl ?_ ?_
  · simp <;> simp [ieq, ilt, ile]
  -- region 6
  obtain ⟨v6, hv6, h⟩ := bind_some h
  refine VW.ws tau_ok (Sound.none.add 29 (l_toInt64SS_ok hv6) rfl) [some 28, some 29, some 8] [(0, .val (i64 a0)), (1, .val (dM a1)), (6, .ref 6 [] true (dM v5.1)), (7, .val (i64 v5.2)), (8, .ref 8 [] true (dM v6))] rfl ?_ ?_
  · simp <;> simp [ieq, ilt, ile]
  -- region 7
  obtain ⟨v7, hv7, h⟩ := bind_some h
  refine VW.ws tau_ok (Sound.none.add 33 (i_KernelBasis_ok hv7) rfl) [some 31, some 32, some 33, some 30, some 34, some 35, some 9, some 10] [(0, .val (i64 a0)), (1, .val (dM a1)), (6, .ref 6 [] true (dM v5.1)), (7, .val (i64 v5.2)), (8, .ref 8 [] true (dM v6)), (9, .ref 9 [] true (dM v7.1)), (10, .val (i64 v7.2))] rfl ?_ ?_
  · simp <;> simp [ieq, ilt, ile]
  refine VW.sqc fun K8 hK8 hCK8 => ?_
  -- region 8
  obtain ⟨x11, hx11, h⟩ := bind_some h
  refine VW.cut [(0, .val (i64 a0)), (1, .val (dM a1)), (6, .ref 6 [] true (dM v5.1)), (7, .val (i64 v5.2)), (8, .ref 8 [] true (dM v6)), (9, .ref 9 [] true (dM v7.1)), (10, .val (i64 v7.2)), (44, .val (.bool x11))] ?_ fun hy => ?_
  rotate_left
  · clear h
    obtain ⟨v9, hv9, hx11⟩ := bind_some hx11
    by_cases hp10 : v9 = false
    · rw [if_pos hp10] at hx11
      have hp10b : v9 = false := by simpa [ieq, ilt, ile] using hp10
      have hp10s := hp10b
      try simp at hp10s
      cases hx11
      refine VW.ws tau_ok (Sound.none.add 38 (l_eqInt64SS_ok hv9) rfl) [some 36, some 37, some 38, some 39, some 40, some 41, some 42, some 43, some 44] _ rfl ?_ hy
      simp [hp10b, hp10s] <;> simp [ieq, ilt, ile]
    · rw [if_neg hp10] at hx11
      have hp10b : v9 = true := by simpa [ieq, ilt, ile] using hp10
      have hp10s := hp10b
      try simp at hp10s
      cases hx11
      refine VW.ws tau_ok (Sound.none.add 38 (l_eqInt64SS_ok hv9) rfl) [some 36, some 37, some 38, some 39, some 40, some 41, some 42, some 43, some 44] _ rfl ?_ hy
      simp [hp10b, hp10s] <;> simp [ieq, ilt, ile]
  refine VW.cond rfl (fun hb12 => ?_) (fun hb12 => ?_)
  ·
    replace hb12 : x11 = true := by simpa [ieq, ilt, ile] using hb12
    rw [if_pos hb12] at h
    -- region 9
    refine VW.ws tau_ok Sound.none [some 4] [(4, .val (.bool false))] rfl ?_ ?_
    · simp <;> simp [ieq, ilt, ile]
    cases h
    refine VW.ret ?_
    simp [Post, PostM, PostC, PostC2, Nx, Bk]
  replace hb12 : ¬ (x11 = true) := by simpa [ieq, ilt, ile] using hb12
  rw [if_neg hb12] at h
  refine VW.skip ?_
  refine hK8 _ ?_
  refine VW.sqc fun K13 hK13 hCK13 => ?_
  -- region 10
  obtain ⟨v14, hv14, h⟩ := bind_some h
  obtain ⟨v15, hv15, h⟩ := bind_some h
  refine VW.ws tau_ok ((Sound.none.add 47 (l_toInt64SS_ok hv14) rfl).add 48 (l_eqInt64SS_ok hv15) rfl) [some 45, some 46, some 47, some 48, some 49] [(0, .val (i64 a0)), (1, .val (dM a1)), (6, .ref 6 [] true (dM v5.1)), (7, .val (i64 v5.2)), (8, .ref 8 [] true (dM v6)), (9, .ref 9 [] true (dM v7.1)), (10, .val (i64 v7.2)), (49, .val (.bool (!v15)))] rfl ?_ ?_
  · simp <;> simp [ieq, ilt, ile]
  refine VW.cond rfl (fun hb16 => ?_) (fun hb16 => ?_)
  ·
    replace hb16 : v15 = false := by simpa [ieq, ilt, ile] using hb16
    rw [if_pos hb16] at h
    -- region 11
    refine VW.ws tau_ok Sound.none [some 4] [(4, .val (.bool false))] rfl ?_ ?_
    · simp <;> simp [ieq, ilt, ile]
    cases h
    refine VW.ret ?_
    simp [Post, PostM, PostC, PostC2, Nx, Bk]
  replace hb16 : ¬ (v15 = false) := by simpa [ieq, ilt, ile] using hb16
  rw [if_neg hb16] at h
  refine VW.skip ?_
  refine hK13 _ ?_
  -- region 12
  refine VW.ws tau_ok Sound.none [some 11] [(0, .val (i64 a0)), (1, .val (dM a1)), (6, .ref 6 [] true (dM v5.1)), (7, .val (i64 v5.2)), (8, .ref 8 [] true (dM v6)), (9, .ref 9 [] true (dM v7.1)), (10, .val (i64 v7.2)), (11, .val (i64 1))] rfl ?_ ?_
  · simp <;> simp [ieq, ilt, ile]
  -- region 13
  obtain ⟨v17, hv17, h⟩ := bind_some h
  refine VW.ws tau_ok (Sound.none.mutc 52 (l_markInt64SS_ok hv17)) [some 50, some 51, some 52, some 11] [(0, .val (i64 a0)), (1, .val (dM a1)), (6, .ref 6 [] true (dM v5.1)), (7, .val (i64 v5.2)), (9, .ref 9 [] true (dM v7.1)), (10, .val (i64 v7.2)), (11, .val (i64 v17.1))] rfl ?_ ?_
  · simp <;> simp [ieq, ilt, ile]
  refine VW.sqc fun K18 hK18 hCK18 => ?_
  -- region 14
  obtain ⟨x22, hx22, h⟩ := bind_some h
  refine VW.cut [(0, .val (i64 a0)), (1, .val (dM a1)), (6, .ref 6 [] true (dM v5.1)), (7, .val (i64 v5.2)), (9, .ref 9 [] true (dM v7.1)), (65, .val (.bool x22))] ?_ fun hy => ?_
  rotate_left
  · clear h
    by_cases hp19 : v17.1 < 0
    · rw [if_pos hp19] at hx22
      have hp19b : ilt v17.1 0 = true := by simpa [ieq, ilt, ile] using hp19
      have hp19s := hp19b
      try simp at hp19s
      cases hx22
      refine VW.ws tau_ok Sound.none [some 53, some 54, some 55, some 56, some 57, some 58, some 59, some 60, some 61, some 62, some 63, some 64, some 65] _ rfl ?_ hy
      simp [hp19b, hp19s] <;> simp [ieq, ilt, ile]
    · rw [if_neg hp19] at hx22
      have hp19b : ilt v17.1 0 = false := by simpa [ieq, ilt, ile] using hp19
      have hp19s := hp19b
      try simp at hp19s
      obtain ⟨v20, hv20, hx22⟩ := bind_some hx22
      by_cases hp21 : v20 = false
      · rw [if_pos hp21] at hx22
        have hp21b : v20 = false := by simpa [ieq, ilt, ile] using hp21
        have hp21s := hp21b
        try simp at hp21s
        cases hx22
        refine VW.ws tau_ok (Sound.none.add 58 (l_eqInt64SS_ok hv20) rfl) [some 53, some 54, some 55, some 56, some 57, some 58, some 59, some 60, some 61, some 62, some 63, some 64, some 65] _ rfl ?_ hy
        simp [hp19b, hp19s, hp21b, hp21s] <;> simp [ieq, ilt, ile]
      · rw [if_neg hp21] at hx22
        have hp21b : v20 = true := by simpa [ieq, ilt, ile] using hp21
        have hp21s := hp21b
        try simp at hp21s
        cases hx22
        refine VW.ws tau_ok (Sound.none.add 58 (l_eqInt64SS_ok hv20) rfl) [some 53, some 54, some 55, some 56, some 57, some 58, some 59, some 60, some 61, some 62, some 63, some 64, some 65] _ rfl ?_ hy
        simp [hp19b, hp19s, hp21b, hp21s] <;> simp [ieq, ilt, ile]
  refine VW.cond rfl (fun hb23 => ?_) (fun hb23 => ?_)
  ·
    replace hb23 : x22 = true := by simpa [ieq, ilt, ile] using hb23
    rw [if_pos hb23] at h
    -- region 15
    refine VW.ws tau_ok Sound.none [some 4] [(4, .val (.bool false))] rfl ?_ ?_
    · simp <;> simp [ieq, ilt, ile]
    cases h
    refine VW.ret ?_
    simp [Post, PostM, PostC, PostC2, Nx, Bk]
  replace hb23 : ¬ (x22 = true) := by simpa [ieq, ilt, ile] using hb23
  rw [if_neg hb23] at h
  refine VW.skip ?_
  refine hK18 _ ?_
  -- region 16
  refine VW.ws tau_ok Sound.none [some 12] [(0, .val (i64 a0)), (1, .val (dM a1)), (6, .ref 6 [] true (dM v5.1)), (7, .val (i64 v5.2)), (9, .ref 9 [] true (dM v7.1)), (12, .val (i64 1))] rfl ?_ ?_
  · simp <;> simp [ieq, ilt, ile]
  -- region 17
  obtain ⟨v24, hv24, h⟩ := bind_some h
  refine VW.ws tau_ok (Sound.none.mutc 68 (l_markInt64SS_ok hv24)) [some 66, some 67, some 68, some 12] [(0, .val (i64 a0)), (1, .val (dM a1)), (6, .ref 6 [] true (dM v5.1)), (7, .val (i64 v5.2)), (9, .ref 9 [] true (dM v24.2)), (12, .val (i64 v24.1))] rfl ?_ ?_
  · simp <;> simp [ieq, ilt, ile]
  -- region 18
  refine VW.ws tau_ok Sound.none [some 13] [(0, .val (i64 a0)), (1, .val (dM a1)), (6, .ref 6 [] true (dM v5.1)), (7, .val (i64 v5.2)), (9, .ref 9 [] true (dM v24.2)), (12, .val (i64 v24.1)), (13, .val (i64 1))] rfl ?_ ?_
  · simp <;> simp [ieq, ilt, ile]
  -- region 19
  obtain ⟨v25, hv25, h⟩ := bind_some h
  refine VW.ws tau_ok (Sound.none.add 71 (l_heldInt64SS_ok hv25) rfl) [some 69, some 70, some 71, some 13] [(0, .val (i64 a0)), (1, .val (dM a1)), (6, .ref 6 [] true (dM v5.1)), (7, .val (i64 v5.2)), (9, .ref 9 [] true (dM v24.2)), (12, .val (i64 v24.1)), (13, .val (i64 v25))] rfl ?_ ?_
  · simp <;> simp [ieq, ilt, ile]
  refine VW.sqc fun K26 hK26 hCK26 => ?_
  -- region 20
  refine VW.ws tau_ok Sound.none [some 72, some 73] [(0, .val (i64 a0)), (1, .val (dM a1)), (6, .ref 6 [] true (dM v5.1)), (7, .val (i64 v5.2)), (9, .ref 9 [] true (dM v24.2)), (12, .val (i64 v24.1)), (13, .val (i64 v25)), (73, .val (.bool (ilt v25 0)))] rfl ?_ ?_
  · simp <;> simp [ieq, ilt, ile]
  refine VW.cond rfl (fun hb27 => ?_) (fun hb27 => ?_)
  ·
    replace hb27 : v25 < 0 := by simpa [ieq, ilt, ile] using hb27
    rw [if_pos hb27] at h
    -- region 21
    refine VW.ws tau_ok Sound.none [some 4] [(4, .val (.bool false))] rfl ?_ ?_
    · simp <;> simp [ieq, ilt, ile]
    cases h
    refine VW.ret ?_
    simp [Post, PostM, PostC, PostC2, Nx, Bk]
  replace hb27 : ¬ (v25 < 0) := by simpa [ieq, ilt, ile] using hb27
  rw [if_neg hb27] at h
  refine VW.skip ?_
  refine hK26 _ ?_
  refine VW.sqc fun K28 hK28 hCK28 => ?_
  -- region 22
  refine VW.ws tau_ok Sound.none [some 74, some 75, some 76] [(0, .val (i64 a0)), (1, .val (dM a1)), (6, .ref 6 [] true (dM v5.1)), (7, .val (i64 v5.2)), (9, .ref 9 [] true (dM v24.2)), (12, .val (i64 v24.1)), (76, .val (.bool (!(ieq v25 v24.1))))] rfl ?_ ?_
  · simp <;> simp [ieq, ilt, ile]
  refine VW.cond rfl (fun hb29 => ?_) (fun hb29 => ?_)
  ·
    replace hb29 : ¬ v25 = v24.1 := by simpa [ieq, ilt, ile] using hb29
    rw [if_pos hb29] at h
    -- region 23
    refine VW.ws tau_ok Sound.none [some 4] [(4, .val (.bool false))] rfl ?_ ?_
    · simp <;> simp [ieq, ilt, ile]
    cases h
    refine VW.ret ?_
    simp [Post, PostM, PostC, PostC2, Nx, Bk]
  replace hb29 : ¬ (¬ v25 = v24.1) := by simpa [ieq, ilt, ile] using hb29
  rw [if_neg hb29] at h
  refine VW.skip ?_
  refine hK28 _ ?_
  -- region 24
  obtain ⟨v30, hv30, h⟩ := bind_some h
  obtain ⟨v31, hv31, h⟩ := bind_some h
  refine VW.ws tau_ok ((Sound.none.add 80 (l_toInt64SS_ok hv30) rfl).add 81 (i_KernelBasis_ok hv31) rfl) [some 78, some 79, some 80, some 81, some 77, some 82, some 83, some 14, some 15] [(6, .ref 6 [] true (dM v5.1)), (7, .val (i64 v5.2)), (9, .ref 9 [] true (dM v24.2)), (12, .val (i64 v24.1)), (14, .ref 14 [] true (dM v31.1)), (15, .val (i64 v31.2))] rfl ?_ ?_
  · simp <;> simp [ieq, ilt, ile]
  refine VW.sqc fun K32 hK32 hCK32 => ?_
  -- region 25
  obtain ⟨x35, hx35, h⟩ := bind_some h
  refine VW.cut [(9, .ref 9 [] true (dM v24.2)), (12, .val (i64 v24.1)), (92, .val (.bool x35))] ?_ fun hy => ?_
  rotate_left
  · clear h
    obtain ⟨v33, hv33, hx35⟩ := bind_some hx35
    by_cases hp34 : v33 = false
    · rw [if_pos hp34] at hx35
      have hp34b : v33 = false := by simpa [ieq, ilt, ile] using hp34
      have hp34s := hp34b
      try simp at hp34s
      cases hx35
      refine VW.ws tau_ok (Sound.none.add 86 (l_eqInt64SS_ok hv33) rfl) [some 84, some 85, some 86, some 87, some 88, some 89, some 90, some 91, some 92] _ rfl ?_ hy
      simp [hp34b, hp34s] <;> simp [ieq, ilt, ile]
    · rw [if_neg hp34] at hx35
      have hp34b : v33 = true := by simpa [ieq, ilt, ile] using hp34
      have hp34s := hp34b
      try simp at hp34s
      cases hx35
      refine VW.ws tau_ok (Sound.none.add 86 (l_eqInt64SS_ok hv33) rfl) [some 84, some 85, some 86, some 87, some 88, some 89, some 90, some 91, some 92] _ rfl ?_ hy
      simp [hp34b, hp34s] <;> simp [ieq, ilt, ile]
  refine VW.cond rfl (fun hb36 => ?_) (fun hb36 => ?_)
  ·
    replace hb36 : x35 = true := by simpa [ieq, ilt, ile] using hb36
    rw [if_pos hb36] at h
    -- region 26
    refine VW.ws tau_ok Sound.none [some 4] [(4, .val (.bool false))] rfl ?_ ?_
    · simp <;> simp [ieq, ilt, ile]
    cases h
    refine VW.ret ?_
    simp [Post, PostM, PostC, PostC2, Nx, Bk]
  replace hb36 : ¬ (x35 = true) := by simpa [ieq, ilt, ile] using hb36
  rw [if_neg hb36] at h
  refine VW.skip ?_
  refine hK32 _ ?_
  -- region 27
  refine VW.ws tau_ok Sound.none [some 13] [(9, .ref 9 [] true (dM v24.2)), (12, .val (i64 v24.1)), (13, .val (i64 1))] rfl ?_ ?_
  · simp <;> simp [ieq, ilt, ile]
  -- region 28
  obtain ⟨v37, hv37, h⟩ := bind_some h
  refine VW.ws tau_ok (Sound.none.add 95 (l_heldInt64SS_ok hv37) rfl) [some 93, some 94, some 95, some 13] [(12, .val (i64 v24.1)), (13, .val (i64 v37))] rfl ?_ ?_
  · simp <;> simp [ieq, ilt, ile]
  refine VW.sqc fun K38 hK38 hCK38 => ?_
  -- region 29
  refine VW.ws tau_ok Sound.none [some 96, some 97] [(12, .val (i64 v24.1)), (13, .val (i64 v37)), (97, .val (.bool (ilt v37 0)))] rfl ?_ ?_
  · simp <;> simp [ieq, ilt, ile]
  refine VW.cond rfl (fun hb39 => ?_) (fun hb39 => ?_)
  ·
    replace hb39 : v37 < 0 := by simpa [ieq, ilt, ile] using hb39
    rw [if_pos hb39] at h
    -- region 30
    refine VW.ws tau_ok Sound.none [some 4] [(4, .val (.bool false))] rfl ?_ ?_
    · simp <;> simp [ieq, ilt, ile]
    cases h
    refine VW.ret ?_
    simp [Post, PostM, PostC, PostC2, Nx, Bk]
  replace hb39 : ¬ (v37 < 0) := by simpa [ieq, ilt, ile] using hb39
  rw [if_neg hb39] at h
  refine VW.skip ?_
  refine hK38 _ ?_
  refine VW.sqc fun K40 hK40 hCK40 => ?_
  -- region 31
  refine VW.ws tau_ok Sound.none [some 98, some 99, some 100] [(100, .val (.bool (!(ieq v37 v24.1))))] rfl ?_ ?_
  · simp <;> simp [ieq, ilt, ile]
  refine VW.cond rfl (fun hb41 => ?_) (fun hb41 => ?_)
  ·
    replace hb41 : ¬ v37 = v24.1 := by simpa [ieq, ilt, ile] using hb41
    rw [if_pos hb41] at h
    -- region 32
    refine VW.ws tau_ok Sound.none [some 4] [(4, .val (.bool false))] rfl ?_ ?_
    · simp <;> simp [ieq, ilt, ile]
    cases h
    refine VW.ret ?_
    simp [Post, PostM, PostC, PostC2, Nx, Bk]
  replace hb41 : ¬ (¬ v37 = v24.1) := by simpa [ieq, ilt, ile] using hb41
  rw [if_neg hb41] at h
  refine VW.skip ?_
  refine hK40 _ ?_
  -- region 33
  refine VW.ws tau_ok Sound.none [some 4] [(4, .val (.bool true))] rfl ?_ ?_
  · simp <;> simp [ieq, ilt, ile]
  cases h
  refine VW.ret ?_
  simp [Post, PostM, PostC, PostC2, Nx, Bk]
end Go.Vam
