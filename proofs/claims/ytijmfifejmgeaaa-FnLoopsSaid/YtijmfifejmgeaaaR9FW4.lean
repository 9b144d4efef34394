import Derived.Test.YtijmfifejmgeaaaR9T
import Derived.Test.YtijmfifejmgeaaaFmG0
import Derived.Test.YtijmfifejmgeaaaR9FW1
import Derived.Test.YtijmfifejmgeaaaR9FW2
import Derived.Test.YtijmfifejmgeaaaR9FW3
namespace Go.Vam
open Go Go.RowKit Go.Proofs
set_option maxRecDepth 100000
set_option linter.unusedSimpArgs false
set_option linter.unusedVariables false

set_option maxHeartbeats 4000000 in
theorem l_FnLoops_ok {a0 : List Int} {r : Bool} (h : l_FnLoops a0 = some r) :
  VCall Try.prog 6 [.list (a0.map (D.int .u8))] [.sc (.bool r)] := by
 unfold l_FnLoops at h
 refine VCall.enter Try.call6 Try.func6 rfl 287 Try.ntmps6 (by simp) [.tmp 2] rfl ?_
 show VW _ _ _ (mk [(0,.val (.list (a0.map (D.int .u8))))]) _
 refine zs [(0,.val (.list (a0.map (D.int .u8))))] ?_ ?_
 ·simp
 refine VW.sqc fun K1 hK1 hCK1 => ?_
 obtain ⟨v2,Ff,h⟩ := bind_some h
 refine VW.ws tau_ok (Sound.none.add 35 (l_big_ok Ff) rfl) _ [(0,.val (.list (a0.map (D.int .u8)))),(35,.val (.bool v2))] rfl ?_ ?_
 ·simp
 refine VW.cond rfl (fun D1 => ?_) (fun D1 => ?_)
 ·
  replace D1 : v2 = true := by simpa [ieq,ilt,ile] using D1
  rw [if_pos D1] at h
  refine zs [(2,.val (.bool true))] ?_ ?_
  ·simp
  cases h
  refine VW.ret ?_
  simp [Post,PostM,PostC,PostC2,Nx,Bk]
 replace D1 : ¬ (v2 = true) := by simpa [ieq,ilt,ile] using D1
 rw [if_neg D1] at h
 refine VW.skip ?_
 refine hK1 _ ?_
 obtain ⟨v4,Fg,h⟩ := bind_some h
 refine VW.ws tau_ok (Sound.none.add 37 (s_DrawIsMoufangLoop_ok Fg) rfl) _ [(0,.val (.list (a0.map (D.int .u8)))),(3,.val (dM v4))] rfl ?_ ?_
 ·simp
 obtain ⟨v5,Fh,h⟩ := bind_some h
 refine VW.ws tau_ok (Sound.none.add 40 (i_IsMoufangLoop_ok Fh) rfl) _ [(0,.val (.list (a0.map (D.int .u8)))),(3,.val (dM v4)),(4,.val (.bool v5.1)),(5,.val (i64 v5.2))] rfl ?_ ?_
 ·simp
 refine VW.sqc fun K6 hK6 hCK6 => ?_
 obtain ⟨v7,Fi,h⟩ := bind_some h
 refine VW.ws tau_ok (Sound.none.add 45 (s_IsMoufangLoop_ok Fi) rfl) _ [(0,.val (.list (a0.map (D.int .u8)))),(3,.val (dM v4)),(4,.val (.bool v5.1)),(5,.val (i64 v5.2)),(6,.val (.bool v7.1)),(7,.val (i64 v7.2))] rfl ?_ ?_
 ·simp
 obtain ⟨x12,A6,h⟩ := bind_some h
 refine VW.cut [(0,.val (.list (a0.map (D.int .u8)))),(3,.val (dM v4)),(4,.val (.bool v5.1)),(5,.val (i64 v5.2)),(62,.val (.bool x12))] ?_ fun hy => ?_
 rotate_left
 ·clear h
  by_cases Et : ¬ v5.2 = v7.2
  ·rw [if_pos Et] at A6
   have Bz : ieq v5.2 v7.2 = false := by simpa [ieq,ilt,ile] using Et
   have Cp := Bz
   try simp at Cp
   cases A6
   refine VW.ws tau_ok Sound.none _ _ rfl ?_ hy
   simp [Bz,Cp]
  ·rw [if_neg Et] at A6
   have Bz : ieq v5.2 v7.2 = true := by simpa [ieq,ilt,ile] using Et
   have Cp := Bz
   try simp at Cp
   by_cases Eu : (v5.1 != v7.1) = true
   ·rw [if_pos Eu] at A6
    have Ci : (v5.1 != v7.1) = true := by simpa [ieq,ilt,ile] using Eu
    have Cq := Ci
    try simp at Cq
    have Cj := Ci
    try rw [Bz] at Cj
    try simp at Cj
    cases A6
    refine VW.ws tau_ok Sound.none _ _ rfl ?_ hy
    simp [Bz,Cp,Ci,Cq,Cj]
   ·rw [if_neg Eu] at A6
    have Ci : (v5.1 != v7.1) = false := by simpa [ieq,ilt,ile] using Eu
    have Cq := Ci
    try simp at Cq
    have Cj := Ci
    try rw [Bz] at Cj
    try simp at Cj
    obtain ⟨v10,Ev,A6⟩ := bind_some A6
    obtain ⟨v11,Ew,A6⟩ := bind_some A6
    cases A6
    refine VW.ws tau_ok ((Sound.none.add 58 (i_IsLoop_ok Ev) rfl).add 60 (s_IsLoop_ok Ew) rfl) _ _ rfl ?_ hy
    simp [Bz,Cp,Ci,Cq,Cj]
 refine VW.cond rfl (fun Ck => ?_) (fun Ck => ?_)
 ·
  replace Ck : x12 = true := by simpa [ieq,ilt,ile] using Ck
  rw [if_pos Ck] at h
  refine zs [(2,.val (.bool false))] ?_ ?_
  ·simp
  cases h
  refine VW.ret ?_
  simp [Post,PostM,PostC,PostC2,Nx,Bk]
 replace Ck : ¬ (x12 = true) := by simpa [ieq,ilt,ile] using Ck
 rw [if_neg Ck] at h
 refine VW.skip ?_
 refine hK6 _ ?_
 refine VW.sqc fun K14 hK14 hCK14 => ?_
 refine zs [(0,.val (.list (a0.map (D.int .u8)))),(3,.val (dM v4)),(4,.val (.bool v5.1)),(5,.val (i64 v5.2)),(64,.val (.bool (!(ieq v5.2 0))))] ?_ ?_
 ·simp
 refine VW.cond rfl (fun Cl => ?_) (fun Cl => ?_)
 ·
  replace Cl : ¬ v5.2 = 0 := by simpa [ieq,ilt,ile] using Cl
  rw [if_pos Cl] at h
  obtain ⟨x17,Cs,h⟩ := bind_some h
  refine VW.cut [(2,.val (.bool x17))] ?_ fun hy => ?_
  rotate_left
  ·clear h
   by_cases Ct : v5.2 = 1
   ·rw [if_pos Ct] at Cs
    have B0 : ieq v5.2 1 = true := by simpa [ieq,ilt,ile] using Ct
    have B1 := B0
    try simp at B1
    cases Cs
    refine VW.ws tau_ok Sound.none _ _ rfl ?_ hy
    simp [B0,B1]
   ·rw [if_neg Ct] at Cs
    have B0 : ieq v5.2 1 = false := by simpa [ieq,ilt,ile] using Ct
    have B1 := B0
    try simp at B1
    cases Cs
    refine VW.ws tau_ok Sound.none _ _ rfl ?_ hy
    simp [B0,B1]
  cases h
  refine VW.ret ?_
  simp [Post,PostM,PostC,PostC2,Nx,Bk]
 replace Cl : ¬ (¬ v5.2 = 0) := by simpa [ieq,ilt,ile] using Cl
 rw [if_neg Cl] at h
 refine VW.skip ?_
 refine hK14 _ ?_
 refine zs [(0,.val (.list (a0.map (D.int .u8)))),(3,.val (dM v4)),(4,.val (.bool v5.1)),(8,.val (i64 (v4.length : Int)))] ?_ ?_
 ·simp
 obtain ⟨v18,Ex,h⟩ := bind_some h
 refine VW.ws tau_ok (Sound.none.add 75 (i_IsAssociativeLoop_ok Ex) rfl) _ [(0,.val (.list (a0.map (D.int .u8)))),(3,.val (dM v4)),(4,.val (.bool v5.1)),(8,.val (i64 (v4.length : Int))),(9,.val (.bool v18.1)),(10,.val (i64 v18.2))] rfl ?_ ?_
 ·simp
 obtain ⟨v19,Ey,h⟩ := bind_some h
 refine VW.ws tau_ok (Sound.none.add 80 (i_IsCommutativeLoop_ok Ey) rfl) _ [(0,.val (.list (a0.map (D.int .u8)))),(3,.val (dM v4)),(4,.val (.bool v5.1)),(8,.val (i64 (v4.length : Int))),(9,.val (.bool v18.1)),(10,.val (i64 v18.2)),(11,.val (.bool v19.1)),(12,.val (i64 v19.2))] rfl ?_ ?_
 ·simp
 obtain ⟨v20,Ez,h⟩ := bind_some h
 refine VW.ws tau_ok (Sound.none.add 85 (i_LoopNucleus_ok Ez) rfl) _ [(0,.val (.list (a0.map (D.int .u8)))),(3,.val (dM v4)),(4,.val (.bool v5.1)),(8,.val (i64 (v4.length : Int))),(9,.val (.bool v18.1)),(10,.val (i64 v18.2)),(11,.val (.bool v19.1)),(12,.val (i64 v19.2)),(13,.ref 13 [] true (dI v20.1)),(14,.val (i64 v20.2))] rfl ?_ ?_
 ·simp
 obtain ⟨v21,E0,h⟩ := bind_some h
 refine VW.ws tau_ok (Sound.none.add 90 (i_LoopCentre_ok E0) rfl) _ [(0,.val (.list (a0.map (D.int .u8)))),(3,.val (dM v4)),(4,.val (.bool v5.1)),(8,.val (i64 (v4.length : Int))),(9,.val (.bool v18.1)),(10,.val (i64 v18.2)),(11,.val (.bool v19.1)),(12,.val (i64 v19.2)),(13,.ref 13 [] true (dI v20.1)),(14,.val (i64 v20.2)),(15,.ref 15 [] true (dI v21.1)),(16,.val (i64 v21.2))] rfl ?_ ?_
 ·simp
 obtain ⟨v22,E1,h⟩ := bind_some h
 refine VW.ws tau_ok (Sound.none.add 95 (i_CountCommuting_ok E1) rfl) _ [(0,.val (.list (a0.map (D.int .u8)))),(3,.val (dM v4)),(4,.val (.bool v5.1)),(8,.val (i64 (v4.length : Int))),(9,.val (.bool v18.1)),(10,.val (i64 v18.2)),(11,.val (.bool v19.1)),(12,.val (i64 v19.2)),(13,.ref 13 [] true (dI v20.1)),(14,.val (i64 v20.2)),(15,.ref 15 [] true (dI v21.1)),(16,.val (i64 v21.2)),(17,.val (i64 v22.1)),(18,.val (i64 v22.2))] rfl ?_ ?_
 ·simp
 obtain ⟨v23,E2,h⟩ := bind_some h
 refine VW.ws tau_ok (Sound.none.add 100 (i_CountAssociating_ok E2) rfl) _ [(0,.val (.list (a0.map (D.int .u8)))),(3,.val (dM v4)),(4,.val (.bool v5.1)),(8,.val (i64 (v4.length : Int))),(9,.val (.bool v18.1)),(10,.val (i64 v18.2)),(11,.val (.bool v19.1)),(12,.val (i64 v19.2)),(13,.ref 13 [] true (dI v20.1)),(14,.val (i64 v20.2)),(15,.ref 15 [] true (dI v21.1)),(16,.val (i64 v21.2)),(17,.val (i64 v22.1)),(18,.val (i64 v22.2)),(19,.val (i64 v23.1)),(20,.val (i64 v23.2))] rfl ?_ ?_
 ·simp
 obtain ⟨v24,E3,h⟩ := bind_some h
 refine VW.ws tau_ok (Sound.none.add 105 (i_IsDiassociativeLoop_ok E3) rfl) _ [(0,.val (.list (a0.map (D.int .u8)))),(3,.val (dM v4)),(4,.val (.bool v5.1)),(8,.val (i64 (v4.length : Int))),(9,.val (.bool v18.1)),(10,.val (i64 v18.2)),(11,.val (.bool v19.1)),(12,.val (i64 v19.2)),(13,.ref 13 [] true (dI v20.1)),(14,.val (i64 v20.2)),(15,.ref 15 [] true (dI v21.1)),(16,.val (i64 v21.2)),(17,.val (i64 v22.1)),(18,.val (i64 v22.2)),(19,.val (i64 v23.1)),(20,.val (i64 v23.2)),(21,.val (.bool v24.1)),(22,.val (i64 v24.2))] rfl ?_ ?_
 ·simp
 obtain ⟨v25,E4,h⟩ := bind_some h
 refine VW.ws tau_ok (Sound.none.add 111 (i_SubloopFrom_ok E4) rfl) _ [(0,.val (.list (a0.map (D.int .u8)))),(3,.val (dM v4)),(4,.val (.bool v5.1)),(8,.val (i64 (v4.length : Int))),(9,.val (.bool v18.1)),(10,.val (i64 v18.2)),(11,.val (.bool v19.1)),(12,.val (i64 v19.2)),(13,.ref 13 [] true (dI v20.1)),(14,.val (i64 v20.2)),(15,.ref 15 [] true (dI v21.1)),(16,.val (i64 v21.2)),(17,.val (i64 v22.1)),(18,.val (i64 v22.2)),(19,.val (i64 v23.1)),(20,.val (i64 v23.2)),(21,.val (.bool v24.1)),(22,.val (i64 v24.2)),(23,.ref 23 [] true (dI v25.1)),(24,.val (i64 v25.2))] rfl ?_ ?_
 ·simp
 obtain ⟨v26,E5,h⟩ := bind_some h
 refine VW.ws tau_ok (Sound.none.add 117 (i_SubloopFrom_ok E5) rfl) _ [(0,.val (.list (a0.map (D.int .u8)))),(3,.val (dM v4)),(4,.val (.bool v5.1)),(8,.val (i64 (v4.length : Int))),(9,.val (.bool v18.1)),(10,.val (i64 v18.2)),(11,.val (.bool v19.1)),(12,.val (i64 v19.2)),(13,.ref 13 [] true (dI v20.1)),(14,.val (i64 v20.2)),(15,.ref 15 [] true (dI v21.1)),(16,.val (i64 v21.2)),(17,.val (i64 v22.1)),(18,.val (i64 v22.2)),(19,.val (i64 v23.1)),(20,.val (i64 v23.2)),(21,.val (.bool v24.1)),(22,.val (i64 v24.2)),(23,.ref 23 [] true (dI v25.1)),(24,.val (i64 v25.2)),(25,.ref 25 [] true (dI v26.1)),(26,.val (i64 v26.2))] rfl ?_ ?_
 ·simp
 refine VW.sqc fun K27 hK27 hCK27 => ?_
 obtain ⟨x36,L,h⟩ := bind_some h
 refine VW.cut [(0,.val (.list (a0.map (D.int .u8)))),(3,.val (dM v4)),(4,.val (.bool v5.1)),(8,.val (i64 (v4.length : Int))),(9,.val (.bool v18.1)),(11,.val (.bool v19.1)),(13,.ref 13 [] true (dI v20.1)),(15,.ref 15 [] true (dI v21.1)),(17,.val (i64 v22.1)),(19,.val (i64 v23.1)),(21,.val (.bool v24.1)),(23,.ref 23 [] true (dI v25.1)),(25,.ref 25 [] true (dI v26.1)),(156,.val (.bool x36))] ?_ fun hy => ?_
 rotate_left
 ·clear h
  by_cases Cu : ¬ v18.2 = 0
  ·rw [if_pos Cu] at L
   have Z : ieq v18.2 0 = false := by simpa [ieq,ilt,ile] using Cu
   have Aa := Z
   try simp at Aa
   cases L
   refine VW.ws tau_ok Sound.none _ _ rfl ?_ hy
   simp [Z,Aa]
  ·rw [if_neg Cu] at L
   have Z : ieq v18.2 0 = true := by simpa [ieq,ilt,ile] using Cu
   have Aa := Z
   try simp at Aa
   by_cases Cv : ¬ v19.2 = 0
   ·rw [if_pos Cv] at L
    have Ah : ieq v19.2 0 = false := by simpa [ieq,ilt,ile] using Cv
    have Ai := Ah
    try simp at Ai
    cases L
    refine VW.ws tau_ok Sound.none _ _ rfl ?_ hy
    simp [Z,Aa,Ah,Ai]
   ·rw [if_neg Cv] at L
    have Ah : ieq v19.2 0 = true := by simpa [ieq,ilt,ile] using Cv
    have Ai := Ah
    try simp at Ai
    by_cases Cw : ¬ v20.2 = 0
    ·rw [if_pos Cw] at L
     have Ak : ieq v20.2 0 = false := by simpa [ieq,ilt,ile] using Cw
     have Al := Ak
     try simp at Al
     cases L
     refine VW.ws tau_ok Sound.none _ _ rfl ?_ hy
     simp [Z,Aa,Ah,Ai,Ak,Al]
    ·rw [if_neg Cw] at L
     have Ak : ieq v20.2 0 = true := by simpa [ieq,ilt,ile] using Cw
     have Al := Ak
     try simp at Al
     by_cases Cx : ¬ v21.2 = 0
     ·rw [if_pos Cx] at L
      have Am : ieq v21.2 0 = false := by simpa [ieq,ilt,ile] using Cx
      have An := Am
      try simp at An
      cases L
      refine VW.ws tau_ok Sound.none _ _ rfl ?_ hy
      simp [Z,Aa,Ah,Ai,Ak,Al,Am,An]
     ·rw [if_neg Cx] at L
      have Am : ieq v21.2 0 = true := by simpa [ieq,ilt,ile] using Cx
      have An := Am
      try simp at An
      by_cases Cy : ¬ v22.2 = 0
      ·rw [if_pos Cy] at L
       have Av : ieq v22.2 0 = false := by simpa [ieq,ilt,ile] using Cy
       have Aw := Av
       try simp at Aw
       cases L
       refine VW.ws tau_ok Sound.none _ _ rfl ?_ hy
       simp [Z,Aa,Ah,Ai,Ak,Al,Am,An,Av,Aw]
      ·rw [if_neg Cy] at L
       have Av : ieq v22.2 0 = true := by simpa [ieq,ilt,ile] using Cy
       have Aw := Av
       try simp at Aw
       by_cases Cz : ¬ v23.2 = 0
       ·rw [if_pos Cz] at L
        have A7 : ieq v23.2 0 = false := by simpa [ieq,ilt,ile] using Cz
        have A8 := A7
        try simp at A8
        cases L
        refine VW.ws tau_ok Sound.none _ _ rfl ?_ hy
        simp [Z,Aa,Ah,Ai,Ak,Al,Am,An,Av,Aw,A7,A8]
       ·rw [if_neg Cz] at L
        have A7 : ieq v23.2 0 = true := by simpa [ieq,ilt,ile] using Cz
        have A8 := A7
        try simp at A8
        by_cases C0 : ¬ v25.2 = 0
        ·rw [if_pos C0] at L
         have Bi : ieq v25.2 0 = false := by simpa [ieq,ilt,ile] using C0
         have Bj := Bi
         try simp at Bj
         cases L
         refine VW.ws tau_ok Sound.none _ _ rfl ?_ hy
         simp [Z,Aa,Ah,Ai,Ak,Al,Am,An,Av,Aw,A7,A8,Bi,Bj]
        ·rw [if_neg C0] at L
         have Bi : ieq v25.2 0 = true := by simpa [ieq,ilt,ile] using C0
         have Bj := Bi
         try simp at Bj
         by_cases C1 : ¬ v26.2 = 0
         ·rw [if_pos C1] at L
          have B2 : ieq v26.2 0 = false := by simpa [ieq,ilt,ile] using C1
          have B3 := B2
          try simp at B3
          cases L
          refine VW.ws tau_ok Sound.none _ _ rfl ?_ hy
          simp [Z,Aa,Ah,Ai,Ak,Al,Am,An,Av,Aw,A7,A8,Bi,Bj,B2,B3]
         ·rw [if_neg C1] at L
          have B2 : ieq v26.2 0 = true := by simpa [ieq,ilt,ile] using C1
          have B3 := B2
          try simp at B3
          cases L
          refine VW.ws tau_ok Sound.none _ _ rfl ?_ hy
          simp [Z,Aa,Ah,Ai,Ak,Al,Am,An,Av,Aw,A7,A8,Bi,Bj,B2,B3]
 refine VW.cond rfl (fun Cm => ?_) (fun Cm => ?_)
 ·
  replace Cm : x36 = true := by simpa [ieq,ilt,ile] using Cm
  rw [if_pos Cm] at h
  refine zs [(2,.val (.bool false))] ?_ ?_
  ·simp
  cases h
  refine VW.ret ?_
  simp [Post,PostM,PostC,PostC2,Nx,Bk]
 replace Cm : ¬ (x36 = true) := by simpa [ieq,ilt,ile] using Cm
 rw [if_neg Cm] at h
 refine VW.skip ?_
 refine hK27 _ ?_
 refine VW.sqc fun K38 hK38 hCK38 => ?_
 obtain ⟨x76,A,h⟩ := bind_some h
 refine VW.cut [(0,.val (.list (a0.map (D.int .u8)))),(3,.val (dM v4)),(4,.val (.bool v5.1)),(8,.val (i64 (v4.length : Int))),(212,.val (.bool x76))] ?_ fun hy => ?_
 rotate_left
 ·clear h
  by_cases C2 : v18.1 = true
  ·rw [if_pos C2] at A
   have B : v18.1 = true := by simpa [ieq,ilt,ile] using C2
   have C := B
   try simp at C
   by_cases C3 : v5.1 = false
   ·rw [if_pos C3] at A
    have F : v5.1 = false := by simpa [ieq,ilt,ile] using C3
    have O := F
    try simp at O
    cases A
    refine VW.ws tau_ok Sound.none _ _ rfl ?_ hy
    simp [B,C,F,O]
   ·rw [if_neg C3] at A
    have F : v5.1 = true := by simpa [ieq,ilt,ile] using C3
    have O := F
    try simp at O
    by_cases C4 : (v4.length : Int) ≤ 32
    ·rw [if_pos C4] at A
     have G : ile (v4.length : Int) 32 = true := by simpa [ieq,ilt,ile] using C4
     have R := G
     try simp at R
     by_cases C5 : v24.1 = false
     ·rw [if_pos C5] at A
      have V : v24.1 = false := by simpa [ieq,ilt,ile] using C5
      have Ao := V
      try simp at Ao
      cases A
      refine VW.ws tau_ok Sound.none _ _ rfl ?_ hy
      simp [B,C,F,O,G,R,V,Ao]
     ·rw [if_neg C5] at A
      have V : v24.1 = true := by simpa [ieq,ilt,ile] using C5
      have Ao := V
      try simp at Ao
      by_cases C6 : (v18.1 != (ieq v23.1 (w64 ((w64 ((v4.length : Int) * (v4.length : Int))) * (v4.length : Int))))) = true
      ·rw [if_pos C6] at A
       have Ab : (v18.1 != (ieq v23.1 (w64 ((w64 ((v4.length : Int) * (v4.length : Int))) * (v4.length : Int))))) = true := by simpa [ieq,ilt,ile] using C6
       have Ax := Ab
       try simp at Ax
       have M := Ab
       try rw [B] at M
       try rw [F] at M
       try rw [G] at M
       try rw [V] at M
       try simp at M
       cases A
       refine VW.ws tau_ok Sound.none _ _ rfl ?_ hy
       simp [B,C,F,O,G,R,V,Ao,Ab,Ax,M]
      ·rw [if_neg C6] at A
       have Ab : (v18.1 != (ieq v23.1 (w64 ((w64 ((v4.length : Int) * (v4.length : Int))) * (v4.length : Int))))) = false := by simpa [ieq,ilt,ile] using C6
       have Ax := Ab
       try simp at Ax
       have M := Ab
       try rw [B] at M
       try rw [F] at M
       try rw [G] at M
       try rw [V] at M
       try simp at M
       by_cases C7 : (v19.1 != (ieq v22.1 (w64 ((v4.length : Int) * (v4.length : Int))))) = true
       ·rw [if_pos C7] at A
        have Ap : (v19.1 != (ieq v22.1 (w64 ((v4.length : Int) * (v4.length : Int))))) = true := by simpa [ieq,ilt,ile] using C7
        have A9 := Ap
        try simp at A9
        have J := Ap
        try rw [B] at J
        try rw [F] at J
        try rw [G] at J
        try rw [V] at J
        try rw [Ab] at J
        try simp at J
        cases A
        refine VW.ws tau_ok Sound.none _ _ rfl ?_ hy
        simp [B,C,F,O,G,R,V,Ao,Ab,Ax,M,Ap,A9,J]
       ·rw [if_neg C7] at A
        have Ap : (v19.1 != (ieq v22.1 (w64 ((v4.length : Int) * (v4.length : Int))))) = false := by simpa [ieq,ilt,ile] using C7
        have A9 := Ap
        try simp at A9
        have J := Ap
        try rw [B] at J
        try rw [F] at J
        try rw [G] at J
        try rw [V] at J
        try rw [Ab] at J
        try simp at J
        obtain ⟨v45,D2,A⟩ := bind_some A
        by_cases C8 : v45 = false
        ·rw [if_pos C8] at A
         have Bl : v45 = false := by simpa [ieq,ilt,ile] using C8
         have Bm := Bl
         try simp at Bm
         cases A
         refine VW.ws tau_ok (Sound.none.add 196 (l_likeInts_ok D2) rfl) _ _ rfl ?_ hy
         simp [B,C,F,O,G,R,V,Ao,Ab,Ax,M,Ap,A9,J,Bl,Bm]
        ·rw [if_neg C8] at A
         have Bl : v45 = true := by simpa [ieq,ilt,ile] using C8
         have Bm := Bl
         try simp at Bm
         obtain ⟨v47,D8,A⟩ := bind_some A
         by_cases C9 : v47 = false
         ·rw [if_pos C9] at A
          have B4 : v47 = false := by simpa [ieq,ilt,ile] using C9
          have B5 := B4
          try simp at B5
          cases A
          refine VW.ws tau_ok ((Sound.none.add 196 (l_likeInts_ok D2) rfl).add 202 (l_likeInts_ok D8) rfl) _ _ rfl ?_ hy
          simp [B,C,F,O,G,R,V,Ao,Ab,Ax,M,Ap,A9,J,Bl,Bm,B4,B5]
         ·rw [if_neg C9] at A
          have B4 : v47 = true := by simpa [ieq,ilt,ile] using C9
          have B5 := B4
          try simp at B5
          cases A
          refine VW.ws tau_ok ((Sound.none.add 196 (l_likeInts_ok D2) rfl).add 202 (l_likeInts_ok D8) rfl) _ _ rfl ?_ hy
          simp [B,C,F,O,G,R,V,Ao,Ab,Ax,M,Ap,A9,J,Bl,Bm,B4,B5]
    ·rw [if_neg C4] at A
     have G : ile (v4.length : Int) 32 = false := by simpa [ieq,ilt,ile] using C4
     have R := G
     try simp at R
     by_cases Da : (v18.1 != (ieq v23.1 (w64 ((w64 ((v4.length : Int) * (v4.length : Int))) * (v4.length : Int))))) = true
     ·rw [if_pos Da] at A
      have Ac : (v18.1 != (ieq v23.1 (w64 ((w64 ((v4.length : Int) * (v4.length : Int))) * (v4.length : Int))))) = true := by simpa [ieq,ilt,ile] using Da
      have Ay := Ac
      try simp at Ay
      have S := Ac
      try rw [B] at S
      try rw [F] at S
      try rw [G] at S
      try simp at S
      cases A
      refine VW.ws tau_ok Sound.none _ _ rfl ?_ hy
      simp [B,C,F,O,G,R,Ac,Ay,S]
     ·rw [if_neg Da] at A
      have Ac : (v18.1 != (ieq v23.1 (w64 ((w64 ((v4.length : Int) * (v4.length : Int))) * (v4.length : Int))))) = false := by simpa [ieq,ilt,ile] using Da
      have Ay := Ac
      try simp at Ay
      have S := Ac
      try rw [B] at S
      try rw [F] at S
      try rw [G] at S
      try simp at S
      by_cases Db : (v19.1 != (ieq v22.1 (w64 ((v4.length : Int) * (v4.length : Int))))) = true
      ·rw [if_pos Db] at A
       have Aq : (v19.1 != (ieq v22.1 (w64 ((v4.length : Int) * (v4.length : Int))))) = true := by simpa [ieq,ilt,ile] using Db
       have Ba := Aq
       try simp at Ba
       have P := Aq
       try rw [B] at P
       try rw [F] at P
       try rw [G] at P
       try rw [Ac] at P
       try simp at P
       cases A
       refine VW.ws tau_ok Sound.none _ _ rfl ?_ hy
       simp [B,C,F,O,G,R,Ac,Ay,S,Aq,Ba,P]
      ·rw [if_neg Db] at A
       have Aq : (v19.1 != (ieq v22.1 (w64 ((v4.length : Int) * (v4.length : Int))))) = false := by simpa [ieq,ilt,ile] using Db
       have Ba := Aq
       try simp at Ba
       have P := Aq
       try rw [B] at P
       try rw [F] at P
       try rw [G] at P
       try rw [Ac] at P
       try simp at P
       obtain ⟨v51,D3,A⟩ := bind_some A
       by_cases Dc : v51 = false
       ·rw [if_pos Dc] at A
        have Bn : v51 = false := by simpa [ieq,ilt,ile] using Dc
        have Bo := Bn
        try simp at Bo
        cases A
        refine VW.ws tau_ok (Sound.none.add 196 (l_likeInts_ok D3) rfl) _ _ rfl ?_ hy
        simp [B,C,F,O,G,R,Ac,Ay,S,Aq,Ba,P,Bn,Bo]
       ·rw [if_neg Dc] at A
        have Bn : v51 = true := by simpa [ieq,ilt,ile] using Dc
        have Bo := Bn
        try simp at Bo
        obtain ⟨v53,D9,A⟩ := bind_some A
        by_cases Dd : v53 = false
        ·rw [if_pos Dd] at A
         have B6 : v53 = false := by simpa [ieq,ilt,ile] using Dd
         have B7 := B6
         try simp at B7
         cases A
         refine VW.ws tau_ok ((Sound.none.add 196 (l_likeInts_ok D3) rfl).add 202 (l_likeInts_ok D9) rfl) _ _ rfl ?_ hy
         simp [B,C,F,O,G,R,Ac,Ay,S,Aq,Ba,P,Bn,Bo,B6,B7]
        ·rw [if_neg Dd] at A
         have B6 : v53 = true := by simpa [ieq,ilt,ile] using Dd
         have B7 := B6
         try simp at B7
         cases A
         refine VW.ws tau_ok ((Sound.none.add 196 (l_likeInts_ok D3) rfl).add 202 (l_likeInts_ok D9) rfl) _ _ rfl ?_ hy
         simp [B,C,F,O,G,R,Ac,Ay,S,Aq,Ba,P,Bn,Bo,B6,B7]
  ·rw [if_neg C2] at A
   have B : v18.1 = false := by simpa [ieq,ilt,ile] using C2
   have C := B
   try simp at C
   by_cases De : v5.1 = true
   ·rw [if_pos De] at A
    have E : v5.1 = true := by simpa [ieq,ilt,ile] using De
    have I := E
    try simp at I
    by_cases Df : (v4.length : Int) ≤ 32
    ·rw [if_pos Df] at A
     have H : ile (v4.length : Int) 32 = true := by simpa [ieq,ilt,ile] using Df
     have T := H
     try simp at T
     by_cases Dg : v24.1 = false
     ·rw [if_pos Dg] at A
      have W : v24.1 = false := by simpa [ieq,ilt,ile] using Dg
      have Ar := W
      try simp at Ar
      cases A
      refine VW.ws tau_ok Sound.none _ _ rfl ?_ hy
      simp [B,C,E,I,H,T,W,Ar]
     ·rw [if_neg Dg] at A
      have W : v24.1 = true := by simpa [ieq,ilt,ile] using Dg
      have Ar := W
      try simp at Ar
      by_cases Dh : (v18.1 != (ieq v23.1 (w64 ((w64 ((v4.length : Int) * (v4.length : Int))) * (v4.length : Int))))) = true
      ·rw [if_pos Dh] at A
       have Ad : (v18.1 != (ieq v23.1 (w64 ((w64 ((v4.length : Int) * (v4.length : Int))) * (v4.length : Int))))) = true := by simpa [ieq,ilt,ile] using Dh
       have Az := Ad
       try simp at Az
       have N := Ad
       try rw [B] at N
       try rw [E] at N
       try rw [H] at N
       try rw [W] at N
       try simp at N
       cases A
       refine VW.ws tau_ok Sound.none _ _ rfl ?_ hy
       simp [B,C,E,I,H,T,W,Ar,Ad,Az,N]
      ·rw [if_neg Dh] at A
       have Ad : (v18.1 != (ieq v23.1 (w64 ((w64 ((v4.length : Int) * (v4.length : Int))) * (v4.length : Int))))) = false := by simpa [ieq,ilt,ile] using Dh
       have Az := Ad
       try simp at Az
       have N := Ad
       try rw [B] at N
       try rw [E] at N
       try rw [H] at N
       try rw [W] at N
       try simp at N
       by_cases Di : (v19.1 != (ieq v22.1 (w64 ((v4.length : Int) * (v4.length : Int))))) = true
       ·rw [if_pos Di] at A
        have As : (v19.1 != (ieq v22.1 (w64 ((v4.length : Int) * (v4.length : Int))))) = true := by simpa [ieq,ilt,ile] using Di
        have Bb := As
        try simp at Bb
        have K := As
        try rw [B] at K
        try rw [E] at K
        try rw [H] at K
        try rw [W] at K
        try rw [Ad] at K
        try simp at K
        cases A
        refine VW.ws tau_ok Sound.none _ _ rfl ?_ hy
        simp [B,C,E,I,H,T,W,Ar,Ad,Az,N,As,Bb,K]
       ·rw [if_neg Di] at A
        have As : (v19.1 != (ieq v22.1 (w64 ((v4.length : Int) * (v4.length : Int))))) = false := by simpa [ieq,ilt,ile] using Di
        have Bb := As
        try simp at Bb
        have K := As
        try rw [B] at K
        try rw [E] at K
        try rw [H] at K
        try rw [W] at K
        try rw [Ad] at K
        try simp at K
        obtain ⟨v60,D4,A⟩ := bind_some A
        by_cases Dj : v60 = false
        ·rw [if_pos Dj] at A
         have Bp : v60 = false := by simpa [ieq,ilt,ile] using Dj
         have Bq := Bp
         try simp at Bq
         cases A
         refine VW.ws tau_ok (Sound.none.add 196 (l_likeInts_ok D4) rfl) _ _ rfl ?_ hy
         simp [B,C,E,I,H,T,W,Ar,Ad,Az,N,As,Bb,K,Bp,Bq]
        ·rw [if_neg Dj] at A
         have Bp : v60 = true := by simpa [ieq,ilt,ile] using Dj
         have Bq := Bp
         try simp at Bq
         obtain ⟨v62,Ea,A⟩ := bind_some A
         by_cases Dk : v62 = false
         ·rw [if_pos Dk] at A
          have B8 : v62 = false := by simpa [ieq,ilt,ile] using Dk
          have B9 := B8
          try simp at B9
          cases A
          refine VW.ws tau_ok ((Sound.none.add 196 (l_likeInts_ok D4) rfl).add 202 (l_likeInts_ok Ea) rfl) _ _ rfl ?_ hy
          simp [B,C,E,I,H,T,W,Ar,Ad,Az,N,As,Bb,K,Bp,Bq,B8,B9]
         ·rw [if_neg Dk] at A
          have B8 : v62 = true := by simpa [ieq,ilt,ile] using Dk
          have B9 := B8
          try simp at B9
          cases A
          refine VW.ws tau_ok ((Sound.none.add 196 (l_likeInts_ok D4) rfl).add 202 (l_likeInts_ok Ea) rfl) _ _ rfl ?_ hy
          simp [B,C,E,I,H,T,W,Ar,Ad,Az,N,As,Bb,K,Bp,Bq,B8,B9]
    ·rw [if_neg Df] at A
     have H : ile (v4.length : Int) 32 = false := by simpa [ieq,ilt,ile] using Df
     have T := H
     try simp at T
     by_cases Dl : (v18.1 != (ieq v23.1 (w64 ((w64 ((v4.length : Int) * (v4.length : Int))) * (v4.length : Int))))) = true
     ·rw [if_pos Dl] at A
      have Ae : (v18.1 != (ieq v23.1 (w64 ((w64 ((v4.length : Int) * (v4.length : Int))) * (v4.length : Int))))) = true := by simpa [ieq,ilt,ile] using Dl
      have A0 := Ae
      try simp at A0
      have U := Ae
      try rw [B] at U
      try rw [E] at U
      try rw [H] at U
      try simp at U
      cases A
      refine VW.ws tau_ok Sound.none _ _ rfl ?_ hy
      simp [B,C,E,I,H,T,Ae,A0,U]
     ·rw [if_neg Dl] at A
      have Ae : (v18.1 != (ieq v23.1 (w64 ((w64 ((v4.length : Int) * (v4.length : Int))) * (v4.length : Int))))) = false := by simpa [ieq,ilt,ile] using Dl
      have A0 := Ae
      try simp at A0
      have U := Ae
      try rw [B] at U
      try rw [E] at U
      try rw [H] at U
      try simp at U
      by_cases Dm : (v19.1 != (ieq v22.1 (w64 ((v4.length : Int) * (v4.length : Int))))) = true
      ·rw [if_pos Dm] at A
       have At : (v19.1 != (ieq v22.1 (w64 ((v4.length : Int) * (v4.length : Int))))) = true := by simpa [ieq,ilt,ile] using Dm
       have Bc := At
       try simp at Bc
       have Q := At
       try rw [B] at Q
       try rw [E] at Q
       try rw [H] at Q
       try rw [Ae] at Q
       try simp at Q
       cases A
       refine VW.ws tau_ok Sound.none _ _ rfl ?_ hy
       simp [B,C,E,I,H,T,Ae,A0,U,At,Bc,Q]
      ·rw [if_neg Dm] at A
       have At : (v19.1 != (ieq v22.1 (w64 ((v4.length : Int) * (v4.length : Int))))) = false := by simpa [ieq,ilt,ile] using Dm
       have Bc := At
       try simp at Bc
       have Q := At
       try rw [B] at Q
       try rw [E] at Q
       try rw [H] at Q
       try rw [Ae] at Q
       try simp at Q
       obtain ⟨v66,D5,A⟩ := bind_some A
       by_cases Dn : v66 = false
       ·rw [if_pos Dn] at A
        have Br : v66 = false := by simpa [ieq,ilt,ile] using Dn
        have Bs := Br
        try simp at Bs
        cases A
        refine VW.ws tau_ok (Sound.none.add 196 (l_likeInts_ok D5) rfl) _ _ rfl ?_ hy
        simp [B,C,E,I,H,T,Ae,A0,U,At,Bc,Q,Br,Bs]
       ·rw [if_neg Dn] at A
        have Br : v66 = true := by simpa [ieq,ilt,ile] using Dn
        have Bs := Br
        try simp at Bs
        obtain ⟨v68,Eb,A⟩ := bind_some A
        by_cases Do : v68 = false
        ·rw [if_pos Do] at A
         have Ca : v68 = false := by simpa [ieq,ilt,ile] using Do
         have Cb := Ca
         try simp at Cb
         cases A
         refine VW.ws tau_ok ((Sound.none.add 196 (l_likeInts_ok D5) rfl).add 202 (l_likeInts_ok Eb) rfl) _ _ rfl ?_ hy
         simp [B,C,E,I,H,T,Ae,A0,U,At,Bc,Q,Br,Bs,Ca,Cb]
        ·rw [if_neg Do] at A
         have Ca : v68 = true := by simpa [ieq,ilt,ile] using Do
         have Cb := Ca
         try simp at Cb
         cases A
         refine VW.ws tau_ok ((Sound.none.add 196 (l_likeInts_ok D5) rfl).add 202 (l_likeInts_ok Eb) rfl) _ _ rfl ?_ hy
         simp [B,C,E,I,H,T,Ae,A0,U,At,Bc,Q,Br,Bs,Ca,Cb]
   ·rw [if_neg De] at A
    have E : v5.1 = false := by simpa [ieq,ilt,ile] using De
    have I := E
    try simp at I
    by_cases Dp : (v18.1 != (ieq v23.1 (w64 ((w64 ((v4.length : Int) * (v4.length : Int))) * (v4.length : Int))))) = true
    ·rw [if_pos Dp] at A
     have Af : (v18.1 != (ieq v23.1 (w64 ((w64 ((v4.length : Int) * (v4.length : Int))) * (v4.length : Int))))) = true := by simpa [ieq,ilt,ile] using Dp
     have A1 := Af
     try simp at A1
     have Ag := Af
     try rw [B] at Ag
     try rw [E] at Ag
     try simp at Ag
     cases A
     refine VW.ws tau_ok Sound.none _ _ rfl ?_ hy
     simp [B,C,E,I,Af,A1,Ag]
    ·rw [if_neg Dp] at A
     have Af : (v18.1 != (ieq v23.1 (w64 ((w64 ((v4.length : Int) * (v4.length : Int))) * (v4.length : Int))))) = false := by simpa [ieq,ilt,ile] using Dp
     have A1 := Af
     try simp at A1
     have Ag := Af
     try rw [B] at Ag
     try rw [E] at Ag
     try simp at Ag
     by_cases Dq : (v19.1 != (ieq v22.1 (w64 ((v4.length : Int) * (v4.length : Int))))) = true
     ·rw [if_pos Dq] at A
      have Au : (v19.1 != (ieq v22.1 (w64 ((v4.length : Int) * (v4.length : Int))))) = true := by simpa [ieq,ilt,ile] using Dq
      have Bd := Au
      try simp at Bd
      have X := Au
      try rw [B] at X
      try rw [E] at X
      try rw [Af] at X
      try simp at X
      cases A
      refine VW.ws tau_ok Sound.none _ _ rfl ?_ hy
      simp [B,C,E,I,Af,A1,Ag,Au,Bd,X]
     ·rw [if_neg Dq] at A
      have Au : (v19.1 != (ieq v22.1 (w64 ((v4.length : Int) * (v4.length : Int))))) = false := by simpa [ieq,ilt,ile] using Dq
      have Bd := Au
      try simp at Bd
      have X := Au
      try rw [B] at X
      try rw [E] at X
      try rw [Af] at X
      try simp at X
      obtain ⟨v72,D6,A⟩ := bind_some A
      by_cases Dr : v72 = false
      ·rw [if_pos Dr] at A
       have Bt : v72 = false := by simpa [ieq,ilt,ile] using Dr
       have Bu := Bt
       try simp at Bu
       cases A
       refine VW.ws tau_ok (Sound.none.add 196 (l_likeInts_ok D6) rfl) _ _ rfl ?_ hy
       simp [B,C,E,I,Af,A1,Ag,Au,Bd,X,Bt,Bu]
      ·rw [if_neg Dr] at A
       have Bt : v72 = true := by simpa [ieq,ilt,ile] using Dr
       have Bu := Bt
       try simp at Bu
       obtain ⟨v74,Ec,A⟩ := bind_some A
       by_cases Ds : v74 = false
       ·rw [if_pos Ds] at A
        have Cc : v74 = false := by simpa [ieq,ilt,ile] using Ds
        have Cd := Cc
        try simp at Cd
        cases A
        refine VW.ws tau_ok ((Sound.none.add 196 (l_likeInts_ok D6) rfl).add 202 (l_likeInts_ok Ec) rfl) _ _ rfl ?_ hy
        simp [B,C,E,I,Af,A1,Ag,Au,Bd,X,Bt,Bu,Cc,Cd]
       ·rw [if_neg Ds] at A
        have Cc : v74 = true := by simpa [ieq,ilt,ile] using Ds
        have Cd := Cc
        try simp at Cd
        cases A
        refine VW.ws tau_ok ((Sound.none.add 196 (l_likeInts_ok D6) rfl).add 202 (l_likeInts_ok Ec) rfl) _ _ rfl ?_ hy
        simp [B,C,E,I,Af,A1,Ag,Au,Bd,X,Bt,Bu,Cc,Cd]
 refine VW.cond rfl (fun Cn => ?_) (fun Cn => ?_)
 ·
  replace Cn : x76 = true := by simpa [ieq,ilt,ile] using Cn
  rw [if_pos Cn] at h
  refine zs [(2,.val (.bool false))] ?_ ?_
  ·simp
  cases h
  refine VW.ret ?_
  simp [Post,PostM,PostC,PostC2,Nx,Bk]
 replace Cn : ¬ (x76 = true) := by simpa [ieq,ilt,ile] using Cn
 rw [if_neg Cn] at h
 refine VW.skip ?_
 refine hK38 _ ?_
 obtain ⟨v78,E6,h⟩ := bind_some h
 obtain ⟨v79,E7,h⟩ := bind_some h
 refine VW.ws tau_ok ((Sound.none.add 214 (l_roll_ok E6) rfl).ptrc 216 (g_p_laws_dice_below_ok E7)) _ [(3,.val (dM v4)),(4,.val (.bool v5.1)),(8,.val (i64 (v4.length : Int))),(27,.val (i64 v79.1))] rfl ?_ ?_
 ·simp
 obtain ⟨v80,E8,h⟩ := bind_some h
 refine VW.ws tau_ok (Sound.none.add 220 (i_LoopInverse_ok E8) rfl) _ [(3,.val (dM v4)),(4,.val (.bool v5.1)),(8,.val (i64 (v4.length : Int))),(27,.val (i64 v79.1)),(28,.val (i64 v80.1)),(29,.val (i64 v80.2))] rfl ?_ ?_
 ·simp
 obtain ⟨v81,E9,h⟩ := bind_some h
 refine VW.ws tau_ok (Sound.none.add 226 (i_LoopOrder_ok E9) rfl) _ [(3,.val (dM v4)),(4,.val (.bool v5.1)),(8,.val (i64 (v4.length : Int))),(27,.val (i64 v79.1)),(28,.val (i64 v80.1)),(29,.val (i64 v80.2)),(30,.val (i64 v81.1)),(31,.val (i64 v81.2))] rfl ?_ ?_
 ·simp
 refine VW.sqc fun K82 hK82 hCK82 => ?_
 obtain ⟨v83,Fa,h⟩ := bind_some h
 refine VW.ws tau_ok (Sound.none.add 232 (s_LoopOrder_ok Fa) rfl) _ [(3,.val (dM v4)),(4,.val (.bool v5.1)),(8,.val (i64 (v4.length : Int))),(27,.val (i64 v79.1)),(28,.val (i64 v80.1)),(29,.val (i64 v80.2)),(30,.val (i64 v81.1)),(31,.val (i64 v81.2)),(33,.val (i64 v83.2))] rfl ?_ ?_
 ·simp
 obtain ⟨x90,Aj,h⟩ := bind_some h
 refine VW.cut [(3,.val (dM v4)),(4,.val (.bool v5.1)),(8,.val (i64 (v4.length : Int))),(27,.val (i64 v79.1)),(28,.val (i64 v80.1)),(30,.val (i64 v81.1)),(31,.val (i64 v81.2)),(260,.val (.bool x90))] ?_ fun hy => ?_
 rotate_left
 ·clear h
  by_cases Dt : ¬ v81.2 = v83.2
  ·rw [if_pos Dt] at Aj
   have A2 : ieq v81.2 v83.2 = false := by simpa [ieq,ilt,ile] using Dt
   have A3 := A2
   try simp at A3
   cases Aj
   refine VW.ws tau_ok Sound.none _ _ rfl ?_ hy
   simp [A2,A3]
  ·rw [if_neg Dt] at Aj
   have A2 : ieq v81.2 v83.2 = true := by simpa [ieq,ilt,ile] using Dt
   have A3 := A2
   try simp at A3
   by_cases Du : ¬ v80.2 = 0
   ·rw [if_pos Du] at Aj
    have Be : ieq v80.2 0 = false := by simpa [ieq,ilt,ile] using Du
    have Bf := Be
    try simp at Bf
    cases Aj
    refine VW.ws tau_ok Sound.none _ _ rfl ?_ hy
    simp [A2,A3,Be,Bf]
   ·rw [if_neg Du] at Aj
    have Be : ieq v80.2 0 = true := by simpa [ieq,ilt,ile] using Du
    have Bf := Be
    try simp at Bf
    by_cases Dv : v80.1 < 0
    ·rw [if_pos Dv] at Aj
     have Bv : ilt v80.1 0 = true := by simpa [ieq,ilt,ile] using Dv
     have Bw := Bv
     try simp at Bw
     cases Aj
     refine VW.ws tau_ok Sound.none _ _ rfl ?_ hy
     simp [A2,A3,Be,Bf,Bv,Bw]
    ·rw [if_neg Dv] at Aj
     have Bv : ilt v80.1 0 = false := by simpa [ieq,ilt,ile] using Dv
     have Bw := Bv
     try simp at Bw
     by_cases Dw : (v4.length : Int) ≤ v80.1
     ·rw [if_pos Dw] at Aj
      have Ce : ile (v4.length : Int) v80.1 = true := by simpa [ieq,ilt,ile] using Dw
      have Cf := Ce
      try simp at Cf
      cases Aj
      refine VW.ws tau_ok Sound.none _ _ rfl ?_ hy
      simp [A2,A3,Be,Bf,Bv,Bw,Ce,Cf]
     ·rw [if_neg Dw] at Aj
      have Ce : ile (v4.length : Int) v80.1 = false := by simpa [ieq,ilt,ile] using Dw
      have Cf := Ce
      try simp at Cf
      obtain ⟨v88,Fb,Aj⟩ := bind_some Aj
      obtain ⟨Ed,Ee,Ef,Eg⟩ := idx_some Fb
      obtain ⟨v89,Fc,Aj⟩ := bind_some Aj
      obtain ⟨Eh,Ei,Ej,Ek⟩ := idx_some Fc
      cases Aj
      refine VW.ws tau_ok Sound.none _ _ rfl ?_ hy
      simp [A2,A3,Be,Bf,Bv,Bw,Ce,Cf,Ed,Ee,Ef,Eg,Eh,Ei,Ej,Ek]
 refine VW.cond rfl (fun Co => ?_) (fun Co => ?_)
 ·
  replace Co : x90 = true := by simpa [ieq,ilt,ile] using Co
  rw [if_pos Co] at h
  refine zs [(2,.val (.bool false))] ?_ ?_
  ·simp
  cases h
  refine VW.ret ?_
  simp [Post,PostM,PostC,PostC2,Nx,Bk]
 replace Co : ¬ (x90 = true) := by simpa [ieq,ilt,ile] using Co
 rw [if_neg Co] at h
 refine VW.skip ?_
 refine hK82 _ ?_
 obtain ⟨x99,Y,h⟩ := bind_some h
 refine VW.cut [(2,.val (.bool x99))] ?_ fun hy => ?_
 rotate_left
 ·clear h
  by_cases Dx : v5.1 = false
  ·rw [if_pos Dx] at Y
   have A4 : v5.1 = false := by simpa [ieq,ilt,ile] using Dx
   have A5 := A4
   try simp at A5
   cases Y
   refine VW.ws tau_ok Sound.none _ _ rfl ?_ hy
   simp [A4,A5]
  ·rw [if_neg Dx] at Y
   have A4 : v5.1 = true := by simpa [ieq,ilt,ile] using Dx
   have A5 := A4
   try simp at A5
   by_cases Dy : v81.2 = 0
   ·rw [if_pos Dy] at Y
    have Bg : ieq v81.2 0 = true := by simpa [ieq,ilt,ile] using Dy
    have Bh := Bg
    try simp at Bh
    by_cases Dz : 1 ≤ v81.1
    ·rw [if_pos Dz] at Y
     have Bx : ile 1 v81.1 = true := by simpa [ieq,ilt,ile] using Dz
     have By := Bx
     try simp at By
     obtain ⟨D7,Y⟩ := chk_some Y
     have Cr := D7
     try simp at Cr
     by_cases D0 : ((v4.length : Int).tmod v81.1) = 0
     ·rw [if_pos D0] at Y
      have Cg : ieq ((v4.length : Int).tmod v81.1) 0 = true := by simpa [ieq,ilt,ile] using D0
      have Ch := Cg
      try simp at Ch
      obtain ⟨v97,Fd,Y⟩ := bind_some Y
      obtain ⟨El,Em,En,Eo⟩ := idx_some Fd
      obtain ⟨v98,Fe,Y⟩ := bind_some Y
      obtain ⟨Ep,Eq,Er,Es⟩ := idx_some Fe
      cases Y
      refine VW.ws tau_ok Sound.none _ _ rfl ?_ hy
      simp [A4,A5,Bg,Bh,Bx,By,D7,Cr,Cg,Ch,El,Em,En,Eo,Ep,Eq,Er,Es]
     ·rw [if_neg D0] at Y
      have Cg : ieq ((v4.length : Int).tmod v81.1) 0 = false := by simpa [ieq,ilt,ile] using D0
      have Ch := Cg
      try simp at Ch
      cases Y
      refine VW.ws tau_ok Sound.none _ _ rfl ?_ hy
      simp [A4,A5,Bg,Bh,Bx,By,D7,Cr,Cg,Ch]
    ·rw [if_neg Dz] at Y
     have Bx : ile 1 v81.1 = false := by simpa [ieq,ilt,ile] using Dz
     have By := Bx
     try simp at By
     cases Y
     refine VW.ws tau_ok Sound.none _ _ rfl ?_ hy
     simp [A4,A5,Bg,Bh,Bx,By]
   ·rw [if_neg Dy] at Y
    have Bg : ieq v81.2 0 = false := by simpa [ieq,ilt,ile] using Dy
    have Bh := Bg
    try simp at Bh
    cases Y
    refine VW.ws tau_ok Sound.none _ _ rfl ?_ hy
    simp [A4,A5,Bg,Bh]
 cases h
 refine VW.ret ?_
 simp [Post,PostM,PostC,PostC2,Nx,Bk]
end Go.Vam
