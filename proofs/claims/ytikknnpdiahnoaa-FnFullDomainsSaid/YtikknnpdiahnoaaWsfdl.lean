/- Walks. -/
import Derived.Test.YtikknnpdiahnoaaBase
import Derived.Test.YtikknnpdiahnoaaNm
import Derived.Test.YtikknnpdiahnoaaWsdfr
import Derived.Test.YtikknnpdiahnoaaWsfm
namespace Go.Ab
open Go.Proofs
set_option maxRecDepth 100000
set_option maxHeartbeats 8000000
set_option linter.unusedSimpArgs false
set_option linter.unusedVariables false
theorem f_lawFD (b1 b2 : List Int) (hb1 : ∀ a ∈ b1, 0 ≤ a ∧ a ≤ 255) (hb2 : ∀ a ∈ b2, 0 ≤ a ∧ a ≤ 255) : Fn Try.prog 3 [.sl (b1.map dU), .sl (b2.map dU)] [] (fun rr ii nn => rr = .p (.bool true) ∧ ii = [] ∧ nn = []) := by
 refine fn_of Try.func3 rfl (Nat.le_of_ble_eq_true rfl) fun w X g => ?_
 show AWp _ _ _ ⟨[(0, .sl (b1.map dU)), (1, .sl (b2.map dU))], []⟩
 refine a_len_map 1 rfl fun hl2 => ?_
 refine a_seq ?_
 refine a_region (by kernel_rfl) ?_
 refine op_v' (j_assign (evo rfl)) ?_
 refine op_nil ?_
 refine a_seq ?_
 refine a_seq ?_
 refine a_region (by kernel_rfl) ?_
 refine op_v' (j_move (evo rfl)) ?_
 refine op_v' (j_len_map Try.underlying22 rfl) ?_
 refine op_v' (j_gt rfl rfl) ?_
 refine op_v' (j_move (evo rfl)) ?_
 refine op_split' 13 rfl (fun h1 => ?_) (fun h1 => ?_)
 ·
  have h1r := h1
  try simp only [nq, nr, nl] at h1
  refine op_v' (j_unwantV rfl rfl h1r) ?_
  refine op_v' (j_unwantV rfl rfl h1r) ?_
  refine op_v' (j_unwantV rfl rfl h1r) ?_
  refine op_v' (j_pick_t rfl h1r (evo rfl)) ?_
  refine op_nil ?_
  refine a_tt rfl ?_
  refine a_seq ?_
  refine a_region (by kernel_rfl) ?_
  refine op_v' (j_assign (evo rfl)) ?_
  refine op_nil ?_
  refine a_ret ?_
  exact ⟨[.p _], .p _, [], [], [], ⟨rfl, trivial⟩, rfl, rfl, trivial, rfl, rfl, ⟨boolEq (by first | (simp; done) | assumption | (rw [hE]; rfl) | (exfalso; simp_all; done)), rfl, rfl⟩⟩
 ·
  have h1r := h1
  try simp only [nq, nr, nl] at h1
  refine op_v' (j_want rfl rfl h1r (j_move (evo rfl))) ?_
  refine op_v' (j_want rfl rfl h1r (j_len_map Try.underlying22 rfl)) ?_
  refine op_v' (j_want rfl rfl h1r (j_gt rfl rfl)) ?_
  refine op_v' (j_pick_f rfl h1r (evo rfl)) ?_
  refine op_nil ?_
  refine a_cond rfl (fun h2 => ?_) (fun h2 => ?_)
  ·
   have h2r := h2
   try simp only [nq, nr, nl] at h2
   refine a_seq ?_
   refine a_region (by kernel_rfl) ?_
   refine op_v' (j_assign (evo rfl)) ?_
   refine op_nil ?_
   refine a_ret ?_
   exact ⟨[.p _], .p _, [], [], [], ⟨rfl, trivial⟩, rfl, rfl, trivial, rfl, rfl, ⟨boolEq (by first | (simp; done) | assumption | (rw [hE]; rfl) | (exfalso; simp_all; done)), rfl, rfl⟩⟩
  ·
   have h2r := h2
   try simp only [nq, nr, nl] at h2
   refine a_skip ?_
   refine a_seq ?_
   refine a_region (by kernel_rfl) ?_
   refine op_v' (j_move (evo rfl)) ?_
   refine op_callE (v := fun x => .agg [.sl _, .sl _]) (hp1 := fun x => []) [] false ent14 (f_dFD b1 hb1) ⟨.inl ⟨rfl, rfl⟩, trivial⟩ trivial rfl (fun _ => rfl) (fun _ => rfl) (.inl rfl) (fun _ => rfl) (fun _ => rfl) ?_
   rintro m hw
   try dsimp only at hw
   dsimp only [List.cons_append, List.nil_append]
   refine op_n' (fun ver => j_alloc elt26 rfl) fun v5x1 => ?_
   refine op_s' (j_storea_box0 agg26 rfl rfl rfl rfl rfl rfl) ?_
   refine op_nil ?_
   refine a_seq ?_
   refine a_region (by kernel_rfl) ?_
   refine op_v' (j_loada_box (ys := [.sl _, .sl _]) agg26 rfl rfl rfl (Nat.le_of_ble_eq_true rfl)) ?_
   refine op_n1' (fun ver => j_call1 (v := .own 21 ver) (hp1 := [(21, some (ver, .deep (.mk 34 1 [(0, (.mk 4 1 []))]) _ none))]) [] false [] ent15 (f_fdImpl m) ⟨.inl ⟨rfl, rfl⟩, trivial⟩ trivial rfl rfl rfl (fun h => by cases h) rfl (List.all_eq_true.1 rfl) (.inl rfl) rfl rfl) fun v21x2 => ?_
   refine op_v' (j_assign (evo rfl)) ?_
   refine op_nil ?_
   refine a_seq ?_
   refine a_seq ?_
   refine a_region (by kernel_rfl) ?_
   refine op_v' (j_move (evo rfl)) ?_
   refine op_v' (j_loada_box (ys := [.sl _, .sl _]) agg26 rfl rfl rfl (Nat.le_of_ble_eq_true rfl)) ?_
   refine op_v0' (j_call0 (v := .sl _) (hp1 := []) [] false [] ent17 (f_fdSpec m) ⟨.inl ⟨rfl, rfl⟩, trivial⟩ trivial rfl rfl (fun h => by cases h) rfl (fun _ h => by cases h) (.inl rfl) rfl rfl) ?_
   refine op_v0' (j_call0 (v := .p _) (hp1 := []) [] true [21] ent16 (f_cpRows (fullD m) (fullD m)) ⟨.inr ⟨rfl, view_ownD rfl rfl, rfl⟩, .inl ⟨rfl, rfl⟩, trivial⟩ trivial rfl rfl (fun _ => rfl) rfl (fun _ h => by cases h) (.inr ⟨rfl, by first | exact pl_new1 (fun _ => rfl) | exact pl_newC | (simp [plO, plV, plV.plL]; done)⟩) rfl rfl) ?_
   refine op_v' (j_not rfl) ?_
   refine op_v' (j_move (evo rfl)) ?_
   refine op_split' 27 rfl (fun h3 => ?_) (fun h3 => ?_)
   ·
    have h3r := h3
    try simp only [nq, nr, nl] at h3
    exact absurd h3r (by simp)
   ·
    have h3r := h3
    try simp only [nq, nr, nl] at h3
    refine op_v' (j_want rfl rfl h3r (j_loada_box (ys := [.sl _, .sl _]) agg26 rfl rfl rfl (Nat.le_of_ble_eq_true rfl))) ?_
    refine op_v0' (j_want rfl rfl h3r (j_call0 (v := .p _) (hp1 := []) [] false [] ent18 (f_mvImpl m) ⟨.inl ⟨rfl, rfl⟩, trivial⟩ trivial rfl rfl (fun h => by cases h) rfl (fun _ h => by cases h) (.inl rfl) rfl rfl)) ?_
    refine op_v' (j_want rfl rfl h3r (j_not rfl)) ?_
    refine op_v' (j_pick_f rfl h3r (evo rfl)) ?_
    refine op_nil ?_
    refine a_cond rfl (fun h4 => ?_) (fun h4 => ?_)
    ·
     have h4r := h4
     try simp only [nq, nr, nl] at h4
     refine a_seq ?_
     refine a_region (by kernel_rfl) ?_
     refine op_v' (j_move (evo rfl)) ?_
     refine op_v' (j_loada_box (ys := [.sl _, .sl _]) agg26 rfl rfl rfl (Nat.le_of_ble_eq_true rfl)) ?_
     refine op_v0' (j_call0 (v := .sl _) (hp1 := []) [] false [] ent17 (f_fdSpec m) ⟨.inl ⟨rfl, rfl⟩, trivial⟩ trivial rfl rfl (fun h => by cases h) rfl (fun _ h => by cases h) (.inl rfl) rfl rfl) ?_
     refine op_v0' (j_call0 (v := .p _) (hp1 := []) [] true [21] ent16 (f_cpRows (fullD m) (fullD m)) ⟨.inr ⟨rfl, view_ownD rfl rfl, rfl⟩, .inl ⟨rfl, rfl⟩, trivial⟩ trivial rfl rfl (fun _ => rfl) rfl (fun _ h => by cases h) (.inr ⟨rfl, by first | exact pl_new1 (fun _ => rfl) | exact pl_newC | (simp [plO, plV, plV.plL]; done)⟩) rfl rfl) ?_
     refine op_v' (j_assign (evo rfl)) ?_
     refine op_nil ?_
     refine a_ret ?_
     exact ⟨[.p _], .p _, [], [], [], ⟨rfl, trivial⟩, rfl, rfl, trivial, rfl, rfl, ⟨boolEq (by first | (simp; done) | assumption | (rw [hE]; rfl) | (exfalso; simp_all; done)), rfl, rfl⟩⟩
    ·
     have h4r := h4
     try simp only [nq, nr, nl] at h4
     refine a_skip ?_
     refine a_seq ?_
     have hmk : mOk m = true := by assumption
     have hfs := fullD_sum (m := m)
     have hms := mOk_sz hmk
     have hlf : (fullD m).length = m.1.length := (fits_at (dm_parts (dm_full hmk)).2).1
     refine a_region (by kernel_rfl) ?_
     refine op_v' (j_fldp fld26f0 rfl rfl) ?_
     refine op_v' (j_load_box leaf23 rfl rfl rfl) ?_
     refine op_v' (j_len_map Try.underlying23 rfl) ?_
     refine op_n' (fun ver => j_make (n := m.1.length) slt23 elt3 rfl rfl (by decide) rfl rfl rfl rfl (by first | omega | (simp only [nr, nl]; omega)) (by rw [maxLen_eq]; first | omega | (simp only [nr, nl]; omega))) fun v39x3 => ?_
     refine op_v' (j_assign (evo rfl)) ?_
     refine op_nil ?_
     refine a_seq ?_
     refine a_row 39 (es' := (List.replicate m.1.length (0 : Int)).map dI) rfl (by rw [List.map_replicate]; rfl) ?_
     refine a_region (by kernel_rfl) ?_
     refine op_v' (j_move (evo rfl)) ?_
     refine op_v' (j_len_map Try.underlying22 rfl) ?_
     refine op_v' (j_move (evo rfl)) ?_
     refine op_v' (j_len_deep_map Try.underlying28 rfl rfl) ?_
     refine op_v' (j_rem rfl rfl (by first | omega | (simp only [nr, nl]; omega)) (by first | omega | (simp only [nr, nl]; omega))) ?_
     refine op_v' (j_assign (evo rfl)) ?_
     refine op_nil ?_
     refine a_seq ?_
     refine a_seq ?_
     have hve : ∃ v : Nat, v < (fullD m).length ∧ (b2.length : Int) % (fullD m).length = v := ⟨b2.length % (fullD m).length, Nat.mod_lt _ (by omega), rfl⟩
     obtain ⟨v, hv, hve⟩ := hve
     rw [hve]
     have hA := full_in hmk (zero_cv hmk)
     have hB := full_de hmk
     have hC := full_in hmk (cv_self hmk)
     have hr4 : ((fullD m).getD v default).length ≤ 4 := fits_row hmk (dm_parts (dm_full hmk)).2
     refine a_region (by kernel_rfl) ?_
     refine op_v' (j_loada_box (ys := [.sl _, .sl _]) agg26 rfl rfl rfl (Nat.le_of_ble_eq_true rfl)) ?_
     refine op_v' (j_move (evo rfl)) ?_
     refine op_v' (j_move (evo rfl)) ?_
     refine op_v0' (j_call0 (v := .p _) (hp1 := []) [] true [21, 39] ent19 (f_cellsIn m (fullD m) (List.replicate m.1.length (0 : Int))) ⟨.inl ⟨rfl, rfl⟩, .inr ⟨rfl, view_ownD rfl rfl, rfl⟩, .inr ⟨rfl, view_own rfl rfl, rfl⟩, trivial⟩ trivial rfl rfl (fun _ => rfl) rfl (fun _ h => by cases h) (.inr ⟨rfl, by first | exact pl_new1 (fun _ => rfl) | exact pl_newC | (simp [plO, plV, plV.plL]; done)⟩) rfl rfl) ?_
     refine op_v' (j_not rfl) ?_
     refine op_v' (j_move (evo rfl)) ?_
     refine op_split' 50 rfl (fun h5 => ?_) (fun h5 => ?_)
     ·
      have h5r := h5
      try simp only [nq, nr, nl] at h5
      rw [hA] at h5r; exact absurd h5r (by decide)
     ·
      have h5r := h5
      try simp only [nq, nr, nl] at h5
      refine op_v' (j_want rfl rfl h5r (j_loada_box (ys := [.sl _, .sl _]) agg26 rfl rfl rfl (Nat.le_of_ble_eq_true rfl))) ?_
      refine op_v' (j_want rfl rfl h5r (j_move (evo rfl))) ?_
      refine op_v0' (j_want rfl rfl h5r (j_call0 (v := .p _) (hp1 := []) [] true [21] ent20 (f_deImpl m (fullD m)) ⟨.inl ⟨rfl, rfl⟩, .inr ⟨rfl, view_ownD rfl rfl, rfl⟩, trivial⟩ trivial rfl rfl (fun _ => rfl) rfl (fun _ h => by cases h) (.inr ⟨rfl, by first | exact pl_new1 (fun _ => rfl) | exact pl_newC | (simp [plO, plV, plV.plL]; done)⟩) rfl rfl)) ?_
      refine op_v' (j_pick_f rfl h5r (evo rfl)) ?_
      refine op_v' (j_move (evo rfl)) ?_
      refine op_split' 55 rfl (fun h6 => ?_) (fun h6 => ?_)
      ·
       have h6r := h6
       try simp only [nq, nr, nl] at h6
       rw [hB] at h6r; exact absurd h6r (by decide)
      ·
       have h6r := h6
       try simp only [nq, nr, nl] at h6
       refine op_v' (j_want rfl rfl h6r (j_loada_box (ys := [.sl _, .sl _]) agg26 rfl rfl rfl (Nat.le_of_ble_eq_true rfl))) ?_
       refine op_v' (j_want rfl rfl h6r (j_move (evo rfl))) ?_
       refine op_v' (j_want rfl rfl h6r (j_fldp fld26f0 rfl rfl)) ?_
       refine op_v' (j_want rfl rfl h6r (j_load_box leaf23 rfl rfl rfl)) ?_
       refine op_v0' (j_want rfl rfl h6r (j_call0 (v := .p _) (hp1 := []) [] true [21] ent19 (f_cellsIn m (fullD m) m.1) ⟨.inl ⟨rfl, rfl⟩, .inr ⟨rfl, view_ownD rfl rfl, rfl⟩, .inl ⟨rfl, rfl⟩, trivial⟩ trivial rfl rfl (fun _ => rfl) rfl (fun _ h => by cases h) (.inr ⟨rfl, by first | exact pl_new1 (fun _ => rfl) | exact pl_newC | (simp [plO, plV, plV.plL]; done)⟩) rfl rfl)) ?_
       refine op_v' (j_want rfl rfl h6r (j_not rfl)) ?_
       refine op_v' (j_pick_f rfl h6r (evo rfl)) ?_
       refine op_nil ?_
       refine a_cond rfl (fun h7 => ?_) (fun h7 => ?_)
       ·
        have h7r := h7
        try simp only [nq, nr, nl] at h7
        rw [hC] at h7r; exact absurd h7r (by decide)
       ·
        have h7r := h7
        try simp only [nq, nr, nl] at h7
        refine a_skip ?_
        refine a_seq ?_
        refine a_seq ?_
        refine a_region (by kernel_rfl) ?_
        refine op_v' (j_assign (evo rfl)) ?_
        refine op_nil ?_
        refine a_block ?_
        refine a_loopF' (ι := Nat) (fun j => j ≤ ((fullD m).getD v default).length) (fun j r => (9, .p (.int .i64 ((j : Nat)))) :: r) (fun j r => (21, some (v21x2, .deep (.mk 34 1 [(0, .mk 4 1 [])]) (((fullD m).set v (noneR ((fullD m).getD v default) j)).map dD) none)) :: r) (fun j => ((fullD m).getD v default).length - j) (fun _ _ => rfl) (fun _ _ => rfl) 0 (Nat.zero_le _) ⟨⟨rfl, rfl⟩, ⟨rfl, trivial⟩, ⟨deepEq (by rw [show noneR ((fullD m).getD v default) 0 = ((fullD m).getD v default) from rfl, set_selfL]), trivial⟩, ⟨rfl, rfl⟩, ⟨rfl, rfl⟩⟩ ?_
        intro j hj
        refine a_seq ?_
        refine a_seq ?_
        have hnl := noneR_len (x := ((fullD m).getD v default)) hj
        refine a_region (by kernel_rfl) ?_
        refine op_v' (j_move (evo rfl)) ?_
        refine op_v' (j_move (evo rfl)) ?_
        refine op_v' (j_move (evo rfl)) ?_
        refine op_v' (j_elem_deepN (n := v) slt28 rfl rfl rfl rfl (by omega) (by first | omega | (simp only [nr, nl]; omega))) ?_
        refine op_n1' (fun ver => j_out leaf34 (by decide) rfl rfl rfl (ms_at hv) rfl rfl) fun v67x4 => ?_
        refine op_v' (j_len_own_map Try.underlying34 rfl rfl) ?_
        refine op_v' (j_lt rfl rfl) ?_
        refine op_nil ?_
        refine a_back 21 67 (by decide) rfl rfl rfl rfl (ms_at hv) (ms_set (y := noneR ((fullD m).getD v default) j) rfl) ?_
        refine a_cond rfl (fun h8 => ?_) (fun h8 => ?_)
        ·
         have h8r := h8
         try simp only [nq, nr, nl] at h8
         refine a_skip ?_
         refine a_seq ?_
         refine a_block ?_
         have hnl := noneR_len (x := ((fullD m).getD v default)) hj
         refine a_region (by kernel_rfl) ?_
         refine op_v' (j_move (evo rfl)) ?_
         refine op_v' (j_move (evo rfl)) ?_
         refine op_v' (j_elem_deepN (n := v) slt28 rfl rfl rfl rfl (by omega) (by first | omega | (simp only [nr, nl]; omega))) ?_
         refine op_n1' (fun ver => j_out leaf34 (by decide) rfl rfl rfl (ms_at hv) rfl rfl) fun v75x5 => ?_
         refine op_v' (j_move (evo rfl)) ?_
         refine op_v' (j_elem_ownN slt34 rfl rfl rfl rfl (by first | omega | (simp only [nr, nl]; omega))) ?_
         refine op_s' (j_store_row leaf4 rfl rfl (by first | omega | (simp only [nr, nl]; omega)) (evo rfl) rfl rfl) ?_
         refine op_nil ?_
         refine a_back 21 75 (by decide) rfl rfl rfl rfl (ms_at hv) (ms_set (y := noneR ((fullD m).getD v default) (j + 1)) (congrArg (fun z => [V.sl z]) (noneR_set (by omega)))) ?_
         refine a_region (by kernel_rfl) ?_
         refine op_v' (j_move (evo rfl)) ?_
         refine op_v' (j_add rfl rfl (by first | omega | (simp only [nr, nl]; omega)) (by first | omega | (simp only [nr, nl]; omega))) ?_
         refine op_v' (j_assign (evo rfl)) ?_
         refine op_nil ?_
         exact ⟨j + 1, (by first | omega | (simp only [nr, nl]; omega)), ⟨⟨rfl, rfl⟩, ⟨rfl, trivial⟩, ⟨rfl, trivial⟩, ⟨rfl, rfl⟩, ⟨rfl, rfl⟩⟩, (by first | omega | (simp only [nr, nl]; omega))⟩
        ·
         have h8r := h8
         try simp only [nq, nr, nl] at h8
         refine a_exit ?_
         refine a_seq ?_
         rw [noneR_end (x := ((fullD m).getD v default)) (by omega) (by omega)]
         have hD := none_de hmk hv
         have hE := none_ci (m := m) (c := (List.replicate m.1.length (0 : Int))) hv
         refine a_region (by kernel_rfl) ?_
         refine op_v' (j_loada_box (ys := [.sl _, .sl _]) agg26 rfl rfl rfl (Nat.le_of_ble_eq_true rfl)) ?_
         refine op_v' (j_move (evo rfl)) ?_
         refine op_v0' (j_call0 (v := .p _) (hp1 := []) [] true [21] ent20 (f_deImpl m ((fullD m).set v (List.replicate ((fullD m).getD v default).length false))) ⟨.inl ⟨rfl, rfl⟩, .inr ⟨rfl, view_ownD rfl rfl, rfl⟩, trivial⟩ trivial rfl rfl (fun _ => rfl) rfl (fun _ h => by cases h) (.inr ⟨rfl, by first | exact pl_new1 (fun _ => rfl) | exact pl_newC | (simp [plO, plV, plV.plL]; done)⟩) rfl rfl) ?_
         refine op_v' (j_move (evo rfl)) ?_
         refine op_split' 81 rfl (fun h9 => ?_) (fun h9 => ?_)
         ·
          have h9r := h9
          try simp only [nq, nr, nl] at h9
          refine op_v' (j_want rfl rfl h9r (j_loada_box (ys := [.sl _, .sl _]) agg26 rfl rfl rfl (Nat.le_of_ble_eq_true rfl))) ?_
          refine op_v' (j_want rfl rfl h9r (j_move (evo rfl))) ?_
          refine op_v' (j_want rfl rfl h9r (j_move (evo rfl))) ?_
          refine op_v0' (j_want rfl rfl h9r (j_call0 (v := .p _) (hp1 := []) [] true [21, 39] ent19 (f_cellsIn m ((fullD m).set v (List.replicate ((fullD m).getD v default).length false)) (List.replicate m.1.length (0 : Int))) ⟨.inl ⟨rfl, rfl⟩, .inr ⟨rfl, view_ownD rfl rfl, rfl⟩, .inr ⟨rfl, view_own rfl rfl, rfl⟩, trivial⟩ trivial rfl rfl (fun _ => rfl) rfl (fun _ h => by cases h) (.inr ⟨rfl, by first | exact pl_new1 (fun _ => rfl) | exact pl_newC | (simp [plO, plV, plV.plL]; done)⟩) rfl rfl)) ?_
          refine op_v' (j_want rfl rfl h9r (j_not rfl)) ?_
          refine op_v' (j_pick_t rfl h9r (evo rfl)) ?_
          refine op_v' (j_assign (evo rfl)) ?_
          refine op_nil ?_
          refine a_ret ?_
          exact ⟨[.p _], .p _, [], [], [], ⟨rfl, trivial⟩, rfl, rfl, trivial, rfl, rfl, ⟨boolEq (by first | (simp; done) | assumption | (rw [hE]; rfl) | (exfalso; simp_all; done)), rfl, rfl⟩⟩
         ·
          have h9r := h9
          try simp only [nq, nr, nl] at h9
          rw [hD] at h9r; exact absurd h9r (by decide)


end Go.Ab
