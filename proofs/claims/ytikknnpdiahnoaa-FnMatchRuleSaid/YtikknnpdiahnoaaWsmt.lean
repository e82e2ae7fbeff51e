/- Walks. -/
import Derived.Test.YtikknnpdiahnoaaBase
import Derived.Test.YtikknnpdiahnoaaMt
import Derived.Test.YtikknnpdiahnoaaWsfm
import Derived.Test.YtikknnpdiahnoaaWsdfr
import Derived.Test.YtikknnpdiahnoaaWsflt
import Derived.Test.YtikknnpdiahnoaaWsd8
namespace Go.Ab
open Go.Proofs
set_option maxRecDepth 100000
set_option maxHeartbeats 8000000
set_option linter.unusedSimpArgs false
set_option linter.unusedVariables false
theorem f_mtS (d : List (List Bool)) (vs : List Int) (hv : ∀ k, k < vs.length → 0 ≤ vs.getD k default ∧ vs.getD k default < (d.length : Int)) (hl : vs.length ≤ 1000) (hr : ∀ k, (d.getD k default).length ≤ 1000) (o : List Int) (ho : o.length ≤ vs.length) (IH : o.length < vs.length → ∀ v : Int, Fn Try.prog 68 [.ptr 0 0 0, .ptr 1 0 0, .ptr 2 0 0, .ptr 3 0 0] [.box 23 [.own 4 0], .box 23 [.sl (vs.map dI)], .box 28 [.sl (d.map dD)], .box 79 [.fn 68 [.ptr 0 0 0, .ptr 1 0 0, .ptr 2 0 0, .ptr 3 0 0]], .row 3 1 ((o ++ [v]).map dI)] (fun rr ii nn => rr = .p (.bool ((mtN d vs (vs.length - (o ++ [v]).length) (o ++ [v])).isSome)) ∧ ii = [.box 23 [.own 5 0], .box 23 [.sl (vs.map dI)], .box 28 [.sl (d.map dD)], .box 79 [.fn 68 [.ptr 0 0 0, .ptr 1 0 0, .ptr 2 0 0, .ptr 3 0 0]], .gone] ∧ nn = [.row 3 1 (((mtN d vs (vs.length - (o ++ [v]).length) (o ++ [v])).getD (o ++ [v])).map dI)])) : Fn Try.prog 68 [.ptr 0 0 0, .ptr 1 0 0, .ptr 2 0 0, .ptr 3 0 0] [.box 23 [.own 4 0], .box 23 [.sl (vs.map dI)], .box 28 [.sl (d.map dD)], .box 79 [.fn 68 [.ptr 0 0 0, .ptr 1 0 0, .ptr 2 0 0, .ptr 3 0 0]], .row 3 1 ((o).map dI)] (fun rr ii nn => rr = .p (.bool ((mtN d vs (vs.length - (o).length) (o)).isSome)) ∧ ii = [.box 23 [.own 5 0], .box 23 [.sl (vs.map dI)], .box 28 [.sl (d.map dD)], .box 79 [.fn 68 [.ptr 0 0 0, .ptr 1 0 0, .ptr 2 0 0, .ptr 3 0 0]], .gone] ∧ nn = [.row 3 1 (((mtN d vs (vs.length - (o).length) (o)).getD (o)).map dI)]) := by
 refine fn_of Try.func68 rfl (Nat.le_of_ble_eq_true rfl) fun w X g => ?_
 show AWp _ _ _ ⟨[(0, .ptr 0 0 0), (1, .ptr 1 0 0), (2, .ptr 2 0 0), (3, .ptr 3 0 0)], [(0, some (0, .box 23 [.own 4 0])), (1, some (0, .box 23 [.sl (vs.map dI)])), (2, some (0, .box 28 [.sl (d.map dD)])), (3, some (0, .box 79 [.fn 68 [.ptr 0 0 0, .ptr 1 0 0, .ptr 2 0 0, .ptr 3 0 0]])), (4, some (0, .row 3 1 ((o).map dI)))]⟩
 refine a_mvB (i := 4) 0 0 1004 (by decide) (by decide) rfl rfl rfl rfl fun v1004x1 => ?_
 try dsimp only [List.set]
 refine a_seq ?_
 refine a_region (by kernel_rfl) ?_
 refine op_v' (j_assign (evo rfl)) ?_
 refine op_nil ?_
 refine a_seq ?_
 refine a_seq ?_
 refine a_region (by kernel_rfl) ?_
 refine op_v' (j_load_box leaf23 rfl rfl rfl) ?_
 refine op_v' (j_len_own_map Try.underlying23 rfl rfl) ?_
 refine op_v' (j_load_box leaf23 rfl rfl rfl) ?_
 refine op_v' (j_len_map Try.underlying23 rfl) ?_
 refine op_v' (j_eq rfl rfl) ?_
 refine op_nil ?_
 refine a_cond rfl (fun h1 => ?_) (fun h1 => ?_)
 ·
  have h1r := h1
  try simp only [nq, nr, nl] at h1
  refine a_seq ?_
  refine a_region (by kernel_rfl) ?_
  refine op_v' (j_assign (evo rfl)) ?_
  refine op_nil ?_
  refine a_ret ?_
  exact ⟨[.p _], .p _, [.box 23 [.own 5 0], .box 23 [.sl _], .box 28 [.sl _], .box 79 [.fn 68 [.ptr 0 0 0, .ptr 1 0 0, .ptr 2 0 0, .ptr 3 0 0]], .gone], [.row 3 1 _], [(1004, v1004x1)], ⟨rfl, trivial⟩, rfl, rfl, ⟨⟨rfl, rfl⟩, ⟨rfl, rfl⟩, ⟨rfl, rfl⟩, ⟨rfl, rfl⟩, ⟨rfl, rfl⟩, ⟨rfl, rfl⟩, trivial⟩, rfl, rfl, ⟨boolEq (by rw [show vs.length - o.length = 0 by omega]; rfl), rfl, by rw [show vs.length - o.length = 0 by omega]; rfl⟩⟩
 ·
  have h1r := h1
  try simp only [nq, nr, nl] at h1
  refine a_skip ?_
  refine a_seq ?_
  refine a_seq ?_
  have hvo := hv o.length (by omega)
  have hro := hr (vs.getD o.length default).toNat
  have hT : (mtN d vs (vs.length - (o).length) (o)) = mtR (fun v => mtN d vs (vs.length - o.length - 1) (o ++ [v])) (mtW d vs o.length) o (mtW d vs o.length).length 0 := by rw [show vs.length - o.length = (vs.length - o.length - 1) + 1 by omega]; rfl
  have hwl : (mtW d vs o.length).length = (d.getD (vs.getD o.length default).toNat default).length := rfl
  refine a_draw mixed (by kernel_rfl) (by kernel_rfl) fun vf => ?_
  refine d_v' (j_load_box leaf28 rfl rfl rfl) ?_
  refine d_v' (j_load_box leaf23 rfl rfl rfl) ?_
  refine d_v' (j_load_box leaf23 rfl rfl rfl) ?_
  refine d_v' (j_len_own_map Try.underlying23 rfl rfl) ?_
  refine d_v' (j_elemN slt23 rfl rfl rfl (at_map (by first | omega | (simp only [nr, nl]; omega))) rfl) ?_
  refine d_v' (j_load_el leaf3 rfl (at_map (by first | omega | (simp only [nr, nl]; omega))) rfl) ?_
  refine d_v' (j_elemN (n := (vs.getD o.length default).toNat) slt28 rfl rfl (by omega) (at_map (by first | omega | (simp only [nr, nl]; omega))) rfl) ?_
  refine d_v' (j_load_el leaf34 rfl (at_map (by first | omega | (simp only [nr, nl]; omega))) rfl) ?_
  refine d_v' (j_len_map Try.underlying34 rfl) ?_
  refine d_v' (j_move (evo rfl)) ?_
  refine d_nil (by kernel_rfl) (by kernel_rfl) ?_
  refine a_block ?_
  refine a_loopF' (ι := Nat × Nat) (fun x => x.1 ≤ (mtW d vs o.length).length ∧ mtR (fun v => mtN d vs (vs.length - o.length - 1) (o ++ [v])) (mtW d vs o.length) o ((mtW d vs o.length).length - x.1) x.1 = mtR (fun v => mtN d vs (vs.length - o.length - 1) (o ++ [v])) (mtW d vs o.length) o (mtW d vs o.length).length 0) (fun x r => (21, .p (.int .i64 ((x.1 : Nat)))) :: r) (fun x r => (0, some (0, .box 23 [.own 1004 x.2])) :: (1004, some (x.2, .row 3 1 ((o).map dI))) :: (1, some (0, .box 23 [.sl (vs.map dI)])) :: (2, some (0, .box 28 [.sl (d.map dD)])) :: (3, some (0, .box 79 [.fn 68 [.ptr 0 0 0, .ptr 1 0 0, .ptr 2 0 0, .ptr 3 0 0]])) :: r) (fun x => (mtW d vs o.length).length - x.1) (fun _ _ => rfl) (fun _ _ => rfl) (0, v1004x1) (by first | exact ⟨Nat.zero_le _, rfl⟩ | (dsimp only; exact ⟨Nat.zero_le _, rfl⟩)) ⟨⟨rfl, rfl⟩, ⟨rfl, trivial⟩, ⟨rfl, rfl, rfl, rfl, rfl, trivial⟩, ⟨rfl, rfl⟩, ⟨rfl, rfl⟩⟩ ?_
  rintro ⟨k, v⟩ hk; dsimp only at hk ⊢
  refine a_seq ?_
  refine a_region (by kernel_rfl) ?_
  refine op_v' (j_lt rfl rfl) ?_
  refine op_nil ?_
  refine a_seq ?_
  refine a_cond rfl (fun h2 => ?_) (fun h2 => ?_)
  ·
   have h2r := h2
   try simp only [nq, nr, nl] at h2
   refine a_skip ?_
   refine a_seq ?_
   refine a_block ?_
   refine a_seq ?_
   refine a_region (by kernel_rfl) ?_
   refine op_v' (j_move (evo rfl)) ?_
   refine op_v' (j_elemN slt34 rfl rfl rfl (at_map (by first | omega | (simp only [nr, nl]; omega))) rfl) ?_
   refine op_v' (j_load_el leaf4 rfl (at_map (by first | omega | (simp only [nr, nl]; omega))) rfl) ?_
   refine op_v' (j_assign (evo rfl)) ?_
   refine op_v' (j_assign (evo rfl)) ?_
   refine op_nil ?_
   refine a_seq ?_
   refine a_seq ?_
   refine a_region (by kernel_rfl) ?_
   refine op_v' (j_move (evo rfl)) ?_
   refine op_v' (j_not rfl) ?_
   refine op_v' (j_move (evo rfl)) ?_
   refine op_split' 28 rfl (fun h3 => ?_) (fun h3 => ?_)
   ·
    have h3r := h3
    try simp only [nq, nr, nl] at h3
    refine op_v' (j_unwantV rfl rfl h3r) ?_
    refine op_v' (j_unwantV rfl rfl h3r) ?_
    refine op_v' (j_unwantV rfl rfl h3r) ?_
    refine op_v' (j_pick_t rfl h3r (evo rfl)) ?_
    refine op_nil ?_
    refine a_tt rfl ?_
    refine a_exit ?_
    refine a_region (by kernel_rfl) ?_
    refine op_v' (j_add rfl rfl (by first | omega | (simp only [nr, nl]; omega)) (by first | omega | (simp only [nr, nl]; omega))) ?_
    refine op_v' (j_move (evo rfl)) ?_
    refine op_nil ?_
    exact ⟨(k + 1, v), (by first | exact ⟨by omega, (mtR_skip (by omega) (.inl (by assumption))).symm.trans hk.2⟩ | (dsimp only; exact ⟨by omega, (mtR_skip (by omega) (.inl (by assumption))).symm.trans hk.2⟩)), ⟨⟨rfl, rfl⟩, ⟨rfl, trivial⟩, ⟨rfl, rfl, rfl, rfl, rfl, trivial⟩, ⟨rfl, rfl⟩, ⟨rfl, rfl⟩⟩, (by first | exact (by first | omega | (simp only [nr, nl]; omega)) | (dsimp only; exact (by first | omega | (simp only [nr, nl]; omega))))⟩
   ·
    have h3r := h3
    try simp only [nq, nr, nl] at h3
    refine op_v' (j_want rfl rfl h3r (j_load_box leaf23 rfl rfl rfl)) ?_
    refine op_v' (j_want rfl rfl h3r (j_move (evo rfl))) ?_
    refine op_v0' (j_want rfl rfl h3r (j_call0 (v := .p _) (hp1 := []) [] true [1004] ent69 (f_containsInt o (k : Int)) ⟨.inr ⟨rfl, view_own rfl rfl, rfl⟩, .inl ⟨rfl, rfl⟩, trivial⟩ trivial rfl rfl (fun _ => rfl) rfl (fun _ h => by cases h) (.inr ⟨rfl, by first | exact pl_new1 (fun _ => rfl) | exact pl_newC | (simp [plO, plV, plV.plL]; done)⟩) rfl rfl)) ?_
    refine op_v' (j_pick_f rfl h3r (evo rfl)) ?_
    refine op_nil ?_
    refine a_cond rfl (fun h4 => ?_) (fun h4 => ?_)
    ·
     have h4r := h4
     try simp only [nq, nr, nl] at h4
     refine a_exit ?_
     refine a_region (by kernel_rfl) ?_
     refine op_v' (j_add rfl rfl (by first | omega | (simp only [nr, nl]; omega)) (by first | omega | (simp only [nr, nl]; omega))) ?_
     refine op_v' (j_move (evo rfl)) ?_
     refine op_nil ?_
     exact ⟨(k + 1, v), (by first | exact ⟨by omega, (mtR_skip (by omega) (.inr (by assumption))).symm.trans hk.2⟩ | (dsimp only; exact ⟨by omega, (mtR_skip (by omega) (.inr (by assumption))).symm.trans hk.2⟩)), ⟨⟨rfl, rfl⟩, ⟨rfl, trivial⟩, ⟨rfl, rfl, rfl, rfl, rfl, trivial⟩, ⟨rfl, rfl⟩, ⟨rfl, rfl⟩⟩, (by first | exact (by first | omega | (simp only [nr, nl]; omega)) | (dsimp only; exact (by first | omega | (simp only [nr, nl]; omega))))⟩
    ·
     have h4r := h4
     try simp only [nq, nr, nl] at h4
     refine a_skip ?_
     refine a_seq ?_
     have hkn : (k : Int) ∉ o := by assumption
     have hkr : (mtW d vs o.length).getD k default = true := by assumption
     have IH9 := IH (by omega) (k : Int)
     rw [List.map_append] at IH9
     refine a_region (by kernel_rfl) ?_
     refine op_v' (j_load_box leaf23 rfl rfl rfl) ?_
     refine op_v' (j_move (evo rfl)) ?_
     refine op_n' (fun ver => j_buildSlice (parts := [(0, .tmp 34)]) (es := [[_]]) slt23 elt3 rfl rfl (by decide) (by decide) rfl rfl (by simp) rfl) fun v35x2 => ?_
     refine op_n' (fun ver => j_append_own slt23 elt3 rfl rfl rfl rfl rfl rfl (by rw [maxLen_eq]; first | omega | (simp only [nr, nl]; omega)) (by first | omega | (simp only [nr, nl]; omega))) fun v1004x3 => ?_
     refine op_s' (j_store_box leaf23 rfl rfl (Nat.le_of_ble_eq_true rfl) (evo rfl) rfl) ?_
     refine op_nil ?_
     refine a_seq ?_
     refine a_seq ?_
     refine a_region (by kernel_rfl) ?_
     refine op_v' (j_load_box leaf79 rfl rfl rfl) ?_
     refine op_n1' (fun ver => j_callF1 (v := .p _) (hp1 := [(0, some (0, .box 23 [.own 38 ver])), (1, some (0, .box 23 [.sl _])), (2, some (0, .box 28 [.sl _])), (3, some (0, .box 79 [.fn 68 [.ptr 0 0 0, .ptr 1 0 0, .ptr 2 0 0, .ptr 3 0 0]])), (1004, some (v1004x3, .gone)), (38, some (ver, .row 3 1 _))]) [(0, 0), (1, 0), (2, 0), (3, 0), (1004, v1004x3)] false [0, 1, 2, 3, 1004] rfl ent68 IH9 ⟨.inl ⟨rfl, rfl⟩, .inl ⟨rfl, rfl⟩, .inl ⟨rfl, rfl⟩, .inl ⟨rfl, rfl⟩, trivial⟩ ⟨⟨rfl, rfl⟩, ⟨rfl, rfl⟩, ⟨rfl, rfl⟩, ⟨rfl, rfl⟩, ⟨rfl, rfl⟩, trivial⟩ rfl rfl rfl (fun h => by cases h) rfl (List.all_eq_true.1 rfl) (.inl rfl) rfl rfl) fun v38x4 => ?_
     refine op_nil ?_
     refine a_cond rfl (fun h5 => ?_) (fun h5 => ?_)
     ·
      have h5r := h5
      try simp only [nq, nr, nl] at h5
      refine a_seq ?_
      refine a_region (by kernel_rfl) ?_
      refine op_v' (j_assign (evo rfl)) ?_
      refine op_nil ?_
      refine a_ret ?_
      obtain ⟨rr, hrr⟩ := Option.isSome_iff_exists.1 (show (mtN d vs (vs.length - (o ++ [(k : Int)]).length) (o ++ [(k : Int)])).isSome = true by assumption)
      have hTr : (mtN d vs (vs.length - (o).length) (o)) = some rr := by rw [hT, ← hk.2]; exact mtR_hit (by omega) hkr hkn (by rw [← hrr, List.length_append]; simp only [List.length_cons, List.length_nil]; congr 1)
      exact ⟨[.p _], .p _, [.box 23 [.own 5 0], .box 23 [.sl _], .box 28 [.sl _], .box 79 [.fn 68 [.ptr 0 0 0, .ptr 1 0 0, .ptr 2 0 0, .ptr 3 0 0]], .gone], [.row 3 1 _], [(38, v38x4)], ⟨rfl, trivial⟩, rfl, rfl, ⟨⟨rfl, rfl⟩, ⟨rfl, rfl⟩, ⟨rfl, rfl⟩, ⟨rfl, rfl⟩, ⟨rfl, rfl⟩, ⟨rfl, rfl⟩, trivial⟩, rfl, rfl, ⟨boolEq (by rw [hTr]; rfl), rfl, by rw [hTr, hrr]; rfl⟩⟩
     ·
      have h5r := h5
      try simp only [nq, nr, nl] at h5
      refine a_skip ?_
      have hnn : (mtN d vs (vs.length - (o ++ [(k : Int)]).length) (o ++ [(k : Int)])) = none := by cases h9 : (mtN d vs (vs.length - (o ++ [(k : Int)]).length) (o ++ [(k : Int)])) with | none => rfl | some r => (exfalso; simp_all)
      refine a_row 38 (es' := (o ++ [(k : Int)]).map dI) rfl (by rw [hnn]; rfl) ?_
      refine a_region (by kernel_rfl) ?_
      refine op_v' (j_load_box leaf23 rfl rfl rfl) ?_
      refine op_v' (j_load_box leaf23 rfl rfl rfl) ?_
      refine op_v' (j_len_own_map Try.underlying23 rfl rfl) ?_
      refine op_v' (j_sub rfl rfl (by first | omega | (simp only [nr, nl]; omega)) (by first | omega | (simp only [nr, nl]; omega))) ?_
      refine op_n1' (fun ver => j_cut_ownE (n := o.length) (by decide) slt23 rfl rfl rfl (by first | omega | (simp only [nr, nl]; omega)) (by first | omega | (simp only [nr, nl]; omega)) (by first | omega | (simp only [nr, nl]; omega))) fun v43x5 => ?_
      refine op_s' (j_store_box leaf23 rfl rfl (Nat.le_of_ble_eq_true rfl) (evo rfl) rfl) ?_
      refine op_nil ?_
      refine a_mvB (i := 43) 0 0 1004 (by decide) (by decide) rfl rfl rfl rfl fun v1004x6 => ?_
      try dsimp only [List.set]
      refine a_region (by kernel_rfl) ?_
      refine op_v' (j_add rfl rfl (by first | omega | (simp only [nr, nl]; omega)) (by first | omega | (simp only [nr, nl]; omega))) ?_
      refine op_v' (j_move (evo rfl)) ?_
      refine op_nil ?_
      have hmm := mtR_miss (f := (fun v => mtN d vs (vs.length - o.length - 1) (o ++ [v]))) (row := (mtW d vs o.length)) (o := o) (k := k) (by omega) hkr hkn (show (fun v => mtN d vs (vs.length - o.length - 1) (o ++ [v])) (k : Int) = none by rw [← hnn, List.length_append]; simp only [List.length_cons, List.length_nil]; congr 1)
      exact ⟨(k + 1, v1004x6), (by first | exact ⟨by omega, hmm.symm.trans hk.2⟩ | (dsimp only; exact ⟨by omega, hmm.symm.trans hk.2⟩)), ⟨⟨rfl, rfl⟩, ⟨rfl, trivial⟩, ⟨rfl, rowEq (by rw [← List.map_take]; simp), rfl, rfl, rfl, trivial⟩, ⟨rfl, rfl⟩, ⟨rfl, rfl⟩⟩, (by first | exact (by first | omega | (simp only [nr, nl]; omega)) | (dsimp only; exact (by first | omega | (simp only [nr, nl]; omega))))⟩
  ·
   have h2r := h2
   try simp only [nq, nr, nl] at h2
   refine a_exit ?_
   refine a_seq ?_
   refine a_region (by kernel_rfl) ?_
   refine op_v' (j_assign (evo rfl)) ?_
   refine op_nil ?_
   refine a_ret ?_
   have hTn : (mtN d vs (vs.length - (o).length) (o)) = none := by rw [hT, ← hk.2]; exact mtR_end (by omega)
   exact ⟨[.p _], .p _, [.box 23 [.own 5 0], .box 23 [.sl _], .box 28 [.sl _], .box 79 [.fn 68 [.ptr 0 0 0, .ptr 1 0 0, .ptr 2 0 0, .ptr 3 0 0]], .gone], [.row 3 1 _], [(1004, v)], ⟨rfl, trivial⟩, rfl, rfl, ⟨⟨rfl, rfl⟩, ⟨rfl, rfl⟩, ⟨rfl, rfl⟩, ⟨rfl, rfl⟩, ⟨rfl, rfl⟩, ⟨rfl, rfl⟩, trivial⟩, rfl, rfl, ⟨boolEq (by rw [hTn]; rfl), rfl, by rw [hTn]; rfl⟩⟩


theorem f_mt1 (d : List (List Bool)) (vs : List Int) (hv : ∀ k, k < vs.length → 0 ≤ vs.getD k default ∧ vs.getD k default < (d.length : Int)) (hl : vs.length ≤ 1000) (hr : ∀ k, (d.getD k default).length ≤ 1000) : ∀ (n : Nat) (o : List Int), o.length + n = vs.length → Fn Try.prog 68 [.ptr 0 0 0, .ptr 1 0 0, .ptr 2 0 0, .ptr 3 0 0] [.box 23 [.own 4 0], .box 23 [.sl (vs.map dI)], .box 28 [.sl (d.map dD)], .box 79 [.fn 68 [.ptr 0 0 0, .ptr 1 0 0, .ptr 2 0 0, .ptr 3 0 0]], .row 3 1 ((o).map dI)] (fun rr ii nn => rr = .p (.bool ((mtN d vs (vs.length - (o).length) (o)).isSome)) ∧ ii = [.box 23 [.own 5 0], .box 23 [.sl (vs.map dI)], .box 28 [.sl (d.map dD)], .box 79 [.fn 68 [.ptr 0 0 0, .ptr 1 0 0, .ptr 2 0 0, .ptr 3 0 0]], .gone] ∧ nn = [.row 3 1 (((mtN d vs (vs.length - (o).length) (o)).getD (o)).map dI)]) := by
 intro n
 induction n with
 | zero => intro o h; exact f_mtS d vs hv hl hr o (by omega) (fun q => absurd q (by omega))
 | succ n ih => intro o h; exact f_mtS d vs hv hl hr o (by omega) (fun _ v => ih (o ++ [v]) (by simp; omega))

theorem f_mrImpl (m : Md) (i : Int) (d : List (List Bool)) (hw : wRS m.2 ≤ 1048576) : Fn Try.prog 22 [.agg [.sl (m.1.map dI), .sl (m.2.map dR)], .p (.int .i64 (i)), .sl (d.map dD)] [] (fun rr ii nn => rr = .tup [.sl (((mrV m i d).getD []).map dI), .p (.bool (mrV m i d).isSome)] ∧ ii = [] ∧ nn = []) := by
 refine fn_of Try.func22 rfl (Nat.le_of_ble_eq_true rfl) fun w X g => ?_
 show AWp _ _ _ ⟨[(0, .agg [.sl (m.1.map dI), .sl (m.2.map dR)]), (1, .p (.int .i64 (i))), (2, .sl (d.map dD))], []⟩
 refine a_len_rule 0 rfl fun hlr => ?_
 refine a_seq ?_
 refine a_region (by kernel_rfl) ?_
 refine op_n' (fun ver => j_boxa rfl) fun v3x1 => ?_
 refine op_n' (fun ver => j_box (evo rfl) rfl) fun v5x2 => ?_
 refine op_v' (j_assign (evo rfl)) ?_
 refine op_v' (j_assign (evo rfl)) ?_
 refine op_nil ?_
 refine a_seq ?_
 refine a_seq ?_
 refine a_region (by kernel_rfl) ?_
 refine op_v' (j_loada_box (ys := [.sl _, .sl _]) agg26 rfl rfl rfl (Nat.le_of_ble_eq_true rfl)) ?_
 refine op_v' (j_load_box leaf28 rfl rfl rfl) ?_
 refine op_v0' (j_call0 (v := .p _) (hp1 := []) [] false [] ent25 (f_dvImpl m d) ⟨.inl ⟨rfl, rfl⟩, .inl ⟨rfl, rfl⟩, trivial⟩ trivial rfl rfl (fun h => by cases h) rfl (fun _ h => by cases h) (.inl rfl) rfl rfl) ?_
 refine op_v' (j_not rfl) ?_
 refine op_v' (j_move (evo rfl)) ?_
 refine op_split' 15 rfl (fun h1 => ?_) (fun h1 => ?_)
 ·
  have h1r := h1
  try simp only [nq, nr] at h1
  refine op_v' (j_unwantV rfl rfl h1r) ?_
  refine op_v' (j_unwantV rfl rfl h1r) ?_
  refine op_v' (j_unwantV rfl rfl h1r) ?_
  refine op_v' (j_unwantV rfl rfl h1r) ?_
  refine op_v' (j_pick_t rfl h1r (evo rfl)) ?_
  refine op_nil ?_
  refine a_tt rfl ?_
  refine a_seq ?_
  refine a_region (by kernel_rfl) ?_
  refine op_v' (j_assign (evo rfl)) ?_
  refine op_v' (j_assign (evo rfl)) ?_
  refine op_nil ?_
  refine a_nil 6 rfl ?_
  refine a_ret ?_
  exact ⟨[.sl _, .p _], .tup [.sl _, .p _], [], [], [], ⟨rfl, rfl, trivial⟩, rfl, rfl, trivial, rfl, rfl, ⟨by have hb : mrV m i d = none := mr_bad (frOk_no (by first | exact .inl (by assumption) | exact .inr (by omega))); rw [hb]; rfl, rfl, rfl⟩⟩
 ·
  have h1r := h1
  try simp only [nq, nr] at h1
  refine op_v' (j_want rfl rfl h1r (j_loada_box (ys := [.sl _, .sl _]) agg26 rfl rfl rfl (Nat.le_of_ble_eq_true rfl))) ?_
  refine op_v' (j_want rfl rfl h1r (j_move (evo rfl))) ?_
  refine op_v0' (j_want rfl rfl h1r (j_call0 (v := .p _) (hp1 := []) [] false [] ent67 (f_isRule m i) ⟨.inl ⟨rfl, rfl⟩, .inl ⟨rfl, rfl⟩, trivial⟩ trivial rfl rfl (fun h => by cases h) rfl (fun _ h => by cases h) (.inl rfl) rfl rfl)) ?_
  refine op_v' (j_want rfl rfl h1r (j_not rfl)) ?_
  refine op_v' (j_pick_f rfl h1r (evo rfl)) ?_
  refine op_nil ?_
  refine a_cond rfl (fun h2 => ?_) (fun h2 => ?_)
  ·
   have h2r := h2
   try simp only [nq, nr] at h2
   refine a_seq ?_
   refine a_region (by kernel_rfl) ?_
   refine op_v' (j_assign (evo rfl)) ?_
   refine op_v' (j_assign (evo rfl)) ?_
   refine op_nil ?_
   refine a_nil 6 rfl ?_
   refine a_ret ?_
   exact ⟨[.sl _, .p _], .tup [.sl _, .p _], [], [], [], ⟨rfl, rfl, trivial⟩, rfl, rfl, trivial, rfl, rfl, ⟨by have hb : mrV m i d = none := mr_bad (frOk_no (by first | exact .inl (by assumption) | exact .inr (by omega))); rw [hb]; rfl, rfl, rfl⟩⟩
  ·
   have h2r := h2
   try simp only [nq, nr] at h2
   refine a_skip ?_
   refine a_seq ?_
   have hok : frOk m i d = true := frOk_yes (by assumption) (by omega)
   have hdp := dm_parts (fr_parts hok).1
   have hqr := mOk_rule hdp.1 (k := i.toNat) (by omega)
   have hv : ∀ k, k < (vsM m i).length → 0 ≤ (vsM m i).getD k default ∧ (vsM m i).getD k default < (d.length : Int) := fun k hk => by have h9 := rOk_vs hqr k hk; have h8 := (fits_at hdp.2).1; exact ⟨h9.1, Int.lt_of_lt_of_le h9.2 (by omega)⟩
   have hfs := fits_sum hdp.1 hdp.2
   have hrw := rows_le hdp.1 hdp.2
   have hl5 : (vsM m i).length ≤ 5 := rOk_len hqr (fits_at hdp.2).1 (by omega)
   have hmr := mr_ok hok
   refine a_region (by kernel_rfl) ?_
   refine op_v' (j_fldp fld26f1 rfl rfl) ?_
   refine op_v' (j_load_box leaf24 rfl rfl rfl) ?_
   refine op_v' (j_move (evo rfl)) ?_
   refine op_v' (j_elemN (n := i.toNat) slt24 rfl rfl (by omega) (at_map (by first | omega | (simp only [nr]; omega))) rfl) ?_
   refine op_v' (j_fldel fld43f1 rfl) ?_
   refine op_v' (j_load_el leaf23 rfl (at_map (by first | omega | (simp only [nr]; omega))) rfl) ?_
   refine op_n' (fun ver => j_alloc elt23 rfl) fun v8x3 => ?_
   refine op_s' (j_store_box leaf23 rfl rfl (Nat.le_of_ble_eq_true rfl) (evo rfl) rfl) ?_
   refine op_nil ?_
   refine a_seq ?_
   refine a_region (by kernel_rfl) ?_
   refine op_n' (fun ver => j_alloc elt23 rfl) fun v9x4 => ?_
   refine op_nil ?_
   refine a_adopt_box' 0 1009 3 1 (by decide) (id := 9) rfl rfl fun v1009x5 => ?_
   refine a_seq ?_
   refine a_region (by kernel_rfl) ?_
   refine op_n' (fun ver => j_alloc elt79 rfl) fun v10x6 => ?_
   refine op_nil ?_
   refine a_seq ?_
   refine a_region (by kernel_rfl) ?_
   refine op_v' (j_makeFunc (f := 68) (xs := [.tmp 9, .tmp 8, .tmp 5, .tmp 10]) (caps := [.ptr 9 v9x4 0, .ptr 8 v8x3 0, .ptr 5 v5x2 0, .ptr 10 v10x6 0]) rfl) ?_
   refine op_s' (j_store_box leaf79 rfl rfl (Nat.le_of_ble_eq_true rfl) (evo rfl) rfl) ?_
   refine op_nil ?_
   refine a_seq ?_
   refine a_seq ?_
   refine a_region (by kernel_rfl) ?_
   refine op_v' (j_load_box leaf79 rfl rfl rfl) ?_
   refine op_n1' (fun ver => j_callF1 (v := .p _) (hp1 := [(9, some (v9x4, .box 23 [.own 29 ver])), (8, some (v8x3, .box 23 [.sl _])), (5, some (v5x2, .box 28 [.sl _])), (10, some (v10x6, .box 79 [.fn 68 [.ptr 9 v9x4 0, .ptr 8 v8x3 0, .ptr 5 v5x2 0, .ptr 10 v10x6 0]])), (1009, some (v1009x5, .gone)), (29, some (ver, .row 3 1 _))]) [(9, v9x4), (8, v8x3), (5, v5x2), (10, v10x6), (1009, v1009x5)] false [9, 8, 5, 10, 1009] rfl ent68 (f_mt1 d (vsM m i) hv (by omega) hrw (vsM m i).length [] (by simp)) ⟨.inl ⟨rfl, rfl⟩, .inl ⟨rfl, rfl⟩, .inl ⟨rfl, rfl⟩, .inl ⟨rfl, rfl⟩, trivial⟩ ⟨⟨rfl, rfl⟩, ⟨rfl, rfl⟩, ⟨rfl, rfl⟩, ⟨rfl, rfl⟩, ⟨rfl, rfl⟩, trivial⟩ rfl rfl rfl (fun h => by cases h) rfl (List.all_eq_true.1 rfl) (.inl rfl) rfl rfl) fun v29x7 => ?_
   refine op_v' (j_not rfl) ?_
   refine op_nil ?_
   refine a_cond rfl (fun h3 => ?_) (fun h3 => ?_)
   ·
    have h3r := h3
    try simp only [nq, nr] at h3
    refine a_seq ?_
    refine a_region (by kernel_rfl) ?_
    refine op_v' (j_assign (evo rfl)) ?_
    refine op_v' (j_assign (evo rfl)) ?_
    refine op_nil ?_
    refine a_nil 6 rfl ?_
    refine a_ret ?_
    have hb : mrV m i d = none := by rw [hmr]; cases h9 : mtN d (vsM m i) (vsM m i).length [] with | none => rfl | some r => (exfalso; simp_all)
    exact ⟨[.sl _, .p _], .tup [.sl _, .p _], [], [], [], ⟨rfl, rfl, trivial⟩, rfl, rfl, trivial, rfl, rfl, ⟨by rw [hb]; rfl, rfl, rfl⟩⟩
   ·
    have h3r := h3
    try simp only [nq, nr] at h3
    refine a_skip ?_
    refine a_seq ?_
    refine a_region (by kernel_rfl) ?_
    refine op_v' (j_load_box leaf23 rfl rfl rfl) ?_
    refine op_v' (j_assign (evo rfl)) ?_
    refine op_v' (j_assign (evo rfl)) ?_
    refine op_nil ?_
    refine a_freeze' 6 (noA _ _ _ _ _) rfl rfl ?_
    refine a_ret ?_
    obtain ⟨rr, hrr⟩ := Option.isSome_iff_exists.1 (show (mtN d (vsM m i) ((vsM m i).length - ([] : List Int).length) []).isSome = true by assumption)
    have hb : mrV m i d = some rr := by rw [hmr]; exact hrr
    exact ⟨[.sl _, .p _], .tup [.sl _, .p _], [], [], [], ⟨rfl, rfl, trivial⟩, rfl, rfl, trivial, rfl, rfl, ⟨by rw [hb, hrr]; rfl, rfl, rfl⟩⟩


theorem f_l8mS (d : List (List Bool)) (vs : List Int) (hv : ∀ k, k < vs.length → 0 ≤ vs.getD k default ∧ vs.getD k default < (d.length : Int)) (hl : vs.length ≤ 1000) (hr : ∀ k, (d.getD k default).length ≤ 1000) (o y : List Int) (ho : o.length ≤ vs.length) (hy : y.length = vs.length) (hyo : y.take o.length = o) (IH : o.length < vs.length → ∀ (v : Int) (z : List Int), z.length = vs.length → z.take (o ++ [v]).length = o ++ [v] → Fn Try.prog 71 [.sl (d.map dD), .sl (vs.map dI), .p (.int .i64 ((o ++ [v]).length : Nat)), .own 0 0] [.row 3 1 ((z).map dI)] (fun rr ii nn => ∃ x : List Int, (x.length = vs.length ∧ x.take (o ++ [v]).length = o ++ [v] ∧ (∀ r, (mtN d vs (vs.length - (o ++ [v]).length) (o ++ [v])) = some r → x = r)) ∧ rr = .p (.bool ((mtN d vs (vs.length - (o ++ [v]).length) (o ++ [v])).isSome)) ∧ ii = [.row 3 1 ((x).map dI)] ∧ nn = [])) : Fn Try.prog 71 [.sl (d.map dD), .sl (vs.map dI), .p (.int .i64 (o.length : Nat)), .own 0 0] [.row 3 1 ((y).map dI)] (fun rr ii nn => ∃ x : List Int, (x.length = vs.length ∧ x.take (o).length = o ∧ (∀ r, (mtN d vs (vs.length - (o).length) (o)) = some r → x = r)) ∧ rr = .p (.bool ((mtN d vs (vs.length - (o).length) (o)).isSome)) ∧ ii = [.row 3 1 ((x).map dI)] ∧ nn = []) := by
 refine fn_of Try.func71 rfl (Nat.le_of_ble_eq_true rfl) fun w X g => ?_
 show AWp _ _ _ ⟨[(0, .sl (d.map dD)), (1, .sl (vs.map dI)), (2, .p (.int .i64 (o.length : Nat))), (3, .own 0 0)], [(0, some (0, .row 3 1 ((y).map dI)))]⟩
 refine a_seq ?_
 refine a_region (by kernel_rfl) ?_
 refine op_v' (j_assign (evo rfl)) ?_
 refine op_nil ?_
 refine a_seq ?_
 refine a_seq ?_
 refine a_region (by kernel_rfl) ?_
 refine op_v' (j_move (evo rfl)) ?_
 refine op_v' (j_move (evo rfl)) ?_
 refine op_v' (j_len_map Try.underlying23 rfl) ?_
 refine op_v' (j_eq rfl rfl) ?_
 refine op_nil ?_
 refine a_cond rfl (fun h1 => ?_) (fun h1 => ?_)
 ·
  have h1r := h1
  try simp only [nq, nr, nl] at h1
  refine a_seq ?_
  refine a_region (by kernel_rfl) ?_
  refine op_v' (j_assign (evo rfl)) ?_
  refine op_nil ?_
  refine a_ret ?_
  exact ⟨[.p _], .p _, [.row 3 1 _], [], [], ⟨rfl, trivial⟩, rfl, rfl, ⟨⟨rfl, rfl⟩, trivial⟩, rfl, rfl, ⟨y, ⟨hy, hyo, by rw [show vs.length - o.length = 0 by omega]; intro r hrq; obtain rfl := Option.some.inj hrq; rw [← hyo, List.take_of_length_le (by omega)]⟩, boolEq (by rw [show vs.length - o.length = 0 by omega]; rfl), rfl, rfl⟩⟩
 ·
  have h1r := h1
  try simp only [nq, nr, nl] at h1
  refine a_skip ?_
  refine a_seq ?_
  refine a_seq ?_
  refine a_region (by kernel_rfl) ?_
  refine op_v' (j_assign (evo rfl)) ?_
  refine op_nil ?_
  refine a_block ?_
  refine a_loopF' (ι := Nat × List Int) (fun x => x.1 ≤ (mtW d vs o.length).length ∧ x.2.length = vs.length ∧ x.2.take o.length = o ∧ mtR (fun v => mtN d vs (vs.length - o.length - 1) (o ++ [v])) (mtW d vs o.length) o ((mtW d vs o.length).length - x.1) x.1 = mtR (fun v => mtN d vs (vs.length - o.length - 1) (o ++ [v])) (mtW d vs o.length) o (mtW d vs o.length).length 0) (fun x r => (9, .p (.int .i64 ((x.1 : Nat)))) :: r) (fun x r => (0, some (0, .row 3 1 ((x.2).map dI))) :: r) (fun x => (mtW d vs o.length).length - x.1) (fun _ _ => rfl) (fun _ _ => rfl) (0, y) (by first | exact ⟨Nat.zero_le _, hy, hyo, rfl⟩ | (dsimp only; exact ⟨Nat.zero_le _, hy, hyo, rfl⟩)) ⟨⟨rfl, rfl⟩, ⟨rfl, trivial⟩, ⟨rfl, trivial⟩, ⟨rfl, rfl⟩, ⟨rfl, rfl⟩⟩ ?_
  rintro ⟨k, z⟩ hk; dsimp only at hk ⊢
  refine a_seq ?_
  refine a_seq ?_
  have hvo := hv o.length (by omega)
  have hro := hr (vs.getD o.length default).toNat
  have hT : (mtN d vs (vs.length - (o).length) (o)) = mtR (fun v => mtN d vs (vs.length - o.length - 1) (o ++ [v])) (mtW d vs o.length) o (mtW d vs o.length).length 0 := by rw [show vs.length - o.length = (vs.length - o.length - 1) + 1 by omega]; rfl
  have hwl : (mtW d vs o.length).length = (d.getD (vs.getD o.length default).toNat default).length := rfl
  have hkl := hk.2.1
  refine a_region (by kernel_rfl) ?_
  refine op_v' (j_move (evo rfl)) ?_
  refine op_v' (j_move (evo rfl)) ?_
  refine op_v' (j_move (evo rfl)) ?_
  refine op_v' (j_move (evo rfl)) ?_
  refine op_v' (j_elemN slt23 rfl rfl rfl (at_map (by first | omega | (simp only [nr, nl]; omega))) rfl) ?_
  refine op_v' (j_load_el leaf3 rfl (at_map (by first | omega | (simp only [nr, nl]; omega))) rfl) ?_
  refine op_v' (j_elemN (n := (vs.getD o.length default).toNat) slt28 rfl rfl (by omega) (at_map (by first | omega | (simp only [nr, nl]; omega))) rfl) ?_
  refine op_v' (j_load_el leaf34 rfl (at_map (by first | omega | (simp only [nr, nl]; omega))) rfl) ?_
  refine op_v' (j_len_map Try.underlying34 rfl) ?_
  refine op_v' (j_lt rfl rfl) ?_
  refine op_nil ?_
  refine a_cond rfl (fun h2 => ?_) (fun h2 => ?_)
  ·
   have h2r := h2
   try simp only [nq, nr, nl] at h2
   refine a_skip ?_
   refine a_seq ?_
   refine a_block ?_
   refine a_seq ?_
   refine a_region (by kernel_rfl) ?_
   refine op_v' (j_move (evo rfl)) ?_
   refine op_v' (j_move (evo rfl)) ?_
   refine op_v' (j_move (evo rfl)) ?_
   refine op_v' (j_elemN slt23 rfl rfl rfl (at_map (by first | omega | (simp only [nr, nl]; omega))) rfl) ?_
   refine op_v' (j_load_el leaf3 rfl (at_map (by first | omega | (simp only [nr, nl]; omega))) rfl) ?_
   refine op_v' (j_elemN (n := (vs.getD o.length default).toNat) slt28 rfl rfl (by omega) (at_map (by first | omega | (simp only [nr, nl]; omega))) rfl) ?_
   refine op_v' (j_load_el leaf34 rfl (at_map (by first | omega | (simp only [nr, nl]; omega))) rfl) ?_
   refine op_v' (j_move (evo rfl)) ?_
   refine op_v' (j_elemN slt34 rfl rfl rfl (at_map (by first | omega | (simp only [nr, nl]; omega))) rfl) ?_
   refine op_v' (j_load_el leaf4 rfl (at_map (by first | omega | (simp only [nr, nl]; omega))) rfl) ?_
   refine op_v' (j_assign (evo rfl)) ?_
   refine op_nil ?_
   refine a_seq ?_
   refine a_seq ?_
   refine a_region (by kernel_rfl) ?_
   refine op_v' (j_assign (evo rfl)) ?_
   refine op_nil ?_
   refine a_block ?_
   refine a_loopF' (ι := Nat) (fun j => j ≤ o.length) (fun j r => (11, .p (.int .i64 ((j : Nat)))) :: (10, .p (.bool (((mtW d vs o.length).getD k default && !decide ((k : Int) ∈ z.take j))))) :: r) (fun j r => r) (fun j => o.length - j) (fun _ _ => rfl) (fun _ _ => rfl) 0 (Nat.zero_le _) ⟨⟨rfl, rfl⟩, ⟨rfl, boolEq (by simp; rfl), trivial⟩, trivial, ⟨rfl, rfl⟩, ⟨rfl, rfl⟩⟩ ?_
   intro j hj
   refine a_seq ?_
   refine a_seq ?_
   refine a_region (by kernel_rfl) ?_
   refine op_v' (j_move (evo rfl)) ?_
   refine op_v' (j_move (evo rfl)) ?_
   refine op_v' (j_lt rfl rfl) ?_
   refine op_nil ?_
   refine a_cond rfl (fun h3 => ?_) (fun h3 => ?_)
   ·
    have h3r := h3
    try simp only [nq, nr, nl] at h3
    refine a_skip ?_
    refine a_seq ?_
    refine a_block ?_
    refine a_region (by kernel_rfl) ?_
    refine op_v' (j_move (evo rfl)) ?_
    refine op_v' (j_move (evo rfl)) ?_
    refine op_split' 44 rfl (fun h4 => ?_) (fun h4 => ?_)
    ·
     have h4r := h4
     try simp only [nq, nr, nl] at h4
     refine op_v' (j_want rfl rfl h4r (j_move (evo rfl))) ?_
     refine op_v' (j_want rfl rfl h4r (j_move (evo rfl))) ?_
     refine op_v' (j_want rfl rfl h4r (j_elem_ownN slt23 rfl rfl rfl rfl (by first | omega | (simp only [nr, nl]; omega)))) ?_
     refine op_v' (j_want rfl rfl h4r (j_load_pel leaf3 rfl rfl (at_map (by first | omega | (simp only [nr, nl]; omega))) rfl)) ?_
     refine op_v' (j_want rfl rfl h4r (j_move (evo rfl))) ?_
     refine op_v' (j_want rfl rfl h4r (j_ne rfl rfl)) ?_
     refine op_v' (j_pick_t rfl h4r (evo rfl)) ?_
     refine op_v' (j_assign (evo rfl)) ?_
     refine op_nil ?_
     refine a_region (by kernel_rfl) ?_
     refine op_v' (j_move (evo rfl)) ?_
     refine op_v' (j_add rfl rfl (by first | omega | (simp only [nr, nl]; omega)) (by first | omega | (simp only [nr, nl]; omega))) ?_
     refine op_v' (j_assign (evo rfl)) ?_
     refine op_nil ?_
     exact ⟨j + 1, (by first | omega | (simp only [nr, nl]; omega)), ⟨⟨rfl, rfl⟩, ⟨rfl, boolEq (by rw [notin_next (by omega)]; simp_all), trivial⟩, trivial, ⟨rfl, rfl⟩, ⟨rfl, rfl⟩⟩, (by first | omega | (simp only [nr, nl]; omega))⟩
    ·
     have h4r := h4
     try simp only [nq, nr, nl] at h4
     refine op_v' (j_unwantV rfl rfl h4r) ?_
     refine op_v' (j_unwantV rfl rfl h4r) ?_
     refine op_v' (j_unwantV rfl rfl h4r) ?_
     refine op_v' (j_unwantV rfl rfl h4r) ?_
     refine op_v' (j_unwantV rfl rfl h4r) ?_
     refine op_v' (j_unwantV rfl rfl h4r) ?_
     refine op_v' (j_pick_f rfl h4r (evo rfl)) ?_
     refine op_v' (j_assign (evo rfl)) ?_
     refine op_nil ?_
     refine a_region (by kernel_rfl) ?_
     refine op_v' (j_move (evo rfl)) ?_
     refine op_v' (j_add rfl rfl (by first | omega | (simp only [nr, nl]; omega)) (by first | omega | (simp only [nr, nl]; omega))) ?_
     refine op_v' (j_assign (evo rfl)) ?_
     refine op_nil ?_
     exact ⟨j + 1, (by first | omega | (simp only [nr, nl]; omega)), ⟨⟨rfl, rfl⟩, ⟨rfl, boolEq (by rw [notin_next (by omega)]; simp_all), trivial⟩, trivial, ⟨rfl, rfl⟩, ⟨rfl, rfl⟩⟩, (by first | omega | (simp only [nr, nl]; omega))⟩
   ·
    have h3r := h3
    try simp only [nq, nr, nl] at h3
    refine a_exit ?_
    refine a_seq ?_
    obtain rfl : j = o.length := by omega
    rw [hk.2.2.1]
    refine a_region (by kernel_rfl) ?_
    refine op_v' (j_move (evo rfl)) ?_
    refine op_nil ?_
    refine a_cond rfl (fun h5 => ?_) (fun h5 => ?_)
    ·
     have h5r := h5
     try simp only [nq, nr, nl] at h5
     refine a_seq ?_
     have hkn : (k : Int) ∉ o := by simp_all
     have hkr : (mtW d vs o.length).getD k default = true := by simp_all
     refine a_region (by kernel_rfl) ?_
     refine op_v' (j_move (evo rfl)) ?_
     refine op_v' (j_move (evo rfl)) ?_
     refine op_v' (j_move (evo rfl)) ?_
     refine op_v' (j_elem_ownN slt23 rfl rfl rfl rfl (by first | omega | (simp only [nr, nl]; omega))) ?_
     refine op_s' (j_store_row leaf3 rfl rfl (by first | omega | (simp only [nr, nl]; omega)) (evo rfl) rfl rfl) ?_
     refine op_nil ?_
     refine a_seq ?_
     refine a_row 0 (es' := (z.set o.length (k : Int)).map dI) rfl (List.map_set ..).symm ?_
     have htk : (z.set o.length (k : Int)).take (o ++ [(k : Int)]).length = o ++ [(k : Int)] := set_take hk.2.2.1 (by omega)
     have IH9 := IH (by omega) (k : Int) (z.set o.length (k : Int)) (by rw [List.length_set]; exact hk.2.1) htk
     rw [show (((o ++ [(k : Int)]).length : Nat) : Int) = o.length + 1 by simp] at IH9
     refine a_region (by kernel_rfl) ?_
     refine op_v' (j_move (evo rfl)) ?_
     refine op_v' (j_move (evo rfl)) ?_
     refine op_v' (j_move (evo rfl)) ?_
     refine op_v' (j_add rfl rfl (by first | omega | (simp only [nr, nl]; omega)) (by first | omega | (simp only [nr, nl]; omega))) ?_
     refine op_v' (j_move (evo rfl)) ?_
     refine op_callE (v := fun x => .p _) (hp1 := fun x => [(0, some (0, .row 3 1 _))]) [(0, 0)] false ent71 IH9 ⟨.inl ⟨rfl, rfl⟩, .inl ⟨rfl, rfl⟩, .inl ⟨rfl, rfl⟩, .inl ⟨rfl, rfl⟩, trivial⟩ ⟨⟨rfl, rfl⟩, trivial⟩ rfl (fun _ => rfl) (fun _ => rfl) (.inl rfl) (fun _ => rfl) (fun _ => rfl) ?_
     rintro z62 ⟨ha62, hb62, hc62⟩
     try dsimp only at ha62
     try dsimp only at hb62
     try dsimp only at hc62
     dsimp only [List.cons_append, List.nil_append]
     refine op_nil ?_
     refine a_cond rfl (fun h6 => ?_) (fun h6 => ?_)
     ·
      have h6r := h6
      try simp only [nq, nr, nl] at h6
      refine a_seq ?_
      refine a_region (by kernel_rfl) ?_
      refine op_v' (j_assign (evo rfl)) ?_
      refine op_nil ?_
      refine a_ret ?_
      obtain ⟨rr, hrr⟩ := Option.isSome_iff_exists.1 (show (mtN d vs (vs.length - (o ++ [(k : Int)]).length) (o ++ [(k : Int)])).isSome = true by assumption)
      have hTr : (mtN d vs (vs.length - (o).length) (o)) = some rr := by rw [hT, ← hk.2.2.2]; exact mtR_hit (by omega) hkr hkn (by rw [← hrr, List.length_append]; simp only [List.length_cons, List.length_nil]; congr 1)
      exact ⟨[.p _], .p _, [.row 3 1 _], [], [], ⟨rfl, trivial⟩, rfl, rfl, ⟨⟨rfl, rfl⟩, trivial⟩, rfl, rfl, ⟨z62, ⟨ha62, take_app hb62, by rw [hTr]; intro r hrq; obtain rfl := Option.some.inj hrq; exact hc62 _ hrr⟩, boolEq (by rw [hTr]; rfl), rfl, rfl⟩⟩
     ·
      have h6r := h6
      try simp only [nq, nr, nl] at h6
      refine a_skip ?_
      refine a_region (by kernel_rfl) ?_
      refine op_v' (j_move (evo rfl)) ?_
      refine op_v' (j_add rfl rfl (by first | omega | (simp only [nr, nl]; omega)) (by first | omega | (simp only [nr, nl]; omega))) ?_
      refine op_v' (j_assign (evo rfl)) ?_
      refine op_nil ?_
      have hnn : (mtN d vs (vs.length - (o ++ [(k : Int)]).length) (o ++ [(k : Int)])) = none := by cases h9 : (mtN d vs (vs.length - (o ++ [(k : Int)]).length) (o ++ [(k : Int)])) with | none => rfl | some r => (exfalso; simp_all)
      have hmm := mtR_miss (f := (fun v => mtN d vs (vs.length - o.length - 1) (o ++ [v]))) (row := (mtW d vs o.length)) (o := o) (k := k) (by omega) hkr hkn (show (fun v => mtN d vs (vs.length - o.length - 1) (o ++ [v])) (k : Int) = none by rw [← hnn, List.length_append]; simp only [List.length_cons, List.length_nil]; congr 1)
      exact ⟨(k + 1, z62), (by first | exact ⟨by omega, ha62, take_app hb62, hmm.symm.trans hk.2.2.2⟩ | (dsimp only; exact ⟨by omega, ha62, take_app hb62, hmm.symm.trans hk.2.2.2⟩)), ⟨⟨rfl, rfl⟩, ⟨rfl, trivial⟩, ⟨rfl, trivial⟩, ⟨rfl, rfl⟩, ⟨rfl, rfl⟩⟩, (by first | exact (by first | omega | (simp only [nr, nl]; omega)) | (dsimp only; exact (by first | omega | (simp only [nr, nl]; omega))))⟩
    ·
     have h5r := h5
     try simp only [nq, nr, nl] at h5
     refine a_skip ?_
     refine a_region (by kernel_rfl) ?_
     refine op_v' (j_move (evo rfl)) ?_
     refine op_v' (j_add rfl rfl (by first | omega | (simp only [nr, nl]; omega)) (by first | omega | (simp only [nr, nl]; omega))) ?_
     refine op_v' (j_assign (evo rfl)) ?_
     refine op_nil ?_
     have hsk := mtR_skip (f := (fun v => mtN d vs (vs.length - o.length - 1) (o ++ [v]))) (row := (mtW d vs o.length)) (o := o) (k := k) (by omega) (by by_cases h9 : (k : Int) ∈ o; (· exact .inr h9); (· left; simp_all))
     exact ⟨(k + 1, z), (by first | exact ⟨by omega, hk.2.1, hk.2.2.1, hsk.symm.trans hk.2.2.2⟩ | (dsimp only; exact ⟨by omega, hk.2.1, hk.2.2.1, hsk.symm.trans hk.2.2.2⟩)), ⟨⟨rfl, rfl⟩, ⟨rfl, trivial⟩, ⟨rfl, trivial⟩, ⟨rfl, rfl⟩, ⟨rfl, rfl⟩⟩, (by first | exact (by first | omega | (simp only [nr, nl]; omega)) | (dsimp only; exact (by first | omega | (simp only [nr, nl]; omega))))⟩
  ·
   have h2r := h2
   try simp only [nq, nr, nl] at h2
   refine a_exit ?_
   refine a_seq ?_
   refine a_region (by kernel_rfl) ?_
   refine op_v' (j_assign (evo rfl)) ?_
   refine op_nil ?_
   refine a_ret ?_
   have hTn : (mtN d vs (vs.length - (o).length) (o)) = none := by rw [hT, ← hk.2.2.2]; exact mtR_end (by omega)
   exact ⟨[.p _], .p _, [.row 3 1 _], [], [], ⟨rfl, trivial⟩, rfl, rfl, ⟨⟨rfl, rfl⟩, trivial⟩, rfl, rfl, ⟨z, ⟨hk.2.1, hk.2.2.1, by rw [hTn]; intro r hrq; cases hrq⟩, boolEq (by rw [hTn]; rfl), rfl, rfl⟩⟩


theorem f_l8m (d : List (List Bool)) (vs : List Int) (hv : ∀ k, k < vs.length → 0 ≤ vs.getD k default ∧ vs.getD k default < (d.length : Int)) (hl : vs.length ≤ 1000) (hr : ∀ k, (d.getD k default).length ≤ 1000) : ∀ (n : Nat) (o y : List Int), o.length + n = vs.length → y.length = vs.length → y.take o.length = o → Fn Try.prog 71 [.sl (d.map dD), .sl (vs.map dI), .p (.int .i64 (o.length : Nat)), .own 0 0] [.row 3 1 ((y).map dI)] (fun rr ii nn => ∃ x : List Int, (x.length = vs.length ∧ x.take (o).length = o ∧ (∀ r, (mtN d vs (vs.length - (o).length) (o)) = some r → x = r)) ∧ rr = .p (.bool ((mtN d vs (vs.length - (o).length) (o)).isSome)) ∧ ii = [.row 3 1 ((x).map dI)] ∧ nn = []) := by
 intro n
 induction n with
 | zero => intro o y h h1 h2; exact f_l8mS d vs hv hl hr o y (by omega) h1 h2 (fun q => absurd q (by omega))
 | succ n ih => intro o y h h1 h2; exact f_l8mS d vs hv hl hr o y (by omega) h1 h2 (fun _ v z a b => ih (o ++ [v]) z (by simp; omega) a b)

theorem f_mrSpec (m : Md) (i : Int) (d : List (List Bool)) (hw : wRS m.2 ≤ 1048576) : Fn Try.prog 23 [.agg [.sl (m.1.map dI), .sl (m.2.map dR)], .p (.int .i64 (i)), .sl (d.map dD)] [] (fun rr ii nn => rr = .tup [.sl (((mrV m i d).getD []).map dI), .p (.bool (mrV m i d).isSome)] ∧ ii = [] ∧ nn = []) := by
 refine fn_of Try.func23 rfl (Nat.le_of_ble_eq_true rfl) fun w X g => ?_
 show AWp _ _ _ ⟨[(0, .agg [.sl (m.1.map dI), .sl (m.2.map dR)]), (1, .p (.int .i64 (i))), (2, .sl (d.map dD))], []⟩
 refine a_len_rule 0 rfl fun hlr => ?_
 refine a_seq ?_
 refine a_region (by kernel_rfl) ?_
 refine op_n' (fun ver => j_boxa rfl) fun v3x1 => ?_
 refine op_v' (j_assign (evo rfl)) ?_
 refine op_v' (j_assign (evo rfl)) ?_
 refine op_nil ?_
 refine a_seq ?_
 refine a_seq ?_
 refine a_region (by kernel_rfl) ?_
 refine op_v' (j_loada_box (ys := [.sl _, .sl _]) agg26 rfl rfl rfl (Nat.le_of_ble_eq_true rfl)) ?_
 refine op_v' (j_move (evo rfl)) ?_
 refine op_v0' (j_call0 (v := .p _) (hp1 := []) [] false [] ent70 (f_dvSpec m d) ⟨.inl ⟨rfl, rfl⟩, .inl ⟨rfl, rfl⟩, trivial⟩ trivial rfl rfl (fun h => by cases h) rfl (fun _ h => by cases h) (.inl rfl) rfl rfl) ?_
 refine op_v' (j_not rfl) ?_
 refine op_v' (j_move (evo rfl)) ?_
 refine op_split' 14 rfl (fun h1 => ?_) (fun h1 => ?_)
 ·
  have h1r := h1
  try simp only [nq, nr] at h1
  refine op_v' (j_unwantV rfl rfl h1r) ?_
  refine op_v' (j_unwantV rfl rfl h1r) ?_
  refine op_v' (j_pick_t rfl h1r (evo rfl)) ?_
  refine op_v' (j_move (evo rfl)) ?_
  refine op_v' (j_unwantV rfl rfl rfl) ?_
  refine op_v' (j_unwantV rfl rfl rfl) ?_
  refine op_v' (j_unwantV rfl rfl rfl) ?_
  refine op_v' (j_unwantV rfl rfl rfl) ?_
  refine op_v' (j_unwantV rfl rfl rfl) ?_
  refine op_v' (j_pick_t rfl rfl (evo rfl)) ?_
  refine op_nil ?_
  refine a_tt rfl ?_
  refine a_seq ?_
  refine a_region (by kernel_rfl) ?_
  refine op_n' (fun ver => j_buildSlice (parts := []) (es := []) slt23 elt3 rfl rfl (by decide) (by decide) rfl rfl (by simp) rfl) fun v25x2 => ?_
  refine op_v' (j_assign (evo rfl)) ?_
  refine op_v' (j_assign (evo rfl)) ?_
  refine op_nil ?_
  refine a_freeze' 6 (noA _ _ _ _ _) rfl rfl ?_
  refine a_ret ?_
  exact ⟨[.sl _, .p _], .tup [.sl _, .p _], [], [], [], ⟨rfl, rfl, trivial⟩, rfl, rfl, trivial, rfl, rfl, ⟨by have hb : mrV m i d = none := mr_bad (frOk_no (by first | exact .inl (by assumption) | exact .inr (by omega))); rw [hb]; rfl, rfl, rfl⟩⟩
 ·
  have h1r := h1
  try simp only [nq, nr] at h1
  refine op_v' (j_want rfl rfl h1r (j_move (evo rfl))) ?_
  refine op_v' (j_want rfl rfl h1r (j_lt rfl rfl)) ?_
  refine op_v' (j_pick_f rfl h1r (evo rfl)) ?_
  refine op_v' (j_move (evo rfl)) ?_
  refine op_split' 18 rfl (fun h2 => ?_) (fun h2 => ?_)
  ·
   have h2r := h2
   try simp only [nq, nr] at h2
   refine op_v' (j_unwantV rfl rfl h2r) ?_
   refine op_v' (j_unwantV rfl rfl h2r) ?_
   refine op_v' (j_unwantV rfl rfl h2r) ?_
   refine op_v' (j_unwantV rfl rfl h2r) ?_
   refine op_v' (j_unwantV rfl rfl h2r) ?_
   refine op_v' (j_pick_t rfl h2r (evo rfl)) ?_
   refine op_nil ?_
   refine a_tt rfl ?_
   refine a_seq ?_
   refine a_region (by kernel_rfl) ?_
   refine op_n' (fun ver => j_buildSlice (parts := []) (es := []) slt23 elt3 rfl rfl (by decide) (by decide) rfl rfl (by simp) rfl) fun v25x3 => ?_
   refine op_v' (j_assign (evo rfl)) ?_
   refine op_v' (j_assign (evo rfl)) ?_
   refine op_nil ?_
   refine a_freeze' 6 (noA _ _ _ _ _) rfl rfl ?_
   refine a_ret ?_
   exact ⟨[.sl _, .p _], .tup [.sl _, .p _], [], [], [], ⟨rfl, rfl, trivial⟩, rfl, rfl, trivial, rfl, rfl, ⟨by have hb : mrV m i d = none := mr_bad (frOk_no (by first | exact .inl (by assumption) | exact .inr (by omega))); rw [hb]; rfl, rfl, rfl⟩⟩
  ·
   have h2r := h2
   try simp only [nq, nr] at h2
   refine op_v' (j_want rfl rfl h2r (j_move (evo rfl))) ?_
   refine op_v' (j_want rfl rfl h2r (j_fldp fld26f1 rfl rfl)) ?_
   refine op_v' (j_want rfl rfl h2r (j_load_box leaf24 rfl rfl rfl)) ?_
   refine op_v' (j_want rfl rfl h2r (j_len_map Try.underlying24 rfl)) ?_
   refine op_v' (j_want rfl rfl h2r (j_ge rfl rfl)) ?_
   refine op_v' (j_pick_f rfl h2r (evo rfl)) ?_
   refine op_nil ?_
   refine a_cond rfl (fun h3 => ?_) (fun h3 => ?_)
   ·
    have h3r := h3
    try simp only [nq, nr] at h3
    refine a_seq ?_
    refine a_region (by kernel_rfl) ?_
    refine op_n' (fun ver => j_buildSlice (parts := []) (es := []) slt23 elt3 rfl rfl (by decide) (by decide) rfl rfl (by simp) rfl) fun v25x4 => ?_
    refine op_v' (j_assign (evo rfl)) ?_
    refine op_v' (j_assign (evo rfl)) ?_
    refine op_nil ?_
    refine a_freeze' 6 (noA _ _ _ _ _) rfl rfl ?_
    refine a_ret ?_
    exact ⟨[.sl _, .p _], .tup [.sl _, .p _], [], [], [], ⟨rfl, rfl, trivial⟩, rfl, rfl, trivial, rfl, rfl, ⟨by have hb : mrV m i d = none := mr_bad (frOk_no (by first | exact .inl (by assumption) | exact .inr (by omega))); rw [hb]; rfl, rfl, rfl⟩⟩
   ·
    have h3r := h3
    try simp only [nq, nr] at h3
    refine a_skip ?_
    refine a_seq ?_
    have hok : frOk m i d = true := frOk_yes (by assumption) (by omega)
    have hdp := dm_parts (fr_parts hok).1
    have hqr := mOk_rule hdp.1 (k := i.toNat) (by omega)
    have hv : ∀ k, k < (vsM m i).length → 0 ≤ (vsM m i).getD k default ∧ (vsM m i).getD k default < (d.length : Int) := fun k hk => by have h9 := rOk_vs hqr k hk; have h8 := (fits_at hdp.2).1; exact ⟨h9.1, Int.lt_of_lt_of_le h9.2 (by omega)⟩
    have hfs := fits_sum hdp.1 hdp.2
    have hrw := rows_le hdp.1 hdp.2
    have hl5 : (vsM m i).length ≤ 5 := rOk_len hqr (fits_at hdp.2).1 (by omega)
    have hmr := mr_ok hok
    refine a_region (by kernel_rfl) ?_
    refine op_v' (j_fldp fld26f1 rfl rfl) ?_
    refine op_v' (j_load_box leaf24 rfl rfl rfl) ?_
    refine op_v' (j_move (evo rfl)) ?_
    refine op_v' (j_elemN (n := i.toNat) slt24 rfl rfl (by omega) (at_map (by first | omega | (simp only [nr]; omega))) rfl) ?_
    refine op_v' (j_fldel fld43f1 rfl) ?_
    refine op_v' (j_load_el leaf23 rfl (at_map (by first | omega | (simp only [nr]; omega))) rfl) ?_
    refine op_v' (j_assign (evo rfl)) ?_
    refine op_nil ?_
    refine a_seq ?_
    refine a_region (by kernel_rfl) ?_
    refine op_v' (j_move (evo rfl)) ?_
    refine op_v' (j_len_map Try.underlying23 rfl) ?_
    refine op_n' (fun ver => j_make (n := (vsM m i).length) slt23 elt3 rfl rfl (by decide) rfl rfl rfl rfl (by first | omega | (simp only [nr]; omega)) (by rw [maxLen_eq]; first | omega | (simp only [nr]; omega))) fun v34x5 => ?_
    refine op_v' (j_assign (evo rfl)) ?_
    refine op_nil ?_
    refine a_seq ?_
    refine a_seq ?_
    refine a_row 34 (es' := (List.replicate (vsM m i).length (0 : Int)).map dI) rfl (by rw [List.map_replicate]; rfl) ?_
    refine a_region (by kernel_rfl) ?_
    refine op_v' (j_move (evo rfl)) ?_
    refine op_v' (j_move (evo rfl)) ?_
    refine op_v' (j_move (evo rfl)) ?_
    refine op_callE (v := fun x => .p _) (hp1 := fun x => [(34, some (v34x5, .row 3 1 _))]) [(34, v34x5)] false ent71 (f_l8m d (vsM m i) hv (by omega) hrw (vsM m i).length [] (List.replicate (vsM m i).length (0 : Int)) (by simp) (by simp) (by simp)) ⟨.inl ⟨rfl, rfl⟩, .inl ⟨rfl, rfl⟩, .inl ⟨rfl, rfl⟩, .inl ⟨rfl, rfl⟩, trivial⟩ ⟨⟨rfl, rfl⟩, trivial⟩ rfl (fun _ => rfl) (fun _ => rfl) (.inl rfl) (fun _ => rfl) (fun _ => rfl) ?_
    rintro z38 ⟨ha38, hb38, hc38⟩
    try dsimp only at ha38
    try dsimp only at hb38
    try dsimp only at hc38
    dsimp only [List.cons_append, List.nil_append]
    refine op_v' (j_not rfl) ?_
    refine op_nil ?_
    refine a_cond rfl (fun h4 => ?_) (fun h4 => ?_)
    ·
     have h4r := h4
     try simp only [nq, nr] at h4
     refine a_seq ?_
     refine a_region (by kernel_rfl) ?_
     refine op_n' (fun ver => j_buildSlice (parts := []) (es := []) slt23 elt3 rfl rfl (by decide) (by decide) rfl rfl (by simp) rfl) fun v40x6 => ?_
     refine op_v' (j_assign (evo rfl)) ?_
     refine op_v' (j_assign (evo rfl)) ?_
     refine op_nil ?_
     refine a_freeze' 6 (noA _ _ _ _ _) rfl rfl ?_
     refine a_ret ?_
     have hb : mrV m i d = none := by rw [hmr]; cases h9 : mtN d (vsM m i) (vsM m i).length [] with | none => rfl | some r => (exfalso; simp_all)
     exact ⟨[.sl _, .p _], .tup [.sl _, .p _], [], [], [], ⟨rfl, rfl, trivial⟩, rfl, rfl, trivial, rfl, rfl, ⟨by rw [hb]; rfl, rfl, rfl⟩⟩
    ·
     have h4r := h4
     try simp only [nq, nr] at h4
     refine a_skip ?_
     refine a_seq ?_
     refine a_region (by kernel_rfl) ?_
     refine op_v' (j_move (evo rfl)) ?_
     refine op_v' (j_assign (evo rfl)) ?_
     refine op_v' (j_assign (evo rfl)) ?_
     refine op_nil ?_
     refine a_freeze' 6 (noA _ _ _ _ _) rfl rfl ?_
     refine a_ret ?_
     obtain ⟨rr, hrr⟩ := Option.isSome_iff_exists.1 (show (mtN d (vsM m i) ((vsM m i).length - ([] : List Int).length) []).isSome = true by assumption)
     have hb : mrV m i d = some rr := by rw [hmr]; exact hrr
     exact ⟨[.sl _, .p _], .tup [.sl _, .p _], [], [], [], ⟨rfl, rfl, trivial⟩, rfl, rfl, trivial, rfl, rfl, ⟨by rw [hb, hc38 rr hrr]; rfl, rfl, rfl⟩⟩


theorem f_lawMR (b : List Int) (hb : ∀ a ∈ b, 0 ≤ a ∧ a ≤ 255) : Fn Try.prog 4 [.sl (b.map dU)] [] (fun rr ii nn => rr = .p (.bool true) ∧ ii = [] ∧ nn = []) := by
 refine fn_of Try.func4 rfl (Nat.le_of_ble_eq_true rfl) fun w X g => ?_
 show AWp _ _ _ ⟨[(0, .sl (b.map dU))], []⟩
 refine a_seq ?_
 refine a_region (by kernel_rfl) ?_
 refine op_v' (j_assign (evo rfl)) ?_
 refine op_nil ?_
 refine a_seq ?_
 refine a_seq ?_
 refine a_region (by kernel_rfl) ?_
 refine op_v' (j_move (evo rfl)) ?_
 refine op_v' (j_len_map Try.underlying22 rfl) ?_
 refine op_v' (j_gt rfl rfl) ?_
 refine op_nil ?_
 refine a_cond rfl (fun h1 => ?_) (fun h1 => ?_)
 ·
  have h1r := h1
  try simp only [nq, nr] at h1
  refine a_seq ?_
  refine a_region (by kernel_rfl) ?_
  refine op_v' (j_assign (evo rfl)) ?_
  refine op_nil ?_
  refine a_ret ?_
  exact ⟨[.p _], .p _, [], [], [], ⟨rfl, trivial⟩, rfl, rfl, trivial, rfl, rfl, ⟨boolEq (by first | (simp; done) | assumption | (rw [hlaw]; simp; done) | (exfalso; simp_all; done)), rfl, rfl⟩⟩
 ·
  have h1r := h1
  try simp only [nq, nr] at h1
  refine a_skip ?_
  refine a_seq ?_
  refine a_region (by kernel_rfl) ?_
  refine op_v' (j_move (evo rfl)) ?_
  refine op_callE (v := fun x => .tup [.agg [.sl _, .sl _], .p _, .sl _]) (hp1 := fun x => []) [] false ent21 (f_dMR b hb) ⟨.inl ⟨rfl, rfl⟩, trivial⟩ trivial rfl (fun _ => rfl) (fun _ => rfl) (.inl rfl) (fun _ => rfl) (fun _ => rfl) ?_
  rintro ⟨m, i, d⟩ ⟨hw, hl⟩
  try dsimp only at hw
  try dsimp only at hl
  have hwr : wRS m.2 ≤ 1048576 := by unfold wM at hw; omega
  dsimp only [List.cons_append, List.nil_append]
  refine op_v' (j_move (evo rfl)) ?_
  refine op_v' (j_extract rfl rfl) ?_
  refine op_v' (j_extract rfl rfl) ?_
  refine op_v' (j_extract rfl rfl) ?_
  refine op_n' (fun ver => j_alloc elt26 rfl) fun v3x1 => ?_
  refine op_s' (j_storea_box0 agg26 rfl rfl rfl rfl rfl rfl) ?_
  refine op_v' (j_assign (evo rfl)) ?_
  refine op_v' (j_assign (evo rfl)) ?_
  refine op_nil ?_
  refine a_seq ?_
  refine a_region (by kernel_rfl) ?_
  refine op_v' (j_loada_box (ys := [.sl _, .sl _]) agg26 rfl rfl rfl (Nat.le_of_ble_eq_true rfl)) ?_
  refine op_v' (j_move (evo rfl)) ?_
  refine op_v' (j_move (evo rfl)) ?_
  refine op_v0' (j_call0 (v := .tup [.sl _, .p _]) (hp1 := []) [] false [] ent22 (f_mrImpl m i d hwr) ⟨.inl ⟨rfl, rfl⟩, .inl ⟨rfl, rfl⟩, .inl ⟨rfl, rfl⟩, trivial⟩ trivial rfl rfl (fun h => by cases h) rfl (fun _ h => by cases h) (.inl rfl) rfl rfl) ?_
  refine op_v' (j_move (evo rfl)) ?_
  refine op_v' (j_extract rfl rfl) ?_
  refine op_v' (j_extract rfl rfl) ?_
  refine op_v' (j_assign (evo rfl)) ?_
  refine op_v' (j_assign (evo rfl)) ?_
  refine op_nil ?_
  refine a_seq ?_
  refine a_region (by kernel_rfl) ?_
  refine op_v' (j_loada_box (ys := [.sl _, .sl _]) agg26 rfl rfl rfl (Nat.le_of_ble_eq_true rfl)) ?_
  refine op_v' (j_move (evo rfl)) ?_
  refine op_v' (j_move (evo rfl)) ?_
  refine op_v0' (j_call0 (v := .tup [.sl _, .p _]) (hp1 := []) [] false [] ent23 (f_mrSpec m i d hwr) ⟨.inl ⟨rfl, rfl⟩, .inl ⟨rfl, rfl⟩, .inl ⟨rfl, rfl⟩, trivial⟩ trivial rfl rfl (fun h => by cases h) rfl (fun _ h => by cases h) (.inl rfl) rfl rfl) ?_
  refine op_v' (j_move (evo rfl)) ?_
  refine op_v' (j_extract rfl rfl) ?_
  refine op_v' (j_extract rfl rfl) ?_
  refine op_v' (j_assign (evo rfl)) ?_
  refine op_v' (j_assign (evo rfl)) ?_
  refine op_nil ?_
  refine a_seq ?_
  refine a_seq ?_
  refine a_region (by kernel_rfl) ?_
  refine op_v' (j_move (evo rfl)) ?_
  refine op_v' (j_move (evo rfl)) ?_
  refine op_v' (j_neb Try.underlying4 rfl rfl) ?_
  refine op_v' (j_move (evo rfl)) ?_
  refine op_split' 42 rfl (fun h2 => ?_) (fun h2 => ?_)
  ·
   have h2r := h2
   try simp only [nq, nr] at h2
   refine op_v' (j_unwantV rfl rfl h2r) ?_
   refine op_v' (j_unwantV rfl rfl h2r) ?_
   refine op_v' (j_unwantV rfl rfl h2r) ?_
   refine op_v' (j_unwantV rfl rfl h2r) ?_
   refine op_v' (j_pick_t rfl h2r (evo rfl)) ?_
   refine op_v' (j_move (evo rfl)) ?_
   refine op_v' (j_unwantV rfl rfl rfl) ?_
   refine op_v' (j_unwantV rfl rfl rfl) ?_
   refine op_v' (j_unwantV rfl rfl rfl) ?_
   refine op_v' (j_unwantV rfl rfl rfl) ?_
   refine op_v' (j_pick_t rfl rfl (evo rfl)) ?_
   refine op_v' (j_move (evo rfl)) ?_
   refine op_v' (j_unwantV rfl rfl rfl) ?_
   refine op_v' (j_unwantV rfl rfl rfl) ?_
   refine op_v' (j_pick_t rfl rfl (evo rfl)) ?_
   refine op_v' (j_move (evo rfl)) ?_
   refine op_v' (j_unwantV rfl rfl rfl) ?_
   refine op_v' (j_unwantV rfl rfl rfl) ?_
   refine op_v' (j_unwantV rfl rfl rfl) ?_
   refine op_v' (j_unwantV rfl rfl rfl) ?_
   refine op_v' (j_unwantV rfl rfl rfl) ?_
   refine op_v' (j_pick_t rfl rfl (evo rfl)) ?_
   refine op_v' (j_move (evo rfl)) ?_
   refine op_v' (j_unwantV rfl rfl rfl) ?_
   refine op_v' (j_unwantV rfl rfl rfl) ?_
   refine op_v' (j_unwantV rfl rfl rfl) ?_
   refine op_v' (j_pick_t rfl rfl (evo rfl)) ?_
   refine op_nil ?_
   refine a_tt rfl ?_
   refine a_seq ?_
   refine a_region (by kernel_rfl) ?_
   refine op_v' (j_move (evo rfl)) ?_
   refine op_v' (j_move (evo rfl)) ?_
   refine op_v' (j_eqb Try.underlying4 rfl rfl) ?_
   refine op_v' (j_move (evo rfl)) ?_
   refine op_split' 73 rfl (fun h3 => ?_) (fun h3 => ?_)
   ·
    have h3r := h3
    try simp only [nq, nr] at h3
    refine op_v' (j_want rfl rfl h3r (j_move (evo rfl))) ?_
    refine op_v' (j_want rfl rfl h3r (j_move (evo rfl))) ?_
    refine op_v0' (j_want rfl rfl h3r (j_call0 (v := .p _) (hp1 := []) [] false [] ent24 (f_cpInts ((mrV m i d).getD []) ((mrV m i d).getD [])) ⟨.inl ⟨rfl, rfl⟩, .inl ⟨rfl, rfl⟩, trivial⟩ trivial rfl rfl (fun h => by cases h) rfl (fun _ h => by cases h) (.inl rfl) rfl rfl)) ?_
    refine op_v' (j_pick_t rfl h3r (evo rfl)) ?_
    refine op_v' (j_assign (evo rfl)) ?_
    refine op_nil ?_
    refine a_ret ?_
    exact ⟨[.p _], .p _, [], [], [], ⟨rfl, trivial⟩, rfl, rfl, trivial, rfl, rfl, ⟨boolEq (by first | (simp; done) | assumption | (rw [hlaw]; simp; done) | (exfalso; simp_all; done)), rfl, rfl⟩⟩
   ·
    have h3r := h3
    try simp only [nq, nr] at h3
    exact absurd h3r (by simp)
  ·
   have h2r := h2
   try simp only [nq, nr] at h2
   refine op_v' (j_want rfl rfl h2r (j_move (evo rfl))) ?_
   refine op_v' (j_want rfl rfl h2r (j_move (evo rfl))) ?_
   refine op_v0' (j_want rfl rfl h2r (j_call0 (v := .p _) (hp1 := []) [] false [] ent24 (f_cpInts ((mrV m i d).getD []) ((mrV m i d).getD [])) ⟨.inl ⟨rfl, rfl⟩, .inl ⟨rfl, rfl⟩, trivial⟩ trivial rfl rfl (fun h => by cases h) rfl (fun _ h => by cases h) (.inl rfl) rfl rfl)) ?_
   refine op_v' (j_want rfl rfl h2r (j_not rfl)) ?_
   refine op_v' (j_pick_f rfl h2r (evo rfl)) ?_
   refine op_v' (j_move (evo rfl)) ?_
   refine op_split' 48 rfl (fun h4 => ?_) (fun h4 => ?_)
   ·
    have h4r := h4
    try simp only [nq, nr] at h4
    refine op_v' (j_unwantV rfl rfl h4r) ?_
    refine op_v' (j_unwantV rfl rfl h4r) ?_
    refine op_v' (j_unwantV rfl rfl h4r) ?_
    refine op_v' (j_unwantV rfl rfl h4r) ?_
    refine op_v' (j_pick_t rfl h4r (evo rfl)) ?_
    refine op_v' (j_move (evo rfl)) ?_
    refine op_v' (j_unwantV rfl rfl rfl) ?_
    refine op_v' (j_unwantV rfl rfl rfl) ?_
    refine op_v' (j_pick_t rfl rfl (evo rfl)) ?_
    refine op_v' (j_move (evo rfl)) ?_
    refine op_v' (j_unwantV rfl rfl rfl) ?_
    refine op_v' (j_unwantV rfl rfl rfl) ?_
    refine op_v' (j_unwantV rfl rfl rfl) ?_
    refine op_v' (j_unwantV rfl rfl rfl) ?_
    refine op_v' (j_unwantV rfl rfl rfl) ?_
    refine op_v' (j_pick_t rfl rfl (evo rfl)) ?_
    refine op_v' (j_move (evo rfl)) ?_
    refine op_v' (j_unwantV rfl rfl rfl) ?_
    refine op_v' (j_unwantV rfl rfl rfl) ?_
    refine op_v' (j_unwantV rfl rfl rfl) ?_
    refine op_v' (j_pick_t rfl rfl (evo rfl)) ?_
    refine op_nil ?_
    refine a_tt rfl ?_
    refine a_seq ?_
    refine a_region (by kernel_rfl) ?_
    refine op_v' (j_move (evo rfl)) ?_
    refine op_v' (j_move (evo rfl)) ?_
    refine op_v' (j_eqb Try.underlying4 rfl rfl) ?_
    refine op_v' (j_move (evo rfl)) ?_
    refine op_split' 73 rfl (fun h5 => ?_) (fun h5 => ?_)
    ·
     have h5r := h5
     try simp only [nq, nr] at h5
     refine op_v' (j_want rfl rfl h5r (j_move (evo rfl))) ?_
     refine op_v' (j_want rfl rfl h5r (j_move (evo rfl))) ?_
     refine op_v0' (j_want rfl rfl h5r (j_call0 (v := .p _) (hp1 := []) [] false [] ent24 (f_cpInts ((mrV m i d).getD []) ((mrV m i d).getD [])) ⟨.inl ⟨rfl, rfl⟩, .inl ⟨rfl, rfl⟩, trivial⟩ trivial rfl rfl (fun h => by cases h) rfl (fun _ h => by cases h) (.inl rfl) rfl rfl)) ?_
     refine op_v' (j_pick_t rfl h5r (evo rfl)) ?_
     refine op_v' (j_assign (evo rfl)) ?_
     refine op_nil ?_
     refine a_ret ?_
     exact ⟨[.p _], .p _, [], [], [], ⟨rfl, trivial⟩, rfl, rfl, trivial, rfl, rfl, ⟨boolEq (by first | (simp; done) | assumption | (rw [hlaw]; simp; done) | (exfalso; simp_all; done)), rfl, rfl⟩⟩
    ·
     have h5r := h5
     try simp only [nq, nr] at h5
     exact absurd h5r (by simp)
   ·
    have h4r := h4
    try simp only [nq, nr] at h4
    refine op_v' (j_want rfl rfl h4r (j_loada_box (ys := [.sl _, .sl _]) agg26 rfl rfl rfl (Nat.le_of_ble_eq_true rfl))) ?_
    refine op_v' (j_want rfl rfl h4r (j_move (evo rfl))) ?_
    refine op_v0' (j_want rfl rfl h4r (j_call0 (v := .p _) (hp1 := []) [] false [] ent25 (f_dvImpl m d) ⟨.inl ⟨rfl, rfl⟩, .inl ⟨rfl, rfl⟩, trivial⟩ trivial rfl rfl (fun h => by cases h) rfl (fun _ h => by cases h) (.inl rfl) rfl rfl)) ?_
    refine op_v' (j_want rfl rfl h4r (j_not rfl)) ?_
    refine op_v' (j_pick_f rfl h4r (evo rfl)) ?_
    refine op_v' (j_move (evo rfl)) ?_
    refine op_split' 54 rfl (fun h6 => ?_) (fun h6 => ?_)
    ·
     have h6r := h6
     try simp only [nq, nr] at h6
     refine op_v' (j_unwantV rfl rfl h6r) ?_
     refine op_v' (j_unwantV rfl rfl h6r) ?_
     refine op_v' (j_pick_t rfl h6r (evo rfl)) ?_
     refine op_v' (j_move (evo rfl)) ?_
     refine op_v' (j_unwantV rfl rfl rfl) ?_
     refine op_v' (j_unwantV rfl rfl rfl) ?_
     refine op_v' (j_unwantV rfl rfl rfl) ?_
     refine op_v' (j_unwantV rfl rfl rfl) ?_
     refine op_v' (j_unwantV rfl rfl rfl) ?_
     refine op_v' (j_pick_t rfl rfl (evo rfl)) ?_
     refine op_v' (j_move (evo rfl)) ?_
     refine op_v' (j_unwantV rfl rfl rfl) ?_
     refine op_v' (j_unwantV rfl rfl rfl) ?_
     refine op_v' (j_unwantV rfl rfl rfl) ?_
     refine op_v' (j_pick_t rfl rfl (evo rfl)) ?_
     refine op_nil ?_
     refine a_tt rfl ?_
     refine a_seq ?_
     refine a_region (by kernel_rfl) ?_
     refine op_v' (j_move (evo rfl)) ?_
     refine op_v' (j_move (evo rfl)) ?_
     refine op_v' (j_eqb Try.underlying4 rfl rfl) ?_
     refine op_v' (j_move (evo rfl)) ?_
     refine op_split' 73 rfl (fun h7 => ?_) (fun h7 => ?_)
     ·
      have h7r := h7
      try simp only [nq, nr] at h7
      refine op_v' (j_want rfl rfl h7r (j_move (evo rfl))) ?_
      refine op_v' (j_want rfl rfl h7r (j_move (evo rfl))) ?_
      refine op_v0' (j_want rfl rfl h7r (j_call0 (v := .p _) (hp1 := []) [] false [] ent24 (f_cpInts ((mrV m i d).getD []) ((mrV m i d).getD [])) ⟨.inl ⟨rfl, rfl⟩, .inl ⟨rfl, rfl⟩, trivial⟩ trivial rfl rfl (fun h => by cases h) rfl (fun _ h => by cases h) (.inl rfl) rfl rfl)) ?_
      refine op_v' (j_pick_t rfl h7r (evo rfl)) ?_
      refine op_v' (j_assign (evo rfl)) ?_
      refine op_nil ?_
      refine a_ret ?_
      exact ⟨[.p _], .p _, [], [], [], ⟨rfl, trivial⟩, rfl, rfl, trivial, rfl, rfl, ⟨boolEq (by first | (simp; done) | assumption | (rw [hlaw]; simp; done) | (exfalso; simp_all; done)), rfl, rfl⟩⟩
     ·
      have h7r := h7
      try simp only [nq, nr] at h7
      exact absurd h7r (by simp)
    ·
     have h6r := h6
     try simp only [nq, nr] at h6
     refine op_v' (j_want rfl rfl h6r (j_move (evo rfl))) ?_
     refine op_v' (j_want rfl rfl h6r (j_lt rfl rfl)) ?_
     refine op_v' (j_pick_f rfl h6r (evo rfl)) ?_
     refine op_v' (j_move (evo rfl)) ?_
     refine op_split' 58 rfl (fun h8 => ?_) (fun h8 => ?_)
     ·
      have h8r := h8
      try simp only [nq, nr] at h8
      refine op_v' (j_unwantV rfl rfl h8r) ?_
      refine op_v' (j_unwantV rfl rfl h8r) ?_
      refine op_v' (j_unwantV rfl rfl h8r) ?_
      refine op_v' (j_unwantV rfl rfl h8r) ?_
      refine op_v' (j_unwantV rfl rfl h8r) ?_
      refine op_v' (j_pick_t rfl h8r (evo rfl)) ?_
      refine op_v' (j_move (evo rfl)) ?_
      refine op_v' (j_unwantV rfl rfl rfl) ?_
      refine op_v' (j_unwantV rfl rfl rfl) ?_
      refine op_v' (j_unwantV rfl rfl rfl) ?_
      refine op_v' (j_pick_t rfl rfl (evo rfl)) ?_
      refine op_nil ?_
      refine a_tt rfl ?_
      refine a_seq ?_
      refine a_region (by kernel_rfl) ?_
      refine op_v' (j_move (evo rfl)) ?_
      refine op_v' (j_move (evo rfl)) ?_
      refine op_v' (j_eqb Try.underlying4 rfl rfl) ?_
      refine op_v' (j_move (evo rfl)) ?_
      refine op_split' 73 rfl (fun h9 => ?_) (fun h9 => ?_)
      ·
       have h9r := h9
       try simp only [nq, nr] at h9
       refine op_v' (j_want rfl rfl h9r (j_move (evo rfl))) ?_
       refine op_v' (j_want rfl rfl h9r (j_move (evo rfl))) ?_
       refine op_v0' (j_want rfl rfl h9r (j_call0 (v := .p _) (hp1 := []) [] false [] ent24 (f_cpInts ((mrV m i d).getD []) ((mrV m i d).getD [])) ⟨.inl ⟨rfl, rfl⟩, .inl ⟨rfl, rfl⟩, trivial⟩ trivial rfl rfl (fun h => by cases h) rfl (fun _ h => by cases h) (.inl rfl) rfl rfl)) ?_
       refine op_v' (j_pick_t rfl h9r (evo rfl)) ?_
       refine op_v' (j_assign (evo rfl)) ?_
       refine op_nil ?_
       refine a_ret ?_
       exact ⟨[.p _], .p _, [], [], [], ⟨rfl, trivial⟩, rfl, rfl, trivial, rfl, rfl, ⟨boolEq (by first | (simp; done) | assumption | (rw [hlaw]; simp; done) | (exfalso; simp_all; done)), rfl, rfl⟩⟩
      ·
       have h9r := h9
       try simp only [nq, nr] at h9
       exact absurd h9r (by simp)
     ·
      have h8r := h8
      try simp only [nq, nr] at h8
      refine op_v' (j_want rfl rfl h8r (j_move (evo rfl))) ?_
      refine op_v' (j_want rfl rfl h8r (j_fldp fld26f1 rfl rfl)) ?_
      refine op_v' (j_want rfl rfl h8r (j_load_box leaf24 rfl rfl rfl)) ?_
      refine op_v' (j_want rfl rfl h8r (j_len_map Try.underlying24 rfl)) ?_
      refine op_v' (j_want rfl rfl h8r (j_ge rfl rfl)) ?_
      refine op_v' (j_pick_f rfl h8r (evo rfl)) ?_
      refine op_v' (j_move (evo rfl)) ?_
      refine op_split' 65 rfl (fun h10 => ?_) (fun h10 => ?_)
      ·
       have h10r := h10
       try simp only [nq, nr] at h10
       refine op_v' (j_unwantV rfl rfl h10r) ?_
       refine op_v' (j_unwantV rfl rfl h10r) ?_
       refine op_v' (j_unwantV rfl rfl h10r) ?_
       refine op_v' (j_pick_t rfl h10r (evo rfl)) ?_
       refine op_nil ?_
       refine a_tt rfl ?_
       refine a_seq ?_
       refine a_region (by kernel_rfl) ?_
       refine op_v' (j_move (evo rfl)) ?_
       refine op_v' (j_move (evo rfl)) ?_
       refine op_v' (j_eqb Try.underlying4 rfl rfl) ?_
       refine op_v' (j_move (evo rfl)) ?_
       refine op_split' 73 rfl (fun h11 => ?_) (fun h11 => ?_)
       ·
        have h11r := h11
        try simp only [nq, nr] at h11
        refine op_v' (j_want rfl rfl h11r (j_move (evo rfl))) ?_
        refine op_v' (j_want rfl rfl h11r (j_move (evo rfl))) ?_
        refine op_v0' (j_want rfl rfl h11r (j_call0 (v := .p _) (hp1 := []) [] false [] ent24 (f_cpInts ((mrV m i d).getD []) ((mrV m i d).getD [])) ⟨.inl ⟨rfl, rfl⟩, .inl ⟨rfl, rfl⟩, trivial⟩ trivial rfl rfl (fun h => by cases h) rfl (fun _ h => by cases h) (.inl rfl) rfl rfl)) ?_
        refine op_v' (j_pick_t rfl h11r (evo rfl)) ?_
        refine op_v' (j_assign (evo rfl)) ?_
        refine op_nil ?_
        refine a_ret ?_
        exact ⟨[.p _], .p _, [], [], [], ⟨rfl, trivial⟩, rfl, rfl, trivial, rfl, rfl, ⟨boolEq (by first | (simp; done) | assumption | (rw [hlaw]; simp; done) | (exfalso; simp_all; done)), rfl, rfl⟩⟩
       ·
        have h11r := h11
        try simp only [nq, nr] at h11
        exact absurd h11r (by simp)
      ·
       have h10r := h10
       try simp only [nq, nr] at h10
       refine op_v' (j_want rfl rfl h10r (j_loada_box (ys := [.sl _, .sl _]) agg26 rfl rfl rfl (Nat.le_of_ble_eq_true rfl))) ?_
       refine op_v' (j_want rfl rfl h10r (j_move (evo rfl))) ?_
       refine op_v0' (j_want rfl rfl h10r (j_call0 (v := .p _) (hp1 := []) [] false [] ent20 (f_deImpl m d) ⟨.inl ⟨rfl, rfl⟩, .inl ⟨rfl, rfl⟩, trivial⟩ trivial rfl rfl (fun h => by cases h) rfl (fun _ h => by cases h) (.inl rfl) rfl rfl)) ?_
       refine op_v' (j_pick_f rfl h10r (evo rfl)) ?_
       refine op_nil ?_
       refine a_cond rfl (fun h12 => ?_) (fun h12 => ?_)
       ·
        have h12r := h12
        try simp only [nq, nr] at h12
        refine a_seq ?_
        refine a_region (by kernel_rfl) ?_
        refine op_v' (j_move (evo rfl)) ?_
        refine op_v' (j_move (evo rfl)) ?_
        refine op_v' (j_eqb Try.underlying4 rfl rfl) ?_
        refine op_v' (j_move (evo rfl)) ?_
        refine op_split' 73 rfl (fun h13 => ?_) (fun h13 => ?_)
        ·
         have h13r := h13
         try simp only [nq, nr] at h13
         refine op_v' (j_want rfl rfl h13r (j_move (evo rfl))) ?_
         refine op_v' (j_want rfl rfl h13r (j_move (evo rfl))) ?_
         refine op_v0' (j_want rfl rfl h13r (j_call0 (v := .p _) (hp1 := []) [] false [] ent24 (f_cpInts ((mrV m i d).getD []) ((mrV m i d).getD [])) ⟨.inl ⟨rfl, rfl⟩, .inl ⟨rfl, rfl⟩, trivial⟩ trivial rfl rfl (fun h => by cases h) rfl (fun _ h => by cases h) (.inl rfl) rfl rfl)) ?_
         refine op_v' (j_pick_t rfl h13r (evo rfl)) ?_
         refine op_v' (j_assign (evo rfl)) ?_
         refine op_nil ?_
         refine a_ret ?_
         exact ⟨[.p _], .p _, [], [], [], ⟨rfl, trivial⟩, rfl, rfl, trivial, rfl, rfl, ⟨boolEq (by first | (simp; done) | assumption | (rw [hlaw]; simp; done) | (exfalso; simp_all; done)), rfl, rfl⟩⟩
        ·
         have h13r := h13
         try simp only [nq, nr] at h13
         exact absurd h13r (by simp)
       ·
        have h12r := h12
        try simp only [nq, nr] at h12
        refine a_skip ?_
        refine a_seq ?_
        have hok : frOk m i d = true := frOk_yes (by assumption) (by omega)
        have hde : deB m d = false := by assumption
        have hlaw := mr_law hok hde
        have hdf := dif_ok hok
        have hgl := mr_good m i d
        have hdp := dm_parts (fr_parts hok).1
        have hqr := mOk_rule hdp.1 (k := i.toNat) (by omega)
        have hv : ∀ k, k < (vsM m i).length → 0 ≤ (vsM m i).getD k default ∧ (vsM m i).getD k default < (d.length : Int) := fun k hk => by have h9 := rOk_vs hqr k hk; have h8 := (fits_at hdp.2).1; exact ⟨h9.1, Int.lt_of_lt_of_le h9.2 (by omega)⟩
        have hfs := fits_sum hdp.1 hdp.2
        have hrw := rows_le hdp.1 hdp.2
        have hl5 : (vsM m i).length ≤ 5 := rOk_len hqr (fits_at hdp.2).1 (by omega)
        refine a_region (by kernel_rfl) ?_
        refine op_v' (j_fldp fld26f1 rfl rfl) ?_
        refine op_v' (j_load_box leaf24 rfl rfl rfl) ?_
        refine op_v' (j_move (evo rfl)) ?_
        refine op_v' (j_elemN (n := i.toNat) slt24 rfl rfl (by omega) (at_map (by first | omega | (simp only [nr]; omega))) rfl) ?_
        refine op_v' (j_fldel fld43f1 rfl) ?_
        refine op_v' (j_load_el leaf23 rfl (at_map (by first | omega | (simp only [nr]; omega))) rfl) ?_
        refine op_v' (j_assign (evo rfl)) ?_
        refine op_nil ?_
        refine a_seq ?_
        refine a_seq ?_
        refine a_region (by kernel_rfl) ?_
        refine op_v' (j_assign (evo rfl)) ?_
        refine op_nil ?_
        refine a_block ?_
        refine a_loopF' (ι := Nat) (fun k => k ≤ ((mrV m i d).getD []).length) (fun k r => (11, .p (.int .i64 ((k : Nat)))) :: r) (fun k r => r) (fun k => ((mrV m i d).getD []).length - k) (fun _ _ => rfl) (fun _ _ => rfl) 0 (by first | omega | (simp only [nr]; omega)) ⟨⟨rfl, rfl⟩, ⟨rfl, trivial⟩, trivial, ⟨rfl, rfl⟩, ⟨rfl, rfl⟩⟩ ?_
        intro k hpre0
        refine a_seq ?_
        refine a_seq ?_
        refine a_region (by kernel_rfl) ?_
        refine op_v' (j_move (evo rfl)) ?_
        refine op_v' (j_move (evo rfl)) ?_
        refine op_v' (j_len_map Try.underlying23 rfl) ?_
        refine op_v' (j_lt rfl rfl) ?_
        refine op_nil ?_
        refine a_cond rfl (fun h14 => ?_) (fun h14 => ?_)
        ·
         have h14r := h14
         try simp only [nq, nr] at h14
         refine a_skip ?_
         refine a_seq ?_
         refine a_block ?_
         refine a_seq ?_
         refine a_seq ?_
         refine a_region (by kernel_rfl) ?_
         refine op_v' (j_assign (evo rfl)) ?_
         refine op_nil ?_
         refine a_block ?_
         refine a_loopF' (ι := Nat) (fun j => j ≤ k) (fun j r => (12, .p (.int .i64 ((j : Nat)))) :: r) (fun j r => r) (fun j => k - j) (fun _ _ => rfl) (fun _ _ => rfl) 0 (Nat.zero_le _) ⟨⟨rfl, rfl⟩, ⟨rfl, trivial⟩, trivial, ⟨rfl, rfl⟩, ⟨rfl, rfl⟩⟩ ?_
         intro j hj
         refine a_seq ?_
         refine a_seq ?_
         refine a_region (by kernel_rfl) ?_
         refine op_v' (j_move (evo rfl)) ?_
         refine op_v' (j_move (evo rfl)) ?_
         refine op_v' (j_lt rfl rfl) ?_
         refine op_nil ?_
         refine a_cond rfl (fun h15 => ?_) (fun h15 => ?_)
         ·
          have h15r := h15
          try simp only [nq, nr] at h15
          refine a_skip ?_
          refine a_seq ?_
          refine a_block ?_
          refine a_seq ?_
          have hgk := hgl.2 k (by omega)
          refine a_draw mixed (by kernel_rfl) (by kernel_rfl) fun vf => ?_
          refine d_v' (j_move (evo rfl)) ?_
          refine d_v' (j_move (evo rfl)) ?_
          refine d_v' (j_elemN slt23 rfl rfl rfl (at_map (by first | omega | (simp only [nr]; omega))) rfl) ?_
          refine d_v' (j_load_el leaf3 rfl (at_map (by first | omega | (simp only [nr]; omega))) rfl) ?_
          refine d_v' (j_move (evo rfl)) ?_
          refine d_v' (j_move (evo rfl)) ?_
          refine d_v' (j_elemN slt23 rfl rfl rfl (at_map (by first | omega | (simp only [nr]; omega))) rfl) ?_
          refine d_v' (j_load_el leaf3 rfl (at_map (by first | omega | (simp only [nr]; omega))) rfl) ?_
          refine d_v' (j_eq rfl rfl) ?_
          refine d_nil (by kernel_rfl) (by kernel_rfl) ?_
          refine a_cond rfl (fun h16 => ?_) (fun h16 => ?_)
          ·
           have h16r := h16
           try simp only [nq, nr] at h16
           exact absurd h16r (by rw [decide_eq_true_eq]; exact fun q => hgk.2.2 (q ▸ vs_in (by omega) (by omega)))
          ·
           have h16r := h16
           try simp only [nq, nr] at h16
           refine a_skip ?_
           refine a_region (by kernel_rfl) ?_
           refine op_v' (j_move (evo rfl)) ?_
           refine op_v' (j_add rfl rfl (by first | omega | (simp only [nr]; omega)) (by first | omega | (simp only [nr]; omega))) ?_
           refine op_v' (j_assign (evo rfl)) ?_
           refine op_nil ?_
           exact ⟨j + 1, (by first | omega | (simp only [nr]; omega)), ⟨⟨rfl, rfl⟩, ⟨rfl, trivial⟩, trivial, ⟨rfl, rfl⟩, ⟨rfl, rfl⟩⟩, (by first | omega | (simp only [nr]; omega))⟩
         ·
          have h15r := h15
          try simp only [nq, nr] at h15
          refine a_exit ?_
          refine a_seq ?_
          have hgk := hgl.2 k (by omega)
          have hvk := hv k (by omega)
          have hvl : (m.2.getD i.toNat default).2.1.length = (vsM m i).length := rfl
          have hvk3 : (vsM m i).getD k default = (m.2.getD i.toNat default).2.1.getD k default := rfl
          have hvk2 : 0 ≤ (m.2.getD i.toNat default).2.1.getD k default ∧ (m.2.getD i.toNat default).2.1.getD k default < (d.length : Int) := hvk
          have hg1 : 0 ≤ ((mrV m i d).getD []).getD k default := hgk.1
          have hgt : (d.getD ((vsM m i).getD k default).toNat default).getD (((mrV m i d).getD []).getD k default).toNat default = true := hgk.2.1
          have hrg := getD_lt hgt
          refine a_draw mixed (by kernel_rfl) (by kernel_rfl) fun vf => ?_
          refine d_v' (j_move (evo rfl)) ?_
          refine d_v' (j_move (evo rfl)) ?_
          refine d_v' (j_move (evo rfl)) ?_
          refine d_v' (j_elemN slt23 rfl rfl rfl (at_map (by first | omega | (simp only [nr]; omega))) rfl) ?_
          refine d_v' (j_load_el leaf3 rfl (at_map (by first | omega | (simp only [nr]; omega))) rfl) ?_
          refine d_v' (j_elemN (n := ((vsM m i).getD k default).toNat) slt28 rfl rfl (by omega) (at_map (by first | omega | (simp only [nr]; omega))) rfl) ?_
          refine d_v' (j_load_el leaf34 rfl (at_map (by first | omega | (simp only [nr]; omega))) rfl) ?_
          refine d_v' (j_move (evo rfl)) ?_
          refine d_v' (j_move (evo rfl)) ?_
          refine d_v' (j_elemN slt23 rfl rfl rfl (at_map (by first | omega | (simp only [nr]; omega))) rfl) ?_
          refine d_v' (j_load_el leaf3 rfl (at_map (by first | omega | (simp only [nr]; omega))) rfl) ?_
          refine d_v' (j_elemN (n := (((mrV m i d).getD []).getD k default).toNat) slt34 rfl rfl (by omega) (at_map (by first | omega | (simp only [nr]; omega))) rfl) ?_
          refine d_v' (j_load_el leaf4 rfl (at_map (by first | omega | (simp only [nr]; omega))) rfl) ?_
          refine d_v' (j_not rfl) ?_
          refine d_nil (by kernel_rfl) (by kernel_rfl) ?_
          refine a_cond rfl (fun h17 => ?_) (fun h17 => ?_)
          ·
           have h17r := h17
           try simp only [nq, nr] at h17
           exact absurd h17r (by rw [hgt]; decide)
          ·
           have h17r := h17
           try simp only [nq, nr] at h17
           refine a_skip ?_
           refine a_region (by kernel_rfl) ?_
           refine op_v' (j_move (evo rfl)) ?_
           refine op_v' (j_add rfl rfl (by first | omega | (simp only [nr]; omega)) (by first | omega | (simp only [nr]; omega))) ?_
           refine op_v' (j_assign (evo rfl)) ?_
           refine op_nil ?_
           exact ⟨k + 1, (by first | omega | (simp only [nr]; omega)), ⟨⟨rfl, rfl⟩, ⟨rfl, trivial⟩, trivial, ⟨rfl, rfl⟩, ⟨rfl, rfl⟩⟩, (by first | omega | (simp only [nr]; omega))⟩
        ·
         have h14r := h14
         try simp only [nq, nr] at h14
         refine a_exit ?_
         refine a_seq ?_
         refine a_region (by kernel_rfl) ?_
         refine op_v' (j_fldp fld26f0 rfl rfl) ?_
         refine op_v' (j_load_box leaf23 rfl rfl rfl) ?_
         refine op_v' (j_move (evo rfl)) ?_
         refine op_v' (j_build (parts := [(0, .const (.int .i64 2)), (1, .tmp 120)]) str43 elt43 rfl rfl) ?_
         refine op_nila 121 2 rfl rfl ?_
         try dsimp only [List.set]
         refine op_nila 121 4 rfl rfl ?_
         try dsimp only [List.set]
         refine op_n' (fun ver => j_buildSlice (parts := [(0, .tmp 121)]) (es := [[_, _, _, _, _]]) slt24 elt43 rfl rfl (by decide) (by decide) rfl rfl (by simp) rfl) fun v122x2 => ?_
         refine op_v' (j_build (parts := [(0, .tmp 119), (1, .tmp 122)]) str26 elt26 rfl rfl) ?_
         refine op_n' (fun ver => j_alloc elt26 rfl) fun v13x3 => ?_
         refine op_s' (j_storea_box0 agg26 rfl rfl rfl rfl rfl rfl) ?_
         refine op_nil ?_
         refine a_seq ?_
         refine a_freezeboxK 1 13 (by decide) trivial rfl rfl rfl rfl ?_
         try dsimp only [List.set]
         refine a_region (by kernel_rfl) ?_
         refine op_v' (j_loada_box (ys := [.sl _, .sl _]) agg26 rfl rfl rfl (Nat.le_of_ble_eq_true rfl)) ?_
         refine op_v' (j_move (evo rfl)) ?_
         refine op_n1' (fun ver => j_call1 (v := .tup [.own 127 ver, .p _]) (hp1 := [(127, some (ver, .deep (.mk 34 1 [(0, (.mk 4 1 []))]) _ none))]) [] false [] ent26 (f_frImpl (difM m i) 0 d (by omega)) ⟨.inl ⟨rfl, rfl⟩, .inl ⟨rfl, rfl⟩, .inl ⟨rfl, rfl⟩, trivial⟩ trivial rfl rfl rfl (fun h => by cases h) rfl (List.all_eq_true.1 rfl) (.inl rfl) rfl rfl) fun v127x4 => ?_
         refine op_v' (j_move (evo rfl)) ?_
         refine op_v' (j_extract rfl rfl) ?_
         refine op_v' (j_extract rfl rfl) ?_
         refine op_v' (j_assign (evo rfl)) ?_
         refine op_v' (j_assign (evo rfl)) ?_
         refine op_nil ?_
         refine a_freezeG 14 trivial rfl rfl rfl rfl ?_
         refine a_seq ?_
         refine a_region (by kernel_rfl) ?_
         refine op_v' (j_move (evo rfl)) ?_
         refine op_v' (j_move (evo rfl)) ?_
         refine op_split' 131 rfl (fun h18 => ?_) (fun h18 => ?_)
         ·
          have h18r := h18
          try simp only [nq, nr] at h18
          refine op_v' (j_want rfl rfl h18r (j_move (evo rfl))) ?_
          refine op_v' (j_want rfl rfl h18r (j_loada_box (ys := [.sl _, .sl _]) agg26 rfl rfl rfl (Nat.le_of_ble_eq_true rfl))) ?_
          refine op_v' (j_want rfl rfl h18r (j_move (evo rfl))) ?_
          refine op_v0' (j_want rfl rfl h18r (j_call0 (v := .p _) (hp1 := []) [] false [] ent20 (f_deImpl (difM m i) (frD (difM m i) 0 d)) ⟨.inl ⟨rfl, rfl⟩, .inl ⟨rfl, rfl⟩, trivial⟩ trivial rfl rfl (fun h => by cases h) rfl (fun _ h => by cases h) (.inl rfl) rfl rfl)) ?_
          refine op_v' (j_want rfl rfl h18r (j_not rfl)) ?_
          refine op_v' (j_want rfl rfl h18r (j_eqb Try.underlying4 rfl rfl)) ?_
          refine op_v' (j_pick_t rfl h18r (evo rfl)) ?_
          refine op_v' (j_assign (evo rfl)) ?_
          refine op_nil ?_
          refine a_ret ?_
          exact ⟨[.p _], .p _, [], [], [], ⟨rfl, trivial⟩, rfl, rfl, trivial, rfl, rfl, ⟨boolEq (by first | (simp; done) | assumption | (rw [hlaw]; simp; done) | (exfalso; simp_all; done)), rfl, rfl⟩⟩
         ·
          have h18r := h18
          try simp only [nq, nr] at h18
          refine op_v' (j_unwantV rfl rfl h18r) ?_
          refine op_v' (j_unwantV rfl rfl h18r) ?_
          refine op_v' (j_unwantV rfl rfl h18r) ?_
          refine op_v' (j_unwantV rfl rfl h18r) ?_
          refine op_v' (j_unwantV rfl rfl h18r) ?_
          refine op_v' (j_unwantV rfl rfl h18r) ?_
          refine op_v' (j_pick_f rfl h18r (evo rfl)) ?_
          refine op_v' (j_assign (evo rfl)) ?_
          refine op_nil ?_
          refine a_ret ?_
          exact ⟨[.p _], .p _, [], [], [], ⟨rfl, trivial⟩, rfl, rfl, trivial, rfl, rfl, ⟨boolEq (by first | (simp; done) | assumption | (rw [hlaw]; simp; done) | (exfalso; simp_all; done)), rfl, rfl⟩⟩


end Go.Ab
