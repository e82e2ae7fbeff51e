/- Walks. -/
import Derived.Test.YtdnlchflejoloaaBase
import Derived.Test.YtdnlchflejoloaaCp
import Derived.Test.YtdnlchflejoloaaClau2
import Derived.Test.YtdnlchflejoloaaPrpg3
import Derived.Test.YtdnlchflejoloaaFix
import Derived.Test.YtdnlchflejoloaaWsprob
import Derived.Test.YtdnlchflejoloaaWsdrawc
import Derived.Test.YtdnlchflejoloaaWsprobd
import Derived.Test.YtdnlchflejoloaaWsdrawd
import Derived.Test.YtdnlchflejoloaaWstight
import Derived.Test.YtdnlchflejoloaaSem
import Derived.Test.YtdnlchflejoloaaWsfun
import Derived.Test.YtdnlchflejoloaaProb
import Derived.Test.YtdnlchflejoloaaEnum
import Derived.Test.YtdnlchflejoloaaWsenum
import Derived.Test.YtdnlchflejoloaaDeep
import Derived.Test.YtdnlchflejoloaaCons
import Derived.Test.YtdnlchflejoloaaWscons
import Derived.Test.YtdnlchflejoloaaVals
import Derived.Test.YtdnlchflejoloaaClau
import Derived.Test.YtdnlchflejoloaaTabs
import Derived.Test.YtdnlchflejoloaaDeep2
import Derived.Test.YtdnlchflejoloaaCov
import Derived.Test.YtdnlchflejoloaaWsexcl2
namespace Go.Ab
open Go.Proofs
set_option maxRecDepth 100000
set_option maxHeartbeats 8000000
set_option linter.unusedSimpArgs false
set_option linter.unusedVariables false
theorem f_cpImpl (l : List Con) (vs : List Int) : Fn Try.prog 45 [.sl (l.map dC), .sl (vs.map dI)] [] (fun rr ii nn => rr = .p (.int .i64 (cpV l vs)) ∧ ii = [] ∧ nn = []) := by
  refine fn_of Try.func45 rfl (Nat.le_of_ble_eq_true rfl) fun w X g => ?_
  show AWp _ _ _ ⟨[(0, .sl (l.map dC)), (1, .sl (vs.map dI))], []⟩
  refine a_seq ?_
  refine a_region (by kernel_rfl) ?_
  refine op_v' (j_assign (evo rfl)) ?_
  refine op_nil ?_
  refine a_seq ?_
  refine a_seq ?_
  refine a_region (by kernel_rfl) ?_
  refine op_v' (j_move (evo rfl)) ?_
  refine op_v0' (j_call0 (v := .p _) (hp1 := []) [] false [] ent47 (f_pvImpl l) ⟨.inl ⟨rfl, rfl⟩, trivial⟩ trivial rfl rfl (fun h => by cases h) rfl (fun _ h => by cases h) (.inl rfl) rfl rfl) ?_
  refine op_v' (j_not rfl) ?_
  refine op_v' (j_move (evo rfl)) ?_
  refine op_split' 14 rfl (fun h1 => ?_) (fun h1 => ?_)
  ·
    have h1r := h1
    try simp only [Bool.not_eq_true', Bool.not_eq_false', Bool.not_not, bne_iff_ne, bne_eq_false_iff_eq, beq_eq_false_iff_ne, beq_iff_eq, ne_eq, decide_eq_true_eq, decide_eq_false_iff_not, Classical.not_not, List.length_map, List.length_take, Int.toNat_natCast, List.length_map, List.length_append, List.length_cons, List.length_nil, List.length_set, List.length_take, assn_length] at h1
    refine op_v' (j_unwantV rfl rfl h1r) ?_
    refine op_v' (j_unwantV rfl rfl h1r) ?_
    refine op_v' (j_unwantV rfl rfl h1r) ?_
    refine op_v' (j_pick_t rfl h1r (evo rfl)) ?_
    refine op_nil ?_
    refine a_tt rfl ?_
    refine a_seq ?_
    refine a_region (by kernel_rfl) ?_
    refine op_v' (j_assign (evo rfl)) ?_
    refine op_nil ?_
    refine a_ret ?_
    exact ⟨[.p _], .p _, [], [], [], ⟨rfl, trivial⟩, rfl, rfl, trivial, rfl, rfl, ⟨intEq (by rw [cpV_bad (by first | exact .inl h1 | exact .inr (by assumption))]), rfl, rfl⟩⟩
  ·
    have h1r := h1
    try simp only [Bool.not_eq_true', Bool.not_eq_false', Bool.not_not, bne_iff_ne, bne_eq_false_iff_eq, beq_eq_false_iff_ne, beq_iff_eq, ne_eq, decide_eq_true_eq, decide_eq_false_iff_not, Classical.not_not, List.length_map, List.length_take, Int.toNat_natCast, List.length_map, List.length_append, List.length_cons, List.length_nil, List.length_set, List.length_take, assn_length] at h1
    refine op_v' (j_want rfl rfl h1r (j_move (evo rfl))) ?_
    refine op_v0' (j_want rfl rfl h1r (j_call0 (v := .p _) (hp1 := []) [] false [] ent106 (f_areVars vs) ⟨.inl ⟨rfl, rfl⟩, trivial⟩ trivial rfl rfl (fun h => by cases h) rfl (fun _ h => by cases h) (.inl rfl) rfl rfl)) ?_
    refine op_v' (j_want rfl rfl h1r (j_not rfl)) ?_
    refine op_v' (j_pick_f rfl h1r (evo rfl)) ?_
    refine op_nil ?_
    refine a_cond rfl (fun h2 => ?_) (fun h2 => ?_)
    ·
      have h2r := h2
      try simp only [Bool.not_eq_true', Bool.not_eq_false', Bool.not_not, bne_iff_ne, bne_eq_false_iff_eq, beq_eq_false_iff_ne, beq_iff_eq, ne_eq, decide_eq_true_eq, decide_eq_false_iff_not, Classical.not_not, List.length_map, List.length_take, Int.toNat_natCast, List.length_map, List.length_append, List.length_cons, List.length_nil, List.length_set, List.length_take, assn_length] at h2
      refine a_seq ?_
      refine a_region (by kernel_rfl) ?_
      refine op_v' (j_assign (evo rfl)) ?_
      refine op_nil ?_
      refine a_ret ?_
      exact ⟨[.p _], .p _, [], [], [], ⟨rfl, trivial⟩, rfl, rfl, trivial, rfl, rfl, ⟨intEq (by rw [cpV_bad (by first | exact .inl h1 | exact .inr (by assumption))]), rfl, rfl⟩⟩
    ·
      have h2r := h2
      try simp only [Bool.not_eq_true', Bool.not_eq_false', Bool.not_not, bne_iff_ne, bne_eq_false_iff_eq, beq_eq_false_iff_ne, beq_iff_eq, ne_eq, decide_eq_true_eq, decide_eq_false_iff_not, Classical.not_not, List.length_map, List.length_take, Int.toNat_natCast, List.length_map, List.length_append, List.length_cons, List.length_nil, List.length_set, List.length_take, assn_length] at h2
      refine a_skip ?_
      refine a_seq ?_
      have hvl := vars_len (vs := vs) (by assumption)
      have hpo : pOk l = true := by assumption
      have hall := pOk_all hpo
      refine a_region (by kernel_rfl) ?_
      refine op_n' (fun ver => j_makeMap) fun v19x1 => ?_
      refine op_v' (j_assign (evo rfl)) ?_
      refine op_nil ?_
      refine a_seq ?_
      refine a_seq ?_
      refine a_region (by kernel_rfl) ?_
      refine op_v' (j_move (evo rfl)) ?_
      refine op_nil ?_
      refine a_block ?_
      refine a_loopF' (ι := Nat) (fun n => n ≤ 4096) (fun n r => (20, .p (.int .i64 ((n : Nat)))) :: r) (fun n r => (19, some (v19x1, .map (mapK (keysN l vs n)))) :: r) (fun n => 4096 - n) (fun _ _ => rfl) (fun _ _ => rfl) 0 (by first | omega | (simp only [List.length_map, List.length_take, Int.toNat_natCast, List.length_map, List.length_append, List.length_cons, List.length_nil, List.length_set, List.length_take, assn_length]; omega)) ⟨⟨rfl, rfl⟩, ⟨rfl, trivial⟩, ⟨rfl, trivial⟩, ⟨rfl, rfl⟩, ⟨rfl, rfl⟩⟩ ?_
      intro n hn
      refine a_seq ?_
      refine a_region (by kernel_rfl) ?_
      refine op_v' (j_lt rfl rfl) ?_
      refine op_nil ?_
      refine a_seq ?_
      refine a_cond rfl (fun h3 => ?_) (fun h3 => ?_)
      ·
        have h3r := h3
        try simp only [Bool.not_eq_true', Bool.not_eq_false', Bool.not_not, bne_iff_ne, bne_eq_false_iff_eq, beq_eq_false_iff_ne, beq_iff_eq, ne_eq, decide_eq_true_eq, decide_eq_false_iff_not, Classical.not_not, List.length_map, List.length_take, Int.toNat_natCast, List.length_map, List.length_append, List.length_cons, List.length_nil, List.length_set, List.length_take, assn_length] at h3
        refine a_skip ?_
        refine a_seq ?_
        refine a_block ?_
        refine a_seq ?_
        refine a_region (by kernel_rfl) ?_
        refine op_v' (j_move (evo rfl)) ?_
        refine op_v' (j_assign (evo rfl)) ?_
        refine op_nil ?_
        refine a_seq ?_
        refine a_region (by kernel_rfl) ?_
        refine op_v' (j_move (evo rfl)) ?_
        refine op_n1' (fun ver => j_call1 (v := .own 24 ver) (hp1 := [(24, some (ver, .row 4 1 _))]) [] false [] ent107 (f_numbered n (by omega)) ⟨.inl ⟨rfl, rfl⟩, trivial⟩ trivial rfl rfl rfl (fun h => by cases h) rfl (List.all_eq_true.1 rfl) (.inl rfl) rfl rfl) fun v24x2 => ?_
        refine op_freezeK 24 trivial rfl rfl rfl ?_
        refine op_v' (j_assign (evo rfl)) ?_
        refine op_nil ?_
        refine a_seq ?_
        refine a_seq ?_
        refine a_region (by kernel_rfl) ?_
        refine op_v' (j_move (evo rfl)) ?_
        refine op_v' (j_move (evo rfl)) ?_
        refine op_v0' (j_call0 (v := .p _) (hp1 := []) [] false [] ent108 (f_sat l (assn n) hall assn_length) ⟨.inl ⟨rfl, rfl⟩, .inl ⟨rfl, rfl⟩, trivial⟩ trivial rfl rfl (fun h => by cases h) rfl (fun _ h => by cases h) (.inl rfl) rfl rfl) ?_
        refine op_v' (j_not rfl) ?_
        refine op_nil ?_
        refine a_cond rfl (fun h4 => ?_) (fun h4 => ?_)
        ·
          have h4r := h4
          try simp only [Bool.not_eq_true', Bool.not_eq_false', Bool.not_not, bne_iff_ne, bne_eq_false_iff_eq, beq_eq_false_iff_ne, beq_iff_eq, ne_eq, decide_eq_true_eq, decide_eq_false_iff_not, Classical.not_not, List.length_map, List.length_take, Int.toNat_natCast, List.length_map, List.length_append, List.length_cons, List.length_nil, List.length_set, List.length_take, assn_length] at h4
          refine a_exit ?_
          refine a_region (by kernel_rfl) ?_
          refine op_v' (j_add rfl rfl (by first | omega | (simp only [List.length_map, List.length_take, Int.toNat_natCast, List.length_map, List.length_append, List.length_cons, List.length_nil, List.length_set, List.length_take, assn_length]; omega)) (by first | omega | (simp only [List.length_map, List.length_take, Int.toNat_natCast, List.length_map, List.length_append, List.length_cons, List.length_nil, List.length_set, List.length_take, assn_length]; omega))) ?_
          refine op_v' (j_move (evo rfl)) ?_
          refine op_nil ?_
          exact ⟨n + 1, (by first | omega | (simp only [List.length_map, List.length_take, Int.toNat_natCast, List.length_map, List.length_append, List.length_cons, List.length_nil, List.length_set, List.length_take, assn_length]; omega)), ⟨⟨rfl, rfl⟩, ⟨rfl, trivial⟩, ⟨mapEq (by first | (rw [keys_y (by assumption)]) | (rw [keys_n (by assumption)])), trivial⟩, ⟨rfl, rfl⟩, ⟨rfl, rfl⟩⟩, (by first | omega | (simp only [List.length_map, List.length_take, Int.toNat_natCast, List.length_map, List.length_append, List.length_cons, List.length_nil, List.length_set, List.length_take, assn_length]; omega))⟩
        ·
          have h4r := h4
          try simp only [Bool.not_eq_true', Bool.not_eq_false', Bool.not_not, bne_iff_ne, bne_eq_false_iff_eq, beq_eq_false_iff_ne, beq_iff_eq, ne_eq, decide_eq_true_eq, decide_eq_false_iff_not, Classical.not_not, List.length_map, List.length_take, Int.toNat_natCast, List.length_map, List.length_append, List.length_cons, List.length_nil, List.length_set, List.length_take, assn_length] at h4
          refine a_skip ?_
          refine a_seq ?_
          refine a_region (by kernel_rfl) ?_
          refine op_v' (j_assign (evo rfl)) ?_
          refine op_nil ?_
          refine a_seq ?_
          refine a_seq ?_
          refine a_region (by kernel_rfl) ?_
          refine op_v' (j_move (evo rfl)) ?_
          refine op_v' (j_len_map Try.underlying36 rfl) ?_
          refine op_v' (j_move (evo rfl)) ?_
          refine op_nil ?_
          refine a_block ?_
          refine a_loopF' (ι := Nat) (fun i => i ≤ vs.length) (fun i r => (31, .p (.int .i64 ((i : Nat)))) :: (8, .p (.int .i64 ((keyI (assn n) (vs.take i))))) :: r) (fun i r => r) (fun i => vs.length - i) (fun _ _ => rfl) (fun _ _ => rfl) 0 (by first | omega | (simp only [List.length_map, List.length_take, Int.toNat_natCast, List.length_map, List.length_append, List.length_cons, List.length_nil, List.length_set, List.length_take, assn_length]; omega)) ⟨⟨rfl, rfl⟩, ⟨rfl, intEq rfl, trivial⟩, trivial, ⟨rfl, rfl⟩, ⟨rfl, rfl⟩⟩ ?_
          intro i hi
          refine a_seq ?_
          refine a_region (by kernel_rfl) ?_
          refine op_v' (j_lt rfl rfl) ?_
          refine op_nil ?_
          refine a_seq ?_
          refine a_cond rfl (fun h5 => ?_) (fun h5 => ?_)
          ·
            have h5r := h5
            try simp only [Bool.not_eq_true', Bool.not_eq_false', Bool.not_not, bne_iff_ne, bne_eq_false_iff_eq, beq_eq_false_iff_ne, beq_iff_eq, ne_eq, decide_eq_true_eq, decide_eq_false_iff_not, Classical.not_not, List.length_map, List.length_take, Int.toNat_natCast, List.length_map, List.length_append, List.length_cons, List.length_nil, List.length_set, List.length_take, assn_length] at h5
            refine a_skip ?_
            refine a_seq ?_
            refine a_block ?_
            refine a_seq ?_
            have hva := vars_at (vs := vs) (by assumption) (k := i) (by omega)
            have hkr := keyI_12 (bs := assn n) hvl (i := i) (by omega)
            refine a_region (by kernel_rfl) ?_
            refine op_v' (j_elemN slt36 rfl rfl rfl (at_map (by first | omega | (simp only [List.length_map, List.length_take, Int.toNat_natCast, List.length_map, List.length_append, List.length_cons, List.length_nil, List.length_set, List.length_take, assn_length]; omega))) rfl) ?_
            refine op_v' (j_load_el leaf3 rfl (at_map (by first | omega | (simp only [List.length_map, List.length_take, Int.toNat_natCast, List.length_map, List.length_append, List.length_cons, List.length_nil, List.length_set, List.length_take, assn_length]; omega))) rfl) ?_
            refine op_v' (j_assign (evo rfl)) ?_
            refine op_nil ?_
            refine a_seq ?_
            refine a_region (by kernel_rfl) ?_
            refine op_v' (j_move (evo rfl)) ?_
            refine op_v' (j_mul rfl rfl (by first | omega | (simp only [List.length_map, List.length_take, Int.toNat_natCast, List.length_map, List.length_append, List.length_cons, List.length_nil, List.length_set, List.length_take, assn_length]; omega)) (by first | omega | (simp only [List.length_map, List.length_take, Int.toNat_natCast, List.length_map, List.length_append, List.length_cons, List.length_nil, List.length_set, List.length_take, assn_length]; omega))) ?_
            refine op_v' (j_assign (evo rfl)) ?_
            refine op_nil ?_
            refine a_seq ?_
            refine a_region (by kernel_rfl) ?_
            refine op_v' (j_move (evo rfl)) ?_
            refine op_v' (j_move (evo rfl)) ?_
            refine op_v' (j_sub rfl rfl (by first | omega | (simp only [List.length_map, List.length_take, Int.toNat_natCast, List.length_map, List.length_append, List.length_cons, List.length_nil, List.length_set, List.length_take, assn_length]; omega)) (by first | omega | (simp only [List.length_map, List.length_take, Int.toNat_natCast, List.length_map, List.length_append, List.length_cons, List.length_nil, List.length_set, List.length_take, assn_length]; omega))) ?_
            refine op_v' (j_elemN (n := (vs.getD i default - 1).toNat) slt71 rfl rfl (by first | omega | (simp only [List.length_map, List.length_take, Int.toNat_natCast, List.length_map, List.length_append, List.length_cons, List.length_nil, List.length_set, List.length_take, assn_length]; omega)) (at_map (by first | omega | (simp only [List.length_map, List.length_take, Int.toNat_natCast, List.length_map, List.length_append, List.length_cons, List.length_nil, List.length_set, List.length_take, assn_length]; omega))) rfl) ?_
            refine op_v' (j_load_el leaf4 rfl (at_map (by first | omega | (simp only [List.length_map, List.length_take, Int.toNat_natCast, List.length_map, List.length_append, List.length_cons, List.length_nil, List.length_set, List.length_take, assn_length]; omega))) rfl) ?_
            refine op_nil ?_
            refine a_cond rfl (fun h6 => ?_) (fun h6 => ?_)
            ·
              have h6r := h6
              try simp only [Bool.not_eq_true', Bool.not_eq_false', Bool.not_not, bne_iff_ne, bne_eq_false_iff_eq, beq_eq_false_iff_ne, beq_iff_eq, ne_eq, decide_eq_true_eq, decide_eq_false_iff_not, Classical.not_not, List.length_map, List.length_take, Int.toNat_natCast, List.length_map, List.length_append, List.length_cons, List.length_nil, List.length_set, List.length_take, assn_length] at h6
              refine a_region (by kernel_rfl) ?_
              refine op_v' (j_move (evo rfl)) ?_
              refine op_v' (j_add rfl rfl (by first | omega | (simp only [List.length_map, List.length_take, Int.toNat_natCast, List.length_map, List.length_append, List.length_cons, List.length_nil, List.length_set, List.length_take, assn_length]; omega)) (by first | omega | (simp only [List.length_map, List.length_take, Int.toNat_natCast, List.length_map, List.length_append, List.length_cons, List.length_nil, List.length_set, List.length_take, assn_length]; omega))) ?_
              refine op_v' (j_assign (evo rfl)) ?_
              refine op_nil ?_
              refine a_region (by kernel_rfl) ?_
              refine op_v' (j_add rfl rfl (by first | omega | (simp only [List.length_map, List.length_take, Int.toNat_natCast, List.length_map, List.length_append, List.length_cons, List.length_nil, List.length_set, List.length_take, assn_length]; omega)) (by first | omega | (simp only [List.length_map, List.length_take, Int.toNat_natCast, List.length_map, List.length_append, List.length_cons, List.length_nil, List.length_set, List.length_take, assn_length]; omega))) ?_
              refine op_v' (j_move (evo rfl)) ?_
              refine op_nil ?_
              exact ⟨i + 1, (by first | omega | (simp only [List.length_map, List.length_take, Int.toNat_natCast, List.length_map, List.length_append, List.length_cons, List.length_nil, List.length_set, List.length_take, assn_length]; omega)), ⟨⟨rfl, rfl⟩, ⟨rfl, intEq (by rw [keyI_y (by omega) (by assumption)]), trivial⟩, trivial, ⟨rfl, rfl⟩, ⟨rfl, rfl⟩⟩, (by first | omega | (simp only [List.length_map, List.length_take, Int.toNat_natCast, List.length_map, List.length_append, List.length_cons, List.length_nil, List.length_set, List.length_take, assn_length]; omega))⟩
            ·
              have h6r := h6
              try simp only [Bool.not_eq_true', Bool.not_eq_false', Bool.not_not, bne_iff_ne, bne_eq_false_iff_eq, beq_eq_false_iff_ne, beq_iff_eq, ne_eq, decide_eq_true_eq, decide_eq_false_iff_not, Classical.not_not, List.length_map, List.length_take, Int.toNat_natCast, List.length_map, List.length_append, List.length_cons, List.length_nil, List.length_set, List.length_take, assn_length] at h6
              refine a_skip ?_
              refine a_region (by kernel_rfl) ?_
              refine op_v' (j_add rfl rfl (by first | omega | (simp only [List.length_map, List.length_take, Int.toNat_natCast, List.length_map, List.length_append, List.length_cons, List.length_nil, List.length_set, List.length_take, assn_length]; omega)) (by first | omega | (simp only [List.length_map, List.length_take, Int.toNat_natCast, List.length_map, List.length_append, List.length_cons, List.length_nil, List.length_set, List.length_take, assn_length]; omega))) ?_
              refine op_v' (j_move (evo rfl)) ?_
              refine op_nil ?_
              exact ⟨i + 1, (by first | omega | (simp only [List.length_map, List.length_take, Int.toNat_natCast, List.length_map, List.length_append, List.length_cons, List.length_nil, List.length_set, List.length_take, assn_length]; omega)), ⟨⟨rfl, rfl⟩, ⟨rfl, intEq (by rw [keyI_n (by omega) (by assumption)]), trivial⟩, trivial, ⟨rfl, rfl⟩, ⟨rfl, rfl⟩⟩, (by first | omega | (simp only [List.length_map, List.length_take, Int.toNat_natCast, List.length_map, List.length_append, List.length_cons, List.length_nil, List.length_set, List.length_take, assn_length]; omega))⟩
          ·
            have h5r := h5
            try simp only [Bool.not_eq_true', Bool.not_eq_false', Bool.not_not, bne_iff_ne, bne_eq_false_iff_eq, beq_eq_false_iff_ne, beq_iff_eq, ne_eq, decide_eq_true_eq, decide_eq_false_iff_not, Classical.not_not, List.length_map, List.length_take, Int.toNat_natCast, List.length_map, List.length_append, List.length_cons, List.length_nil, List.length_set, List.length_take, assn_length] at h5
            refine a_exit ?_
            obtain rfl : i = vs.length := by omega
            rw [List.take_length]
            refine a_region (by kernel_rfl) ?_
            refine op_v' (j_move (evo rfl)) ?_
            refine op_v' (j_move (evo rfl)) ?_
            refine op_s' (j_mapSetI Try.underlying118 Try.underlying3 rfl rfl rfl rfl) ?_
            refine op_nil ?_
            refine a_region (by kernel_rfl) ?_
            refine op_v' (j_add rfl rfl (by first | omega | (simp only [List.length_map, List.length_take, Int.toNat_natCast, List.length_map, List.length_append, List.length_cons, List.length_nil, List.length_set, List.length_take, assn_length]; omega)) (by first | omega | (simp only [List.length_map, List.length_take, Int.toNat_natCast, List.length_map, List.length_append, List.length_cons, List.length_nil, List.length_set, List.length_take, assn_length]; omega))) ?_
            refine op_v' (j_move (evo rfl)) ?_
            refine op_nil ?_
            exact ⟨n + 1, (by first | omega | (simp only [List.length_map, List.length_take, Int.toNat_natCast, List.length_map, List.length_append, List.length_cons, List.length_nil, List.length_set, List.length_take, assn_length]; omega)), ⟨⟨rfl, rfl⟩, ⟨rfl, trivial⟩, ⟨mapEq (by first | (rw [keys_y (by assumption)]) | (rw [keys_n (by assumption)])), trivial⟩, ⟨rfl, rfl⟩, ⟨rfl, rfl⟩⟩, (by first | omega | (simp only [List.length_map, List.length_take, Int.toNat_natCast, List.length_map, List.length_append, List.length_cons, List.length_nil, List.length_set, List.length_take, assn_length]; omega))⟩
      ·
        have h3r := h3
        try simp only [Bool.not_eq_true', Bool.not_eq_false', Bool.not_not, bne_iff_ne, bne_eq_false_iff_eq, beq_eq_false_iff_ne, beq_iff_eq, ne_eq, decide_eq_true_eq, decide_eq_false_iff_not, Classical.not_not, List.length_map, List.length_take, Int.toNat_natCast, List.length_map, List.length_append, List.length_cons, List.length_nil, List.length_set, List.length_take, assn_length] at h3
        refine a_exit ?_
        refine a_seq ?_
        refine a_region (by kernel_rfl) ?_
        refine op_v' (j_move (evo rfl)) ?_
        refine op_v' (j_len_mapI Try.underlying118 rfl rfl) ?_
        refine op_v' (j_assign (evo rfl)) ?_
        refine op_nil ?_
        refine a_ret ?_
        exact ⟨[.p _], .p _, [], [], [], ⟨rfl, trivial⟩, rfl, rfl, trivial, rfl, rfl, ⟨intEq (by rw [cpV_ok hpo (by assumption), show n = 4096 by omega]), rfl, rfl⟩⟩


theorem f_cpSpec (l : List Con) (vs : List Int) : Fn Try.prog 44 [.sl (l.map dC), .sl (vs.map dI)] [] (fun rr ii nn => rr = .p (.int .i64 (cpV l vs)) ∧ ii = [] ∧ nn = []) := by
  refine fn_of Try.func44 rfl (Nat.le_of_ble_eq_true rfl) fun w X g => ?_
  show AWp _ _ _ ⟨[(0, .sl (l.map dC)), (1, .sl (vs.map dI))], []⟩
  refine a_seq ?_
  refine a_region (by kernel_rfl) ?_
  refine op_v' (j_assign (evo rfl)) ?_
  refine op_nil ?_
  refine a_seq ?_
  refine a_seq ?_
  refine a_region (by kernel_rfl) ?_
  refine op_v' (j_move (evo rfl)) ?_
  refine op_v0' (j_call0 (v := .p _) (hp1 := []) [] false [] ent80 (f_pvSpec l) ⟨.inl ⟨rfl, rfl⟩, trivial⟩ trivial rfl rfl (fun h => by cases h) rfl (fun _ h => by cases h) (.inl rfl) rfl rfl) ?_
  refine op_v' (j_not rfl) ?_
  refine op_v' (j_move (evo rfl)) ?_
  refine op_split' 14 rfl (fun h1 => ?_) (fun h1 => ?_)
  ·
    have h1r := h1
    try simp only [Bool.not_eq_true', Bool.not_eq_false', Bool.not_not, bne_iff_ne, bne_eq_false_iff_eq, beq_eq_false_iff_ne, beq_iff_eq, ne_eq, decide_eq_true_eq, decide_eq_false_iff_not, Classical.not_not, List.length_map, List.length_take, Int.toNat_natCast, List.length_map, List.length_append, List.length_cons, List.length_nil, List.length_set, List.length_take, assn_length, seenR_len] at h1
    refine op_v' (j_unwantV rfl rfl h1r) ?_
    refine op_v' (j_unwantV rfl rfl h1r) ?_
    refine op_v' (j_unwantV rfl rfl h1r) ?_
    refine op_v' (j_pick_t rfl h1r (evo rfl)) ?_
    refine op_nil ?_
    refine a_tt rfl ?_
    refine a_seq ?_
    refine a_region (by kernel_rfl) ?_
    refine op_v' (j_assign (evo rfl)) ?_
    refine op_nil ?_
    refine a_ret ?_
    exact ⟨[.p _], .p _, [], [], [], ⟨rfl, trivial⟩, rfl, rfl, trivial, rfl, rfl, ⟨intEq (by rw [cpV_bad (by first | exact .inl h1 | exact .inr (by assumption))]), rfl, rfl⟩⟩
  ·
    have h1r := h1
    try simp only [Bool.not_eq_true', Bool.not_eq_false', Bool.not_not, bne_iff_ne, bne_eq_false_iff_eq, beq_eq_false_iff_ne, beq_iff_eq, ne_eq, decide_eq_true_eq, decide_eq_false_iff_not, Classical.not_not, List.length_map, List.length_take, Int.toNat_natCast, List.length_map, List.length_append, List.length_cons, List.length_nil, List.length_set, List.length_take, assn_length, seenR_len] at h1
    refine op_v' (j_want rfl rfl h1r (j_move (evo rfl))) ?_
    refine op_v0' (j_want rfl rfl h1r (j_call0 (v := .p _) (hp1 := []) [] false [] ent103 (f_l14Vars vs) ⟨.inl ⟨rfl, rfl⟩, trivial⟩ trivial rfl rfl (fun h => by cases h) rfl (fun _ h => by cases h) (.inl rfl) rfl rfl)) ?_
    refine op_v' (j_want rfl rfl h1r (j_not rfl)) ?_
    refine op_v' (j_pick_f rfl h1r (evo rfl)) ?_
    refine op_nil ?_
    refine a_cond rfl (fun h2 => ?_) (fun h2 => ?_)
    ·
      have h2r := h2
      try simp only [Bool.not_eq_true', Bool.not_eq_false', Bool.not_not, bne_iff_ne, bne_eq_false_iff_eq, beq_eq_false_iff_ne, beq_iff_eq, ne_eq, decide_eq_true_eq, decide_eq_false_iff_not, Classical.not_not, List.length_map, List.length_take, Int.toNat_natCast, List.length_map, List.length_append, List.length_cons, List.length_nil, List.length_set, List.length_take, assn_length, seenR_len] at h2
      refine a_seq ?_
      refine a_region (by kernel_rfl) ?_
      refine op_v' (j_assign (evo rfl)) ?_
      refine op_nil ?_
      refine a_ret ?_
      exact ⟨[.p _], .p _, [], [], [], ⟨rfl, trivial⟩, rfl, rfl, trivial, rfl, rfl, ⟨intEq (by rw [cpV_bad (by first | exact .inl h1 | exact .inr (by assumption))]), rfl, rfl⟩⟩
    ·
      have h2r := h2
      try simp only [Bool.not_eq_true', Bool.not_eq_false', Bool.not_not, bne_iff_ne, bne_eq_false_iff_eq, beq_eq_false_iff_ne, beq_iff_eq, ne_eq, decide_eq_true_eq, decide_eq_false_iff_not, Classical.not_not, List.length_map, List.length_take, Int.toNat_natCast, List.length_map, List.length_append, List.length_cons, List.length_nil, List.length_set, List.length_take, assn_length, seenR_len] at h2
      refine a_skip ?_
      refine a_seq ?_
      have hvl := vars_len (vs := vs) (by assumption)
      have hpo : pOk l = true := by assumption
      have hall := pOk_all hpo
      refine a_region (by kernel_rfl) ?_
      refine op_n' (fun ver => j_make (n := 4096) slt71 elt4 rfl rfl (by decide) rfl rfl rfl rfl (by first | omega | (simp only [List.length_map, List.length_take, Int.toNat_natCast, List.length_map, List.length_append, List.length_cons, List.length_nil, List.length_set, List.length_take, assn_length, seenR_len]; omega)) (by rw [maxLen_eq]; first | omega | (simp only [List.length_map, List.length_take, Int.toNat_natCast, List.length_map, List.length_append, List.length_cons, List.length_nil, List.length_set, List.length_take, assn_length, seenR_len]; omega))) fun v19x1 => ?_
      refine op_v' (j_assign (evo rfl)) ?_
      refine op_nil ?_
      refine a_row 19 (es' := (seenR []).map dB) rfl seenR_nil.symm ?_
      refine a_seq ?_
      refine a_region (by kernel_rfl) ?_
      refine op_v' (j_assign (evo rfl)) ?_
      refine op_nil ?_
      refine a_seq ?_
      refine a_seq ?_
      refine a_region (by kernel_rfl) ?_
      refine op_v' (j_assign (evo rfl)) ?_
      refine op_nil ?_
      refine a_block ?_
      refine a_loopF' (ι := Nat) (fun n => n ≤ 4096) (fun n r => (7, .p (.int .i64 ((n : Nat)))) :: (6, .p (.int .i64 (((keysN l vs n).length : Nat)))) :: r) (fun n r => (19, some (v19x1, .row 4 1 ((seenR (keysN l vs n)).map dB))) :: r) (fun n => 4096 - n) (fun _ _ => rfl) (fun _ _ => rfl) 0 (by first | omega | (simp only [List.length_map, List.length_take, Int.toNat_natCast, List.length_map, List.length_append, List.length_cons, List.length_nil, List.length_set, List.length_take, assn_length, seenR_len]; omega)) ⟨⟨rfl, rfl⟩, ⟨rfl, rfl, trivial⟩, ⟨rfl, trivial⟩, ⟨rfl, rfl⟩, ⟨rfl, rfl⟩⟩ ?_
      intro n hn
      refine a_seq ?_
      refine a_seq ?_
      refine a_region (by kernel_rfl) ?_
      refine op_v' (j_move (evo rfl)) ?_
      refine op_v' (j_lt rfl rfl) ?_
      refine op_nil ?_
      refine a_cond rfl (fun h3 => ?_) (fun h3 => ?_)
      ·
        have h3r := h3
        try simp only [Bool.not_eq_true', Bool.not_eq_false', Bool.not_not, bne_iff_ne, bne_eq_false_iff_eq, beq_eq_false_iff_ne, beq_iff_eq, ne_eq, decide_eq_true_eq, decide_eq_false_iff_not, Classical.not_not, List.length_map, List.length_take, Int.toNat_natCast, List.length_map, List.length_append, List.length_cons, List.length_nil, List.length_set, List.length_take, assn_length, seenR_len] at h3
        refine a_skip ?_
        refine a_seq ?_
        refine a_block ?_
        refine a_seq ?_
        refine a_region (by kernel_rfl) ?_
        refine op_v' (j_move (evo rfl)) ?_
        refine op_n1' (fun ver => j_call1 (v := .own 25 ver) (hp1 := [(25, some (ver, .row 4 1 _))]) [] false [] ent104 (f_l5Values n (by omega)) ⟨.inl ⟨rfl, rfl⟩, trivial⟩ trivial rfl rfl rfl (fun h => by cases h) rfl (List.all_eq_true.1 rfl) (.inl rfl) rfl rfl) fun v25x2 => ?_
        refine op_freezeK 25 trivial rfl rfl rfl ?_
        refine op_v' (j_assign (evo rfl)) ?_
        refine op_nil ?_
        refine a_seq ?_
        refine a_region (by kernel_rfl) ?_
        refine op_v' (j_assign (evo rfl)) ?_
        refine op_nil ?_
        refine a_seq ?_
        refine a_seq ?_
        refine a_region (by kernel_rfl) ?_
        refine op_v' (j_assign (evo rfl)) ?_
        refine op_nil ?_
        refine a_block ?_
        refine a_loopF' (ι := Nat) (fun i => i ≤ vs.length) (fun i r => (10, .p (.int .i64 ((i : Nat)))) :: (9, .p (.int .i64 ((keyI (assn n) (vs.take i))))) :: r) (fun i r => r) (fun i => vs.length - i) (fun _ _ => rfl) (fun _ _ => rfl) 0 (by first | omega | (simp only [List.length_map, List.length_take, Int.toNat_natCast, List.length_map, List.length_append, List.length_cons, List.length_nil, List.length_set, List.length_take, assn_length, seenR_len]; omega)) ⟨⟨rfl, rfl⟩, ⟨rfl, intEq rfl, trivial⟩, trivial, ⟨rfl, rfl⟩, ⟨rfl, rfl⟩⟩ ?_
        intro i hi
        refine a_seq ?_
        refine a_seq ?_
        refine a_region (by kernel_rfl) ?_
        refine op_v' (j_move (evo rfl)) ?_
        refine op_v' (j_move (evo rfl)) ?_
        refine op_v' (j_len_map Try.underlying36 rfl) ?_
        refine op_v' (j_lt rfl rfl) ?_
        refine op_nil ?_
        refine a_cond rfl (fun h4 => ?_) (fun h4 => ?_)
        ·
          have h4r := h4
          try simp only [Bool.not_eq_true', Bool.not_eq_false', Bool.not_not, bne_iff_ne, bne_eq_false_iff_eq, beq_eq_false_iff_ne, beq_iff_eq, ne_eq, decide_eq_true_eq, decide_eq_false_iff_not, Classical.not_not, List.length_map, List.length_take, Int.toNat_natCast, List.length_map, List.length_append, List.length_cons, List.length_nil, List.length_set, List.length_take, assn_length, seenR_len] at h4
          refine a_skip ?_
          refine a_seq ?_
          refine a_block ?_
          refine a_seq ?_
          have hva := vars_at (vs := vs) (by assumption) (k := i) (by omega)
          have hkr := keyI_12 (bs := assn n) hvl (i := i) (by omega)
          refine a_region (by kernel_rfl) ?_
          refine op_v' (j_move (evo rfl)) ?_
          refine op_v' (j_mul rfl rfl (by first | omega | (simp only [List.length_map, List.length_take, Int.toNat_natCast, List.length_map, List.length_append, List.length_cons, List.length_nil, List.length_set, List.length_take, assn_length, seenR_len]; omega)) (by first | omega | (simp only [List.length_map, List.length_take, Int.toNat_natCast, List.length_map, List.length_append, List.length_cons, List.length_nil, List.length_set, List.length_take, assn_length, seenR_len]; omega))) ?_
          refine op_v' (j_assign (evo rfl)) ?_
          refine op_nil ?_
          refine a_seq ?_
          refine a_region (by kernel_rfl) ?_
          refine op_v' (j_move (evo rfl)) ?_
          refine op_v' (j_move (evo rfl)) ?_
          refine op_v' (j_move (evo rfl)) ?_
          refine op_v' (j_elemN slt36 rfl rfl rfl (at_map (by first | omega | (simp only [List.length_map, List.length_take, Int.toNat_natCast, List.length_map, List.length_append, List.length_cons, List.length_nil, List.length_set, List.length_take, assn_length, seenR_len]; omega))) rfl) ?_
          refine op_v' (j_load_el leaf3 rfl (at_map (by first | omega | (simp only [List.length_map, List.length_take, Int.toNat_natCast, List.length_map, List.length_append, List.length_cons, List.length_nil, List.length_set, List.length_take, assn_length, seenR_len]; omega))) rfl) ?_
          refine op_v' (j_sub rfl rfl (by first | omega | (simp only [List.length_map, List.length_take, Int.toNat_natCast, List.length_map, List.length_append, List.length_cons, List.length_nil, List.length_set, List.length_take, assn_length, seenR_len]; omega)) (by first | omega | (simp only [List.length_map, List.length_take, Int.toNat_natCast, List.length_map, List.length_append, List.length_cons, List.length_nil, List.length_set, List.length_take, assn_length, seenR_len]; omega))) ?_
          refine op_v' (j_elemN (n := (vs.getD i default - 1).toNat) slt71 rfl rfl (by first | omega | (simp only [List.length_map, List.length_take, Int.toNat_natCast, List.length_map, List.length_append, List.length_cons, List.length_nil, List.length_set, List.length_take, assn_length, seenR_len]; omega)) (at_map (by first | omega | (simp only [List.length_map, List.length_take, Int.toNat_natCast, List.length_map, List.length_append, List.length_cons, List.length_nil, List.length_set, List.length_take, assn_length, seenR_len]; omega))) rfl) ?_
          refine op_v' (j_load_el leaf4 rfl (at_map (by first | omega | (simp only [List.length_map, List.length_take, Int.toNat_natCast, List.length_map, List.length_append, List.length_cons, List.length_nil, List.length_set, List.length_take, assn_length, seenR_len]; omega))) rfl) ?_
          refine op_nil ?_
          refine a_cond rfl (fun h5 => ?_) (fun h5 => ?_)
          ·
            have h5r := h5
            try simp only [Bool.not_eq_true', Bool.not_eq_false', Bool.not_not, bne_iff_ne, bne_eq_false_iff_eq, beq_eq_false_iff_ne, beq_iff_eq, ne_eq, decide_eq_true_eq, decide_eq_false_iff_not, Classical.not_not, List.length_map, List.length_take, Int.toNat_natCast, List.length_map, List.length_append, List.length_cons, List.length_nil, List.length_set, List.length_take, assn_length, seenR_len] at h5
            refine a_region (by kernel_rfl) ?_
            refine op_v' (j_move (evo rfl)) ?_
            refine op_v' (j_add rfl rfl (by first | omega | (simp only [List.length_map, List.length_take, Int.toNat_natCast, List.length_map, List.length_append, List.length_cons, List.length_nil, List.length_set, List.length_take, assn_length, seenR_len]; omega)) (by first | omega | (simp only [List.length_map, List.length_take, Int.toNat_natCast, List.length_map, List.length_append, List.length_cons, List.length_nil, List.length_set, List.length_take, assn_length, seenR_len]; omega))) ?_
            refine op_v' (j_assign (evo rfl)) ?_
            refine op_nil ?_
            refine a_region (by kernel_rfl) ?_
            refine op_v' (j_move (evo rfl)) ?_
            refine op_v' (j_add rfl rfl (by first | omega | (simp only [List.length_map, List.length_take, Int.toNat_natCast, List.length_map, List.length_append, List.length_cons, List.length_nil, List.length_set, List.length_take, assn_length, seenR_len]; omega)) (by first | omega | (simp only [List.length_map, List.length_take, Int.toNat_natCast, List.length_map, List.length_append, List.length_cons, List.length_nil, List.length_set, List.length_take, assn_length, seenR_len]; omega))) ?_
            refine op_v' (j_assign (evo rfl)) ?_
            refine op_nil ?_
            exact ⟨i + 1, (by first | omega | (simp only [List.length_map, List.length_take, Int.toNat_natCast, List.length_map, List.length_append, List.length_cons, List.length_nil, List.length_set, List.length_take, assn_length, seenR_len]; omega)), ⟨⟨rfl, rfl⟩, ⟨rfl, intEq (by rw [keyI_y (by omega) (by assumption)]), trivial⟩, trivial, ⟨rfl, rfl⟩, ⟨rfl, rfl⟩⟩, (by first | omega | (simp only [List.length_map, List.length_take, Int.toNat_natCast, List.length_map, List.length_append, List.length_cons, List.length_nil, List.length_set, List.length_take, assn_length, seenR_len]; omega))⟩
          ·
            have h5r := h5
            try simp only [Bool.not_eq_true', Bool.not_eq_false', Bool.not_not, bne_iff_ne, bne_eq_false_iff_eq, beq_eq_false_iff_ne, beq_iff_eq, ne_eq, decide_eq_true_eq, decide_eq_false_iff_not, Classical.not_not, List.length_map, List.length_take, Int.toNat_natCast, List.length_map, List.length_append, List.length_cons, List.length_nil, List.length_set, List.length_take, assn_length, seenR_len] at h5
            refine a_skip ?_
            refine a_region (by kernel_rfl) ?_
            refine op_v' (j_move (evo rfl)) ?_
            refine op_v' (j_add rfl rfl (by first | omega | (simp only [List.length_map, List.length_take, Int.toNat_natCast, List.length_map, List.length_append, List.length_cons, List.length_nil, List.length_set, List.length_take, assn_length, seenR_len]; omega)) (by first | omega | (simp only [List.length_map, List.length_take, Int.toNat_natCast, List.length_map, List.length_append, List.length_cons, List.length_nil, List.length_set, List.length_take, assn_length, seenR_len]; omega))) ?_
            refine op_v' (j_assign (evo rfl)) ?_
            refine op_nil ?_
            exact ⟨i + 1, (by first | omega | (simp only [List.length_map, List.length_take, Int.toNat_natCast, List.length_map, List.length_append, List.length_cons, List.length_nil, List.length_set, List.length_take, assn_length, seenR_len]; omega)), ⟨⟨rfl, rfl⟩, ⟨rfl, intEq (by rw [keyI_n (by omega) (by assumption)]), trivial⟩, trivial, ⟨rfl, rfl⟩, ⟨rfl, rfl⟩⟩, (by first | omega | (simp only [List.length_map, List.length_take, Int.toNat_natCast, List.length_map, List.length_append, List.length_cons, List.length_nil, List.length_set, List.length_take, assn_length, seenR_len]; omega))⟩
        ·
          have h4r := h4
          try simp only [Bool.not_eq_true', Bool.not_eq_false', Bool.not_not, bne_iff_ne, bne_eq_false_iff_eq, beq_eq_false_iff_ne, beq_iff_eq, ne_eq, decide_eq_true_eq, decide_eq_false_iff_not, Classical.not_not, List.length_map, List.length_take, Int.toNat_natCast, List.length_map, List.length_append, List.length_cons, List.length_nil, List.length_set, List.length_take, assn_length, seenR_len] at h4
          refine a_exit ?_
          refine a_seq ?_
          obtain rfl : i = vs.length := by omega
          rw [List.take_length]
          have hkr := keyI_12 (bs := assn n) hvl (i := vs.length) (by omega)
          rw [List.take_length] at hkr
          have hsa := seenR_at (ks := keysN l vs n) hkr
          have hkl := keys_le (l := l) (vs := vs) (n := n)
          refine a_region (by kernel_rfl) ?_
          refine op_v' (j_move (evo rfl)) ?_
          refine op_v' (j_move (evo rfl)) ?_
          refine op_v' (j_elem_ownN (n := (keyI (assn n) vs).toNat) slt71 rfl rfl rfl (by first | omega | (simp only [List.length_map, List.length_take, Int.toNat_natCast, List.length_map, List.length_append, List.length_cons, List.length_nil, List.length_set, List.length_take, assn_length, seenR_len]; omega)) (by first | omega | (simp only [List.length_map, List.length_take, Int.toNat_natCast, List.length_map, List.length_append, List.length_cons, List.length_nil, List.length_set, List.length_take, assn_length, seenR_len]; omega))) ?_
          refine op_v' (j_load_pel leaf4 rfl rfl (at_map (by first | omega | (simp only [List.length_map, List.length_take, Int.toNat_natCast, List.length_map, List.length_append, List.length_cons, List.length_nil, List.length_set, List.length_take, assn_length, seenR_len]; omega))) rfl) ?_
          refine op_v' (j_not rfl) ?_
          refine op_v' (j_move (evo rfl)) ?_
          refine op_split' 49 rfl (fun h6 => ?_) (fun h6 => ?_)
          ·
            have h6r := h6
            try simp only [Bool.not_eq_true', Bool.not_eq_false', Bool.not_not, bne_iff_ne, bne_eq_false_iff_eq, beq_eq_false_iff_ne, beq_iff_eq, ne_eq, decide_eq_true_eq, decide_eq_false_iff_not, Classical.not_not, List.length_map, List.length_take, Int.toNat_natCast, List.length_map, List.length_append, List.length_cons, List.length_nil, List.length_set, List.length_take, assn_length, seenR_len] at h6
            refine op_v' (j_want rfl rfl h6r (j_move (evo rfl))) ?_
            refine op_v' (j_want rfl rfl h6r (j_move (evo rfl))) ?_
            refine op_v0' (j_want rfl rfl h6r (j_call0 (v := .p _) (hp1 := []) [] false [] ent105 (f_l3All l (assn n) hall assn_length) ⟨.inl ⟨rfl, rfl⟩, .inl ⟨rfl, rfl⟩, trivial⟩ trivial rfl rfl (fun h => by cases h) rfl (fun _ h => by cases h) (.inl rfl) rfl rfl)) ?_
            refine op_v' (j_pick_t rfl h6r (evo rfl)) ?_
            refine op_nil ?_
            refine a_cond rfl (fun h7 => ?_) (fun h7 => ?_)
            ·
              have h7r := h7
              try simp only [Bool.not_eq_true', Bool.not_eq_false', Bool.not_not, bne_iff_ne, bne_eq_false_iff_eq, beq_eq_false_iff_ne, beq_iff_eq, ne_eq, decide_eq_true_eq, decide_eq_false_iff_not, Classical.not_not, List.length_map, List.length_take, Int.toNat_natCast, List.length_map, List.length_append, List.length_cons, List.length_nil, List.length_set, List.length_take, assn_length, seenR_len] at h7
              refine a_seq ?_
              refine a_region (by kernel_rfl) ?_
              refine op_v' (j_move (evo rfl)) ?_
              refine op_v' (j_move (evo rfl)) ?_
              refine op_v' (j_elem_ownN (n := (keyI (assn n) vs).toNat) slt71 rfl rfl rfl (by first | omega | (simp only [List.length_map, List.length_take, Int.toNat_natCast, List.length_map, List.length_append, List.length_cons, List.length_nil, List.length_set, List.length_take, assn_length, seenR_len]; omega)) (by first | omega | (simp only [List.length_map, List.length_take, Int.toNat_natCast, List.length_map, List.length_append, List.length_cons, List.length_nil, List.length_set, List.length_take, assn_length, seenR_len]; omega))) ?_
              refine op_s' (j_store_row leaf4 rfl rfl (by first | omega | (simp only [List.length_map, List.length_take, Int.toNat_natCast, List.length_map, List.length_append, List.length_cons, List.length_nil, List.length_set, List.length_take, assn_length, seenR_len]; omega)) (evo rfl) rfl rfl) ?_
              refine op_nil ?_
              refine a_region (by kernel_rfl) ?_
              refine op_v' (j_move (evo rfl)) ?_
              refine op_v' (j_add rfl rfl (by first | omega | (simp only [List.length_map, List.length_take, Int.toNat_natCast, List.length_map, List.length_append, List.length_cons, List.length_nil, List.length_set, List.length_take, assn_length, seenR_len]; omega)) (by first | omega | (simp only [List.length_map, List.length_take, Int.toNat_natCast, List.length_map, List.length_append, List.length_cons, List.length_nil, List.length_set, List.length_take, assn_length, seenR_len]; omega))) ?_
              refine op_v' (j_assign (evo rfl)) ?_
              refine op_nil ?_
              refine a_region (by kernel_rfl) ?_
              refine op_v' (j_move (evo rfl)) ?_
              refine op_v' (j_add rfl rfl (by first | omega | (simp only [List.length_map, List.length_take, Int.toNat_natCast, List.length_map, List.length_append, List.length_cons, List.length_nil, List.length_set, List.length_take, assn_length, seenR_len]; omega)) (by first | omega | (simp only [List.length_map, List.length_take, Int.toNat_natCast, List.length_map, List.length_append, List.length_cons, List.length_nil, List.length_set, List.length_take, assn_length, seenR_len]; omega))) ?_
              refine op_v' (j_assign (evo rfl)) ?_
              refine op_nil ?_
              have hs : satV l (assn n) = true := by assumption
              have hni : keyI (assn n) vs ∉ keysN l vs n := of_decide_eq_false (hsa.symm.trans (by assumption))
              have hcnt : ((keysN l vs n).length : Int) + 1 = ((keysN l vs (n + 1)).length : Nat) := by rw [keys_y hs, ins_out hni]; omega
              have hrow : ((seenR (keysN l vs n)).map dB).set (keyI (assn n) vs).toNat (dB true) = (seenR (keysN l vs (n + 1))).map dB := by rw [seenR_set hkr hni, keys_y hs]
              exact ⟨n + 1, (by first | omega | (simp only [List.length_map, List.length_take, Int.toNat_natCast, List.length_map, List.length_append, List.length_cons, List.length_nil, List.length_set, List.length_take, assn_length, seenR_len]; omega)), ⟨⟨rfl, rfl⟩, ⟨rfl, intEq hcnt, trivial⟩, ⟨rowEq hrow, trivial⟩, ⟨rfl, rfl⟩, ⟨rfl, rfl⟩⟩, (by first | omega | (simp only [List.length_map, List.length_take, Int.toNat_natCast, List.length_map, List.length_append, List.length_cons, List.length_nil, List.length_set, List.length_take, assn_length, seenR_len]; omega))⟩
            ·
              have h7r := h7
              try simp only [Bool.not_eq_true', Bool.not_eq_false', Bool.not_not, bne_iff_ne, bne_eq_false_iff_eq, beq_eq_false_iff_ne, beq_iff_eq, ne_eq, decide_eq_true_eq, decide_eq_false_iff_not, Classical.not_not, List.length_map, List.length_take, Int.toNat_natCast, List.length_map, List.length_append, List.length_cons, List.length_nil, List.length_set, List.length_take, assn_length, seenR_len] at h7
              refine a_skip ?_
              refine a_region (by kernel_rfl) ?_
              refine op_v' (j_move (evo rfl)) ?_
              refine op_v' (j_add rfl rfl (by first | omega | (simp only [List.length_map, List.length_take, Int.toNat_natCast, List.length_map, List.length_append, List.length_cons, List.length_nil, List.length_set, List.length_take, assn_length, seenR_len]; omega)) (by first | omega | (simp only [List.length_map, List.length_take, Int.toNat_natCast, List.length_map, List.length_append, List.length_cons, List.length_nil, List.length_set, List.length_take, assn_length, seenR_len]; omega))) ?_
              refine op_v' (j_assign (evo rfl)) ?_
              refine op_nil ?_
              have hsame : keysN l vs (n + 1) = keysN l vs n := by first | (exact keys_n (by assumption)) | (have hi : keyI (assn n) vs ∈ keysN l vs n := of_decide_eq_true (hsa.symm.trans (by assumption)); cases hs : satV l (assn n); (· exact keys_n hs); (· rw [keys_y hs, ins_in hi]))
              have hcnt : ((keysN l vs n).length : Int) = ((keysN l vs (n + 1)).length : Nat) := by rw [hsame]
              have hrow : (seenR (keysN l vs n)).map dB = (seenR (keysN l vs (n + 1))).map dB := by rw [hsame]
              exact ⟨n + 1, (by first | omega | (simp only [List.length_map, List.length_take, Int.toNat_natCast, List.length_map, List.length_append, List.length_cons, List.length_nil, List.length_set, List.length_take, assn_length, seenR_len]; omega)), ⟨⟨rfl, rfl⟩, ⟨rfl, intEq hcnt, trivial⟩, ⟨rowEq hrow, trivial⟩, ⟨rfl, rfl⟩, ⟨rfl, rfl⟩⟩, (by first | omega | (simp only [List.length_map, List.length_take, Int.toNat_natCast, List.length_map, List.length_append, List.length_cons, List.length_nil, List.length_set, List.length_take, assn_length, seenR_len]; omega))⟩
          ·
            have h6r := h6
            try simp only [Bool.not_eq_true', Bool.not_eq_false', Bool.not_not, bne_iff_ne, bne_eq_false_iff_eq, beq_eq_false_iff_ne, beq_iff_eq, ne_eq, decide_eq_true_eq, decide_eq_false_iff_not, Classical.not_not, List.length_map, List.length_take, Int.toNat_natCast, List.length_map, List.length_append, List.length_cons, List.length_nil, List.length_set, List.length_take, assn_length, seenR_len] at h6
            refine op_v' (j_unwantV rfl rfl h6r) ?_
            refine op_v' (j_unwantV rfl rfl h6r) ?_
            refine op_v' (j_unwantV rfl rfl h6r) ?_
            refine op_v' (j_pick_f rfl h6r (evo rfl)) ?_
            refine op_nil ?_
            refine a_ff rfl ?_
            refine a_skip ?_
            refine a_region (by kernel_rfl) ?_
            refine op_v' (j_move (evo rfl)) ?_
            refine op_v' (j_add rfl rfl (by first | omega | (simp only [List.length_map, List.length_take, Int.toNat_natCast, List.length_map, List.length_append, List.length_cons, List.length_nil, List.length_set, List.length_take, assn_length, seenR_len]; omega)) (by first | omega | (simp only [List.length_map, List.length_take, Int.toNat_natCast, List.length_map, List.length_append, List.length_cons, List.length_nil, List.length_set, List.length_take, assn_length, seenR_len]; omega))) ?_
            refine op_v' (j_assign (evo rfl)) ?_
            refine op_nil ?_
            have hsame : keysN l vs (n + 1) = keysN l vs n := by first | (exact keys_n (by assumption)) | (have hi : keyI (assn n) vs ∈ keysN l vs n := of_decide_eq_true (hsa.symm.trans (by assumption)); cases hs : satV l (assn n); (· exact keys_n hs); (· rw [keys_y hs, ins_in hi]))
            have hcnt : ((keysN l vs n).length : Int) = ((keysN l vs (n + 1)).length : Nat) := by rw [hsame]
            have hrow : (seenR (keysN l vs n)).map dB = (seenR (keysN l vs (n + 1))).map dB := by rw [hsame]
            exact ⟨n + 1, (by first | omega | (simp only [List.length_map, List.length_take, Int.toNat_natCast, List.length_map, List.length_append, List.length_cons, List.length_nil, List.length_set, List.length_take, assn_length, seenR_len]; omega)), ⟨⟨rfl, rfl⟩, ⟨rfl, intEq hcnt, trivial⟩, ⟨rowEq hrow, trivial⟩, ⟨rfl, rfl⟩, ⟨rfl, rfl⟩⟩, (by first | omega | (simp only [List.length_map, List.length_take, Int.toNat_natCast, List.length_map, List.length_append, List.length_cons, List.length_nil, List.length_set, List.length_take, assn_length, seenR_len]; omega))⟩
      ·
        have h3r := h3
        try simp only [Bool.not_eq_true', Bool.not_eq_false', Bool.not_not, bne_iff_ne, bne_eq_false_iff_eq, beq_eq_false_iff_ne, beq_iff_eq, ne_eq, decide_eq_true_eq, decide_eq_false_iff_not, Classical.not_not, List.length_map, List.length_take, Int.toNat_natCast, List.length_map, List.length_append, List.length_cons, List.length_nil, List.length_set, List.length_take, assn_length, seenR_len] at h3
        refine a_exit ?_
        refine a_seq ?_
        refine a_region (by kernel_rfl) ?_
        refine op_v' (j_move (evo rfl)) ?_
        refine op_v' (j_assign (evo rfl)) ?_
        refine op_nil ?_
        refine a_ret ?_
        exact ⟨[.p _], .p _, [], [], [], ⟨rfl, trivial⟩, rfl, rfl, trivial, rfl, rfl, ⟨intEq (by rw [cpV_ok hpo (by assumption), show n = 4096 by omega]), rfl, rfl⟩⟩


theorem f_l5Fuel (b : List Int) (p : Nat) (hb : okB b) (hp : p ≤ 1099509000000) : Fn Try.prog 169 [.ptr 0 0 0] [.box 144 [.sl (b.map dU), .p (.int .i64 ((p : Nat) : Int))]] (fun rr ii nn => rr = .p (.int .i64 (ofV b p ([200, 100, 300, 2, 5, 0, 1, -1, 2001] : List Int))) ∧ ii = [.box 144 [.sl (b.map dU), .p (.int .i64 (((p + 1) : Nat) : Int))]] ∧ nn = []) := by
  refine fn_of Try.func169 rfl (Nat.le_of_ble_eq_true rfl) fun w X g => ?_
  show AWp _ _ _ ⟨[(0, .ptr 0 0 0)], [(0, some (0, .box 144 [.sl (b.map dU), .p (.int .i64 ((p : Nat) : Int))]))]⟩
  refine a_seq ?_
  refine a_region (by kernel_rfl) ?_
  refine op_v' (j_assign (evo rfl)) ?_
  refine op_nil ?_
  refine a_seq ?_
  refine a_region (by kernel_rfl) ?_
  refine op_v' (j_move (evo rfl)) ?_
  refine op_n' (fun ver => j_buildSlice (parts := [(0, .const (.int .i64 200)), (1, .const (.int .i64 100)), (2, .const (.int .i64 300)), (3, .const (.int .i64 2)), (4, .const (.int .i64 5)), (5, .const (.int .i64 0)), (6, .const (.int .i64 1)), (7, .const (.int .i64 (-1))), (8, .const (.int .i64 2001))]) (es := [[_], [_], [_], [_], [_], [_], [_], [_], [_]]) slt36 elt3 rfl rfl (by decide) (by decide) rfl rfl (by simp) rfl) fun v4x1 => ?_
  refine op_v0' (j_call0 (v := .p _) (hp1 := [(0, some (0, .box 144 [.sl _, .p _])), (4, some (v4x1, .row 3 1 _))]) [(0, 0), (4, v4x1)] false [0, 4] ent72 (f_num b (p) [200, 100, 300, 2, 5, 0, 1, -1, 2001] hb (by omega) (by decide) (by decide)) ⟨.inl ⟨rfl, rfl⟩, .inl ⟨rfl, rfl⟩, trivial⟩ ⟨⟨rfl, rfl⟩, ⟨rfl, rfl⟩, trivial⟩ rfl rfl (fun h => by cases h) rfl (List.all_eq_true.1 rfl) (.inl rfl) rfl rfl) ?_
  refine op_v' (j_assign (evo rfl)) ?_
  refine op_nil ?_
  refine a_ret ?_
  exact ⟨[.p _], .p _, [.box 144 [.sl _, .p _]], [], [], ⟨rfl, trivial⟩, rfl, rfl, ⟨⟨rfl, rfl⟩, trivial⟩, rfl, rfl, ⟨rfl, rfl, rfl⟩⟩


theorem f_dLS (b : List Int) (hb : ∀ a ∈ b, 0 ≤ a ∧ a ≤ 255) : Fn Try.prog 109 [.sl (b.map dU)] [] (fun rr ii nn => ∃ x : List Con × List Int × Int, (okP x.1 14 15 ∧ x.2.1.length ≤ 6 ∧ -20 ≤ x.2.2 ∧ x.2.2 ≤ 3000) ∧ rr = .tup [.sl (x.1.map dC), .sl (x.2.1.map dI), .p (.int .i64 x.2.2)] ∧ ii = [] ∧ nn = []) := by
  refine fn_of Try.func109 rfl (Nat.le_of_ble_eq_true rfl) fun w X g => ?_
  show AWp _ _ _ ⟨[(0, .sl (b.map dU))], []⟩
  refine a_seq ?_
  refine a_region (by kernel_rfl) ?_
  refine op_v' (j_assign (evo rfl)) ?_
  refine op_v' (j_assign (evo rfl)) ?_
  refine op_v' (j_assign (evo rfl)) ?_
  refine op_nil ?_
  refine a_seq ?_
  refine a_region (by kernel_rfl) ?_
  refine op_v' (j_move (evo rfl)) ?_
  refine op_n1' (fun ver => j_call1 (v := .ptr 9 ver 0) (hp1 := [(9, some (ver, .box 144 [.sl _, .p _]))]) [] false [] ent69 (f_open _) ⟨.inl ⟨rfl, rfl⟩, trivial⟩ trivial rfl rfl rfl (fun h => by cases h) rfl (List.all_eq_true.1 rfl) (.inl rfl) rfl rfl) fun v9x1 => ?_
  refine op_v' (j_assign (evo rfl)) ?_
  refine op_nil ?_
  refine a_seq ?_
  have hbt := okB_take (Nat.le_refl _) hb
  refine a_region (by kernel_rfl) ?_
  refine op_v' (j_move (evo rfl)) ?_
  refine op_v' (j_move (evo rfl)) ?_
  refine op_callE1 (v := fun x ver => .own 12 ver) (hp1 := fun x ver => [(9, some (v9x1, .box 144 [.sl _, .p _])), (12, some (ver, .row 25 2 _))]) [(9, v9x1)] false ent167 (f_l5Hard (b.take 2000) 0 hbt (by decide)) ⟨.inl ⟨rfl, rfl⟩, trivial⟩ ⟨⟨rfl, rfl⟩, trivial⟩ rfl rfl (fun _ => rfl) (fun _ => rfl) (.inl rfl) (fun _ _ => rfl) (fun _ _ => rfl) ?_
  rintro ⟨l12, p12⟩ ⟨ho12, hp12⟩ v12x2
  try dsimp only at ho12
  try dsimp only at hp12
  dsimp only [List.cons_append, List.nil_append]
  refine op_freezeK 12 trivial rfl rfl rfl ?_
  refine op_callE (v := fun x => .sl _) (hp1 := fun x => [(9, some (v9x1, .box 144 [.sl _, .p _]))]) [(9, v9x1)] false ent166 (f_l3Mut (b.take 2000) p12 l12 14 12 hbt (by omega) ho12 (by decide) (by decide)) ⟨.inl ⟨rfl, rfl⟩, .inl ⟨rfl, rfl⟩, trivial⟩ ⟨⟨rfl, rfl⟩, trivial⟩ rfl (fun _ => rfl) (fun _ => rfl) (.inl rfl) (fun _ => rfl) (fun _ => rfl) ?_
  rintro ⟨l13, p13⟩ ⟨ho13, hl13, hp13⟩
  try dsimp only at ho13
  try dsimp only at hl13
  try dsimp only at hp13
  dsimp only [List.cons_append, List.nil_append]
  refine op_v' (j_assign (evo rfl)) ?_
  refine op_nil ?_
  refine a_seq ?_
  refine a_region (by kernel_rfl) ?_
  refine op_v' (j_move (evo rfl)) ?_
  refine op_callE (v := fun x => .sl _) (hp1 := fun x => [(9, some (v9x1, .box 144 [.sl _, .p _]))]) [(9, v9x1)] false ent168 (f_dVars (b.take 2000) p13 hbt (by omega)) ⟨.inl ⟨rfl, rfl⟩, trivial⟩ ⟨⟨rfl, rfl⟩, trivial⟩ rfl (fun _ => rfl) (fun _ => rfl) (.inl rfl) (fun _ => rfl) (fun _ => rfl) ?_
  rintro ⟨vs15, p15⟩ ⟨hl15, hp15⟩
  try dsimp only at hl15
  try dsimp only at hp15
  dsimp only [List.cons_append, List.nil_append]
  refine op_v' (j_assign (evo rfl)) ?_
  refine op_nil ?_
  refine a_seq ?_
  refine a_region (by kernel_rfl) ?_
  refine op_v' (j_move (evo rfl)) ?_
  refine op_v' (j_move (evo rfl)) ?_
  refine op_v' (j_move (evo rfl)) ?_
  refine op_v0' (j_call0 (v := .p _) (hp1 := [(9, some (v9x1, .box 144 [.sl _, .p _]))]) [(9, v9x1)] false [9] ent169 (f_l5Fuel (b.take 2000) p15 hbt (by omega)) ⟨.inl ⟨rfl, rfl⟩, trivial⟩ ⟨⟨rfl, rfl⟩, trivial⟩ rfl rfl (fun h => by cases h) rfl (List.all_eq_true.1 rfl) (.inl rfl) rfl rfl) ?_
  refine op_v' (j_assign (evo rfl)) ?_
  refine op_v' (j_assign (evo rfl)) ?_
  refine op_v' (j_assign (evo rfl)) ?_
  refine op_nil ?_
  refine a_ret ?_
  exact ⟨[.sl _, .sl _, .p _], .tup [.sl _, .sl _, .p _], [], [], [], ⟨rfl, rfl, rfl, trivial⟩, rfl, rfl, trivial, rfl, rfl, ⟨(l13, vs15, ofV (b.take 2000) p15 ([200, 100, 300, 2, 5, 0, 1, -1, 2001] : List Int)), ⟨ho13, by dsimp only; omega, ofV_in (l := [200, 100, 300, 2, 5, 0, 1, -1, 2001]) (lo := -20) (hi := 3000) (by decide) (by decide)⟩, rfl, rfl, rfl⟩⟩


theorem f_dCP (b : List Int) (hb : ∀ a ∈ b, 0 ≤ a ∧ a ≤ 255) : Fn Try.prog 46 [.sl (b.map dU)] [] (fun rr ii nn => ∃ x : List Con × List Int, (okP x.1 14 15 ∧ x.2.length ≤ 6) ∧ rr = .tup [.sl (x.1.map dC), .sl (x.2.map dI)] ∧ ii = [] ∧ nn = []) := by
  refine fn_of Try.func46 rfl (Nat.le_of_ble_eq_true rfl) fun w X g => ?_
  show AWp _ _ _ ⟨[(0, .sl (b.map dU))], []⟩
  refine a_seq ?_
  refine a_region (by kernel_rfl) ?_
  refine op_v' (j_assign (evo rfl)) ?_
  refine op_v' (j_assign (evo rfl)) ?_
  refine op_nil ?_
  refine a_seq ?_
  refine a_region (by kernel_rfl) ?_
  refine op_v' (j_move (evo rfl)) ?_
  refine op_callE (v := fun x => .tup [.sl _, .sl _, .p _]) (hp1 := fun x => []) [] false ent109 (f_dLS b hb) ⟨.inl ⟨rfl, rfl⟩, trivial⟩ trivial rfl (fun _ => rfl) (fun _ => rfl) (.inl rfl) (fun _ => rfl) (fun _ => rfl) ?_
  rintro ⟨l9, vs9, fu9⟩ ⟨ho9, hv9, hf9⟩
  try dsimp only at ho9
  try dsimp only at hv9
  try dsimp only at hf9
  dsimp only [List.cons_append, List.nil_append]
  refine op_v' (j_move (evo rfl)) ?_
  refine op_v' (j_extract rfl rfl) ?_
  refine op_v' (j_extract rfl rfl) ?_
  refine op_v' (j_extract rfl rfl) ?_
  refine op_v' (j_assign (evo rfl)) ?_
  refine op_v' (j_assign (evo rfl)) ?_
  refine op_v' (j_assign (evo rfl)) ?_
  refine op_nil ?_
  refine a_seq ?_
  refine a_region (by kernel_rfl) ?_
  refine op_v' (j_move (evo rfl)) ?_
  refine op_v' (j_move (evo rfl)) ?_
  refine op_v' (j_assign (evo rfl)) ?_
  refine op_v' (j_assign (evo rfl)) ?_
  refine op_nil ?_
  refine a_ret ?_
  exact ⟨[.sl _, .sl _], .tup [.sl _, .sl _], [], [], [], ⟨rfl, rfl, trivial⟩, rfl, rfl, trivial, rfl, rfl, ⟨(l9, vs9), ⟨ho9, hv9⟩, rfl, rfl, rfl⟩⟩


theorem f_lawCP (b1 : List Int) (hb1 : ∀ a ∈ b1, 0 ≤ a ∧ a ≤ 255) : Fn Try.prog 11 [.sl (b1.map dU)] [] (fun rr ii nn => rr = .p (.bool true) ∧ ii = [] ∧ nn = []) := by
  refine fn_of Try.func11 rfl (Nat.le_of_ble_eq_true rfl) fun w X g => ?_
  show AWp _ _ _ ⟨[(0, .sl (b1.map dU))], []⟩
  refine a_seq ?_
  refine a_region (by kernel_rfl) ?_
  refine op_v' (j_assign (evo rfl)) ?_
  refine op_nil ?_
  refine a_seq ?_
  refine a_seq ?_
  refine a_region (by kernel_rfl) ?_
  refine op_v' (j_move (evo rfl)) ?_
  refine op_v' (j_len_map Try.underlying22 rfl) ?_
  refine op_v' (j_gt rfl rfl) ?_
  refine op_nil ?_
  refine a_cond rfl (fun h1 => ?_) (fun h1 => ?_)
  ·
    have h1r := h1
    try simp only [Bool.not_eq_true', Bool.not_eq_false', Bool.not_not, bne_iff_ne, bne_eq_false_iff_eq, beq_eq_false_iff_ne, beq_iff_eq, ne_eq, decide_eq_true_eq, decide_eq_false_iff_not, Classical.not_not, List.length_map, List.length_take, Int.toNat_natCast, List.length_map, List.length_append, List.length_cons, List.length_nil, List.length_take, allV_len] at h1
    refine a_seq ?_
    refine a_region (by kernel_rfl) ?_
    refine op_v' (j_assign (evo rfl)) ?_
    refine op_nil ?_
    refine a_ret ?_
    exact ⟨[.p _], .p _, [], [], [], ⟨rfl, trivial⟩, rfl, rfl, trivial, rfl, rfl, ⟨rfl, rfl, rfl⟩⟩
  ·
    have h1r := h1
    try simp only [Bool.not_eq_true', Bool.not_eq_false', Bool.not_not, bne_iff_ne, bne_eq_false_iff_eq, beq_eq_false_iff_ne, beq_iff_eq, ne_eq, decide_eq_true_eq, decide_eq_false_iff_not, Classical.not_not, List.length_map, List.length_take, Int.toNat_natCast, List.length_map, List.length_append, List.length_cons, List.length_nil, List.length_take, allV_len] at h1
    refine a_skip ?_
    refine a_seq ?_
    refine a_region (by kernel_rfl) ?_
    refine op_v' (j_move (evo rfl)) ?_
    refine op_callE (v := fun x => .tup [.sl _, .sl _]) (hp1 := fun x => []) [] false ent46 (f_dCP b1 hb1) ⟨.inl ⟨rfl, rfl⟩, trivial⟩ trivial rfl (fun _ => rfl) (fun _ => rfl) (.inl rfl) (fun _ => rfl) (fun _ => rfl) ?_
    rintro ⟨l15, vs15⟩ ⟨ho15, hv15⟩
    try dsimp only at ho15
    try dsimp only at hv15
    dsimp only [List.cons_append, List.nil_append]
    refine op_v' (j_move (evo rfl)) ?_
    refine op_v' (j_extract rfl rfl) ?_
    refine op_v' (j_extract rfl rfl) ?_
    refine op_v' (j_assign (evo rfl)) ?_
    refine op_v' (j_assign (evo rfl)) ?_
    refine op_nil ?_
    refine a_seq ?_
    refine a_region (by kernel_rfl) ?_
    refine op_v' (j_move (evo rfl)) ?_
    refine op_v' (j_move (evo rfl)) ?_
    refine op_v0' (j_call0 (v := .p _) (hp1 := []) [] false [] ent45 (f_cpImpl l15 vs15) ⟨.inl ⟨rfl, rfl⟩, .inl ⟨rfl, rfl⟩, trivial⟩ trivial rfl rfl (fun h => by cases h) rfl (fun _ h => by cases h) (.inl rfl) rfl rfl) ?_
    refine op_v' (j_assign (evo rfl)) ?_
    refine op_nil ?_
    refine a_seq ?_
    refine a_seq ?_
    refine a_region (by kernel_rfl) ?_
    refine op_v' (j_move (evo rfl)) ?_
    refine op_v' (j_move (evo rfl)) ?_
    refine op_v' (j_move (evo rfl)) ?_
    refine op_v0' (j_call0 (v := .p _) (hp1 := []) [] false [] ent44 (f_cpSpec l15 vs15) ⟨.inl ⟨rfl, rfl⟩, .inl ⟨rfl, rfl⟩, trivial⟩ trivial rfl rfl (fun h => by cases h) rfl (fun _ h => by cases h) (.inl rfl) rfl rfl) ?_
    refine op_v' (j_ne rfl rfl) ?_
    refine op_v' (j_move (evo rfl)) ?_
    refine op_split' 26 rfl (fun h2 => ?_) (fun h2 => ?_)
    ·
      have h2r := h2
      try simp only [Bool.not_eq_true', Bool.not_eq_false', Bool.not_not, bne_iff_ne, bne_eq_false_iff_eq, beq_eq_false_iff_ne, beq_iff_eq, ne_eq, decide_eq_true_eq, decide_eq_false_iff_not, Classical.not_not, List.length_map, List.length_take, Int.toNat_natCast, List.length_map, List.length_append, List.length_cons, List.length_nil, List.length_take, allV_len] at h2
      refine op_v' (j_unwantV rfl rfl h2r) ?_
      refine op_v' (j_unwantV rfl rfl h2r) ?_
      refine op_v' (j_unwantV rfl rfl h2r) ?_
      refine op_v' (j_pick_t rfl h2r (evo rfl)) ?_
      refine op_nil ?_
      refine a_tt rfl ?_
      refine a_seq ?_
      refine a_region (by kernel_rfl) ?_
      refine op_v' (j_move (evo rfl)) ?_
      refine op_v' (j_move (evo rfl)) ?_
      refine op_v' (j_move (evo rfl)) ?_
      refine op_v0' (j_call0 (v := .p _) (hp1 := []) [] false [] ent44 (f_cpSpec l15 vs15) ⟨.inl ⟨rfl, rfl⟩, .inl ⟨rfl, rfl⟩, trivial⟩ trivial rfl rfl (fun h => by cases h) rfl (fun _ h => by cases h) (.inl rfl) rfl rfl) ?_
      refine op_v' (j_eq rfl rfl) ?_
      refine op_v' (j_assign (evo rfl)) ?_
      refine op_nil ?_
      refine a_ret ?_
      exact ⟨[.p _], .p _, [], [], [], ⟨rfl, trivial⟩, rfl, rfl, trivial, rfl, rfl, ⟨boolEq (decide_eq_true rfl), rfl, rfl⟩⟩
    ·
      have h2r := h2
      try simp only [Bool.not_eq_true', Bool.not_eq_false', Bool.not_not, bne_iff_ne, bne_eq_false_iff_eq, beq_eq_false_iff_ne, beq_iff_eq, ne_eq, decide_eq_true_eq, decide_eq_false_iff_not, Classical.not_not, List.length_map, List.length_take, Int.toNat_natCast, List.length_map, List.length_append, List.length_cons, List.length_nil, List.length_take, allV_len] at h2
      refine op_v' (j_want rfl rfl h2r (j_move (evo rfl))) ?_
      refine op_v0' (j_want rfl rfl h2r (j_call0 (v := .p _) (hp1 := []) [] false [] ent47 (f_pvImpl l15) ⟨.inl ⟨rfl, rfl⟩, trivial⟩ trivial rfl rfl (fun h => by cases h) rfl (fun _ h => by cases h) (.inl rfl) rfl rfl)) ?_
      refine op_v' (j_want rfl rfl h2r (j_not rfl)) ?_
      refine op_v' (j_pick_f rfl h2r (evo rfl)) ?_
      refine op_nil ?_
      refine a_cond rfl (fun h3 => ?_) (fun h3 => ?_)
      ·
        have h3r := h3
        try simp only [Bool.not_eq_true', Bool.not_eq_false', Bool.not_not, bne_iff_ne, bne_eq_false_iff_eq, beq_eq_false_iff_ne, beq_iff_eq, ne_eq, decide_eq_true_eq, decide_eq_false_iff_not, Classical.not_not, List.length_map, List.length_take, Int.toNat_natCast, List.length_map, List.length_append, List.length_cons, List.length_nil, List.length_take, allV_len] at h3
        refine a_seq ?_
        refine a_region (by kernel_rfl) ?_
        refine op_v' (j_move (evo rfl)) ?_
        refine op_v' (j_move (evo rfl)) ?_
        refine op_v' (j_move (evo rfl)) ?_
        refine op_v0' (j_call0 (v := .p _) (hp1 := []) [] false [] ent44 (f_cpSpec l15 vs15) ⟨.inl ⟨rfl, rfl⟩, .inl ⟨rfl, rfl⟩, trivial⟩ trivial rfl rfl (fun h => by cases h) rfl (fun _ h => by cases h) (.inl rfl) rfl rfl) ?_
        refine op_v' (j_eq rfl rfl) ?_
        refine op_v' (j_assign (evo rfl)) ?_
        refine op_nil ?_
        refine a_ret ?_
        exact ⟨[.p _], .p _, [], [], [], ⟨rfl, trivial⟩, rfl, rfl, trivial, rfl, rfl, ⟨boolEq (decide_eq_true rfl), rfl, rfl⟩⟩
      ·
        have h3r := h3
        try simp only [Bool.not_eq_true', Bool.not_eq_false', Bool.not_not, bne_iff_ne, bne_eq_false_iff_eq, beq_eq_false_iff_ne, beq_iff_eq, ne_eq, decide_eq_true_eq, decide_eq_false_iff_not, Classical.not_not, List.length_map, List.length_take, Int.toNat_natCast, List.length_map, List.length_append, List.length_cons, List.length_nil, List.length_take, allV_len] at h3
        refine a_skip ?_
        refine a_seq ?_
        refine a_region (by kernel_rfl) ?_
        refine op_n' (fun ver => j_buildSlice (parts := []) (es := []) slt36 elt3 rfl rfl (by decide) (by decide) rfl rfl (by simp) rfl) fun v36x1 => ?_
        refine op_v' (j_assign (evo rfl)) ?_
        refine op_nil ?_
        refine a_seq ?_
        refine a_seq ?_
        refine a_region (by kernel_rfl) ?_
        refine op_v' (j_assign (evo rfl)) ?_
        refine op_nil ?_
        refine a_block ?_
        refine a_loopF' (ι := Nat × Nat) (fun x => x.1 ≤ 12) (fun x r => (7, .p (.int .i64 ((x.1 : Nat) + 1))) :: (6, .own 36 x.2) :: r) (fun x r => (36, some (x.2, .row 3 1 ((allV.take x.1).map dI))) :: r) (fun x => 12 - x.1) (fun _ _ => rfl) (fun _ _ => rfl) (0, v36x1) (by first | exact (Nat.zero_le _) | (dsimp only; exact (Nat.zero_le _))) ⟨⟨rfl, rfl⟩, ⟨rfl, rfl, trivial⟩, ⟨rfl, trivial⟩, ⟨rfl, rfl⟩, ⟨rfl, rfl⟩⟩ ?_
        rintro ⟨k, v⟩ hk; dsimp only at hk ⊢
        refine a_seq ?_
        refine a_seq ?_
        refine a_region (by kernel_rfl) ?_
        refine op_v' (j_move (evo rfl)) ?_
        refine op_v' (j_le rfl rfl) ?_
        refine op_nil ?_
        refine a_cond rfl (fun h4 => ?_) (fun h4 => ?_)
        ·
          have h4r := h4
          try simp only [Bool.not_eq_true', Bool.not_eq_false', Bool.not_not, bne_iff_ne, bne_eq_false_iff_eq, beq_eq_false_iff_ne, beq_iff_eq, ne_eq, decide_eq_true_eq, decide_eq_false_iff_not, Classical.not_not, List.length_map, List.length_take, Int.toNat_natCast, List.length_map, List.length_append, List.length_cons, List.length_nil, List.length_take, allV_len] at h4
          refine a_skip ?_
          refine a_seq ?_
          refine a_block ?_
          refine a_region (by kernel_rfl) ?_
          refine op_v' (j_move (evo rfl)) ?_
          refine op_v' (j_move (evo rfl)) ?_
          refine op_n' (fun ver => j_buildSlice (parts := [(0, .tmp 42)]) (es := [[_]]) slt36 elt3 rfl rfl (by decide) (by decide) rfl rfl (by simp) rfl) fun v43x2 => ?_
          refine op_n' (fun ver => j_append_own slt36 elt3 rfl rfl rfl rfl rfl rfl (by rw [maxLen_eq]; first | omega | (simp only [List.length_map, List.length_take, Int.toNat_natCast, List.length_map, List.length_append, List.length_cons, List.length_nil, List.length_take, allV_len]; omega)) (by first | omega | (simp only [List.length_map, List.length_take, Int.toNat_natCast, List.length_map, List.length_append, List.length_cons, List.length_nil, List.length_take, allV_len]; omega))) fun v36x3 => ?_
          refine op_v' (j_assign (evo rfl)) ?_
          refine op_nil ?_
          refine a_region (by kernel_rfl) ?_
          refine op_v' (j_move (evo rfl)) ?_
          refine op_v' (j_add rfl rfl (by first | omega | (simp only [List.length_map, List.length_take, Int.toNat_natCast, List.length_map, List.length_append, List.length_cons, List.length_nil, List.length_take, allV_len]; omega)) (by first | omega | (simp only [List.length_map, List.length_take, Int.toNat_natCast, List.length_map, List.length_append, List.length_cons, List.length_nil, List.length_take, allV_len]; omega))) ?_
          refine op_v' (j_assign (evo rfl)) ?_
          refine op_nil ?_
          exact ⟨(k + 1, v36x3), (by first | exact (by first | omega | (simp only [List.length_map, List.length_take, Int.toNat_natCast, List.length_map, List.length_append, List.length_cons, List.length_nil, List.length_take, allV_len]; omega)) | (dsimp only; exact (by first | omega | (simp only [List.length_map, List.length_take, Int.toNat_natCast, List.length_map, List.length_append, List.length_cons, List.length_nil, List.length_take, allV_len]; omega)))), ⟨⟨rfl, rfl⟩, ⟨rfl, rfl, trivial⟩, ⟨rowEq (by rw [take_succD (d := default) (by rw [allV_len]; omega), List.map_append, allV_at (by omega)]; rfl), trivial⟩, ⟨rfl, rfl⟩, ⟨rfl, rfl⟩⟩, (by first | exact (by first | omega | (simp only [List.length_map, List.length_take, Int.toNat_natCast, List.length_map, List.length_append, List.length_cons, List.length_nil, List.length_take, allV_len]; omega)) | (dsimp only; exact (by first | omega | (simp only [List.length_map, List.length_take, Int.toNat_natCast, List.length_map, List.length_append, List.length_cons, List.length_nil, List.length_take, allV_len]; omega))))⟩
        ·
          have h4r := h4
          try simp only [Bool.not_eq_true', Bool.not_eq_false', Bool.not_not, bne_iff_ne, bne_eq_false_iff_eq, beq_eq_false_iff_ne, beq_iff_eq, ne_eq, decide_eq_true_eq, decide_eq_false_iff_not, Classical.not_not, List.length_map, List.length_take, Int.toNat_natCast, List.length_map, List.length_append, List.length_cons, List.length_nil, List.length_take, allV_len] at h4
          refine a_exit ?_
          refine a_seq ?_
          obtain rfl : k = 12 := by omega
          have hpo : pOk l15 = true := by assumption
          have hc1 := cp_all hpo
          have hc2 := cp_le (vs := vs15) hpo
          have hc3 := cp_none hpo
          have hcr := csV_rng l15
          rw [show allV.take 12 = allV from rfl]
          refine a_region (by kernel_rfl) ?_
          refine op_v' (j_move (evo rfl)) ?_
          refine op_v0' (j_call0 (v := .p _) (hp1 := []) [] false [] ent48 (f_csImpl l15) ⟨.inl ⟨rfl, rfl⟩, trivial⟩ trivial rfl rfl (fun h => by cases h) rfl (fun _ h => by cases h) (.inl rfl) rfl rfl) ?_
          refine op_v' (j_assign (evo rfl)) ?_
          refine op_nil ?_
          refine a_seq ?_
          refine a_region (by kernel_rfl) ?_
          refine op_v' (j_move (evo rfl)) ?_
          refine op_n' (fun ver => j_buildSlice (parts := []) (es := []) slt36 elt3 rfl rfl (by decide) (by decide) rfl rfl (by simp) rfl) fun v48x4 => ?_
          refine op_v0' (j_call0 (v := .p _) (hp1 := []) [] true [48] ent45 (f_cpImpl l15 []) ⟨.inl ⟨rfl, rfl⟩, .inr ⟨rfl, view_own rfl rfl, rfl⟩, trivial⟩ trivial rfl rfl (fun _ => rfl) rfl (fun _ h => by cases h) (.inr ⟨rfl, by first | exact pl_new1 (fun _ => rfl) | exact pl_newC | (simp [plO, plV, plV.plL]; done)⟩) rfl rfl) ?_
          refine op_v' (j_assign (evo rfl)) ?_
          refine op_nil ?_
          refine a_seq ?_
          refine a_region (by kernel_rfl) ?_
          refine op_v' (j_move (evo rfl)) ?_
          refine op_v' (j_move (evo rfl)) ?_
          refine op_v0' (j_call0 (v := .p _) (hp1 := []) [] true [36] ent45 (f_cpImpl l15 allV) ⟨.inl ⟨rfl, rfl⟩, .inr ⟨rfl, view_own rfl rfl, rfl⟩, trivial⟩ trivial rfl rfl (fun _ => rfl) rfl (fun _ h => by cases h) (.inr ⟨rfl, by first | exact pl_new1 (fun _ => rfl) | exact pl_newC | (simp [plO, plV, plV.plL]; done)⟩) rfl rfl) ?_
          refine op_v' (j_move (evo rfl)) ?_
          refine op_v' (j_eq rfl rfl) ?_
          refine op_v' (j_move (evo rfl)) ?_
          refine op_split' 55 rfl (fun h5 => ?_) (fun h5 => ?_)
          ·
            have h5r := h5
            try simp only [Bool.not_eq_true', Bool.not_eq_false', Bool.not_not, bne_iff_ne, bne_eq_false_iff_eq, beq_eq_false_iff_ne, beq_iff_eq, ne_eq, decide_eq_true_eq, decide_eq_false_iff_not, Classical.not_not, List.length_map, List.length_take, Int.toNat_natCast, List.length_map, List.length_append, List.length_cons, List.length_nil, List.length_take, allV_len] at h5
            refine op_v' (j_want rfl rfl h5r (j_move (evo rfl))) ?_
            refine op_v' (j_want rfl rfl h5r (j_move (evo rfl))) ?_
            refine op_v' (j_want rfl rfl h5r (j_le rfl rfl)) ?_
            refine op_v' (j_pick_t rfl h5r (evo rfl)) ?_
            refine op_v' (j_move (evo rfl)) ?_
            refine op_split' 60 rfl (fun h6 => ?_) (fun h6 => ?_)
            ·
              have h6r := h6
              try simp only [Bool.not_eq_true', Bool.not_eq_false', Bool.not_not, bne_iff_ne, bne_eq_false_iff_eq, beq_eq_false_iff_ne, beq_iff_eq, ne_eq, decide_eq_true_eq, decide_eq_false_iff_not, Classical.not_not, List.length_map, List.length_take, Int.toNat_natCast, List.length_map, List.length_append, List.length_cons, List.length_nil, List.length_take, allV_len] at h6
              refine op_v' (j_want rfl rfl h6r (j_move (evo rfl))) ?_
              refine op_v' (j_want rfl rfl h6r (j_le rfl rfl)) ?_
              refine op_v' (j_pick_t rfl h6r (evo rfl)) ?_
              refine op_v' (j_move (evo rfl)) ?_
              refine op_split' 64 rfl (fun h7 => ?_) (fun h7 => ?_)
              ·
                have h7r := h7
                try simp only [Bool.not_eq_true', Bool.not_eq_false', Bool.not_not, bne_iff_ne, bne_eq_false_iff_eq, beq_eq_false_iff_ne, beq_iff_eq, ne_eq, decide_eq_true_eq, decide_eq_false_iff_not, Classical.not_not, List.length_map, List.length_take, Int.toNat_natCast, List.length_map, List.length_append, List.length_cons, List.length_nil, List.length_take, allV_len] at h7
                refine op_v' (j_want rfl rfl h7r (j_move (evo rfl))) ?_
                refine op_v' (j_want rfl rfl h7r (j_eq rfl rfl)) ?_
                refine op_v' (j_want rfl rfl h7r (j_move (evo rfl))) ?_
                refine op_v' (j_want rfl rfl h7r (j_gt rfl rfl)) ?_
                refine op_v' (j_want rfl rfl h7r (j_eqb Try.underlying4 rfl rfl)) ?_
                refine op_v' (j_pick_t rfl h7r (evo rfl)) ?_
                refine op_v' (j_assign (evo rfl)) ?_
                refine op_nil ?_
                refine a_ret ?_
                exact ⟨[.p _], .p _, [], [], [], ⟨rfl, trivial⟩, rfl, rfl, trivial, rfl, rfl, ⟨boolEq (by first | (simp only [hc1, hc2, hc3.1, decide_true]; done) | (exfalso; omega) | (rw [beq_iff_eq]; exact decide_eq_decide.2 hc3.2) | (simp_all; done)), rfl, rfl⟩⟩
              ·
                have h7r := h7
                try simp only [Bool.not_eq_true', Bool.not_eq_false', Bool.not_not, bne_iff_ne, bne_eq_false_iff_eq, beq_eq_false_iff_ne, beq_iff_eq, ne_eq, decide_eq_true_eq, decide_eq_false_iff_not, Classical.not_not, List.length_map, List.length_take, Int.toNat_natCast, List.length_map, List.length_append, List.length_cons, List.length_nil, List.length_take, allV_len] at h7
                refine op_v' (j_unwantV rfl rfl h7r) ?_
                refine op_v' (j_unwantV rfl rfl h7r) ?_
                refine op_v' (j_unwantV rfl rfl h7r) ?_
                refine op_v' (j_unwantV rfl rfl h7r) ?_
                refine op_v' (j_unwantV rfl rfl h7r) ?_
                refine op_v' (j_pick_f rfl h7r (evo rfl)) ?_
                refine op_v' (j_assign (evo rfl)) ?_
                refine op_nil ?_
                refine a_ret ?_
                exact ⟨[.p _], .p _, [], [], [], ⟨rfl, trivial⟩, rfl, rfl, trivial, rfl, rfl, ⟨boolEq (by first | (simp only [hc1, hc2, hc3.1, decide_true]; done) | (exfalso; omega) | (rw [beq_iff_eq]; exact decide_eq_decide.2 hc3.2) | (simp_all; done)), rfl, rfl⟩⟩
            ·
              have h6r := h6
              try simp only [Bool.not_eq_true', Bool.not_eq_false', Bool.not_not, bne_iff_ne, bne_eq_false_iff_eq, beq_eq_false_iff_ne, beq_iff_eq, ne_eq, decide_eq_true_eq, decide_eq_false_iff_not, Classical.not_not, List.length_map, List.length_take, Int.toNat_natCast, List.length_map, List.length_append, List.length_cons, List.length_nil, List.length_take, allV_len] at h6
              refine op_v' (j_unwantV rfl rfl h6r) ?_
              refine op_v' (j_unwantV rfl rfl h6r) ?_
              refine op_v' (j_pick_f rfl h6r (evo rfl)) ?_
              refine op_v' (j_move (evo rfl)) ?_
              refine op_v' (j_unwantV rfl rfl rfl) ?_
              refine op_v' (j_unwantV rfl rfl rfl) ?_
              refine op_v' (j_unwantV rfl rfl rfl) ?_
              refine op_v' (j_unwantV rfl rfl rfl) ?_
              refine op_v' (j_unwantV rfl rfl rfl) ?_
              refine op_v' (j_pick_f rfl rfl (evo rfl)) ?_
              refine op_v' (j_assign (evo rfl)) ?_
              refine op_nil ?_
              refine a_ret ?_
              exact ⟨[.p _], .p _, [], [], [], ⟨rfl, trivial⟩, rfl, rfl, trivial, rfl, rfl, ⟨boolEq (by first | (simp only [hc1, hc2, hc3.1, decide_true]; done) | (exfalso; omega) | (rw [beq_iff_eq]; exact decide_eq_decide.2 hc3.2) | (simp_all; done)), rfl, rfl⟩⟩
          ·
            have h5r := h5
            try simp only [Bool.not_eq_true', Bool.not_eq_false', Bool.not_not, bne_iff_ne, bne_eq_false_iff_eq, beq_eq_false_iff_ne, beq_iff_eq, ne_eq, decide_eq_true_eq, decide_eq_false_iff_not, Classical.not_not, List.length_map, List.length_take, Int.toNat_natCast, List.length_map, List.length_append, List.length_cons, List.length_nil, List.length_take, allV_len] at h5
            refine op_v' (j_unwantV rfl rfl h5r) ?_
            refine op_v' (j_unwantV rfl rfl h5r) ?_
            refine op_v' (j_unwantV rfl rfl h5r) ?_
            refine op_v' (j_pick_f rfl h5r (evo rfl)) ?_
            refine op_v' (j_move (evo rfl)) ?_
            refine op_v' (j_unwantV rfl rfl rfl) ?_
            refine op_v' (j_unwantV rfl rfl rfl) ?_
            refine op_v' (j_pick_f rfl rfl (evo rfl)) ?_
            refine op_v' (j_move (evo rfl)) ?_
            refine op_v' (j_unwantV rfl rfl rfl) ?_
            refine op_v' (j_unwantV rfl rfl rfl) ?_
            refine op_v' (j_unwantV rfl rfl rfl) ?_
            refine op_v' (j_unwantV rfl rfl rfl) ?_
            refine op_v' (j_unwantV rfl rfl rfl) ?_
            refine op_v' (j_pick_f rfl rfl (evo rfl)) ?_
            refine op_v' (j_assign (evo rfl)) ?_
            refine op_nil ?_
            refine a_ret ?_
            exact ⟨[.p _], .p _, [], [], [], ⟨rfl, trivial⟩, rfl, rfl, trivial, rfl, rfl, ⟨boolEq (by first | (simp only [hc1, hc2, hc3.1, decide_true]; done) | (exfalso; omega) | (rw [beq_iff_eq]; exact decide_eq_decide.2 hc3.2) | (simp_all; done)), rfl, rfl⟩⟩


end Go.Ab
