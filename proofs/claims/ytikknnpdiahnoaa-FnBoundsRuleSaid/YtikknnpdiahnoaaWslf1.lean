/- Walks. -/
import Derived.Test.YtikknnpdiahnoaaBase
import Derived.Test.YtikknnpdiahnoaaLf1
import Derived.Test.YtikknnpdiahnoaaWsbnd
import Derived.Test.YtikknnpdiahnoaaWsdfr
import Derived.Test.YtikknnpdiahnoaaWsfm
namespace Go.Ab
open Go.Proofs
set_option maxRecDepth 100000
set_option maxHeartbeats 8000000
set_option linter.unusedSimpArgs false
set_option linter.unusedVariables false
theorem f_lawBR (b : List Int) (hb : ∀ a ∈ b, 0 ≤ a ∧ a ≤ 255) : Fn Try.prog 7 [.sl (b.map dU)] [] (fun rr ii nn => rr = .p (.bool true) ∧ ii = [] ∧ nn = []) := by
 refine fn_of Try.func7 rfl (Nat.le_of_ble_eq_true rfl) fun w X g => ?_
 show AWp _ _ _ ⟨[(0, .sl (b.map dU))], []⟩
 refine a_seq ?_
 refine a_region (by kernel_rfl) ?_
 refine op_v' (j_assign (evo rfl)) ?_
 refine op_nil ?_
 refine a_seq ?_
 refine a_seq ?_
 refine a_region (by kernel_rfl) ?_
 refine op_v' (j_move (evo rfl)) ?_
 refine op_v' (j_len_map Try.underlying22 rfl) ?_
 refine op_v' (j_gt rfl rfl) ?_
 refine op_nil ?_
 refine a_cond rfl (fun h1 => ?_) (fun h1 => ?_)
 ·
  have h1r := h1
  try simp only [nq, nr] at h1
  refine a_seq ?_
  refine a_region (by kernel_rfl) ?_
  refine op_v' (j_assign (evo rfl)) ?_
  refine op_nil ?_
  refine a_ret ?_
  exact ⟨[.p _], .p _, [], [], [], ⟨rfl, trivial⟩, rfl, rfl, trivial, rfl, rfl, ⟨boolEq (by first | (simp; done) | assumption | (rw [hem]; simp; done) | (exfalso; simp_all; done)), rfl, rfl⟩⟩
 ·
  have h1r := h1
  try simp only [nq, nr] at h1
  refine a_skip ?_
  refine a_seq ?_
  refine a_region (by kernel_rfl) ?_
  refine op_v' (j_move (evo rfl)) ?_
  refine op_callE (v := fun x => .tup [.agg [.sl _, .sl _], .p _, .sl _]) (hp1 := fun x => []) [] false ent29 (f_dBR b hb) ⟨.inl ⟨rfl, rfl⟩, trivial⟩ trivial rfl (fun _ => rfl) (fun _ => rfl) (.inl rfl) (fun _ => rfl) (fun _ => rfl) ?_
  rintro ⟨m, i, d⟩ ⟨hw, hl⟩
  try dsimp only at hw
  try dsimp only at hl
  have hwr : wRS m.2 ≤ 1048576 := by unfold wM at hw; omega
  dsimp only [List.cons_append, List.nil_append]
  refine op_v' (j_move (evo rfl)) ?_
  refine op_v' (j_extract rfl rfl) ?_
  refine op_v' (j_extract rfl rfl) ?_
  refine op_v' (j_extract rfl rfl) ?_
  refine op_n' (fun ver => j_alloc elt26 rfl) fun v3x1 => ?_
  refine op_s' (j_storea_box0 agg26 rfl rfl rfl rfl rfl rfl) ?_
  refine op_v' (j_assign (evo rfl)) ?_
  refine op_v' (j_assign (evo rfl)) ?_
  refine op_nil ?_
  refine a_seq ?_
  refine a_region (by kernel_rfl) ?_
  refine op_v' (j_loada_box (ys := [.sl _, .sl _]) agg26 rfl rfl rfl (Nat.le_of_ble_eq_true rfl)) ?_
  refine op_v' (j_move (evo rfl)) ?_
  refine op_v' (j_move (evo rfl)) ?_
  refine op_n1' (fun ver => j_call1 (v := .tup [.own 27 ver, .p _]) (hp1 := [(27, some (ver, .deep (.mk 34 1 [(0, (.mk 4 1 []))]) _ none))]) [] false [] ent30 (f_brImpl m i d) ⟨.inl ⟨rfl, rfl⟩, .inl ⟨rfl, rfl⟩, .inl ⟨rfl, rfl⟩, trivial⟩ trivial rfl rfl rfl (fun h => by cases h) rfl (List.all_eq_true.1 rfl) (.inl rfl) rfl rfl) fun v27x2 => ?_
  refine op_v' (j_move (evo rfl)) ?_
  refine op_v' (j_extract rfl rfl) ?_
  refine op_v' (j_extract rfl rfl) ?_
  refine op_v' (j_assign (evo rfl)) ?_
  refine op_v' (j_assign (evo rfl)) ?_
  refine op_nil ?_
  refine a_freezeG 6 trivial rfl rfl rfl rfl ?_
  refine a_seq ?_
  refine a_region (by kernel_rfl) ?_
  refine op_v' (j_loada_box (ys := [.sl _, .sl _]) agg26 rfl rfl rfl (Nat.le_of_ble_eq_true rfl)) ?_
  refine op_v' (j_move (evo rfl)) ?_
  refine op_v' (j_move (evo rfl)) ?_
  refine op_v0' (j_call0 (v := .tup [.sl _, .p _]) (hp1 := []) [] false [] ent31 (f_brSpec m i d) ⟨.inl ⟨rfl, rfl⟩, .inl ⟨rfl, rfl⟩, .inl ⟨rfl, rfl⟩, trivial⟩ trivial rfl rfl (fun h => by cases h) rfl (fun _ h => by cases h) (.inl rfl) rfl rfl) ?_
  refine op_v' (j_move (evo rfl)) ?_
  refine op_v' (j_extract rfl rfl) ?_
  refine op_v' (j_extract rfl rfl) ?_
  refine op_v' (j_assign (evo rfl)) ?_
  refine op_v' (j_assign (evo rfl)) ?_
  refine op_nil ?_
  refine a_seq ?_
  refine a_seq ?_
  refine a_region (by kernel_rfl) ?_
  refine op_v' (j_move (evo rfl)) ?_
  refine op_v' (j_move (evo rfl)) ?_
  refine op_v' (j_neb Try.underlying4 rfl rfl) ?_
  refine op_v' (j_move (evo rfl)) ?_
  refine op_split' 40 rfl (fun h2 => ?_) (fun h2 => ?_)
  ·
   have h2r := h2
   try simp only [nq, nr] at h2
   refine op_v' (j_unwantV rfl rfl h2r) ?_
   refine op_v' (j_unwantV rfl rfl h2r) ?_
   refine op_v' (j_unwantV rfl rfl h2r) ?_
   refine op_v' (j_unwantV rfl rfl h2r) ?_
   refine op_v' (j_pick_t rfl h2r (evo rfl)) ?_
   refine op_v' (j_move (evo rfl)) ?_
   refine op_v' (j_unwantV rfl rfl rfl) ?_
   refine op_v' (j_unwantV rfl rfl rfl) ?_
   refine op_v' (j_pick_t rfl rfl (evo rfl)) ?_
   refine op_nil ?_
   refine a_tt rfl ?_
   refine a_seq ?_
   refine a_region (by kernel_rfl) ?_
   refine op_v' (j_move (evo rfl)) ?_
   refine op_v' (j_move (evo rfl)) ?_
   refine op_v' (j_eqb Try.underlying4 rfl rfl) ?_
   refine op_v' (j_move (evo rfl)) ?_
   refine op_split' 53 rfl (fun h3 => ?_) (fun h3 => ?_)
   ·
    have h3r := h3
    try simp only [nq, nr] at h3
    refine op_v' (j_want rfl rfl h3r (j_move (evo rfl))) ?_
    refine op_v' (j_want rfl rfl h3r (j_move (evo rfl))) ?_
    refine op_v0' (j_want rfl rfl h3r (j_call0 (v := .p _) (hp1 := []) [] false [] ent16 (f_cpRows (bdD m i d) (bdD m i d)) ⟨.inl ⟨rfl, rfl⟩, .inl ⟨rfl, rfl⟩, trivial⟩ trivial rfl rfl (fun h => by cases h) rfl (fun _ h => by cases h) (.inl rfl) rfl rfl)) ?_
    refine op_v' (j_pick_t rfl h3r (evo rfl)) ?_
    refine op_v' (j_assign (evo rfl)) ?_
    refine op_nil ?_
    refine a_ret ?_
    exact ⟨[.p _], .p _, [], [], [], ⟨rfl, trivial⟩, rfl, rfl, trivial, rfl, rfl, ⟨boolEq (by first | (simp; done) | assumption | (rw [hem]; simp; done) | (exfalso; simp_all; done)), rfl, rfl⟩⟩
   ·
    have h3r := h3
    try simp only [nq, nr] at h3
    exact absurd h3r (by simp)
  ·
   have h2r := h2
   try simp only [nq, nr] at h2
   refine op_v' (j_want rfl rfl h2r (j_move (evo rfl))) ?_
   refine op_v' (j_want rfl rfl h2r (j_move (evo rfl))) ?_
   refine op_v0' (j_want rfl rfl h2r (j_call0 (v := .p _) (hp1 := []) [] false [] ent16 (f_cpRows (bdD m i d) (bdD m i d)) ⟨.inl ⟨rfl, rfl⟩, .inl ⟨rfl, rfl⟩, trivial⟩ trivial rfl rfl (fun h => by cases h) rfl (fun _ h => by cases h) (.inl rfl) rfl rfl)) ?_
   refine op_v' (j_want rfl rfl h2r (j_not rfl)) ?_
   refine op_v' (j_pick_f rfl h2r (evo rfl)) ?_
   refine op_v' (j_move (evo rfl)) ?_
   refine op_split' 46 rfl (fun h4 => ?_) (fun h4 => ?_)
   ·
    have h4r := h4
    try simp only [nq, nr] at h4
    refine op_v' (j_unwantV rfl rfl h4r) ?_
    refine op_v' (j_unwantV rfl rfl h4r) ?_
    refine op_v' (j_pick_t rfl h4r (evo rfl)) ?_
    refine op_nil ?_
    refine a_tt rfl ?_
    refine a_seq ?_
    refine a_region (by kernel_rfl) ?_
    refine op_v' (j_move (evo rfl)) ?_
    refine op_v' (j_move (evo rfl)) ?_
    refine op_v' (j_eqb Try.underlying4 rfl rfl) ?_
    refine op_v' (j_move (evo rfl)) ?_
    refine op_split' 53 rfl (fun h5 => ?_) (fun h5 => ?_)
    ·
     have h5r := h5
     try simp only [nq, nr] at h5
     refine op_v' (j_want rfl rfl h5r (j_move (evo rfl))) ?_
     refine op_v' (j_want rfl rfl h5r (j_move (evo rfl))) ?_
     refine op_v0' (j_want rfl rfl h5r (j_call0 (v := .p _) (hp1 := []) [] false [] ent16 (f_cpRows (bdD m i d) (bdD m i d)) ⟨.inl ⟨rfl, rfl⟩, .inl ⟨rfl, rfl⟩, trivial⟩ trivial rfl rfl (fun h => by cases h) rfl (fun _ h => by cases h) (.inl rfl) rfl rfl)) ?_
     refine op_v' (j_pick_t rfl h5r (evo rfl)) ?_
     refine op_v' (j_assign (evo rfl)) ?_
     refine op_nil ?_
     refine a_ret ?_
     exact ⟨[.p _], .p _, [], [], [], ⟨rfl, trivial⟩, rfl, rfl, trivial, rfl, rfl, ⟨boolEq (by first | (simp; done) | assumption | (rw [hem]; simp; done) | (exfalso; simp_all; done)), rfl, rfl⟩⟩
    ·
     have h5r := h5
     try simp only [nq, nr] at h5
     exact absurd h5r (by simp)
   ·
    have h4r := h4
    try simp only [nq, nr] at h4
    refine op_v' (j_want rfl rfl h4r (j_move (evo rfl))) ?_
    refine op_v' (j_want rfl rfl h4r (j_not rfl)) ?_
    refine op_v' (j_pick_f rfl h4r (evo rfl)) ?_
    refine op_nil ?_
    refine a_cond rfl (fun h6 => ?_) (fun h6 => ?_)
    ·
     have h6r := h6
     try simp only [nq, nr] at h6
     refine a_seq ?_
     refine a_region (by kernel_rfl) ?_
     refine op_v' (j_move (evo rfl)) ?_
     refine op_v' (j_move (evo rfl)) ?_
     refine op_v' (j_eqb Try.underlying4 rfl rfl) ?_
     refine op_v' (j_move (evo rfl)) ?_
     refine op_split' 53 rfl (fun h7 => ?_) (fun h7 => ?_)
     ·
      have h7r := h7
      try simp only [nq, nr] at h7
      refine op_v' (j_want rfl rfl h7r (j_move (evo rfl))) ?_
      refine op_v' (j_want rfl rfl h7r (j_move (evo rfl))) ?_
      refine op_v0' (j_want rfl rfl h7r (j_call0 (v := .p _) (hp1 := []) [] false [] ent16 (f_cpRows (bdD m i d) (bdD m i d)) ⟨.inl ⟨rfl, rfl⟩, .inl ⟨rfl, rfl⟩, trivial⟩ trivial rfl rfl (fun h => by cases h) rfl (fun _ h => by cases h) (.inl rfl) rfl rfl)) ?_
      refine op_v' (j_pick_t rfl h7r (evo rfl)) ?_
      refine op_v' (j_assign (evo rfl)) ?_
      refine op_nil ?_
      refine a_ret ?_
      exact ⟨[.p _], .p _, [], [], [], ⟨rfl, trivial⟩, rfl, rfl, trivial, rfl, rfl, ⟨boolEq (by first | (simp; done) | assumption | (rw [hem]; simp; done) | (exfalso; simp_all; done)), rfl, rfl⟩⟩
     ·
      have h7r := h7
      try simp only [nq, nr] at h7
      exact absurd h7r (by simp)
    ·
     have h6r := h6
     try simp only [nq, nr] at h6
     refine a_skip ?_
     refine a_seq ?_
     have hok : brOk m i d = true := by assumption
     have hofr := bd_fr hok
     have hdm := (fr_parts hofr).1
     have hmk := (dm_parts hdm).1
     have hle := bd_le hok
     have hem := bd_em hok
     have hl1 := fits_len (bd_fits hok) (fr_fits hofr)
     have hl2 := fits_len (bd_fits hok) (dm_parts hdm).2
     have hr9 := row9 hmk (bd_fits hok)
     refine a_region (by kernel_rfl) ?_
     refine op_v' (j_loada_box (ys := [.sl _, .sl _]) agg26 rfl rfl rfl (Nat.le_of_ble_eq_true rfl)) ?_
     refine op_v' (j_move (evo rfl)) ?_
     refine op_v' (j_move (evo rfl)) ?_
     refine op_n1' (fun ver => j_call1 (v := .tup [.own 62 ver, .p _]) (hp1 := [(62, some (ver, .deep (.mk 34 1 [(0, (.mk 4 1 []))]) _ none))]) [] false [] ent26 (f_frImpl m i d hwr) ⟨.inl ⟨rfl, rfl⟩, .inl ⟨rfl, rfl⟩, .inl ⟨rfl, rfl⟩, trivial⟩ trivial rfl rfl rfl (fun h => by cases h) rfl (List.all_eq_true.1 rfl) (.inl rfl) rfl rfl) fun v62x3 => ?_
     refine op_v' (j_move (evo rfl)) ?_
     refine op_v' (j_extract rfl rfl) ?_
     refine op_v' (j_extract rfl rfl) ?_
     refine op_v' (j_assign (evo rfl)) ?_
     refine op_v' (j_assign (evo rfl)) ?_
     refine op_nil ?_
     refine a_freezeG 10 trivial rfl rfl rfl rfl ?_
     refine a_seq ?_
     refine a_seq ?_
     refine a_region (by kernel_rfl) ?_
     refine op_v' (j_assign (evo rfl)) ?_
     refine op_nil ?_
     refine a_block ?_
     refine a_loopF' (ι := Nat) (fun k => k ≤ (bdD m i d).length) (fun k r => (12, .p (.int .i64 ((k : Nat)))) :: r) (fun k r => r) (fun k => (bdD m i d).length - k) (fun _ _ => rfl) (fun _ _ => rfl) 0 (by first | omega | (simp only [nr]; omega)) ⟨⟨rfl, rfl⟩, ⟨rfl, trivial⟩, trivial, ⟨rfl, rfl⟩, ⟨rfl, rfl⟩⟩ ?_
     intro k hpre0
     refine a_seq ?_
     refine a_seq ?_
     refine a_region (by kernel_rfl) ?_
     refine op_v' (j_move (evo rfl)) ?_
     refine op_v' (j_move (evo rfl)) ?_
     refine op_v' (j_len_map Try.underlying28 rfl) ?_
     refine op_v' (j_lt rfl rfl) ?_
     refine op_nil ?_
     refine a_cond rfl (fun h8 => ?_) (fun h8 => ?_)
     ·
      have h8r := h8
      try simp only [nq, nr] at h8
      refine a_skip ?_
      refine a_seq ?_
      refine a_block ?_
      refine a_seq ?_
      refine a_region (by kernel_rfl) ?_
      refine op_v' (j_assign (evo rfl)) ?_
      refine op_nil ?_
      refine a_block ?_
      refine a_loopF' (ι := Nat) (fun j => j ≤ ((bdD m i d).getD k default).length) (fun j r => (13, .p (.int .i64 ((j : Nat)))) :: r) (fun j r => r) (fun j => ((bdD m i d).getD k default).length - j) (fun _ _ => rfl) (fun _ _ => rfl) 0 (Nat.zero_le _) ⟨⟨rfl, rfl⟩, ⟨rfl, trivial⟩, trivial, ⟨rfl, rfl⟩, ⟨rfl, rfl⟩⟩ ?_
      intro j hj
      refine a_seq ?_
      refine a_seq ?_
      have hr9k := hr9.2 k
      refine a_region (by kernel_rfl) ?_
      refine op_v' (j_move (evo rfl)) ?_
      refine op_v' (j_move (evo rfl)) ?_
      refine op_v' (j_move (evo rfl)) ?_
      refine op_v' (j_elemN slt28 rfl rfl rfl (at_map (by first | omega | (simp only [nr]; omega))) rfl) ?_
      refine op_v' (j_load_el leaf34 rfl (at_map (by first | omega | (simp only [nr]; omega))) rfl) ?_
      refine op_v' (j_len_map Try.underlying34 rfl) ?_
      refine op_v' (j_lt rfl rfl) ?_
      refine op_nil ?_
      refine a_cond rfl (fun h9 => ?_) (fun h9 => ?_)
      ·
       have h9r := h9
       try simp only [nq, nr] at h9
       refine a_skip ?_
       refine a_seq ?_
       refine a_block ?_
       refine a_seq ?_
       have h1q := hle.2 k j
       have h2q := hle.1 k j
       have h3q := hl1.2 k
       have h4q := hl2.2 k
       unfold cel at h1q h2q
       refine a_region (by kernel_rfl) ?_
       refine op_v' (j_move (evo rfl)) ?_
       refine op_v' (j_move (evo rfl)) ?_
       refine op_v' (j_elemN slt28 rfl rfl rfl (at_map (by first | omega | (simp only [nr]; omega))) rfl) ?_
       refine op_v' (j_load_el leaf34 rfl (at_map (by first | omega | (simp only [nr]; omega))) rfl) ?_
       refine op_v' (j_move (evo rfl)) ?_
       refine op_v' (j_elemN slt34 rfl rfl rfl (at_map (by first | omega | (simp only [nr]; omega))) rfl) ?_
       refine op_v' (j_load_el leaf4 rfl (at_map (by first | omega | (simp only [nr]; omega))) rfl) ?_
       refine op_v' (j_move (evo rfl)) ?_
       refine op_split' 87 rfl (fun h10 => ?_) (fun h10 => ?_)
       ·
        have h10r := h10
        try simp only [nq, nr] at h10
        refine op_v' (j_want rfl rfl h10r (j_move (evo rfl))) ?_
        refine op_v' (j_want rfl rfl h10r (j_move (evo rfl))) ?_
        refine op_v' (j_want rfl rfl h10r (j_elemN slt28 rfl rfl rfl (at_map (by first | omega | (simp only [nr]; omega))) rfl)) ?_
        refine op_v' (j_want rfl rfl h10r (j_load_el leaf34 rfl (at_map (by first | omega | (simp only [nr]; omega))) rfl)) ?_
        refine op_v' (j_want rfl rfl h10r (j_move (evo rfl))) ?_
        refine op_v' (j_want rfl rfl h10r (j_elemN slt34 rfl rfl rfl (at_map (by first | omega | (simp only [nr]; omega))) rfl)) ?_
        refine op_v' (j_want rfl rfl h10r (j_load_el leaf4 rfl (at_map (by first | omega | (simp only [nr]; omega))) rfl)) ?_
        refine op_v' (j_want rfl rfl h10r (j_not rfl)) ?_
        refine op_v' (j_pick_t rfl h10r (evo rfl)) ?_
        refine op_v' (j_move (evo rfl)) ?_
        refine op_split' 97 rfl (fun h11 => ?_) (fun h11 => ?_)
        ·
         have h11r := h11
         try simp only [nq, nr] at h11
         refine op_v' (j_unwantV rfl rfl h11r) ?_
         refine op_v' (j_unwantV rfl rfl h11r) ?_
         refine op_v' (j_unwantV rfl rfl h11r) ?_
         refine op_v' (j_unwantV rfl rfl h11r) ?_
         refine op_v' (j_unwantV rfl rfl h11r) ?_
         refine op_v' (j_unwantV rfl rfl h11r) ?_
         refine op_v' (j_unwantV rfl rfl h11r) ?_
         refine op_v' (j_unwantV rfl rfl h11r) ?_
         refine op_v' (j_unwantU rfl rfl) ?_
         refine op_v' (j_unwantU rfl rfl) ?_
         refine op_v' (j_unwantU rfl rfl) ?_
         refine op_v' (j_unwantU rfl rfl) ?_
         refine op_v' (j_unwantU rfl rfl) ?_
         refine op_v' (j_unwantU rfl rfl) ?_
         refine op_v' (j_unwantU rfl rfl) ?_
         refine op_v' (j_unwantU rfl rfl) ?_
         refine op_v' (j_unwantV rfl rfl h11r) ?_
         refine op_v' (j_pick_t rfl h11r (evo rfl)) ?_
         refine op_nil ?_
         exfalso; first | (have q := h1q (by assumption); rw [show ((bdD m i d).getD k default).getD j default = false by assumption] at q; cases q; done) | (have q := h2q (by assumption); rw [show (d.getD k default).getD j default = false by assumption] at q; cases q; done)
        ·
         have h11r := h11
         try simp only [nq, nr] at h11
         refine op_v' (j_want rfl rfl h11r (j_move (evo rfl))) ?_
         refine op_v' (j_want rfl rfl h11r (j_move (evo rfl))) ?_
         refine op_v' (j_want rfl rfl h11r (j_elemN slt28 rfl rfl rfl (at_map (by first | omega | (simp only [nr]; omega))) rfl)) ?_
         refine op_v' (j_want rfl rfl h11r (j_load_el leaf34 rfl (at_map (by first | omega | (simp only [nr]; omega))) rfl)) ?_
         refine op_v' (j_want rfl rfl h11r (j_move (evo rfl))) ?_
         refine op_v' (j_want rfl rfl h11r (j_elemN slt34 rfl rfl rfl (at_map (by first | omega | (simp only [nr]; omega))) rfl)) ?_
         refine op_v' (j_want rfl rfl h11r (j_load_el leaf4 rfl (at_map (by first | omega | (simp only [nr]; omega))) rfl)) ?_
         refine op_v' (j_want rfl rfl h11r (j_move (evo rfl))) ?_
         refine op_split' 105 rfl (fun h12 => ?_) (fun h12 => ?_)
         ·
          have h12r := h12
          try simp only [nq, nr] at h12
          refine op_v' (j_want rfl rfl h12r (j_move (evo rfl))) ?_
          refine op_v' (j_want rfl rfl h12r (j_move (evo rfl))) ?_
          refine op_v' (j_want rfl rfl h12r (j_elemN slt28 rfl rfl rfl (at_map (by first | omega | (simp only [nr]; omega))) rfl)) ?_
          refine op_v' (j_want rfl rfl h12r (j_load_el leaf34 rfl (at_map (by first | omega | (simp only [nr]; omega))) rfl)) ?_
          refine op_v' (j_want rfl rfl h12r (j_move (evo rfl))) ?_
          refine op_v' (j_want rfl rfl h12r (j_elemN slt34 rfl rfl rfl (at_map (by first | omega | (simp only [nr]; omega))) rfl)) ?_
          refine op_v' (j_want rfl rfl h12r (j_load_el leaf4 rfl (at_map (by first | omega | (simp only [nr]; omega))) rfl)) ?_
          refine op_v' (j_want rfl rfl h12r (j_not rfl)) ?_
          refine op_v' (j_want rfl rfl h11r (j_pick_t rfl h12r (evo rfl))) ?_
          refine op_v' (j_pick_f rfl h11r (evo rfl)) ?_
          refine op_nil ?_
          refine a_cond rfl (fun h13 => ?_) (fun h13 => ?_)
          ·
           have h13r := h13
           try simp only [nq, nr] at h13
           exfalso; first | (have q := h1q (by assumption); rw [show ((bdD m i d).getD k default).getD j default = false by assumption] at q; cases q; done) | (have q := h2q (by assumption); rw [show (d.getD k default).getD j default = false by assumption] at q; cases q; done)
          ·
           have h13r := h13
           try simp only [nq, nr] at h13
           refine a_skip ?_
           refine a_region (by kernel_rfl) ?_
           refine op_v' (j_move (evo rfl)) ?_
           refine op_v' (j_add rfl rfl (by first | omega | (simp only [nr]; omega)) (by first | omega | (simp only [nr]; omega))) ?_
           refine op_v' (j_assign (evo rfl)) ?_
           refine op_nil ?_
           exact ⟨j + 1, (by first | omega | (simp only [nr]; omega)), ⟨⟨rfl, rfl⟩, ⟨rfl, trivial⟩, trivial, ⟨rfl, rfl⟩, ⟨rfl, rfl⟩⟩, (by first | omega | (simp only [nr]; omega))⟩
         ·
          have h12r := h12
          try simp only [nq, nr] at h12
          refine op_v' (j_unwantV rfl rfl h12r) ?_
          refine op_v' (j_unwantV rfl rfl h12r) ?_
          refine op_v' (j_unwantV rfl rfl h12r) ?_
          refine op_v' (j_unwantV rfl rfl h12r) ?_
          refine op_v' (j_unwantV rfl rfl h12r) ?_
          refine op_v' (j_unwantV rfl rfl h12r) ?_
          refine op_v' (j_unwantV rfl rfl h12r) ?_
          refine op_v' (j_unwantV rfl rfl h12r) ?_
          refine op_v' (j_want rfl rfl h11r (j_pick_f rfl h12r (evo rfl))) ?_
          refine op_v' (j_pick_f rfl h11r (evo rfl)) ?_
          refine op_nil ?_
          refine a_ff rfl ?_
          refine a_skip ?_
          refine a_region (by kernel_rfl) ?_
          refine op_v' (j_move (evo rfl)) ?_
          refine op_v' (j_add rfl rfl (by first | omega | (simp only [nr]; omega)) (by first | omega | (simp only [nr]; omega))) ?_
          refine op_v' (j_assign (evo rfl)) ?_
          refine op_nil ?_
          exact ⟨j + 1, (by first | omega | (simp only [nr]; omega)), ⟨⟨rfl, rfl⟩, ⟨rfl, trivial⟩, trivial, ⟨rfl, rfl⟩, ⟨rfl, rfl⟩⟩, (by first | omega | (simp only [nr]; omega))⟩
       ·
        have h10r := h10
        try simp only [nq, nr] at h10
        refine op_v' (j_unwantV rfl rfl h10r) ?_
        refine op_v' (j_unwantV rfl rfl h10r) ?_
        refine op_v' (j_unwantV rfl rfl h10r) ?_
        refine op_v' (j_unwantV rfl rfl h10r) ?_
        refine op_v' (j_unwantV rfl rfl h10r) ?_
        refine op_v' (j_unwantV rfl rfl h10r) ?_
        refine op_v' (j_unwantV rfl rfl h10r) ?_
        refine op_v' (j_unwantV rfl rfl h10r) ?_
        refine op_v' (j_pick_f rfl h10r (evo rfl)) ?_
        refine op_v' (j_move (evo rfl)) ?_
        refine op_v' (j_want rfl rfl rfl (j_move (evo rfl))) ?_
        refine op_v' (j_want rfl rfl rfl (j_move (evo rfl))) ?_
        refine op_v' (j_want rfl rfl rfl (j_elemN slt28 rfl rfl rfl (at_map (by first | omega | (simp only [nr]; omega))) rfl)) ?_
        refine op_v' (j_want rfl rfl rfl (j_load_el leaf34 rfl (at_map (by first | omega | (simp only [nr]; omega))) rfl)) ?_
        refine op_v' (j_want rfl rfl rfl (j_move (evo rfl))) ?_
        refine op_v' (j_want rfl rfl rfl (j_elemN slt34 rfl rfl rfl (at_map (by first | omega | (simp only [nr]; omega))) rfl)) ?_
        refine op_v' (j_want rfl rfl rfl (j_load_el leaf4 rfl (at_map (by first | omega | (simp only [nr]; omega))) rfl)) ?_
        refine op_v' (j_want rfl rfl rfl (j_move (evo rfl))) ?_
        refine op_split' 105 rfl (fun h14 => ?_) (fun h14 => ?_)
        ·
         have h14r := h14
         try simp only [nq, nr] at h14
         refine op_v' (j_want rfl rfl h14r (j_move (evo rfl))) ?_
         refine op_v' (j_want rfl rfl h14r (j_move (evo rfl))) ?_
         refine op_v' (j_want rfl rfl h14r (j_elemN slt28 rfl rfl rfl (at_map (by first | omega | (simp only [nr]; omega))) rfl)) ?_
         refine op_v' (j_want rfl rfl h14r (j_load_el leaf34 rfl (at_map (by first | omega | (simp only [nr]; omega))) rfl)) ?_
         refine op_v' (j_want rfl rfl h14r (j_move (evo rfl))) ?_
         refine op_v' (j_want rfl rfl h14r (j_elemN slt34 rfl rfl rfl (at_map (by first | omega | (simp only [nr]; omega))) rfl)) ?_
         refine op_v' (j_want rfl rfl h14r (j_load_el leaf4 rfl (at_map (by first | omega | (simp only [nr]; omega))) rfl)) ?_
         refine op_v' (j_want rfl rfl h14r (j_not rfl)) ?_
         refine op_v' (j_want rfl rfl rfl (j_pick_t rfl h14r (evo rfl))) ?_
         refine op_v' (j_pick_f rfl rfl (evo rfl)) ?_
         refine op_nil ?_
         refine a_cond rfl (fun h15 => ?_) (fun h15 => ?_)
         ·
          have h15r := h15
          try simp only [nq, nr] at h15
          exfalso; first | (have q := h1q (by assumption); rw [show ((bdD m i d).getD k default).getD j default = false by assumption] at q; cases q; done) | (have q := h2q (by assumption); rw [show (d.getD k default).getD j default = false by assumption] at q; cases q; done)
         ·
          have h15r := h15
          try simp only [nq, nr] at h15
          refine a_skip ?_
          refine a_region (by kernel_rfl) ?_
          refine op_v' (j_move (evo rfl)) ?_
          refine op_v' (j_add rfl rfl (by first | omega | (simp only [nr]; omega)) (by first | omega | (simp only [nr]; omega))) ?_
          refine op_v' (j_assign (evo rfl)) ?_
          refine op_nil ?_
          exact ⟨j + 1, (by first | omega | (simp only [nr]; omega)), ⟨⟨rfl, rfl⟩, ⟨rfl, trivial⟩, trivial, ⟨rfl, rfl⟩, ⟨rfl, rfl⟩⟩, (by first | omega | (simp only [nr]; omega))⟩
        ·
         have h14r := h14
         try simp only [nq, nr] at h14
         refine op_v' (j_unwantV rfl rfl h14r) ?_
         refine op_v' (j_unwantV rfl rfl h14r) ?_
         refine op_v' (j_unwantV rfl rfl h14r) ?_
         refine op_v' (j_unwantV rfl rfl h14r) ?_
         refine op_v' (j_unwantV rfl rfl h14r) ?_
         refine op_v' (j_unwantV rfl rfl h14r) ?_
         refine op_v' (j_unwantV rfl rfl h14r) ?_
         refine op_v' (j_unwantV rfl rfl h14r) ?_
         refine op_v' (j_want rfl rfl rfl (j_pick_f rfl h14r (evo rfl))) ?_
         refine op_v' (j_pick_f rfl rfl (evo rfl)) ?_
         refine op_nil ?_
         refine a_ff rfl ?_
         refine a_skip ?_
         refine a_region (by kernel_rfl) ?_
         refine op_v' (j_move (evo rfl)) ?_
         refine op_v' (j_add rfl rfl (by first | omega | (simp only [nr]; omega)) (by first | omega | (simp only [nr]; omega))) ?_
         refine op_v' (j_assign (evo rfl)) ?_
         refine op_nil ?_
         exact ⟨j + 1, (by first | omega | (simp only [nr]; omega)), ⟨⟨rfl, rfl⟩, ⟨rfl, trivial⟩, trivial, ⟨rfl, rfl⟩, ⟨rfl, rfl⟩⟩, (by first | omega | (simp only [nr]; omega))⟩
      ·
       have h9r := h9
       try simp only [nq, nr] at h9
       refine a_exit ?_
       refine a_region (by kernel_rfl) ?_
       refine op_v' (j_move (evo rfl)) ?_
       refine op_v' (j_add rfl rfl (by first | omega | (simp only [nr]; omega)) (by first | omega | (simp only [nr]; omega))) ?_
       refine op_v' (j_assign (evo rfl)) ?_
       refine op_nil ?_
       exact ⟨k + 1, (by first | omega | (simp only [nr]; omega)), ⟨⟨rfl, rfl⟩, ⟨rfl, trivial⟩, trivial, ⟨rfl, rfl⟩, ⟨rfl, rfl⟩⟩, (by first | omega | (simp only [nr]; omega))⟩
     ·
      have h8r := h8
      try simp only [nq, nr] at h8
      refine a_exit ?_
      refine a_seq ?_
      refine a_draw mixed (by kernel_rfl) (by kernel_rfl) fun vf => ?_
      refine d_v' (j_move (evo rfl)) ?_
      refine d_v' (j_move (evo rfl)) ?_
      refine d_split' 117 rfl (fun h16 => ?_) (fun h16 => ?_)
      ·
       have h16r := h16
       try simp only [nq, nr] at h16
       refine d_v' (j_want rfl rfl h16r (j_loada_box (ys := [.sl _, .sl _]) agg26 rfl rfl rfl (Nat.le_of_ble_eq_true rfl))) ?_
       refine d_v' (j_want rfl rfl h16r (j_move (evo rfl))) ?_
       refine d_v0' (j_want rfl rfl h16r (j_call0 (v := .p _) (hp1 := []) [] false [] ent20 (f_deImpl m (bdD m i d)) ⟨.inl ⟨rfl, rfl⟩, .inl ⟨rfl, rfl⟩, trivial⟩ trivial rfl rfl (fun h => by cases h) rfl (fun _ h => by cases h) (.inl rfl) rfl rfl)) ?_
       refine d_v' (j_want rfl rfl h16r (j_loada_box (ys := [.sl _, .sl _]) agg26 rfl rfl rfl (Nat.le_of_ble_eq_true rfl))) ?_
       refine d_v' (j_want rfl rfl h16r (j_move (evo rfl))) ?_
       refine d_v0' (j_want rfl rfl h16r (j_call0 (v := .p _) (hp1 := []) [] false [] ent20 (f_deImpl m (frD m i d)) ⟨.inl ⟨rfl, rfl⟩, .inl ⟨rfl, rfl⟩, trivial⟩ trivial rfl rfl (fun h => by cases h) rfl (fun _ h => by cases h) (.inl rfl) rfl rfl)) ?_
       refine d_v' (j_want rfl rfl h16r (j_eqb Try.underlying4 rfl rfl)) ?_
       refine d_v' (j_pick_t rfl h16r (evo rfl)) ?_
       refine d_v' (j_assign (evo rfl)) ?_
       refine d_nil (by kernel_rfl) (by kernel_rfl) ?_
       refine a_ret ?_
       exact ⟨[.p _], .p _, [], [], [], ⟨rfl, trivial⟩, rfl, rfl, trivial, rfl, rfl, ⟨boolEq (by first | (simp; done) | assumption | (rw [hem]; simp; done) | (exfalso; simp_all; done)), rfl, rfl⟩⟩
      ·
       have h16r := h16
       try simp only [nq, nr] at h16
       refine d_v' (j_unwantV rfl rfl h16r) ?_
       refine d_v' (j_unwantV rfl rfl h16r) ?_
       refine d_v' (j_unwantV rfl rfl h16r) ?_
       refine d_v' (j_unwantV rfl rfl h16r) ?_
       refine d_v' (j_unwantV rfl rfl h16r) ?_
       refine d_v' (j_unwantV rfl rfl h16r) ?_
       refine d_v' (j_unwantV rfl rfl h16r) ?_
       refine d_v' (j_pick_f rfl h16r (evo rfl)) ?_
       refine d_v' (j_assign (evo rfl)) ?_
       refine d_nil (by kernel_rfl) (by kernel_rfl) ?_
       refine a_ret ?_
       exact ⟨[.p _], .p _, [], [], [], ⟨rfl, trivial⟩, rfl, rfl, trivial, rfl, rfl, ⟨boolEq (by first | (simp; done) | assumption | (rw [hem]; simp; done) | (exfalso; simp_all; done)), rfl, rfl⟩⟩


end Go.Ab
