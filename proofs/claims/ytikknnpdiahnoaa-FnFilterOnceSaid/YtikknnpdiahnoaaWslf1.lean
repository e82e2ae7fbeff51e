/- Walks. -/
import Derived.Test.YtikknnpdiahnoaaBase
import Derived.Test.YtikknnpdiahnoaaLf1
import Derived.Test.YtikknnpdiahnoaaFf2
import Derived.Test.YtikknnpdiahnoaaWsfm
import Derived.Test.YtikknnpdiahnoaaWsdfr
namespace Go.Ab
open Go.Proofs
set_option maxRecDepth 100000
set_option maxHeartbeats 8000000
set_option linter.unusedSimpArgs false
set_option linter.unusedVariables false
theorem f_lawFO (b : List Int) (hb : ∀ a ∈ b, 0 ≤ a ∧ a ≤ 255) : Fn Try.prog 8 [.sl (b.map dU)] [] (fun rr ii nn => rr = .p (.bool true) ∧ ii = [] ∧ nn = []) := by
 refine fn_of Try.func8 rfl (Nat.le_of_ble_eq_true rfl) fun w X g => ?_
 show AWp _ _ _ ⟨[(0, .sl (b.map dU))], []⟩
 refine a_seq ?_
 refine a_region (by kernel_rfl) ?_
 refine op_v' (j_assign (evo rfl)) ?_
 refine op_nil ?_
 refine a_seq ?_
 refine a_seq ?_
 refine a_region (by kernel_rfl) ?_
 refine op_v' (j_move (evo rfl)) ?_
 refine op_v' (j_len_map Try.underlying22 rfl) ?_
 refine op_v' (j_gt rfl rfl) ?_
 refine op_nil ?_
 refine a_cond rfl (fun h1 => ?_) (fun h1 => ?_)
 ·
  have h1r := h1
  try simp only [nq, nr] at h1
  refine a_seq ?_
  refine a_region (by kernel_rfl) ?_
  refine op_v' (j_assign (evo rfl)) ?_
  refine op_nil ?_
  refine a_ret ?_
  exact ⟨[.p _], .p _, [], [], [], ⟨rfl, trivial⟩, rfl, rfl, trivial, rfl, rfl, ⟨boolEq (by first | (simp; done) | assumption | exact decide_eq_true hag | (exfalso; simp_all; done)), rfl, rfl⟩⟩
 ·
  have h1r := h1
  try simp only [nq, nr] at h1
  refine a_skip ?_
  refine a_seq ?_
  refine a_region (by kernel_rfl) ?_
  refine op_v' (j_move (evo rfl)) ?_
  refine op_callE (v := fun x => .tup [.agg [.sl _, .sl _], .p _, .sl _]) (hp1 := fun x => []) [] false ent27 (f_dFR b hb) ⟨.inl ⟨rfl, rfl⟩, trivial⟩ trivial rfl (fun _ => rfl) (fun _ => rfl) (.inl rfl) (fun _ => rfl) (fun _ => rfl) ?_
  rintro ⟨m, i, d⟩ ⟨hw, hl⟩
  try dsimp only at hw
  try dsimp only at hl
  have hwr : wRS m.2 ≤ 1048576 := by unfold wM at hw; omega
  dsimp only [List.cons_append, List.nil_append]
  refine op_v' (j_move (evo rfl)) ?_
  refine op_v' (j_extract rfl rfl) ?_
  refine op_v' (j_extract rfl rfl) ?_
  refine op_v' (j_extract rfl rfl) ?_
  refine op_n' (fun ver => j_alloc elt26 rfl) fun v3x1 => ?_
  refine op_s' (j_storea_box0 agg26 rfl rfl rfl rfl rfl rfl) ?_
  refine op_v' (j_assign (evo rfl)) ?_
  refine op_v' (j_assign (evo rfl)) ?_
  refine op_nil ?_
  refine a_seq ?_
  refine a_region (by kernel_rfl) ?_
  refine op_v' (j_loada_box (ys := [.sl _, .sl _]) agg26 rfl rfl rfl (Nat.le_of_ble_eq_true rfl)) ?_
  refine op_v' (j_move (evo rfl)) ?_
  refine op_v' (j_move (evo rfl)) ?_
  refine op_n1' (fun ver => j_call1 (v := .tup [.own 29 ver, .p _]) (hp1 := [(29, some (ver, .deep (.mk 34 1 [(0, (.mk 4 1 []))]) _ none))]) [] false [] ent26 (f_frImpl m i d hwr) ⟨.inl ⟨rfl, rfl⟩, .inl ⟨rfl, rfl⟩, .inl ⟨rfl, rfl⟩, trivial⟩ trivial rfl rfl rfl (fun h => by cases h) rfl (List.all_eq_true.1 rfl) (.inl rfl) rfl rfl) fun v29x2 => ?_
  refine op_v' (j_move (evo rfl)) ?_
  refine op_v' (j_extract rfl rfl) ?_
  refine op_v' (j_extract rfl rfl) ?_
  refine op_v' (j_assign (evo rfl)) ?_
  refine op_v' (j_assign (evo rfl)) ?_
  refine op_nil ?_
  refine a_freezeG 6 trivial rfl rfl rfl rfl ?_
  refine a_seq ?_
  refine a_region (by kernel_rfl) ?_
  refine op_v' (j_loada_box (ys := [.sl _, .sl _]) agg26 rfl rfl rfl (Nat.le_of_ble_eq_true rfl)) ?_
  refine op_v' (j_move (evo rfl)) ?_
  refine op_v' (j_move (evo rfl)) ?_
  refine op_v0' (j_call0 (v := .tup [.sl _, .p _]) (hp1 := []) [] false [] ent28 (f_frSpec m i d hwr) ⟨.inl ⟨rfl, rfl⟩, .inl ⟨rfl, rfl⟩, .inl ⟨rfl, rfl⟩, trivial⟩ trivial rfl rfl (fun h => by cases h) rfl (fun _ h => by cases h) (.inl rfl) rfl rfl) ?_
  refine op_v' (j_move (evo rfl)) ?_
  refine op_v' (j_extract rfl rfl) ?_
  refine op_v' (j_extract rfl rfl) ?_
  refine op_v' (j_assign (evo rfl)) ?_
  refine op_v' (j_assign (evo rfl)) ?_
  refine op_nil ?_
  refine a_seq ?_
  refine a_seq ?_
  refine a_region (by kernel_rfl) ?_
  refine op_v' (j_move (evo rfl)) ?_
  refine op_v' (j_move (evo rfl)) ?_
  refine op_v' (j_neb Try.underlying4 rfl rfl) ?_
  refine op_v' (j_move (evo rfl)) ?_
  refine op_split' 42 rfl (fun h2 => ?_) (fun h2 => ?_)
  ·
   have h2r := h2
   try simp only [nq, nr] at h2
   refine op_v' (j_unwantV rfl rfl h2r) ?_
   refine op_v' (j_unwantV rfl rfl h2r) ?_
   refine op_v' (j_unwantV rfl rfl h2r) ?_
   refine op_v' (j_unwantV rfl rfl h2r) ?_
   refine op_v' (j_pick_t rfl h2r (evo rfl)) ?_
   refine op_v' (j_move (evo rfl)) ?_
   refine op_v' (j_unwantV rfl rfl rfl) ?_
   refine op_v' (j_unwantV rfl rfl rfl) ?_
   refine op_v' (j_pick_t rfl rfl (evo rfl)) ?_
   refine op_nil ?_
   refine a_tt rfl ?_
   refine a_seq ?_
   refine a_region (by kernel_rfl) ?_
   refine op_v' (j_move (evo rfl)) ?_
   refine op_v' (j_move (evo rfl)) ?_
   refine op_v' (j_eqb Try.underlying4 rfl rfl) ?_
   refine op_v' (j_move (evo rfl)) ?_
   refine op_split' 55 rfl (fun h3 => ?_) (fun h3 => ?_)
   ·
    have h3r := h3
    try simp only [nq, nr] at h3
    refine op_v' (j_want rfl rfl h3r (j_move (evo rfl))) ?_
    refine op_v' (j_want rfl rfl h3r (j_move (evo rfl))) ?_
    refine op_v0' (j_want rfl rfl h3r (j_call0 (v := .p _) (hp1 := []) [] false [] ent16 (f_cpRows (frD m i d) (frD m i d)) ⟨.inl ⟨rfl, rfl⟩, .inl ⟨rfl, rfl⟩, trivial⟩ trivial rfl rfl (fun h => by cases h) rfl (fun _ h => by cases h) (.inl rfl) rfl rfl)) ?_
    refine op_v' (j_pick_t rfl h3r (evo rfl)) ?_
    refine op_v' (j_assign (evo rfl)) ?_
    refine op_nil ?_
    refine a_ret ?_
    exact ⟨[.p _], .p _, [], [], [], ⟨rfl, trivial⟩, rfl, rfl, trivial, rfl, rfl, ⟨boolEq (by first | (simp; done) | assumption | exact decide_eq_true hag | (exfalso; simp_all; done)), rfl, rfl⟩⟩
   ·
    have h3r := h3
    try simp only [nq, nr] at h3
    exact absurd h3r (by simp)
  ·
   have h2r := h2
   try simp only [nq, nr] at h2
   refine op_v' (j_want rfl rfl h2r (j_move (evo rfl))) ?_
   refine op_v' (j_want rfl rfl h2r (j_move (evo rfl))) ?_
   refine op_v0' (j_want rfl rfl h2r (j_call0 (v := .p _) (hp1 := []) [] false [] ent16 (f_cpRows (frD m i d) (frD m i d)) ⟨.inl ⟨rfl, rfl⟩, .inl ⟨rfl, rfl⟩, trivial⟩ trivial rfl rfl (fun h => by cases h) rfl (fun _ h => by cases h) (.inl rfl) rfl rfl)) ?_
   refine op_v' (j_want rfl rfl h2r (j_not rfl)) ?_
   refine op_v' (j_pick_f rfl h2r (evo rfl)) ?_
   refine op_v' (j_move (evo rfl)) ?_
   refine op_split' 48 rfl (fun h4 => ?_) (fun h4 => ?_)
   ·
    have h4r := h4
    try simp only [nq, nr] at h4
    refine op_v' (j_unwantV rfl rfl h4r) ?_
    refine op_v' (j_unwantV rfl rfl h4r) ?_
    refine op_v' (j_pick_t rfl h4r (evo rfl)) ?_
    refine op_nil ?_
    refine a_tt rfl ?_
    refine a_seq ?_
    refine a_region (by kernel_rfl) ?_
    refine op_v' (j_move (evo rfl)) ?_
    refine op_v' (j_move (evo rfl)) ?_
    refine op_v' (j_eqb Try.underlying4 rfl rfl) ?_
    refine op_v' (j_move (evo rfl)) ?_
    refine op_split' 55 rfl (fun h5 => ?_) (fun h5 => ?_)
    ·
     have h5r := h5
     try simp only [nq, nr] at h5
     refine op_v' (j_want rfl rfl h5r (j_move (evo rfl))) ?_
     refine op_v' (j_want rfl rfl h5r (j_move (evo rfl))) ?_
     refine op_v0' (j_want rfl rfl h5r (j_call0 (v := .p _) (hp1 := []) [] false [] ent16 (f_cpRows (frD m i d) (frD m i d)) ⟨.inl ⟨rfl, rfl⟩, .inl ⟨rfl, rfl⟩, trivial⟩ trivial rfl rfl (fun h => by cases h) rfl (fun _ h => by cases h) (.inl rfl) rfl rfl)) ?_
     refine op_v' (j_pick_t rfl h5r (evo rfl)) ?_
     refine op_v' (j_assign (evo rfl)) ?_
     refine op_nil ?_
     refine a_ret ?_
     exact ⟨[.p _], .p _, [], [], [], ⟨rfl, trivial⟩, rfl, rfl, trivial, rfl, rfl, ⟨boolEq (by first | (simp; done) | assumption | exact decide_eq_true hag | (exfalso; simp_all; done)), rfl, rfl⟩⟩
    ·
     have h5r := h5
     try simp only [nq, nr] at h5
     exact absurd h5r (by simp)
   ·
    have h4r := h4
    try simp only [nq, nr] at h4
    refine op_v' (j_want rfl rfl h4r (j_move (evo rfl))) ?_
    refine op_v' (j_want rfl rfl h4r (j_not rfl)) ?_
    refine op_v' (j_pick_f rfl h4r (evo rfl)) ?_
    refine op_nil ?_
    refine a_cond rfl (fun h6 => ?_) (fun h6 => ?_)
    ·
     have h6r := h6
     try simp only [nq, nr] at h6
     refine a_seq ?_
     refine a_region (by kernel_rfl) ?_
     refine op_v' (j_move (evo rfl)) ?_
     refine op_v' (j_move (evo rfl)) ?_
     refine op_v' (j_eqb Try.underlying4 rfl rfl) ?_
     refine op_v' (j_move (evo rfl)) ?_
     refine op_split' 55 rfl (fun h7 => ?_) (fun h7 => ?_)
     ·
      have h7r := h7
      try simp only [nq, nr] at h7
      refine op_v' (j_want rfl rfl h7r (j_move (evo rfl))) ?_
      refine op_v' (j_want rfl rfl h7r (j_move (evo rfl))) ?_
      refine op_v0' (j_want rfl rfl h7r (j_call0 (v := .p _) (hp1 := []) [] false [] ent16 (f_cpRows (frD m i d) (frD m i d)) ⟨.inl ⟨rfl, rfl⟩, .inl ⟨rfl, rfl⟩, trivial⟩ trivial rfl rfl (fun h => by cases h) rfl (fun _ h => by cases h) (.inl rfl) rfl rfl)) ?_
      refine op_v' (j_pick_t rfl h7r (evo rfl)) ?_
      refine op_v' (j_assign (evo rfl)) ?_
      refine op_nil ?_
      refine a_ret ?_
      exact ⟨[.p _], .p _, [], [], [], ⟨rfl, trivial⟩, rfl, rfl, trivial, rfl, rfl, ⟨boolEq (by first | (simp; done) | assumption | exact decide_eq_true hag | (exfalso; simp_all; done)), rfl, rfl⟩⟩
     ·
      have h7r := h7
      try simp only [nq, nr] at h7
      exact absurd h7r (by simp)
    ·
     have h6r := h6
     try simp only [nq, nr] at h6
     refine a_skip ?_
     refine a_seq ?_
     have hok : frOk m i d = true := by assumption
     have hdm := (fr_parts hok).1
     have hmk := (dm_parts hdm).1
     have hyx := fm_once hok
     have hl1 := fits_len (fm_fits hdm) (fr_fits hok)
     have hr9 := row9 hmk (fm_fits hdm)
     refine a_region (by kernel_rfl) ?_
     refine op_v' (j_loada_box (ys := [.sl _, .sl _]) agg26 rfl rfl rfl (Nat.le_of_ble_eq_true rfl)) ?_
     refine op_v' (j_move (evo rfl)) ?_
     refine op_v' (j_move (evo rfl)) ?_
     refine op_n1' (fun ver => j_call1 (v := .tup [.own 64 ver, .p _]) (hp1 := [(64, some (ver, .deep (.mk 34 1 [(0, (.mk 4 1 []))]) _ none))]) [] false [] ent26 (f_frImpl m i (frD m i d) hwr) ⟨.inl ⟨rfl, rfl⟩, .inl ⟨rfl, rfl⟩, .inl ⟨rfl, rfl⟩, trivial⟩ trivial rfl rfl rfl (fun h => by cases h) rfl (List.all_eq_true.1 rfl) (.inl rfl) rfl rfl) fun v64x3 => ?_
     refine op_v' (j_move (evo rfl)) ?_
     refine op_v' (j_extract rfl rfl) ?_
     refine op_v' (j_extract rfl rfl) ?_
     refine op_v' (j_assign (evo rfl)) ?_
     refine op_v' (j_assign (evo rfl)) ?_
     refine op_nil ?_
     refine a_freezeG 10 trivial rfl rfl rfl rfl ?_
     refine a_seq ?_
     refine a_region (by kernel_rfl) ?_
     refine op_v' (j_loada_box (ys := [.sl _, .sl _]) agg26 rfl rfl rfl (Nat.le_of_ble_eq_true rfl)) ?_
     refine op_v' (j_move (evo rfl)) ?_
     refine op_n1' (fun ver => j_call1 (v := .tup [.own 70 ver, .p _]) (hp1 := [(70, some (ver, .deep (.mk 34 1 [(0, (.mk 4 1 []))]) _ none))]) [] false [] ent32 (f_fmImpl m d hwr) ⟨.inl ⟨rfl, rfl⟩, .inl ⟨rfl, rfl⟩, trivial⟩ trivial rfl rfl rfl (fun h => by cases h) rfl (List.all_eq_true.1 rfl) (.inl rfl) rfl rfl) fun v70x4 => ?_
     refine op_v' (j_move (evo rfl)) ?_
     refine op_v' (j_extract rfl rfl) ?_
     refine op_v' (j_extract rfl rfl) ?_
     refine op_v' (j_assign (evo rfl)) ?_
     refine op_v' (j_assign (evo rfl)) ?_
     refine op_nil ?_
     refine a_freezeG 12 trivial rfl rfl rfl rfl ?_
     refine a_seq ?_
     refine a_seq ?_
     refine a_region (by kernel_rfl) ?_
     refine op_v' (j_assign (evo rfl)) ?_
     refine op_nil ?_
     refine a_block ?_
     refine a_loopF' (ι := Nat) (fun k => k ≤ (fmD m d).length) (fun k r => (14, .p (.int .i64 ((k : Nat)))) :: r) (fun k r => r) (fun k => (fmD m d).length - k) (fun _ _ => rfl) (fun _ _ => rfl) 0 (by first | omega | (simp only [nr]; omega)) ⟨⟨rfl, rfl⟩, ⟨rfl, trivial⟩, trivial, ⟨rfl, rfl⟩, ⟨rfl, rfl⟩⟩ ?_
     intro k hpre0
     refine a_seq ?_
     refine a_seq ?_
     refine a_region (by kernel_rfl) ?_
     refine op_v' (j_move (evo rfl)) ?_
     refine op_v' (j_move (evo rfl)) ?_
     refine op_v' (j_len_map Try.underlying28 rfl) ?_
     refine op_v' (j_lt rfl rfl) ?_
     refine op_nil ?_
     refine a_cond rfl (fun h8 => ?_) (fun h8 => ?_)
     ·
      have h8r := h8
      try simp only [nq, nr] at h8
      refine a_skip ?_
      refine a_seq ?_
      refine a_block ?_
      refine a_seq ?_
      refine a_region (by kernel_rfl) ?_
      refine op_v' (j_assign (evo rfl)) ?_
      refine op_nil ?_
      refine a_block ?_
      refine a_loopF' (ι := Nat) (fun j => j ≤ ((fmD m d).getD k default).length) (fun j r => (15, .p (.int .i64 ((j : Nat)))) :: r) (fun j r => r) (fun j => ((fmD m d).getD k default).length - j) (fun _ _ => rfl) (fun _ _ => rfl) 0 (Nat.zero_le _) ⟨⟨rfl, rfl⟩, ⟨rfl, trivial⟩, trivial, ⟨rfl, rfl⟩, ⟨rfl, rfl⟩⟩ ?_
      intro j hj
      refine a_seq ?_
      refine a_seq ?_
      have hr9k := hr9.2 k
      refine a_region (by kernel_rfl) ?_
      refine op_v' (j_move (evo rfl)) ?_
      refine op_v' (j_move (evo rfl)) ?_
      refine op_v' (j_move (evo rfl)) ?_
      refine op_v' (j_elemN slt28 rfl rfl rfl (at_map (by first | omega | (simp only [nr]; omega))) rfl) ?_
      refine op_v' (j_load_el leaf34 rfl (at_map (by first | omega | (simp only [nr]; omega))) rfl) ?_
      refine op_v' (j_len_map Try.underlying34 rfl) ?_
      refine op_v' (j_lt rfl rfl) ?_
      refine op_nil ?_
      refine a_cond rfl (fun h9 => ?_) (fun h9 => ?_)
      ·
       have h9r := h9
       try simp only [nq, nr] at h9
       refine a_skip ?_
       refine a_seq ?_
       refine a_block ?_
       refine a_seq ?_
       have h1q := hyx k j
       have h3q := hl1.2 k
       unfold cel at h1q
       refine a_region (by kernel_rfl) ?_
       refine op_v' (j_move (evo rfl)) ?_
       refine op_v' (j_move (evo rfl)) ?_
       refine op_v' (j_elemN slt28 rfl rfl rfl (at_map (by first | omega | (simp only [nr]; omega))) rfl) ?_
       refine op_v' (j_load_el leaf34 rfl (at_map (by first | omega | (simp only [nr]; omega))) rfl) ?_
       refine op_v' (j_move (evo rfl)) ?_
       refine op_v' (j_elemN slt34 rfl rfl rfl (at_map (by first | omega | (simp only [nr]; omega))) rfl) ?_
       refine op_v' (j_load_el leaf4 rfl (at_map (by first | omega | (simp only [nr]; omega))) rfl) ?_
       refine op_v' (j_move (evo rfl)) ?_
       refine op_split' 95 rfl (fun h10 => ?_) (fun h10 => ?_)
       ·
        have h10r := h10
        try simp only [nq, nr] at h10
        refine op_v' (j_want rfl rfl h10r (j_move (evo rfl))) ?_
        refine op_v' (j_want rfl rfl h10r (j_move (evo rfl))) ?_
        refine op_v' (j_want rfl rfl h10r (j_elemN slt28 rfl rfl rfl (at_map (by first | omega | (simp only [nr]; omega))) rfl)) ?_
        refine op_v' (j_want rfl rfl h10r (j_load_el leaf34 rfl (at_map (by first | omega | (simp only [nr]; omega))) rfl)) ?_
        refine op_v' (j_want rfl rfl h10r (j_move (evo rfl))) ?_
        refine op_v' (j_want rfl rfl h10r (j_elemN slt34 rfl rfl rfl (at_map (by first | omega | (simp only [nr]; omega))) rfl)) ?_
        refine op_v' (j_want rfl rfl h10r (j_load_el leaf4 rfl (at_map (by first | omega | (simp only [nr]; omega))) rfl)) ?_
        refine op_v' (j_want rfl rfl h10r (j_not rfl)) ?_
        refine op_v' (j_pick_t rfl h10r (evo rfl)) ?_
        refine op_nil ?_
        refine a_cond rfl (fun h11 => ?_) (fun h11 => ?_)
        ·
         have h11r := h11
         try simp only [nq, nr] at h11
         exfalso; first | (have q := h1q (by assumption); rw [show ((frD m i d).getD k default).getD j default = false by assumption] at q; cases q; done)
        ·
         have h11r := h11
         try simp only [nq, nr] at h11
         refine a_skip ?_
         refine a_region (by kernel_rfl) ?_
         refine op_v' (j_move (evo rfl)) ?_
         refine op_v' (j_add rfl rfl (by first | omega | (simp only [nr]; omega)) (by first | omega | (simp only [nr]; omega))) ?_
         refine op_v' (j_assign (evo rfl)) ?_
         refine op_nil ?_
         exact ⟨j + 1, (by first | omega | (simp only [nr]; omega)), ⟨⟨rfl, rfl⟩, ⟨rfl, trivial⟩, trivial, ⟨rfl, rfl⟩, ⟨rfl, rfl⟩⟩, (by first | omega | (simp only [nr]; omega))⟩
       ·
        have h10r := h10
        try simp only [nq, nr] at h10
        refine op_v' (j_unwantV rfl rfl h10r) ?_
        refine op_v' (j_unwantV rfl rfl h10r) ?_
        refine op_v' (j_unwantV rfl rfl h10r) ?_
        refine op_v' (j_unwantV rfl rfl h10r) ?_
        refine op_v' (j_unwantV rfl rfl h10r) ?_
        refine op_v' (j_unwantV rfl rfl h10r) ?_
        refine op_v' (j_unwantV rfl rfl h10r) ?_
        refine op_v' (j_unwantV rfl rfl h10r) ?_
        refine op_v' (j_pick_f rfl h10r (evo rfl)) ?_
        refine op_nil ?_
        refine a_ff rfl ?_
        refine a_skip ?_
        refine a_region (by kernel_rfl) ?_
        refine op_v' (j_move (evo rfl)) ?_
        refine op_v' (j_add rfl rfl (by first | omega | (simp only [nr]; omega)) (by first | omega | (simp only [nr]; omega))) ?_
        refine op_v' (j_assign (evo rfl)) ?_
        refine op_nil ?_
        exact ⟨j + 1, (by first | omega | (simp only [nr]; omega)), ⟨⟨rfl, rfl⟩, ⟨rfl, trivial⟩, trivial, ⟨rfl, rfl⟩, ⟨rfl, rfl⟩⟩, (by first | omega | (simp only [nr]; omega))⟩
      ·
       have h9r := h9
       try simp only [nq, nr] at h9
       refine a_exit ?_
       refine a_region (by kernel_rfl) ?_
       refine op_v' (j_move (evo rfl)) ?_
       refine op_v' (j_add rfl rfl (by first | omega | (simp only [nr]; omega)) (by first | omega | (simp only [nr]; omega))) ?_
       refine op_v' (j_assign (evo rfl)) ?_
       refine op_nil ?_
       exact ⟨k + 1, (by first | omega | (simp only [nr]; omega)), ⟨⟨rfl, rfl⟩, ⟨rfl, trivial⟩, trivial, ⟨rfl, rfl⟩, ⟨rfl, rfl⟩⟩, (by first | omega | (simp only [nr]; omega))⟩
     ·
      have h8r := h8
      try simp only [nq, nr] at h8
      refine a_exit ?_
      refine a_seq ?_
      have hag := fr_again hok
      have hok2 := frOk_yes (fr_dm hok) (fr_parts hok).2
      refine a_region (by kernel_rfl) ?_
      refine op_v' (j_move (evo rfl)) ?_
      refine op_v' (j_move (evo rfl)) ?_
      refine op_split' 106 rfl (fun h12 => ?_) (fun h12 => ?_)
      ·
       have h12r := h12
       try simp only [nq, nr] at h12
       refine op_v' (j_want rfl rfl h12r (j_move (evo rfl))) ?_
       refine op_v' (j_pick_t rfl h12r (evo rfl)) ?_
       refine op_v' (j_move (evo rfl)) ?_
       refine op_split' 109 rfl (fun h13 => ?_) (fun h13 => ?_)
       ·
        have h13r := h13
        try simp only [nq, nr] at h13
        refine op_v' (j_want rfl rfl h13r (j_move (evo rfl))) ?_
        refine op_v' (j_want rfl rfl h13r (j_move (evo rfl))) ?_
        refine op_v0' (j_want rfl rfl h13r (j_call0 (v := .p _) (hp1 := []) [] false [] ent16 (f_cpRows (frD m i (frD m i d)) (frD m i d)) ⟨.inl ⟨rfl, rfl⟩, .inl ⟨rfl, rfl⟩, trivial⟩ trivial rfl rfl (fun h => by cases h) rfl (fun _ h => by cases h) (.inl rfl) rfl rfl)) ?_
        refine op_v' (j_pick_t rfl h13r (evo rfl)) ?_
        refine op_v' (j_assign (evo rfl)) ?_
        refine op_nil ?_
        refine a_ret ?_
        exact ⟨[.p _], .p _, [], [], [], ⟨rfl, trivial⟩, rfl, rfl, trivial, rfl, rfl, ⟨boolEq (by first | (simp; done) | assumption | exact decide_eq_true hag | (exfalso; simp_all; done)), rfl, rfl⟩⟩
       ·
        have h13r := h13
        try simp only [nq, nr] at h13
        refine op_v' (j_unwantV rfl rfl h13r) ?_
        refine op_v' (j_unwantV rfl rfl h13r) ?_
        refine op_v' (j_unwantV rfl rfl h13r) ?_
        refine op_v' (j_pick_f rfl h13r (evo rfl)) ?_
        refine op_v' (j_assign (evo rfl)) ?_
        refine op_nil ?_
        refine a_ret ?_
        exact ⟨[.p _], .p _, [], [], [], ⟨rfl, trivial⟩, rfl, rfl, trivial, rfl, rfl, ⟨boolEq (by first | (simp; done) | assumption | exact decide_eq_true hag | (exfalso; simp_all; done)), rfl, rfl⟩⟩
      ·
       have h12r := h12
       try simp only [nq, nr] at h12
       refine op_v' (j_unwantV rfl rfl h12r) ?_
       refine op_v' (j_pick_f rfl h12r (evo rfl)) ?_
       refine op_v' (j_move (evo rfl)) ?_
       refine op_v' (j_unwantV rfl rfl rfl) ?_
       refine op_v' (j_unwantV rfl rfl rfl) ?_
       refine op_v' (j_unwantV rfl rfl rfl) ?_
       refine op_v' (j_pick_f rfl rfl (evo rfl)) ?_
       refine op_v' (j_assign (evo rfl)) ?_
       refine op_nil ?_
       refine a_ret ?_
       exact ⟨[.p _], .p _, [], [], [], ⟨rfl, trivial⟩, rfl, rfl, trivial, rfl, rfl, ⟨boolEq (by first | (simp; done) | assumption | exact decide_eq_true hag | (exfalso; simp_all; done)), rfl, rfl⟩⟩


end Go.Ab
