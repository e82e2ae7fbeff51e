/- Walks. -/
import Derived.Test.YtikknnpdiahnoaaBase
import Derived.Test.YtikknnpdiahnoaaFr
import Derived.Test.YtikknnpdiahnoaaWsfm
import Derived.Test.YtikknnpdiahnoaaWsfr
namespace Go.Ab
open Go.Proofs
set_option maxRecDepth 100000
set_option maxHeartbeats 8000000
set_option linter.unusedSimpArgs false
set_option linter.unusedVariables false
theorem f_lawEFM (m : Md) (d : List (List Bool)) : Fn Try.prog 13 [.agg [.sl (m.1.map dI), .sl (m.2.map dR)], .sl (d.map dD)] [] (fun rr ii nn => rr = .p (.bool true) ∧ ii = [] ∧ nn = []) := by
  refine fn_of Try.func13 rfl (Nat.le_of_ble_eq_true rfl) fun w X g => ?_
  show AWp _ _ _ ⟨[(0, .agg [.sl (m.1.map dI), .sl (m.2.map dR)]), (1, .sl (d.map dD))], []⟩
  refine a_seq ?_
  refine a_region (by kernel_rfl) ?_
  refine op_n' (fun ver => j_boxa rfl) fun v2x1 => ?_
  refine op_v' (j_assign (evo rfl)) ?_
  refine op_nil ?_
  refine a_seq ?_
  refine a_region (by kernel_rfl) ?_
  refine op_v' (j_assign (evo rfl)) ?_
  refine op_nil ?_
  refine a_seq ?_
  refine a_region (by kernel_rfl) ?_
  refine op_v' (j_loada_box (ys := [.sl _, .sl _]) agg58 rfl rfl rfl (Nat.le_of_ble_eq_true rfl)) ?_
  refine op_v' (j_move (evo rfl)) ?_
  refine op_v0' (j_call0 (v := .p _) (hp1 := []) [] false [] ent44 (f_szModel m _ (by omega)) ⟨.inl ⟨rfl, rfl⟩, .inl ⟨rfl, rfl⟩, trivial⟩ trivial rfl rfl (fun h => by cases h) rfl (fun _ h => by cases h) (.inl rfl) rfl rfl) ?_
  refine op_v' (j_assign (evo rfl)) ?_
  refine op_nil ?_
  refine a_seq ?_
  refine a_seq ?_
  refine a_region (by kernel_rfl) ?_
  refine op_v' (j_move (evo rfl)) ?_
  refine op_v' (j_lt rfl rfl) ?_
  refine op_nil ?_
  refine a_cond rfl (fun h1 => ?_) (fun h1 => ?_)
  ·
    have h1r := h1
    try simp only [Bool.not_eq_true', Bool.not_eq_false', Bool.not_not, bne_iff_ne, bne_eq_false_iff_eq, beq_eq_false_iff_ne, beq_iff_eq, ne_eq, decide_eq_true_eq, decide_eq_false_iff_not, Classical.not_not, List.length_map, List.length_take, Int.toNat_natCast] at h1
    refine a_seq ?_
    refine a_region (by kernel_rfl) ?_
    refine op_v' (j_assign (evo rfl)) ?_
    refine op_nil ?_
    refine a_ret ?_
    exact ⟨[.p _], .p _, [], [], [], ⟨rfl, trivial⟩, rfl, rfl, trivial, rfl, rfl, ⟨rfl, rfl, rfl⟩⟩
  ·
    have h1r := h1
    try simp only [Bool.not_eq_true', Bool.not_eq_false', Bool.not_not, bne_iff_ne, bne_eq_false_iff_eq, beq_eq_false_iff_ne, beq_iff_eq, ne_eq, decide_eq_true_eq, decide_eq_false_iff_not, Classical.not_not, List.length_map, List.length_take, Int.toNat_natCast] at h1
    have hsz := szv_le h1
    have hs1 := szv_cases (n := wM m) (k := 1048576)
    have hwr := (wM_mark hsz).2
    refine a_skip ?_
    refine a_seq ?_
    refine a_region (by kernel_rfl) ?_
    refine op_v' (j_move (evo rfl)) ?_
    refine op_v' (j_move (evo rfl)) ?_
    refine op_v0' (j_call0 (v := .p _) (hp1 := []) [] false [] ent45 (f_szBoolSS d _ (by omega)) ⟨.inl ⟨rfl, rfl⟩, .inl ⟨rfl, rfl⟩, trivial⟩ trivial rfl rfl (fun h => by cases h) rfl (fun _ h => by cases h) (.inl rfl) rfl rfl) ?_
    refine op_v' (j_assign (evo rfl)) ?_
    refine op_nil ?_
    refine a_seq ?_
    refine a_seq ?_
    refine a_region (by kernel_rfl) ?_
    refine op_v' (j_move (evo rfl)) ?_
    refine op_v' (j_lt rfl rfl) ?_
    refine op_nil ?_
    refine a_cond rfl (fun h2 => ?_) (fun h2 => ?_)
    ·
      have h2r := h2
      try simp only [Bool.not_eq_true', Bool.not_eq_false', Bool.not_not, bne_iff_ne, bne_eq_false_iff_eq, beq_eq_false_iff_ne, beq_iff_eq, ne_eq, decide_eq_true_eq, decide_eq_false_iff_not, Classical.not_not, List.length_map, List.length_take, Int.toNat_natCast] at h2
      refine a_seq ?_
      refine a_region (by kernel_rfl) ?_
      refine op_v' (j_assign (evo rfl)) ?_
      refine op_nil ?_
      refine a_ret ?_
      exact ⟨[.p _], .p _, [], [], [], ⟨rfl, trivial⟩, rfl, rfl, trivial, rfl, rfl, ⟨rfl, rfl, rfl⟩⟩
    ·
      have h2r := h2
      try simp only [Bool.not_eq_true', Bool.not_eq_false', Bool.not_not, bne_iff_ne, bne_eq_false_iff_eq, beq_eq_false_iff_ne, beq_iff_eq, ne_eq, decide_eq_true_eq, decide_eq_false_iff_not, Classical.not_not, List.length_map, List.length_take, Int.toNat_natCast] at h2
      have hs2 := szv_cases (n := wLB d) (k := szv (wM m) 1048576)
      have hdz : wLB d ≤ 1048576 := by omega
      have hwb : wLB d = d.length + sumW List.length d := rfl
      have hwm := (wM_mark hsz).1
      have hcr := cRS_le (l := m.2)
      have hwm2 : wM m = m.1.length + (m.2.length + sumW wR m.2) := rfl
      have hfr := fm_sum (m := m) (d := d)
      refine a_skip ?_
      refine a_seq ?_
      refine a_region (by kernel_rfl) ?_
      refine op_v' (j_loada_box (ys := [.sl _, .sl _]) agg58 rfl rfl rfl (Nat.le_of_ble_eq_true rfl)) ?_
      refine op_v0' (j_call0 (v := .agg [.sl _, .sl _]) (hp1 := []) [] false [] ent46 (f_toModelF m hsz) ⟨.inl ⟨rfl, rfl⟩, trivial⟩ trivial rfl rfl (fun h => by cases h) rfl (fun _ h => by cases h) (.inl rfl) rfl rfl) ?_
      refine op_v' (j_move (evo rfl)) ?_
      refine op_n1' (fun ver => j_call1 (v := .own 31 ver) (hp1 := [(31, some (ver, .deep (.mk 34 1 [(0, (.mk 4 1 []))]) _ none))]) [] false [] ent47 (f_toBoolSS d hdz) ⟨.inl ⟨rfl, rfl⟩, trivial⟩ trivial rfl rfl rfl (fun h => by cases h) rfl (List.all_eq_true.1 rfl) (.inl rfl) rfl rfl) fun v31x2 => ?_
      refine op_freezeG 31 trivial rfl rfl rfl rfl ?_
      refine op_v0' (j_call0 (v := .tup [.sl _, .p _]) (hp1 := []) [] false [] ent41 (f_fmSpec m d hwr) ⟨.inl ⟨rfl, rfl⟩, .inl ⟨rfl, rfl⟩, trivial⟩ trivial rfl rfl (fun h => by cases h) rfl (fun _ h => by cases h) (.inl rfl) rfl rfl) ?_
      refine op_v' (j_move (evo rfl)) ?_
      refine op_v' (j_extract rfl rfl) ?_
      refine op_v' (j_extract rfl rfl) ?_
      refine op_v' (j_assign (evo rfl)) ?_
      refine op_v' (j_assign (evo rfl)) ?_
      refine op_nil ?_
      refine a_seq ?_
      refine a_region (by kernel_rfl) ?_
      refine op_v' (j_loada_box (ys := [.sl _, .sl _]) agg58 rfl rfl rfl (Nat.le_of_ble_eq_true rfl)) ?_
      refine op_call2 (v := fun ver ver2 => .agg [.own 36 ver, .own 100036 ver2]) (hp1 := fun ver ver2 => [(36, some (ver, .row 3 1 _)), (100036, some (ver2, .deep (.mk 43 5 [(1, (.mk 3 1 [])), (2, (.mk 3 1 [])), (4, (.mk 23 1 [(0, (.mk 3 1 []))]))]) _ none))]) [] false ent46 (f_toModel m hsz) ⟨.inl ⟨rfl, rfl⟩, trivial⟩ trivial rfl rfl rfl rfl (.inl rfl) (fun _ _ => rfl) (fun _ _ => rfl) ?_
      rintro  v36x3 v100036x3
      dsimp only [List.cons_append, List.nil_append]
      refine op_n' (fun ver => j_alloc elt26 rfl) fun v8x4 => ?_
      refine op_s' (j_storea_box0 agg26 rfl rfl rfl rfl rfl rfl) ?_
      refine op_nil ?_
      refine a_seq ?_
      refine a_region (by kernel_rfl) ?_
      refine op_v' (j_move (evo rfl)) ?_
      refine op_n1' (fun ver => j_call1 (v := .own 38 ver) (hp1 := [(38, some (ver, .deep (.mk 34 1 [(0, (.mk 4 1 []))]) _ none))]) [] false [] ent47 (f_toBoolSS d hdz) ⟨.inl ⟨rfl, rfl⟩, trivial⟩ trivial rfl rfl rfl (fun h => by cases h) rfl (List.all_eq_true.1 rfl) (.inl rfl) rfl rfl) fun v38x5 => ?_
      refine op_v' (j_assign (evo rfl)) ?_
      refine op_nil ?_
      refine a_seq ?_
      refine a_region (by kernel_rfl) ?_
      refine op_v' (j_loada_box (ys := [.own 36 v36x3, .own 100036 v100036x3]) agg26 rfl rfl rfl (Nat.le_of_ble_eq_true rfl)) ?_
      refine op_v' (j_move (evo rfl)) ?_
      refine op_n1' (fun ver => j_call1 (v := .tup [.own 42 ver, .p _]) (hp1 := [(42, some (ver, .deep (.mk 34 1 [(0, (.mk 4 1 []))]) _ none))]) [] true [36, 100036, 38] ent32 (f_fmImpl m d hwr) ⟨.inr ⟨rfl, view_agg rfl (view_cons (view_own rfl rfl) (view_cons (view_ownD rfl rfl) rfl)), rfl⟩, .inr ⟨rfl, view_ownD rfl rfl, rfl⟩, trivial⟩ trivial rfl rfl rfl (fun _ => rfl) rfl (List.all_eq_true.1 rfl) (.inr ⟨rfl, pl_newB⟩) rfl rfl) fun v42x6 => ?_
      refine op_v' (j_move (evo rfl)) ?_
      refine op_v' (j_extract rfl rfl) ?_
      refine op_v' (j_extract rfl rfl) ?_
      refine op_v' (j_assign (evo rfl)) ?_
      refine op_v' (j_assign (evo rfl)) ?_
      refine op_nil ?_
      refine a_seq ?_
      refine a_seq ?_
      refine a_region (by kernel_rfl) ?_
      refine op_v' (j_move (evo rfl)) ?_
      refine op_v' (j_move (evo rfl)) ?_
      refine op_v0' (j_call0 (v := .p _) (hp1 := []) [] true [42] ent48 (f_eqBoolSS (fmD m d) (fmD m d)) ⟨.inr ⟨rfl, view_ownD rfl rfl, rfl⟩, .inl ⟨rfl, rfl⟩, trivial⟩ trivial rfl rfl (fun _ => rfl) rfl (fun _ h => by cases h) (.inr ⟨rfl, by first | exact pl_new1 (fun _ => rfl) | exact pl_newC | (simp [plO, plV, plV.plL]; done)⟩) rfl rfl) ?_
      refine op_v' (j_not rfl) ?_
      refine op_v' (j_move (evo rfl)) ?_
      refine op_split' 49 rfl (fun h3 => ?_) (fun h3 => ?_)
      ·
        have h3r := h3
        try simp only [Bool.not_eq_true', Bool.not_eq_false', Bool.not_not, bne_iff_ne, bne_eq_false_iff_eq, beq_eq_false_iff_ne, beq_iff_eq, ne_eq, decide_eq_true_eq, decide_eq_false_iff_not, Classical.not_not, List.length_map, List.length_take, Int.toNat_natCast] at h3
        exact absurd h3r (by simp)
      ·
        have h3r := h3
        try simp only [Bool.not_eq_true', Bool.not_eq_false', Bool.not_not, bne_iff_ne, bne_eq_false_iff_eq, beq_eq_false_iff_ne, beq_iff_eq, ne_eq, decide_eq_true_eq, decide_eq_false_iff_not, Classical.not_not, List.length_map, List.length_take, Int.toNat_natCast] at h3
        refine op_v' (j_want rfl rfl h3r (j_move (evo rfl))) ?_
        refine op_v' (j_want rfl rfl h3r (j_move (evo rfl))) ?_
        refine op_v' (j_want rfl rfl h3r (j_neb Try.underlying4 rfl rfl)) ?_
        refine op_v' (j_pick_f rfl h3r (evo rfl)) ?_
        refine op_nil ?_
        refine a_cond rfl (fun h4 => ?_) (fun h4 => ?_)
        ·
          have h4r := h4
          try simp only [Bool.not_eq_true', Bool.not_eq_false', Bool.not_not, bne_iff_ne, bne_eq_false_iff_eq, beq_eq_false_iff_ne, beq_iff_eq, ne_eq, decide_eq_true_eq, decide_eq_false_iff_not, Classical.not_not, List.length_map, List.length_take, Int.toNat_natCast] at h4
          exact absurd h4r (by simp)
        ·
          have h4r := h4
          try simp only [Bool.not_eq_true', Bool.not_eq_false', Bool.not_not, bne_iff_ne, bne_eq_false_iff_eq, beq_eq_false_iff_ne, beq_iff_eq, ne_eq, decide_eq_true_eq, decide_eq_false_iff_not, Classical.not_not, List.length_map, List.length_take, Int.toNat_natCast] at h4
          refine a_skip ?_
          refine a_seq ?_
          refine a_seq ?_
          refine a_draw mixed (by kernel_rfl) (by kernel_rfl) fun vf => ?_
          refine d_v' (j_loada_box (ys := [.own 36 v36x3, .own 100036 v100036x3]) agg26 rfl rfl rfl (Nat.le_of_ble_eq_true rfl)) ?_
          refine d_v' (j_loada_box (ys := [.sl _, .sl _]) agg58 rfl rfl rfl (Nat.le_of_ble_eq_true rfl)) ?_
          refine d_v0' (j_call0 (v := .agg [.sl _, .sl _]) (hp1 := []) [] false [] ent46 (f_toModelF m hsz) ⟨.inl ⟨rfl, rfl⟩, trivial⟩ trivial rfl rfl (fun h => by cases h) rfl (fun _ h => by cases h) (.inl rfl) rfl rfl) ?_
          refine d_v0' (j_call0 (v := .p _) (hp1 := []) [] true [36, 100036] ent49 (f_eqModel m m) ⟨.inr ⟨rfl, view_agg rfl (view_cons (view_own rfl rfl) (view_cons (view_ownD rfl rfl) rfl)), rfl⟩, .inl ⟨rfl, rfl⟩, trivial⟩ trivial rfl rfl (fun _ => rfl) rfl (fun _ h => by cases h) (.inr ⟨rfl, by first | exact pl_new1 (fun _ => rfl) | exact pl_newC | (simp [plO, plV, plV.plL]; done)⟩) rfl rfl) ?_
          refine d_v' (j_not rfl) ?_
          refine d_nil (by kernel_rfl) (by kernel_rfl) ?_
          refine a_cond rfl (fun h5 => ?_) (fun h5 => ?_)
          ·
            have h5r := h5
            try simp only [Bool.not_eq_true', Bool.not_eq_false', Bool.not_not, bne_iff_ne, bne_eq_false_iff_eq, beq_eq_false_iff_ne, beq_iff_eq, ne_eq, decide_eq_true_eq, decide_eq_false_iff_not, Classical.not_not, List.length_map, List.length_take, Int.toNat_natCast] at h5
            exact absurd h5r (by simp)
          ·
            have h5r := h5
            try simp only [Bool.not_eq_true', Bool.not_eq_false', Bool.not_not, bne_iff_ne, bne_eq_false_iff_eq, beq_eq_false_iff_ne, beq_iff_eq, ne_eq, decide_eq_true_eq, decide_eq_false_iff_not, Classical.not_not, List.length_map, List.length_take, Int.toNat_natCast] at h5
            refine a_skip ?_
            refine a_seq ?_
            refine a_seq ?_
            refine a_region (by kernel_rfl) ?_
            refine op_v' (j_move (evo rfl)) ?_
            refine op_v' (j_move (evo rfl)) ?_
            refine op_n1' (fun ver => j_call1 (v := .own 61 ver) (hp1 := [(61, some (ver, .deep (.mk 34 1 [(0, (.mk 4 1 []))]) _ none))]) [] false [] ent47 (f_toBoolSS d hdz) ⟨.inl ⟨rfl, rfl⟩, trivial⟩ trivial rfl rfl rfl (fun h => by cases h) rfl (List.all_eq_true.1 rfl) (.inl rfl) rfl rfl) fun v61x7 => ?_
            refine op_v0' (j_call0 (v := .p _) (hp1 := []) [] true [38, 61] ent48 (f_eqBoolSS d d) ⟨.inr ⟨rfl, view_ownD rfl rfl, rfl⟩, .inr ⟨rfl, view_ownD rfl rfl, rfl⟩, trivial⟩ trivial rfl rfl (fun _ => rfl) rfl (fun _ h => by cases h) (.inr ⟨rfl, by first | exact pl_new1 (fun _ => rfl) | exact pl_newC | (simp [plO, plV, plV.plL]; done)⟩) rfl rfl) ?_
            refine op_v' (j_not rfl) ?_
            refine op_nil ?_
            refine a_cond rfl (fun h6 => ?_) (fun h6 => ?_)
            ·
              have h6r := h6
              try simp only [Bool.not_eq_true', Bool.not_eq_false', Bool.not_not, bne_iff_ne, bne_eq_false_iff_eq, beq_eq_false_iff_ne, beq_iff_eq, ne_eq, decide_eq_true_eq, decide_eq_false_iff_not, Classical.not_not, List.length_map, List.length_take, Int.toNat_natCast] at h6
              exact absurd h6r (by simp)
            ·
              have h6r := h6
              try simp only [Bool.not_eq_true', Bool.not_eq_false', Bool.not_not, bne_iff_ne, bne_eq_false_iff_eq, beq_eq_false_iff_ne, beq_iff_eq, ne_eq, decide_eq_true_eq, decide_eq_false_iff_not, Classical.not_not, List.length_map, List.length_take, Int.toNat_natCast] at h6
              refine a_skip ?_
              refine a_seq ?_
              refine a_region (by kernel_rfl) ?_
              refine op_v' (j_assign (evo rfl)) ?_
              refine op_nil ?_
              refine a_seq ?_
              refine a_region (by kernel_rfl) ?_
              refine op_v' (j_loada_box (ys := [.own 36 v36x3, .own 100036 v100036x3]) agg26 rfl rfl rfl (Nat.le_of_ble_eq_true rfl)) ?_
              refine op_v' (j_move (evo rfl)) ?_
              refine op_callE (v := fun x => .p _) (hp1 := fun x => [(36, some (v36x3, .row 3 1 _)), (100036, some (v100036x3, .deep (.mk 43 5 [(1, (.mk 3 1 [])), (2, (.mk 3 1 [])), (4, (.mk 23 1 [(0, (.mk 3 1 []))]))]) _ none))]) [(36, v36x3), (100036, v100036x3)] false ent50 (f_markModel 1 m (wM_mark hsz).1 hwr) ⟨.inl ⟨rfl, rfl⟩, .inl ⟨rfl, rfl⟩, trivial⟩ ⟨⟨rfl, rfl⟩, ⟨rfl, rfl⟩, trivial⟩ rfl (fun _ => rfl) (fun _ => rfl) (.inl rfl) (fun _ => rfl) (fun _ => rfl) ?_
              rintro ⟨m66a, m66b⟩ -
              dsimp only [List.cons_append, List.nil_append]
              refine op_v' (j_assign (evo rfl)) ?_
              refine op_nil ?_
              refine a_seq ?_
              refine a_region (by kernel_rfl) ?_
              refine op_v' (j_move (evo rfl)) ?_
              refine op_v' (j_move (evo rfl)) ?_
              refine op_v0' (j_call0 (v := .p _) (hp1 := [(38, some (v38x5, .deep (.mk 34 1 [(0, (.mk 4 1 []))]) _ none))]) [(38, v38x5)] false [38] ent51 (f_markBoolSS (1 + m.1.length + sumW cR m.2) d (by omega) (by omega)) ⟨.inl ⟨rfl, rfl⟩, .inl ⟨rfl, rfl⟩, trivial⟩ ⟨⟨rfl, rfl⟩, trivial⟩ rfl rfl (fun h => by cases h) rfl (List.all_eq_true.1 rfl) (.inl rfl) rfl rfl) ?_
              refine op_v' (j_assign (evo rfl)) ?_
              refine op_nil ?_
              refine a_seq ?_
              refine a_seq ?_
              refine a_region (by kernel_rfl) ?_
              refine op_v' (j_move (evo rfl)) ?_
              refine op_v' (j_lt rfl rfl) ?_
              refine op_v' (j_move (evo rfl)) ?_
              refine op_split' 72 rfl (fun h7 => ?_) (fun h7 => ?_)
              ·
                have h7r := h7
                try simp only [Bool.not_eq_true', Bool.not_eq_false', Bool.not_not, bne_iff_ne, bne_eq_false_iff_eq, beq_eq_false_iff_ne, beq_iff_eq, ne_eq, decide_eq_true_eq, decide_eq_false_iff_not, Classical.not_not, List.length_map, List.length_take, Int.toNat_natCast] at h7
                exact absurd (of_decide_eq_true h7r) (by omega)
              ·
                have h7r := h7
                try simp only [Bool.not_eq_true', Bool.not_eq_false', Bool.not_not, bne_iff_ne, bne_eq_false_iff_eq, beq_eq_false_iff_ne, beq_iff_eq, ne_eq, decide_eq_true_eq, decide_eq_false_iff_not, Classical.not_not, List.length_map, List.length_take, Int.toNat_natCast] at h7
                refine op_v' (j_want rfl rfl h7r (j_move (evo rfl))) ?_
                refine op_v' (j_want rfl rfl h7r (j_move (evo rfl))) ?_
                refine op_v0' (j_want rfl rfl h7r (j_call0 (v := .p _) (hp1 := []) [] true [42] ent48 (f_eqBoolSS (fmD m d) (fmD m d)) ⟨.inr ⟨rfl, view_ownD rfl rfl, rfl⟩, .inl ⟨rfl, rfl⟩, trivial⟩ trivial rfl rfl (fun _ => rfl) rfl (fun _ h => by cases h) (.inr ⟨rfl, by first | exact pl_new1 (fun _ => rfl) | exact pl_newC | (simp [plO, plV, plV.plL]; done)⟩) rfl rfl)) ?_
                refine op_v' (j_want rfl rfl h7r (j_not rfl)) ?_
                refine op_v' (j_pick_f rfl h7r (evo rfl)) ?_
                refine op_v' (j_move (evo rfl)) ?_
                refine op_split' 78 rfl (fun h8 => ?_) (fun h8 => ?_)
                ·
                  have h8r := h8
                  try simp only [Bool.not_eq_true', Bool.not_eq_false', Bool.not_not, bne_iff_ne, bne_eq_false_iff_eq, beq_eq_false_iff_ne, beq_iff_eq, ne_eq, decide_eq_true_eq, decide_eq_false_iff_not, Classical.not_not, List.length_map, List.length_take, Int.toNat_natCast] at h8
                  exact absurd h8r (by simp)
                ·
                  have h8r := h8
                  try simp only [Bool.not_eq_true', Bool.not_eq_false', Bool.not_not, bne_iff_ne, bne_eq_false_iff_eq, beq_eq_false_iff_ne, beq_iff_eq, ne_eq, decide_eq_true_eq, decide_eq_false_iff_not, Classical.not_not, List.length_map, List.length_take, Int.toNat_natCast] at h8
                  refine op_v' (j_want rfl rfl h8r (j_move (evo rfl))) ?_
                  refine op_v' (j_want rfl rfl h8r (j_move (evo rfl))) ?_
                  refine op_v' (j_want rfl rfl h8r (j_neb Try.underlying4 rfl rfl)) ?_
                  refine op_v' (j_pick_f rfl h8r (evo rfl)) ?_
                  refine op_nil ?_
                  refine a_cond rfl (fun h9 => ?_) (fun h9 => ?_)
                  ·
                    have h9r := h9
                    try simp only [Bool.not_eq_true', Bool.not_eq_false', Bool.not_not, bne_iff_ne, bne_eq_false_iff_eq, beq_eq_false_iff_ne, beq_iff_eq, ne_eq, decide_eq_true_eq, decide_eq_false_iff_not, Classical.not_not, List.length_map, List.length_take, Int.toNat_natCast] at h9
                    exact absurd h9r (by simp)
                  ·
                    have h9r := h9
                    try simp only [Bool.not_eq_true', Bool.not_eq_false', Bool.not_not, bne_iff_ne, bne_eq_false_iff_eq, beq_eq_false_iff_ne, beq_iff_eq, ne_eq, decide_eq_true_eq, decide_eq_false_iff_not, Classical.not_not, List.length_map, List.length_take, Int.toNat_natCast] at h9
                    refine a_skip ?_
                    refine a_seq ?_
                    refine a_region (by kernel_rfl) ?_
                    refine op_v' (j_assign (evo rfl)) ?_
                    refine op_nil ?_
                    refine a_seq ?_
                    refine a_region (by kernel_rfl) ?_
                    refine op_v' (j_move (evo rfl)) ?_
                    refine op_v' (j_move (evo rfl)) ?_
                    refine op_v0' (j_call0 (v := .p _) (hp1 := [(42, some (v42x6, .deep (.mk 34 1 [(0, (.mk 4 1 []))]) _ none))]) [(42, v42x6)] false [42] ent51 (f_markBoolSS 1 (fmD m d) (by omega) (by omega)) ⟨.inl ⟨rfl, rfl⟩, .inl ⟨rfl, rfl⟩, trivial⟩ ⟨⟨rfl, rfl⟩, trivial⟩ rfl rfl (fun h => by cases h) rfl (List.all_eq_true.1 rfl) (.inl rfl) rfl rfl) ?_
                    refine op_v' (j_assign (evo rfl)) ?_
                    refine op_nil ?_
                    refine a_seq ?_
                    refine a_region (by kernel_rfl) ?_
                    refine op_v' (j_assign (evo rfl)) ?_
                    refine op_nil ?_
                    refine a_seq ?_
                    refine a_region (by kernel_rfl) ?_
                    refine op_v' (j_move (evo rfl)) ?_
                    refine op_v' (j_move (evo rfl)) ?_
                    refine op_v0' (j_call0 (v := .p _) (hp1 := []) [] true [42] ent52 (f_heldBoolSS 1 (fmD m d) (by omega) (by omega)) ⟨.inr ⟨rfl, view_ownD rfl rfl, rfl⟩, .inl ⟨rfl, rfl⟩, trivial⟩ trivial rfl rfl (fun _ => rfl) rfl (fun _ h => by cases h) (.inr ⟨rfl, by first | exact pl_new1 (fun _ => rfl) | exact pl_newC | (simp [plO, plV, plV.plL]; done)⟩) rfl rfl) ?_
                    refine op_v' (j_assign (evo rfl)) ?_
                    refine op_nil ?_
                    refine a_seq ?_
                    refine a_seq ?_
                    refine a_region (by kernel_rfl) ?_
                    refine op_v' (j_move (evo rfl)) ?_
                    refine op_v' (j_lt rfl rfl) ?_
                    refine op_nil ?_
                    refine a_cond rfl (fun h10 => ?_) (fun h10 => ?_)
                    ·
                      have h10r := h10
                      try simp only [Bool.not_eq_true', Bool.not_eq_false', Bool.not_not, bne_iff_ne, bne_eq_false_iff_eq, beq_eq_false_iff_ne, beq_iff_eq, ne_eq, decide_eq_true_eq, decide_eq_false_iff_not, Classical.not_not, List.length_map, List.length_take, Int.toNat_natCast] at h10
                      exact absurd (of_decide_eq_true h10r) (by omega)
                    ·
                      have h10r := h10
                      try simp only [Bool.not_eq_true', Bool.not_eq_false', Bool.not_not, bne_iff_ne, bne_eq_false_iff_eq, beq_eq_false_iff_ne, beq_iff_eq, ne_eq, decide_eq_true_eq, decide_eq_false_iff_not, Classical.not_not, List.length_map, List.length_take, Int.toNat_natCast] at h10
                      refine a_skip ?_
                      refine a_seq ?_
                      refine a_seq ?_
                      refine a_region (by kernel_rfl) ?_
                      refine op_v' (j_move (evo rfl)) ?_
                      refine op_v' (j_move (evo rfl)) ?_
                      refine op_v' (j_ne rfl rfl) ?_
                      refine op_nil ?_
                      refine a_cond rfl (fun h11 => ?_) (fun h11 => ?_)
                      ·
                        have h11r := h11
                        try simp only [Bool.not_eq_true', Bool.not_eq_false', Bool.not_not, bne_iff_ne, bne_eq_false_iff_eq, beq_eq_false_iff_ne, beq_iff_eq, ne_eq, decide_eq_true_eq, decide_eq_false_iff_not, Classical.not_not, List.length_map, List.length_take, Int.toNat_natCast] at h11
                        exact absurd (of_decide_eq_true h11r) (by omega)
                      ·
                        have h11r := h11
                        try simp only [Bool.not_eq_true', Bool.not_eq_false', Bool.not_not, bne_iff_ne, bne_eq_false_iff_eq, beq_eq_false_iff_ne, beq_iff_eq, ne_eq, decide_eq_true_eq, decide_eq_false_iff_not, Classical.not_not, List.length_map, List.length_take, Int.toNat_natCast] at h11
                        refine a_skip ?_
                        refine a_seq ?_
                        refine a_region (by kernel_rfl) ?_
                        refine op_v' (j_loada_box (ys := [.sl _, .sl _]) agg58 rfl rfl rfl (Nat.le_of_ble_eq_true rfl)) ?_
                        refine op_v0' (j_call0 (v := .agg [.sl _, .sl _]) (hp1 := []) [] false [] ent46 (f_toModelF m hsz) ⟨.inl ⟨rfl, rfl⟩, trivial⟩ trivial rfl rfl (fun h => by cases h) rfl (fun _ h => by cases h) (.inl rfl) rfl rfl) ?_
                        refine op_v' (j_move (evo rfl)) ?_
                        refine op_n1' (fun ver => j_call1 (v := .own 98 ver) (hp1 := [(98, some (ver, .deep (.mk 34 1 [(0, (.mk 4 1 []))]) _ none))]) [] false [] ent47 (f_toBoolSS d hdz) ⟨.inl ⟨rfl, rfl⟩, trivial⟩ trivial rfl rfl rfl (fun h => by cases h) rfl (List.all_eq_true.1 rfl) (.inl rfl) rfl rfl) fun v98x8 => ?_
                        refine op_n1' (fun ver => j_call1 (v := .tup [.own 99 ver, .p _]) (hp1 := [(99, some (ver, .deep (.mk 34 1 [(0, (.mk 4 1 []))]) _ none))]) [] true [98] ent32 (f_fmImpl m d hwr) ⟨.inl ⟨rfl, rfl⟩, .inr ⟨rfl, view_ownD rfl rfl, rfl⟩, trivial⟩ trivial rfl rfl rfl (fun _ => rfl) rfl (List.all_eq_true.1 rfl) (.inr ⟨rfl, pl_newB⟩) rfl rfl) fun v99x9 => ?_
                        refine op_v' (j_move (evo rfl)) ?_
                        refine op_v' (j_extract rfl rfl) ?_
                        refine op_v' (j_extract rfl rfl) ?_
                        refine op_v' (j_assign (evo rfl)) ?_
                        refine op_v' (j_assign (evo rfl)) ?_
                        refine op_nil ?_
                        refine a_seq ?_
                        refine a_seq ?_
                        refine a_region (by kernel_rfl) ?_
                        refine op_v' (j_move (evo rfl)) ?_
                        refine op_v' (j_move (evo rfl)) ?_
                        refine op_v0' (j_call0 (v := .p _) (hp1 := []) [] true [99] ent48 (f_eqBoolSS (fmD m d) (fmD m d)) ⟨.inr ⟨rfl, view_ownD rfl rfl, rfl⟩, .inl ⟨rfl, rfl⟩, trivial⟩ trivial rfl rfl (fun _ => rfl) rfl (fun _ h => by cases h) (.inr ⟨rfl, by first | exact pl_new1 (fun _ => rfl) | exact pl_newC | (simp [plO, plV, plV.plL]; done)⟩) rfl rfl) ?_
                        refine op_v' (j_not rfl) ?_
                        refine op_v' (j_move (evo rfl)) ?_
                        refine op_split' 106 rfl (fun h12 => ?_) (fun h12 => ?_)
                        ·
                          have h12r := h12
                          try simp only [Bool.not_eq_true', Bool.not_eq_false', Bool.not_not, bne_iff_ne, bne_eq_false_iff_eq, beq_eq_false_iff_ne, beq_iff_eq, ne_eq, decide_eq_true_eq, decide_eq_false_iff_not, Classical.not_not, List.length_map, List.length_take, Int.toNat_natCast] at h12
                          exact absurd h12r (by simp)
                        ·
                          have h12r := h12
                          try simp only [Bool.not_eq_true', Bool.not_eq_false', Bool.not_not, bne_iff_ne, bne_eq_false_iff_eq, beq_eq_false_iff_ne, beq_iff_eq, ne_eq, decide_eq_true_eq, decide_eq_false_iff_not, Classical.not_not, List.length_map, List.length_take, Int.toNat_natCast] at h12
                          refine op_v' (j_want rfl rfl h12r (j_move (evo rfl))) ?_
                          refine op_v' (j_want rfl rfl h12r (j_move (evo rfl))) ?_
                          refine op_v' (j_want rfl rfl h12r (j_neb Try.underlying4 rfl rfl)) ?_
                          refine op_v' (j_pick_f rfl h12r (evo rfl)) ?_
                          refine op_nil ?_
                          refine a_cond rfl (fun h13 => ?_) (fun h13 => ?_)
                          ·
                            have h13r := h13
                            try simp only [Bool.not_eq_true', Bool.not_eq_false', Bool.not_not, bne_iff_ne, bne_eq_false_iff_eq, beq_eq_false_iff_ne, beq_iff_eq, ne_eq, decide_eq_true_eq, decide_eq_false_iff_not, Classical.not_not, List.length_map, List.length_take, Int.toNat_natCast] at h13
                            exact absurd h13r (by simp)
                          ·
                            have h13r := h13
                            try simp only [Bool.not_eq_true', Bool.not_eq_false', Bool.not_not, bne_iff_ne, bne_eq_false_iff_eq, beq_eq_false_iff_ne, beq_iff_eq, ne_eq, decide_eq_true_eq, decide_eq_false_iff_not, Classical.not_not, List.length_map, List.length_take, Int.toNat_natCast] at h13
                            refine a_skip ?_
                            refine a_seq ?_
                            refine a_region (by kernel_rfl) ?_
                            refine op_v' (j_assign (evo rfl)) ?_
                            refine op_nil ?_
                            refine a_seq ?_
                            refine a_region (by kernel_rfl) ?_
                            refine op_v' (j_move (evo rfl)) ?_
                            refine op_v' (j_move (evo rfl)) ?_
                            refine op_v0' (j_call0 (v := .p _) (hp1 := []) [] true [42] ent52 (f_heldBoolSS 1 (fmD m d) (by omega) (by omega)) ⟨.inr ⟨rfl, view_ownD rfl rfl, rfl⟩, .inl ⟨rfl, rfl⟩, trivial⟩ trivial rfl rfl (fun _ => rfl) rfl (fun _ h => by cases h) (.inr ⟨rfl, by first | exact pl_new1 (fun _ => rfl) | exact pl_newC | (simp [plO, plV, plV.plL]; done)⟩) rfl rfl) ?_
                            refine op_v' (j_assign (evo rfl)) ?_
                            refine op_nil ?_
                            refine a_seq ?_
                            refine a_seq ?_
                            refine a_region (by kernel_rfl) ?_
                            refine op_v' (j_move (evo rfl)) ?_
                            refine op_v' (j_lt rfl rfl) ?_
                            refine op_nil ?_
                            refine a_cond rfl (fun h14 => ?_) (fun h14 => ?_)
                            ·
                              have h14r := h14
                              try simp only [Bool.not_eq_true', Bool.not_eq_false', Bool.not_not, bne_iff_ne, bne_eq_false_iff_eq, beq_eq_false_iff_ne, beq_iff_eq, ne_eq, decide_eq_true_eq, decide_eq_false_iff_not, Classical.not_not, List.length_map, List.length_take, Int.toNat_natCast] at h14
                              exact absurd (of_decide_eq_true h14r) (by omega)
                            ·
                              have h14r := h14
                              try simp only [Bool.not_eq_true', Bool.not_eq_false', Bool.not_not, bne_iff_ne, bne_eq_false_iff_eq, beq_eq_false_iff_ne, beq_iff_eq, ne_eq, decide_eq_true_eq, decide_eq_false_iff_not, Classical.not_not, List.length_map, List.length_take, Int.toNat_natCast] at h14
                              refine a_skip ?_
                              refine a_seq ?_
                              refine a_seq ?_
                              refine a_region (by kernel_rfl) ?_
                              refine op_v' (j_move (evo rfl)) ?_
                              refine op_v' (j_move (evo rfl)) ?_
                              refine op_v' (j_ne rfl rfl) ?_
                              refine op_nil ?_
                              refine a_cond rfl (fun h15 => ?_) (fun h15 => ?_)
                              ·
                                have h15r := h15
                                try simp only [Bool.not_eq_true', Bool.not_eq_false', Bool.not_not, bne_iff_ne, bne_eq_false_iff_eq, beq_eq_false_iff_ne, beq_iff_eq, ne_eq, decide_eq_true_eq, decide_eq_false_iff_not, Classical.not_not, List.length_map, List.length_take, Int.toNat_natCast] at h15
                                exact absurd (of_decide_eq_true h15r) (by omega)
                              ·
                                have h15r := h15
                                try simp only [Bool.not_eq_true', Bool.not_eq_false', Bool.not_not, bne_iff_ne, bne_eq_false_iff_eq, beq_eq_false_iff_ne, beq_iff_eq, ne_eq, decide_eq_true_eq, decide_eq_false_iff_not, Classical.not_not, List.length_map, List.length_take, Int.toNat_natCast] at h15
                                refine a_skip ?_
                                refine a_seq ?_
                                refine a_region (by kernel_rfl) ?_
                                refine op_v' (j_assign (evo rfl)) ?_
                                refine op_nil ?_
                                refine a_ret ?_
                                exact ⟨[.p _], .p _, [], [], [], ⟨rfl, trivial⟩, rfl, rfl, trivial, rfl, rfl, ⟨rfl, rfl, rfl⟩⟩


end Go.Ab
