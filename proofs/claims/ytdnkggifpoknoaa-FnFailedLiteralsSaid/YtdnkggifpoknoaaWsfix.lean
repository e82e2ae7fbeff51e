/- Walks. -/
import Derived.Test.YtdnkggifpoknoaaBase
import Derived.Test.YtdnkggifpoknoaaFix
import Derived.Test.YtdnkggifpoknoaaWsprob
import Derived.Test.YtdnkggifpoknoaaLaws1
import Derived.Test.YtdnkggifpoknoaaWsdraw
import Derived.Test.YtdnkggifpoknoaaCons
import Derived.Test.YtdnkggifpoknoaaWscons
import Derived.Test.YtdnkggifpoknoaaVals
import Derived.Test.YtdnkggifpoknoaaTabs2
import Derived.Test.YtdnkggifpoknoaaWstab
namespace Go.Ab
open Go.Proofs
set_option maxRecDepth 100000
set_option maxHeartbeats 8000000
set_option linter.unusedSimpArgs false
set_option linter.unusedVariables false
theorem f_under (l : Int) (p : List Int) (hl : litOk l = true) (hp : paOk p = true) : Fn Try.prog 41 [.p (.int .i64 (l)), .sl (p.map dI)] [] (fun rr ii nn => rr = .p (.int .i64 (stV p l)) ∧ ii = [] ∧ nn = []) := by
  refine fn_of Try.func41 rfl (Nat.le_of_ble_eq_true rfl) fun w X g => ?_
  show AWp _ _ _ ⟨[(0, .p (.int .i64 (l))), (1, .sl (p.map dI))], []⟩
  have hpl := paOk_len hp
  have hli := litOk_iff.1 hl
  have ha1 := paOk_at hp (-l - 1).toNat
  have ha2 := paOk_at hp (l - 1).toNat
  refine a_seq ?_
  refine a_region (by kernel_rfl) ?_
  refine op_v' (j_assign (evo rfl)) ?_
  refine op_nil ?_
  refine a_seq ?_
  refine a_seq ?_
  refine a_region (by kernel_rfl) ?_
  refine op_v' (j_move (evo rfl)) ?_
  refine op_v' (j_lt rfl rfl) ?_
  refine op_nil ?_
  refine a_cond rfl (fun h1 => ?_) (fun h1 => ?_)
  ·
    have h1r := h1
    try simp only [Bool.not_eq_true', Bool.not_eq_false', Bool.not_not, bne_iff_ne, bne_eq_false_iff_eq, beq_eq_false_iff_ne, beq_iff_eq, ne_eq, decide_eq_true_eq, decide_eq_false_iff_not, Classical.not_not, List.length_map, List.length_take, Int.toNat_natCast, List.length_map] at h1
    refine a_seq ?_
    refine a_region (by kernel_rfl) ?_
    refine op_v' (j_move (evo rfl)) ?_
    refine op_v' (j_move (evo rfl)) ?_
    refine op_v' (j_neg rfl (by first | omega | (simp only [List.length_map, List.length_take, Int.toNat_natCast, List.length_map]; omega)) (by first | omega | (simp only [List.length_map, List.length_take, Int.toNat_natCast, List.length_map]; omega))) ?_
    refine op_v' (j_sub rfl rfl (by first | omega | (simp only [List.length_map, List.length_take, Int.toNat_natCast, List.length_map]; omega)) (by first | omega | (simp only [List.length_map, List.length_take, Int.toNat_natCast, List.length_map]; omega))) ?_
    refine op_v' (j_elemN (n := (-l - 1).toNat) slt25 rfl rfl (by first | omega | (simp only [List.length_map, List.length_take, Int.toNat_natCast, List.length_map]; omega)) (at_map (by first | omega | (simp only [List.length_map, List.length_take, Int.toNat_natCast, List.length_map]; omega))) rfl) ?_
    refine op_v' (j_load_el leaf3 rfl (at_map (by first | omega | (simp only [List.length_map, List.length_take, Int.toNat_natCast, List.length_map]; omega))) rfl) ?_
    refine op_v' (j_neg rfl (by first | omega | (simp only [List.length_map, List.length_take, Int.toNat_natCast, List.length_map]; omega)) (by first | omega | (simp only [List.length_map, List.length_take, Int.toNat_natCast, List.length_map]; omega))) ?_
    refine op_v' (j_assign (evo rfl)) ?_
    refine op_nil ?_
    refine a_ret ?_
    exact ⟨[.p _], .p _, [], [], [], ⟨rfl, trivial⟩, rfl, rfl, trivial, rfl, rfl, ⟨intEq (by unfold stV; first | rw [if_pos (by omega)] | rw [if_neg (by omega)]), rfl, rfl⟩⟩
  ·
    have h1r := h1
    try simp only [Bool.not_eq_true', Bool.not_eq_false', Bool.not_not, bne_iff_ne, bne_eq_false_iff_eq, beq_eq_false_iff_ne, beq_iff_eq, ne_eq, decide_eq_true_eq, decide_eq_false_iff_not, Classical.not_not, List.length_map, List.length_take, Int.toNat_natCast, List.length_map] at h1
    refine a_skip ?_
    refine a_seq ?_
    refine a_region (by kernel_rfl) ?_
    refine op_v' (j_move (evo rfl)) ?_
    refine op_v' (j_move (evo rfl)) ?_
    refine op_v' (j_sub rfl rfl (by first | omega | (simp only [List.length_map, List.length_take, Int.toNat_natCast, List.length_map]; omega)) (by first | omega | (simp only [List.length_map, List.length_take, Int.toNat_natCast, List.length_map]; omega))) ?_
    refine op_v' (j_elemN (n := (l - 1).toNat) slt25 rfl rfl (by first | omega | (simp only [List.length_map, List.length_take, Int.toNat_natCast, List.length_map]; omega)) (at_map (by first | omega | (simp only [List.length_map, List.length_take, Int.toNat_natCast, List.length_map]; omega))) rfl) ?_
    refine op_v' (j_load_el leaf3 rfl (at_map (by first | omega | (simp only [List.length_map, List.length_take, Int.toNat_natCast, List.length_map]; omega))) rfl) ?_
    refine op_v' (j_assign (evo rfl)) ?_
    refine op_nil ?_
    refine a_ret ?_
    exact ⟨[.p _], .p _, [], [], [], ⟨rfl, trivial⟩, rfl, rfl, trivial, rfl, rfl, ⟨intEq (by unfold stV; first | rw [if_pos (by omega)] | rw [if_neg (by omega)]), rfl, rfl⟩⟩


theorem f_l3State (p : List Int) (l : Int) (hl : litOk l = true) (hp : paOk p = true) : Fn Try.prog 59 [.sl (p.map dI), .p (.int .i64 (l))] [] (fun rr ii nn => rr = .p (.int .i64 (stV p l)) ∧ ii = [] ∧ nn = []) := by
  refine fn_of Try.func59 rfl (Nat.le_of_ble_eq_true rfl) fun w X g => ?_
  show AWp _ _ _ ⟨[(0, .sl (p.map dI)), (1, .p (.int .i64 (l)))], []⟩
  have hpl := paOk_len hp
  have hli := litOk_iff.1 hl
  have ha1 := paOk_at hp (-l - 1).toNat
  have ha2 := paOk_at hp (l - 1).toNat
  refine a_seq ?_
  refine a_region (by kernel_rfl) ?_
  refine op_v' (j_assign (evo rfl)) ?_
  refine op_nil ?_
  refine a_seq ?_
  refine a_seq ?_
  refine a_region (by kernel_rfl) ?_
  refine op_v' (j_move (evo rfl)) ?_
  refine op_v' (j_gt rfl rfl) ?_
  refine op_nil ?_
  refine a_cond rfl (fun h1 => ?_) (fun h1 => ?_)
  ·
    have h1r := h1
    try simp only [Bool.not_eq_true', Bool.not_eq_false', Bool.not_not, bne_iff_ne, bne_eq_false_iff_eq, beq_eq_false_iff_ne, beq_iff_eq, ne_eq, decide_eq_true_eq, decide_eq_false_iff_not, Classical.not_not, List.length_map, List.length_take, Int.toNat_natCast, List.length_map] at h1
    refine a_seq ?_
    refine a_region (by kernel_rfl) ?_
    refine op_v' (j_move (evo rfl)) ?_
    refine op_v' (j_move (evo rfl)) ?_
    refine op_v' (j_sub rfl rfl (by first | omega | (simp only [List.length_map, List.length_take, Int.toNat_natCast, List.length_map]; omega)) (by first | omega | (simp only [List.length_map, List.length_take, Int.toNat_natCast, List.length_map]; omega))) ?_
    refine op_v' (j_elemN (n := (l - 1).toNat) slt25 rfl rfl (by first | omega | (simp only [List.length_map, List.length_take, Int.toNat_natCast, List.length_map]; omega)) (at_map (by first | omega | (simp only [List.length_map, List.length_take, Int.toNat_natCast, List.length_map]; omega))) rfl) ?_
    refine op_v' (j_load_el leaf3 rfl (at_map (by first | omega | (simp only [List.length_map, List.length_take, Int.toNat_natCast, List.length_map]; omega))) rfl) ?_
    refine op_v' (j_assign (evo rfl)) ?_
    refine op_nil ?_
    refine a_ret ?_
    exact ⟨[.p _], .p _, [], [], [], ⟨rfl, trivial⟩, rfl, rfl, trivial, rfl, rfl, ⟨intEq (by unfold stV; first | rw [if_pos (by omega)] | rw [if_neg (by omega)]), rfl, rfl⟩⟩
  ·
    have h1r := h1
    try simp only [Bool.not_eq_true', Bool.not_eq_false', Bool.not_not, bne_iff_ne, bne_eq_false_iff_eq, beq_eq_false_iff_ne, beq_iff_eq, ne_eq, decide_eq_true_eq, decide_eq_false_iff_not, Classical.not_not, List.length_map, List.length_take, Int.toNat_natCast, List.length_map] at h1
    refine a_skip ?_
    refine a_seq ?_
    refine a_region (by kernel_rfl) ?_
    refine op_v' (j_move (evo rfl)) ?_
    refine op_v' (j_move (evo rfl)) ?_
    refine op_v' (j_neg rfl (by first | omega | (simp only [List.length_map, List.length_take, Int.toNat_natCast, List.length_map]; omega)) (by first | omega | (simp only [List.length_map, List.length_take, Int.toNat_natCast, List.length_map]; omega))) ?_
    refine op_v' (j_sub rfl rfl (by first | omega | (simp only [List.length_map, List.length_take, Int.toNat_natCast, List.length_map]; omega)) (by first | omega | (simp only [List.length_map, List.length_take, Int.toNat_natCast, List.length_map]; omega))) ?_
    refine op_v' (j_elemN (n := (-l - 1).toNat) slt25 rfl rfl (by first | omega | (simp only [List.length_map, List.length_take, Int.toNat_natCast, List.length_map]; omega)) (at_map (by first | omega | (simp only [List.length_map, List.length_take, Int.toNat_natCast, List.length_map]; omega))) rfl) ?_
    refine op_v' (j_load_el leaf3 rfl (at_map (by first | omega | (simp only [List.length_map, List.length_take, Int.toNat_natCast, List.length_map]; omega))) rfl) ?_
    refine op_v' (j_neg rfl (by first | omega | (simp only [List.length_map, List.length_take, Int.toNat_natCast, List.length_map]; omega)) (by first | omega | (simp only [List.length_map, List.length_take, Int.toNat_natCast, List.length_map]; omega))) ?_
    refine op_v' (j_assign (evo rfl)) ?_
    refine op_nil ?_
    refine a_ret ?_
    exact ⟨[.p _], .p _, [], [], [], ⟨rfl, trivial⟩, rfl, rfl, trivial, rfl, rfl, ⟨intEq (by unfold stV; first | rw [if_pos (by omega)] | rw [if_neg (by omega)]), rfl, rfl⟩⟩


theorem f_just (l : Int) (hl : litOk l = true) : Fn Try.prog 15 [.p (.int .i64 (l))] [] (fun rr ii nn => rr = .sl ((justV l).map dI) ∧ ii = [] ∧ nn = []) := by
  refine fn_of Try.func15 rfl (Nat.le_of_ble_eq_true rfl) fun w X g => ?_
  show AWp _ _ _ ⟨[(0, .p (.int .i64 (l)))], []⟩
  have hli := litOk_iff.1 hl
  have hvo : varOf l = max l (-l) := rfl
  refine a_seq ?_
  refine a_region (by kernel_rfl) ?_
  refine op_v' (j_assign (evo rfl)) ?_
  refine op_nil ?_
  refine a_seq ?_
  refine a_region (by kernel_rfl) ?_
  refine op_n' (fun ver => j_make (n := 12) slt25 elt3 rfl rfl (by decide) rfl rfl rfl rfl (by first | omega | (simp only [List.length_map, List.length_take, Int.toNat_natCast, List.length_replicate, List.length_set]; omega)) (by rw [maxLen_eq]; first | omega | (simp only [List.length_map, List.length_take, Int.toNat_natCast, List.length_replicate, List.length_set]; omega))) fun v4x1 => ?_
  refine op_v' (j_assign (evo rfl)) ?_
  refine op_nil ?_
  refine a_seq ?_
  refine a_region (by kernel_rfl) ?_
  refine op_v' (j_move (evo rfl)) ?_
  refine op_v' (j_move (evo rfl)) ?_
  refine op_v0' (j_call0 (v := .p _) (hp1 := []) [] false [] ent25 (f_varOf _ (by first | omega | (simp only [List.length_map, List.length_take, Int.toNat_natCast, List.length_replicate, List.length_set]; omega))) ⟨.inl ⟨rfl, rfl⟩, trivial⟩ trivial rfl rfl (fun h => by cases h) rfl (fun _ h => by cases h) (.inl rfl) rfl rfl) ?_
  refine op_v' (j_sub rfl rfl (by first | omega | (simp only [List.length_map, List.length_take, Int.toNat_natCast, List.length_replicate, List.length_set]; omega)) (by first | omega | (simp only [List.length_map, List.length_take, Int.toNat_natCast, List.length_replicate, List.length_set]; omega))) ?_
  refine op_v' (j_elem_ownN (n := (varOf l - 1).toNat) slt25 rfl rfl rfl (by first | omega | (simp only [List.length_map, List.length_take, Int.toNat_natCast, List.length_replicate, List.length_set]; omega)) (by rw [List.length_replicate]; omega)) ?_
  refine op_s' (j_store_row leaf3 rfl rfl (by first | omega | (simp only [List.length_map, List.length_take, Int.toNat_natCast, List.length_replicate, List.length_set]; omega)) (evo rfl) rfl rfl) ?_
  refine op_nil ?_
  refine a_seq ?_
  refine a_seq ?_
  refine a_region (by kernel_rfl) ?_
  refine op_v' (j_move (evo rfl)) ?_
  refine op_v' (j_lt rfl rfl) ?_
  refine op_nil ?_
  refine a_cond rfl (fun h1 => ?_) (fun h1 => ?_)
  ·
    have h1r := h1
    try simp only [Bool.not_eq_true', Bool.not_eq_false', Bool.not_not, bne_iff_ne, bne_eq_false_iff_eq, beq_eq_false_iff_ne, beq_iff_eq, ne_eq, decide_eq_true_eq, decide_eq_false_iff_not, Classical.not_not, List.length_map, List.length_take, Int.toNat_natCast, List.length_replicate, List.length_set] at h1
    refine a_region (by kernel_rfl) ?_
    refine op_v' (j_move (evo rfl)) ?_
    refine op_v' (j_move (evo rfl)) ?_
    refine op_v' (j_neg rfl (by first | omega | (simp only [List.length_map, List.length_take, Int.toNat_natCast, List.length_replicate, List.length_set]; omega)) (by first | omega | (simp only [List.length_map, List.length_take, Int.toNat_natCast, List.length_replicate, List.length_set]; omega))) ?_
    refine op_v' (j_sub rfl rfl (by first | omega | (simp only [List.length_map, List.length_take, Int.toNat_natCast, List.length_replicate, List.length_set]; omega)) (by first | omega | (simp only [List.length_map, List.length_take, Int.toNat_natCast, List.length_replicate, List.length_set]; omega))) ?_
    refine op_v' (j_elem_ownN (n := (varOf l - 1).toNat) slt25 rfl rfl rfl (by first | omega | (simp only [List.length_map, List.length_take, Int.toNat_natCast, List.length_replicate, List.length_set]; omega)) (by rw [List.length_set, List.length_replicate]; omega)) ?_
    refine op_s' (j_store_row leaf3 rfl rfl (by first | omega | (simp only [List.length_map, List.length_take, Int.toNat_natCast, List.length_replicate, List.length_set]; omega)) (evo rfl) rfl rfl) ?_
    refine op_nil ?_
    refine a_seq ?_
    refine a_region (by kernel_rfl) ?_
    refine op_v' (j_move (evo rfl)) ?_
    refine op_v' (j_assign (evo rfl)) ?_
    refine op_nil ?_
    refine a_freeze' 2 (noA _ _ _ _ _) rfl rfl ?_
    refine a_ret ?_
    exact ⟨[.sl _], .sl _, [], [], [], ⟨rfl, trivial⟩, rfl, rfl, trivial, rfl, rfl, ⟨slEq (by unfold justV; rw [if_pos (by omega), List.map_set, List.map_replicate, List.set_set]; rfl), rfl, rfl⟩⟩
  ·
    have h1r := h1
    try simp only [Bool.not_eq_true', Bool.not_eq_false', Bool.not_not, bne_iff_ne, bne_eq_false_iff_eq, beq_eq_false_iff_ne, beq_iff_eq, ne_eq, decide_eq_true_eq, decide_eq_false_iff_not, Classical.not_not, List.length_map, List.length_take, Int.toNat_natCast, List.length_replicate, List.length_set] at h1
    refine a_skip ?_
    refine a_seq ?_
    refine a_region (by kernel_rfl) ?_
    refine op_v' (j_move (evo rfl)) ?_
    refine op_v' (j_assign (evo rfl)) ?_
    refine op_nil ?_
    refine a_freeze' 2 (noA _ _ _ _ _) rfl rfl ?_
    refine a_ret ?_
    exact ⟨[.sl _], .sl _, [], [], [], ⟨rfl, trivial⟩, rfl, rfl, trivial, rfl, rfl, ⟨slEq (by unfold justV; rw [if_neg (by omega), List.map_set, List.map_replicate]; rfl), rfl, rfl⟩⟩


theorem f_fixed (l : List Con) (p : List Int) (hl : l.all cOk = true) (hln : l.length ≤ 1000) (hp : paOk p = true) : Fn Try.prog 20 [.sl (l.map dC), .sl (p.map dI)] [] (fun rr ii nn => rr = .sl ((l.map (fixC p)).map dC) ∧ ii = [] ∧ nn = []) := by
  refine fn_of Try.func20 rfl (Nat.le_of_ble_eq_true rfl) fun w X g => ?_
  show AWp _ _ _ ⟨[(0, .sl (l.map dC)), (1, .sl (p.map dI))], []⟩
  refine a_seq ?_
  refine a_region (by kernel_rfl) ?_
  refine op_v' (j_assign (evo rfl)) ?_
  refine op_nil ?_
  refine a_seq ?_
  refine a_region (by kernel_rfl) ?_
  refine op_v' (j_assign (evo rfl)) ?_
  refine op_nil ?_
  refine a_adopt' 5 5 32 2 rfl fun v5 => ?_
  refine a_seq ?_
  refine a_seq ?_
  refine a_region (by kernel_rfl) ?_
  refine op_v' (j_move (evo rfl)) ?_
  refine op_v' (j_len_map Try.underlying23 rfl) ?_
  refine op_v' (j_move (evo rfl)) ?_
  refine op_nil ?_
  refine a_block ?_
  refine a_loopF' (ι := Nat × Nat) (fun x => x.1 ≤ l.length) (fun x r => (13, .p (.int .i64 ((x.1 : Nat)))) :: (5, .own 5 x.2) :: r) (fun x r => (5, some (x.2, .row 32 2 (((l.take x.1).map (fixC p)).map dC))) :: r) (fun x => l.length - x.1) (fun _ _ => rfl) (fun _ _ => rfl) (0, v5) (by first | exact (Nat.zero_le _) | (dsimp only; exact (Nat.zero_le _))) ⟨⟨rfl, rfl⟩, ⟨rfl, rfl, trivial⟩, ⟨rfl, trivial⟩, ⟨rfl, rfl⟩, ⟨rfl, rfl⟩⟩ ?_
  rintro ⟨k, v⟩ hpre; dsimp only at hpre ⊢
  refine a_seq ?_
  refine a_region (by kernel_rfl) ?_
  refine op_v' (j_lt rfl rfl) ?_
  refine op_nil ?_
  refine a_seq ?_
  refine a_cond rfl (fun h1 => ?_) (fun h1 => ?_)
  ·
    have h1r := h1
    try simp only [Bool.not_eq_true', Bool.not_eq_false', Bool.not_not, bne_iff_ne, bne_eq_false_iff_eq, beq_eq_false_iff_ne, beq_iff_eq, ne_eq, decide_eq_true_eq, decide_eq_false_iff_not, Classical.not_not, List.length_map, List.length_take, Int.toNat_natCast, List.length_map, List.length_append, List.length_cons, List.length_nil, List.length_set, List.length_take] at h1
    refine a_skip ?_
    refine a_seq ?_
    refine a_block ?_
    refine a_seq ?_
    have hck := all_at (d := default) hl (k := k) (by first | omega | (simp only [List.length_map, List.length_take, Int.toNat_natCast, List.length_map, List.length_append, List.length_cons, List.length_nil, List.length_set, List.length_take]; omega))
    have hlc := cOk_len hck
    have hbc := cOk_bound hck
    refine a_region (by kernel_rfl) ?_
    refine op_v' (j_elemN slt23 rfl rfl rfl (at_map (by first | omega | (simp only [List.length_map, List.length_take, Int.toNat_natCast, List.length_map, List.length_append, List.length_cons, List.length_nil, List.length_set, List.length_take]; omega))) rfl) ?_
    refine op_v' (j_loada_el (ys := [.sl _, .p _]) agg32 rfl (at_map (by first | omega | (simp only [List.length_map, List.length_take, Int.toNat_natCast, List.length_map, List.length_append, List.length_cons, List.length_nil, List.length_set, List.length_take]; omega))) rfl (Nat.le_refl _)) ?_
    refine op_n' (fun ver => j_alloc elt32 rfl) fun v7x1 => ?_
    refine op_s' (j_storea_box0 agg32 rfl rfl rfl rfl rfl rfl) ?_
    refine op_nil ?_
    refine a_seq ?_
    refine a_region (by kernel_rfl) ?_
    refine op_v' (j_fldp fld32f1 rfl rfl) ?_
    refine op_v' (j_load_box leaf3 rfl rfl rfl) ?_
    refine op_v' (j_build (parts := [(1, .tmp 18)]) str32 elt32 rfl rfl) ?_
    refine op_n' (fun ver => j_alloc elt32 rfl) fun v8x2 => ?_
    refine op_s' (j_storea_box0 agg32 rfl rfl rfl rfl rfl rfl) ?_
    refine op_nil ?_
    refine a_adopt_box' 0 1008 52 2 (by decide) (id := 8) rfl rfl fun v1008x3 => ?_
    refine a_seq ?_
    refine a_seq ?_
    refine a_region (by kernel_rfl) ?_
    refine op_v' (j_fldp fld32f0 rfl rfl) ?_
    refine op_v' (j_load_box leaf30 rfl rfl rfl) ?_
    refine op_v' (j_len_map Try.underlying30 rfl) ?_
    refine op_v' (j_move (evo rfl)) ?_
    refine op_nil ?_
    refine a_block ?_
    refine a_loopF' (ι := Nat × Nat) (fun x => x.1 ≤ (l.getD k default).1.length) (fun x r => (23, .p (.int .i64 ((x.1 : Nat)))) :: r) (fun x r => (8, some (v8x2, .box 32 [.own 1008 x.2, .p (.int .i64 (fixB p ((l.getD k default).1.take x.1) (l.getD k default).2))])) :: (1008, some (x.2, .row 52 2 ((fixT p ((l.getD k default).1.take x.1)).map dT))) :: r) (fun x => (l.getD k default).1.length - x.1) (fun _ _ => rfl) (fun _ _ => rfl) (0, v1008x3) (by first | exact (Nat.zero_le _) | (dsimp only; exact (Nat.zero_le _))) ⟨⟨rfl, rfl⟩, ⟨rfl, trivial⟩, ⟨rfl, rfl, trivial⟩, ⟨rfl, rfl⟩, ⟨rfl, rfl⟩⟩ ?_
    rintro ⟨j, vj⟩ hpj; dsimp only at hpj ⊢
    refine a_seq ?_
    refine a_region (by kernel_rfl) ?_
    refine op_v' (j_lt rfl rfl) ?_
    refine op_nil ?_
    refine a_seq ?_
    refine a_cond rfl (fun h2 => ?_) (fun h2 => ?_)
    ·
      have h2r := h2
      try simp only [Bool.not_eq_true', Bool.not_eq_false', Bool.not_not, bne_iff_ne, bne_eq_false_iff_eq, beq_eq_false_iff_ne, beq_iff_eq, ne_eq, decide_eq_true_eq, decide_eq_false_iff_not, Classical.not_not, List.length_map, List.length_take, Int.toNat_natCast, List.length_map, List.length_append, List.length_cons, List.length_nil, List.length_set, List.length_take] at h2
      refine a_skip ?_
      refine a_seq ?_
      refine a_block ?_
      refine a_seq ?_
      refine a_region (by kernel_rfl) ?_
      refine op_v' (j_elemN slt30 rfl rfl rfl (at_map (by first | omega | (simp only [List.length_map, List.length_take, Int.toNat_natCast, List.length_map, List.length_append, List.length_cons, List.length_nil, List.length_set, List.length_take]; omega))) rfl) ?_
      refine op_v' (j_loada_el (ys := [.p _, .p _]) agg52 rfl (at_map (by first | omega | (simp only [List.length_map, List.length_take, Int.toNat_natCast, List.length_map, List.length_append, List.length_cons, List.length_nil, List.length_set, List.length_take]; omega))) rfl (Nat.le_refl _)) ?_
      refine op_n' (fun ver => j_alloc elt52 rfl) fun v10x4 => ?_
      refine op_s' (j_storea_box0 agg52 rfl rfl rfl rfl rfl rfl) ?_
      refine op_nil ?_
      refine a_seq ?_
      have htm := cOk_terms hck (k := j) (by omega)
      have hft := fixT_take (p := p) (ts := (l.getD k default).1) (k := j)
      have hfb := fixB_rng (p := p) (b := (l.getD k default).2) (ts := (l.getD k default).1.take j) (fun t ht => cOk_coefs hck t (List.mem_of_mem_take ht)) hbc.1
      refine a_region (by kernel_rfl) ?_
      refine op_v' (j_fldp fld52f1 rfl rfl) ?_
      refine op_v' (j_load_box leaf3 rfl rfl rfl) ?_
      refine op_v' (j_move (evo rfl)) ?_
      refine op_v0' (j_call0 (v := .p _) (hp1 := []) [] false [] ent41 (f_under ((l.getD k default).1.getD j default).2 p htm.1 hp) ⟨.inl ⟨rfl, rfl⟩, .inl ⟨rfl, rfl⟩, trivial⟩ trivial rfl rfl (fun h => by cases h) rfl (fun _ h => by cases h) (.inl rfl) rfl rfl) ?_
      refine op_nil ?_
      refine a_block ?_
      refine a_seq ?_
      refine a_region (by kernel_rfl) ?_
      refine op_v' (j_eq rfl rfl) ?_
      refine op_v' (j_assign (evo rfl)) ?_
      refine op_nil ?_
      refine a_cond rfl (fun h3 => ?_) (fun h3 => ?_)
      ·
        have h3r := h3
        try simp only [Bool.not_eq_true', Bool.not_eq_false', Bool.not_not, bne_iff_ne, bne_eq_false_iff_eq, beq_eq_false_iff_ne, beq_iff_eq, ne_eq, decide_eq_true_eq, decide_eq_false_iff_not, Classical.not_not, List.length_map, List.length_take, Int.toNat_natCast, List.length_map, List.length_append, List.length_cons, List.length_nil, List.length_set, List.length_take] at h3
        refine a_region (by kernel_rfl) ?_
        refine op_v' (j_fldp fld32f0 rfl rfl) ?_
        refine op_v' (j_load_box leaf30 rfl rfl rfl) ?_
        refine op_v' (j_loada_box (ys := [.p _, .p _]) agg52 rfl rfl rfl (Nat.le_of_ble_eq_true rfl)) ?_
        refine op_n' (fun ver => j_buildSlice (parts := [(0, .tmp 35)]) (es := [[_, _]]) slt30 elt52 rfl rfl (by decide) (by decide) rfl rfl (by simp) rfl) fun v36x5 => ?_
        refine op_n' (fun ver => j_append_own slt30 elt52 rfl rfl rfl rfl rfl rfl (by rw [maxLen_eq]; first | omega | (simp only [List.length_map, List.length_take, Int.toNat_natCast, List.length_map, List.length_append, List.length_cons, List.length_nil, List.length_set, List.length_take]; omega)) (by first | omega | (simp only [List.length_map, List.length_take, Int.toNat_natCast, List.length_map, List.length_append, List.length_cons, List.length_nil, List.length_set, List.length_take]; omega))) fun v1008x6 => ?_
        refine op_v' (j_fldp fld32f0 rfl rfl) ?_
        refine op_s' (j_store_box leaf30 rfl rfl (Nat.le_of_ble_eq_true rfl) (evo rfl) rfl) ?_
        refine op_nil ?_
        refine a_region (by kernel_rfl) ?_
        refine op_v' (j_add rfl rfl (by first | omega | (simp only [List.length_map, List.length_take, Int.toNat_natCast, List.length_map, List.length_append, List.length_cons, List.length_nil, List.length_set, List.length_take]; omega)) (by first | omega | (simp only [List.length_map, List.length_take, Int.toNat_natCast, List.length_map, List.length_append, List.length_cons, List.length_nil, List.length_set, List.length_take]; omega))) ?_
        refine op_v' (j_move (evo rfl)) ?_
        refine op_nil ?_
        exact ⟨(j + 1, v1008x6), (by first | exact (by first | omega | (simp only [List.length_map, List.length_take, Int.toNat_natCast, List.length_map, List.length_append, List.length_cons, List.length_nil, List.length_set, List.length_take]; omega)) | (dsimp only; exact (by first | omega | (simp only [List.length_map, List.length_take, Int.toNat_natCast, List.length_map, List.length_append, List.length_cons, List.length_nil, List.length_set, List.length_take]; omega)))), ⟨⟨rfl, rfl⟩, ⟨rfl, trivial⟩, ⟨box2Eq (by rw [fixB_next (by omega), if_neg (by omega)]), rowEq (by rw [fixT_next (by omega), if_pos (by assumption), List.map_append]; rfl), trivial⟩, ⟨rfl, rfl⟩, ⟨rfl, rfl⟩⟩, (by first | exact (by first | omega | (simp only [List.length_map, List.length_take, Int.toNat_natCast, List.length_map, List.length_append, List.length_cons, List.length_nil, List.length_set, List.length_take]; omega)) | (dsimp only; exact (by first | omega | (simp only [List.length_map, List.length_take, Int.toNat_natCast, List.length_map, List.length_append, List.length_cons, List.length_nil, List.length_set, List.length_take]; omega))))⟩
      ·
        have h3r := h3
        try simp only [Bool.not_eq_true', Bool.not_eq_false', Bool.not_not, bne_iff_ne, bne_eq_false_iff_eq, beq_eq_false_iff_ne, beq_iff_eq, ne_eq, decide_eq_true_eq, decide_eq_false_iff_not, Classical.not_not, List.length_map, List.length_take, Int.toNat_natCast, List.length_map, List.length_append, List.length_cons, List.length_nil, List.length_set, List.length_take] at h3
        refine a_seq ?_
        refine a_region (by kernel_rfl) ?_
        refine op_v' (j_eq rfl rfl) ?_
        refine op_v' (j_assign (evo rfl)) ?_
        refine op_nil ?_
        refine a_cond rfl (fun h4 => ?_) (fun h4 => ?_)
        ·
          have h4r := h4
          try simp only [Bool.not_eq_true', Bool.not_eq_false', Bool.not_not, bne_iff_ne, bne_eq_false_iff_eq, beq_eq_false_iff_ne, beq_iff_eq, ne_eq, decide_eq_true_eq, decide_eq_false_iff_not, Classical.not_not, List.length_map, List.length_take, Int.toNat_natCast, List.length_map, List.length_append, List.length_cons, List.length_nil, List.length_set, List.length_take] at h4
          refine a_region (by kernel_rfl) ?_
          refine op_v' (j_fldp fld32f1 rfl rfl) ?_
          refine op_v' (j_load_box leaf3 rfl rfl rfl) ?_
          refine op_v' (j_fldp fld52f0 rfl rfl) ?_
          refine op_v' (j_load_box leaf3 rfl rfl rfl) ?_
          refine op_v' (j_sub rfl rfl (by first | omega | (simp only [List.length_map, List.length_take, Int.toNat_natCast, List.length_map, List.length_append, List.length_cons, List.length_nil, List.length_set, List.length_take]; omega)) (by first | omega | (simp only [List.length_map, List.length_take, Int.toNat_natCast, List.length_map, List.length_append, List.length_cons, List.length_nil, List.length_set, List.length_take]; omega))) ?_
          refine op_v' (j_max rfl rfl) ?_
          refine op_v' (j_fldp fld32f1 rfl rfl) ?_
          refine op_s' (j_store_box leaf3 rfl rfl (Nat.le_of_ble_eq_true rfl) (evo rfl) rfl) ?_
          refine op_nil ?_
          refine a_region (by kernel_rfl) ?_
          refine op_v' (j_add rfl rfl (by first | omega | (simp only [List.length_map, List.length_take, Int.toNat_natCast, List.length_map, List.length_append, List.length_cons, List.length_nil, List.length_set, List.length_take]; omega)) (by first | omega | (simp only [List.length_map, List.length_take, Int.toNat_natCast, List.length_map, List.length_append, List.length_cons, List.length_nil, List.length_set, List.length_take]; omega))) ?_
          refine op_v' (j_move (evo rfl)) ?_
          refine op_nil ?_
          exact ⟨(j + 1, vj), (by first | exact (by first | omega | (simp only [List.length_map, List.length_take, Int.toNat_natCast, List.length_map, List.length_append, List.length_cons, List.length_nil, List.length_set, List.length_take]; omega)) | (dsimp only; exact (by first | omega | (simp only [List.length_map, List.length_take, Int.toNat_natCast, List.length_map, List.length_append, List.length_cons, List.length_nil, List.length_set, List.length_take]; omega)))), ⟨⟨rfl, rfl⟩, ⟨rfl, trivial⟩, ⟨box2Eq (by rw [fixB_next (by omega), if_pos (by assumption)]), rowEq (by rw [fixT_next (by omega), if_neg (by assumption), List.append_nil]), trivial⟩, ⟨rfl, rfl⟩, ⟨rfl, rfl⟩⟩, (by first | exact (by first | omega | (simp only [List.length_map, List.length_take, Int.toNat_natCast, List.length_map, List.length_append, List.length_cons, List.length_nil, List.length_set, List.length_take]; omega)) | (dsimp only; exact (by first | omega | (simp only [List.length_map, List.length_take, Int.toNat_natCast, List.length_map, List.length_append, List.length_cons, List.length_nil, List.length_set, List.length_take]; omega))))⟩
        ·
          have h4r := h4
          try simp only [Bool.not_eq_true', Bool.not_eq_false', Bool.not_not, bne_iff_ne, bne_eq_false_iff_eq, beq_eq_false_iff_ne, beq_iff_eq, ne_eq, decide_eq_true_eq, decide_eq_false_iff_not, Classical.not_not, List.length_map, List.length_take, Int.toNat_natCast, List.length_map, List.length_append, List.length_cons, List.length_nil, List.length_set, List.length_take] at h4
          refine a_skip ?_
          refine a_region (by kernel_rfl) ?_
          refine op_v' (j_add rfl rfl (by first | omega | (simp only [List.length_map, List.length_take, Int.toNat_natCast, List.length_map, List.length_append, List.length_cons, List.length_nil, List.length_set, List.length_take]; omega)) (by first | omega | (simp only [List.length_map, List.length_take, Int.toNat_natCast, List.length_map, List.length_append, List.length_cons, List.length_nil, List.length_set, List.length_take]; omega))) ?_
          refine op_v' (j_move (evo rfl)) ?_
          refine op_nil ?_
          exact ⟨(j + 1, vj), (by first | exact (by first | omega | (simp only [List.length_map, List.length_take, Int.toNat_natCast, List.length_map, List.length_append, List.length_cons, List.length_nil, List.length_set, List.length_take]; omega)) | (dsimp only; exact (by first | omega | (simp only [List.length_map, List.length_take, Int.toNat_natCast, List.length_map, List.length_append, List.length_cons, List.length_nil, List.length_set, List.length_take]; omega)))), ⟨⟨rfl, rfl⟩, ⟨rfl, trivial⟩, ⟨box2Eq (by rw [fixB_next (by omega), if_neg (by assumption)]), rowEq (by rw [fixT_next (by omega), if_neg (by assumption), List.append_nil]), trivial⟩, ⟨rfl, rfl⟩, ⟨rfl, rfl⟩⟩, (by first | exact (by first | omega | (simp only [List.length_map, List.length_take, Int.toNat_natCast, List.length_map, List.length_append, List.length_cons, List.length_nil, List.length_set, List.length_take]; omega)) | (dsimp only; exact (by first | omega | (simp only [List.length_map, List.length_take, Int.toNat_natCast, List.length_map, List.length_append, List.length_cons, List.length_nil, List.length_set, List.length_take]; omega))))⟩
    ·
      have h2r := h2
      try simp only [Bool.not_eq_true', Bool.not_eq_false', Bool.not_not, bne_iff_ne, bne_eq_false_iff_eq, beq_eq_false_iff_ne, beq_iff_eq, ne_eq, decide_eq_true_eq, decide_eq_false_iff_not, Classical.not_not, List.length_map, List.length_take, Int.toNat_natCast, List.length_map, List.length_append, List.length_cons, List.length_nil, List.length_set, List.length_take] at h2
      refine a_exit ?_
      refine a_freezeboxK 0 8 (by decide) trivial rfl rfl rfl rfl ?_
      try dsimp only [List.set]
      refine a_region (by kernel_rfl) ?_
      refine op_v' (j_move (evo rfl)) ?_
      refine op_v' (j_loada_box (ys := [.sl _, .p _]) agg32 rfl rfl rfl (Nat.le_of_ble_eq_true rfl)) ?_
      refine op_n' (fun ver => j_buildSlice (parts := [(0, .tmp 50)]) (es := [[_, _]]) slt23 elt32 rfl rfl (by decide) (by decide) rfl rfl (by simp) rfl) fun v51x7 => ?_
      refine op_n' (fun ver => j_append_own slt23 elt32 rfl rfl rfl rfl rfl rfl (by rw [maxLen_eq]; first | omega | (simp only [List.length_map, List.length_take, Int.toNat_natCast, List.length_map, List.length_append, List.length_cons, List.length_nil, List.length_set, List.length_take]; omega)) (by first | omega | (simp only [List.length_map, List.length_take, Int.toNat_natCast, List.length_map, List.length_append, List.length_cons, List.length_nil, List.length_set, List.length_take]; omega))) fun v5x8 => ?_
      refine op_v' (j_assign (evo rfl)) ?_
      refine op_nil ?_
      refine a_region (by kernel_rfl) ?_
      refine op_v' (j_add rfl rfl (by first | omega | (simp only [List.length_map, List.length_take, Int.toNat_natCast, List.length_map, List.length_append, List.length_cons, List.length_nil, List.length_set, List.length_take]; omega)) (by first | omega | (simp only [List.length_map, List.length_take, Int.toNat_natCast, List.length_map, List.length_append, List.length_cons, List.length_nil, List.length_set, List.length_take]; omega))) ?_
      refine op_v' (j_move (evo rfl)) ?_
      refine op_nil ?_
      exact ⟨(k + 1, v5x8), (by first | exact (by first | omega | (simp only [List.length_map, List.length_take, Int.toNat_natCast, List.length_map, List.length_append, List.length_cons, List.length_nil, List.length_set, List.length_take]; omega)) | (dsimp only; exact (by first | omega | (simp only [List.length_map, List.length_take, Int.toNat_natCast, List.length_map, List.length_append, List.length_cons, List.length_nil, List.length_set, List.length_take]; omega)))), ⟨⟨rfl, rfl⟩, ⟨rfl, rfl, trivial⟩, ⟨rowEq (by rw [take_succD (d := default) (by omega), List.map_append, List.map_append, show j = (l.getD k default).1.length by omega, List.take_length]; rfl), trivial⟩, ⟨rfl, rfl⟩, ⟨rfl, rfl⟩⟩, (by first | exact (by first | omega | (simp only [List.length_map, List.length_take, Int.toNat_natCast, List.length_map, List.length_append, List.length_cons, List.length_nil, List.length_set, List.length_take]; omega)) | (dsimp only; exact (by first | omega | (simp only [List.length_map, List.length_take, Int.toNat_natCast, List.length_map, List.length_append, List.length_cons, List.length_nil, List.length_set, List.length_take]; omega))))⟩
  ·
    have h1r := h1
    try simp only [Bool.not_eq_true', Bool.not_eq_false', Bool.not_not, bne_iff_ne, bne_eq_false_iff_eq, beq_eq_false_iff_ne, beq_iff_eq, ne_eq, decide_eq_true_eq, decide_eq_false_iff_not, Classical.not_not, List.length_map, List.length_take, Int.toNat_natCast, List.length_map, List.length_append, List.length_cons, List.length_nil, List.length_set, List.length_take] at h1
    refine a_exit ?_
    refine a_seq ?_
    refine a_region (by kernel_rfl) ?_
    refine op_v' (j_move (evo rfl)) ?_
    refine op_v' (j_assign (evo rfl)) ?_
    refine op_nil ?_
    refine a_freeze' 4 (noA _ _ _ _ _) rfl rfl ?_
    refine a_ret ?_
    exact ⟨[.sl _], .sl _, [], [], [], ⟨rfl, trivial⟩, rfl, rfl, trivial, rfl, rfl, ⟨slEq (by rw [List.take_of_length_le (by omega)]), rfl, rfl⟩⟩


theorem f_l3Assign (p : List Int) (l : Int) (hl : litOk l = true) (hp : p.length = 12) : Fn Try.prog 17 [.own 0 0, .p (.int .i64 (l))] [.row 3 1 (p.map dI)] (fun rr ii nn => rr = .tup [] ∧ ii = [.row 3 1 ((p.set (varOf l - 1).toNat (if l < 0 then -1 else 1)).map dI)] ∧ nn = []) := by
  refine fn_of Try.func17 rfl (Nat.le_of_ble_eq_true rfl) fun w X g => ?_
  show AWp _ _ _ ⟨[(0, .own 0 0), (1, .p (.int .i64 (l)))], [(0, some (0, .row 3 1 (p.map dI)))]⟩
  have hli := litOk_iff.1 hl
  have hvo : varOf l = max l (-l) := rfl
  refine a_seq ?_
  refine a_region (by kernel_rfl) ?_
  refine op_v' (j_move (evo rfl)) ?_
  refine op_v' (j_gt rfl rfl) ?_
  refine op_nil ?_
  refine a_cond rfl (fun h1 => ?_) (fun h1 => ?_)
  ·
    have h1r := h1
    try simp only [Bool.not_eq_true', Bool.not_eq_false', Bool.not_not, bne_iff_ne, bne_eq_false_iff_eq, beq_eq_false_iff_ne, beq_iff_eq, ne_eq, decide_eq_true_eq, decide_eq_false_iff_not, Classical.not_not, List.length_map, List.length_take, Int.toNat_natCast, List.length_map] at h1
    refine a_region (by kernel_rfl) ?_
    refine op_v' (j_move (evo rfl)) ?_
    refine op_v' (j_move (evo rfl)) ?_
    refine op_v' (j_sub rfl rfl (by first | omega | (simp only [List.length_map, List.length_take, Int.toNat_natCast, List.length_map]; omega)) (by first | omega | (simp only [List.length_map, List.length_take, Int.toNat_natCast, List.length_map]; omega))) ?_
    refine op_v' (j_elem_ownN (n := (varOf l - 1).toNat) slt25 rfl rfl rfl (by first | omega | (simp only [List.length_map, List.length_take, Int.toNat_natCast, List.length_map]; omega)) (by first | omega | (simp only [List.length_map, List.length_take, Int.toNat_natCast, List.length_map]; omega))) ?_
    refine op_s' (j_store_row leaf3 rfl rfl (by first | omega | (simp only [List.length_map, List.length_take, Int.toNat_natCast, List.length_map]; omega)) (evo rfl) rfl rfl) ?_
    refine op_nil ?_
    exact ⟨[], .tup [], [.row 3 1 _], [], [], trivial, rfl, rfl, ⟨⟨rfl, rfl⟩, trivial⟩, rfl, rfl, ⟨rfl, by rw [if_neg (by omega), List.map_set]; rfl, rfl⟩⟩
  ·
    have h1r := h1
    try simp only [Bool.not_eq_true', Bool.not_eq_false', Bool.not_not, bne_iff_ne, bne_eq_false_iff_eq, beq_eq_false_iff_ne, beq_iff_eq, ne_eq, decide_eq_true_eq, decide_eq_false_iff_not, Classical.not_not, List.length_map, List.length_take, Int.toNat_natCast, List.length_map] at h1
    refine a_region (by kernel_rfl) ?_
    refine op_v' (j_move (evo rfl)) ?_
    refine op_v' (j_move (evo rfl)) ?_
    refine op_v' (j_neg rfl (by first | omega | (simp only [List.length_map, List.length_take, Int.toNat_natCast, List.length_map]; omega)) (by first | omega | (simp only [List.length_map, List.length_take, Int.toNat_natCast, List.length_map]; omega))) ?_
    refine op_v' (j_sub rfl rfl (by first | omega | (simp only [List.length_map, List.length_take, Int.toNat_natCast, List.length_map]; omega)) (by first | omega | (simp only [List.length_map, List.length_take, Int.toNat_natCast, List.length_map]; omega))) ?_
    refine op_v' (j_elem_ownN (n := (varOf l - 1).toNat) slt25 rfl rfl rfl (by first | omega | (simp only [List.length_map, List.length_take, Int.toNat_natCast, List.length_map]; omega)) (by first | omega | (simp only [List.length_map, List.length_take, Int.toNat_natCast, List.length_map]; omega))) ?_
    refine op_s' (j_store_row leaf3 rfl rfl (by first | omega | (simp only [List.length_map, List.length_take, Int.toNat_natCast, List.length_map]; omega)) (evo rfl) rfl rfl) ?_
    refine op_nil ?_
    exact ⟨[], .tup [], [.row 3 1 _], [], [], trivial, rfl, rfl, ⟨⟨rfl, rfl⟩, trivial⟩, rfl, rfl, ⟨rfl, by rw [if_pos (by omega), List.map_set]; rfl, rfl⟩⟩


theorem f_flImpl (l : List Con) (m : Int) : Fn Try.prog 8 [.sl (l.map dC), .p (.int .i64 (m))] [] (fun rr ii nn => rr = .tup [.sl ((flL l m).map dC), .p (.bool (flOk l m))] ∧ ii = [] ∧ nn = []) := by
  refine fn_of Try.func8 rfl (Nat.le_of_ble_eq_true rfl) fun w X g => ?_
  show AWp _ _ _ ⟨[(0, .sl (l.map dC)), (1, .p (.int .i64 (m)))], []⟩
  refine a_seq ?_
  refine a_region (by kernel_rfl) ?_
  refine op_v' (j_assign (evo rfl)) ?_
  refine op_v' (j_assign (evo rfl)) ?_
  refine op_nil ?_
  refine a_seq ?_
  refine a_seq ?_
  refine a_region (by kernel_rfl) ?_
  refine op_v' (j_move (evo rfl)) ?_
  refine op_v0' (j_call0 (v := .p _) (hp1 := []) [] false [] ent13 (f_pvImpl _) ⟨.inl ⟨rfl, rfl⟩, trivial⟩ trivial rfl rfl (fun h => by cases h) rfl (fun _ h => by cases h) (.inl rfl) rfl rfl) ?_
  refine op_v' (j_not rfl) ?_
  refine op_v' (j_move (evo rfl)) ?_
  refine op_split' 9 rfl (fun h1 => ?_) (fun h1 => ?_)
  ·
    have h1r := h1
    try simp only [Bool.not_eq_true', Bool.not_eq_false', Bool.not_not, bne_iff_ne, bne_eq_false_iff_eq, beq_eq_false_iff_ne, beq_iff_eq, ne_eq, decide_eq_true_eq, decide_eq_false_iff_not, Classical.not_not, List.length_map, List.length_take, Int.toNat_natCast] at h1
    refine op_v' (j_unwantV rfl rfl h1r) ?_
    refine op_v' (j_unwantV rfl rfl h1r) ?_
    refine op_v' (j_unwantV rfl rfl h1r) ?_
    refine op_v' (j_pick_t rfl h1r (evo rfl)) ?_
    refine op_nil ?_
    refine a_tt rfl ?_
    refine a_seq ?_
    refine a_region (by kernel_rfl) ?_
    refine op_v' (j_assign (evo rfl)) ?_
    refine op_v' (j_assign (evo rfl)) ?_
    refine op_nil ?_
    refine a_nil 4 rfl ?_
    refine a_ret ?_
    exact ⟨[.sl _, .p _], .tup [.sl _, .p _], [], [], [], ⟨rfl, rfl, trivial⟩, rfl, rfl, trivial, rfl, rfl, ⟨by have hq : flOk l m = false := flOk_no (by first | exact .inl h1 | exact .inr (by assumption)); rw [flL_bad hq, hq]; rfl, rfl, rfl⟩⟩
  ·
    have h1r := h1
    try simp only [Bool.not_eq_true', Bool.not_eq_false', Bool.not_not, bne_iff_ne, bne_eq_false_iff_eq, beq_eq_false_iff_ne, beq_iff_eq, ne_eq, decide_eq_true_eq, decide_eq_false_iff_not, Classical.not_not, List.length_map, List.length_take, Int.toNat_natCast] at h1
    refine op_v' (j_want rfl rfl h1r (j_move (evo rfl))) ?_
    refine op_v0' (j_want rfl rfl h1r (j_call0 (v := .p _) (hp1 := []) [] false [] ent19 (f_isLit _) ⟨.inl ⟨rfl, rfl⟩, trivial⟩ trivial rfl rfl (fun h => by cases h) rfl (fun _ h => by cases h) (.inl rfl) rfl rfl)) ?_
    refine op_v' (j_want rfl rfl h1r (j_not rfl)) ?_
    refine op_v' (j_pick_f rfl h1r (evo rfl)) ?_
    refine op_nil ?_
    refine a_cond rfl (fun h2 => ?_) (fun h2 => ?_)
    ·
      have h2r := h2
      try simp only [Bool.not_eq_true', Bool.not_eq_false', Bool.not_not, bne_iff_ne, bne_eq_false_iff_eq, beq_eq_false_iff_ne, beq_iff_eq, ne_eq, decide_eq_true_eq, decide_eq_false_iff_not, Classical.not_not, List.length_map, List.length_take, Int.toNat_natCast] at h2
      refine a_seq ?_
      refine a_region (by kernel_rfl) ?_
      refine op_v' (j_assign (evo rfl)) ?_
      refine op_v' (j_assign (evo rfl)) ?_
      refine op_nil ?_
      refine a_nil 4 rfl ?_
      refine a_ret ?_
      exact ⟨[.sl _, .p _], .tup [.sl _, .p _], [], [], [], ⟨rfl, rfl, trivial⟩, rfl, rfl, trivial, rfl, rfl, ⟨by have hq : flOk l m = false := flOk_no (by first | exact .inl h1 | exact .inr (by assumption)); rw [flL_bad hq, hq]; rfl, rfl, rfl⟩⟩
    ·
      have h2r := h2
      try simp only [Bool.not_eq_true', Bool.not_eq_false', Bool.not_not, bne_iff_ne, bne_eq_false_iff_eq, beq_eq_false_iff_ne, beq_iff_eq, ne_eq, decide_eq_true_eq, decide_eq_false_iff_not, Classical.not_not, List.length_map, List.length_take, Int.toNat_natCast] at h2
      refine a_skip ?_
      refine a_seq ?_
      have hln := pOk_len h1
      have hall := pOk_all h1
      refine a_region (by kernel_rfl) ?_
      refine op_v' (j_move (evo rfl)) ?_
      refine op_v' (j_move (evo rfl)) ?_
      refine op_v0' (j_call0 (v := .sl _) (hp1 := []) [] false [] ent15 (f_just _ (by assumption)) ⟨.inl ⟨rfl, rfl⟩, trivial⟩ trivial rfl rfl (fun h => by cases h) rfl (fun _ h => by cases h) (.inl rfl) rfl rfl) ?_
      refine op_v0' (j_call0 (v := .sl _) (hp1 := []) [] false [] ent20 (f_fixed l (justV m) hall (by omega) just_ok) ⟨.inl ⟨rfl, rfl⟩, .inl ⟨rfl, rfl⟩, trivial⟩ trivial rfl rfl (fun h => by cases h) rfl (fun _ h => by cases h) (.inl rfl) rfl rfl) ?_
      refine op_v' (j_assign (evo rfl)) ?_
      refine op_v' (j_assign (evo rfl)) ?_
      refine op_nil ?_
      refine a_ret ?_
      exact ⟨[.sl _, .p _], .tup [.sl _, .p _], [], [], [], ⟨rfl, rfl, trivial⟩, rfl, rfl, trivial, rfl, rfl, ⟨by have hq : flOk l m = true := flOk_of h1 (by assumption); rw [flL_ok hq, hq], rfl, rfl⟩⟩


end Go.Ab
