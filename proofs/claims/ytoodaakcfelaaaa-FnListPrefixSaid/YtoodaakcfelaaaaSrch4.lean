/- Texts. -/
import Derived.Test.YtoodaakcfelaaaaClo
set_option autoImplicit false
namespace Go.Ab
/-- A step that gives a constraint. -/
def dSt (c : Con) : List V := [.p (.int .i64 7), .p (.int .i64 0), .p (.int .i64 0), .sl (c.1.map dT), .p (.int .i64 c.2)]
def valO (p : List Int) : List Bool := if freeV p = 0 then valP p else []
theorem valO_y {p : List Int} (h : freeV p = 0) : valO p = valP p := by unfold valO; rw [if_pos h]
theorem valO_n {p : List Int} (h : ¬ freeV p = 0) : valO p = [] := by unfold valO; rw [if_neg h]
theorem dSt_snoc {S : List Con} {c : Con} : (S ++ [c]).map dSt = S.map dSt ++ [dSt c] := by simp
theorem cle_len {D : List Int} (h : asc D) : (cle D).1.length ≤ 12 := by
  unfold cle; rw [List.length_map, negL_len]; exact asc_len h
end Go.Ab
