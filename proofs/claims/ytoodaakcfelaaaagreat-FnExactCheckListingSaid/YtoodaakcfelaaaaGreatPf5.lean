/- Sizes of proofs. -/
import Derived.Test.YtoodaakcfelaaaaGreatPf4
import Derived.Test.YtoodaakcfelaaaaGreatFr
set_option autoImplicit false
namespace Go.Ab
def wGv (s : Stp) : Nat := s.2.2.2.1.length
def wSt (ss : List Stp) : Nat := ss.length + sumW wGv ss
theorem szv_up {n : Nat} {k : Int} : szv n k ≤ max k (-1) := by unfold szv; split <;> omega
theorem szL_up : ∀ {l : List Con} {n : Int}, szL l n ≤ max n (-1)
  | [], n => by rw [szL]; omega
  | c :: r, n => by
    rw [szL]
    split
    · omega
    · have h1 := szL_up (l := r) (n := szv c.1.length n)
      have h2 := szv_up (n := c.1.length) (k := n)
      omega
theorem szC_up {l : List Con} {n : Int} : szC l n ≤ max n (-1) := by
  unfold szC
  split
  · omega
  · have h1 := szL_up (l := l) (n := szv l.length n)
    have h2 := szv_up (n := l.length) (k := n)
    omega
theorem wSt_at {ss : List Stp} (h : wSt ss ≤ 1048576) : ∀ s ∈ ss, s.2.2.2.1.length ≤ 1048576 := by
  intro s hs
  obtain ⟨k, hk, rfl⟩ := List.mem_iff_getElem.1 hs
  have h1 := sumW_at (w := wGv) (l := ss) (k := k) hk
  have h2 : wGv (ss.getD k default) = wGv ss[k] := by rw [List.getD_eq_getElem?_getD, List.getElem?_eq_getElem hk]; rfl
  unfold wSt at h
  have h3 : wGv ss[k] = ss[k].2.2.2.1.length := rfl
  show ss[k].2.2.2.1.length ≤ 1048576
  omega
end Go.Ab
