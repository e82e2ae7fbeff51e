/- A row that is appended to a row of rows, and lent at once. -/
import Derived.Test.YtoodaakcfelaaaaAb25
set_option linter.unusedSimpArgs false
set_option linter.unusedVariables false
namespace Go.Ab
variable {C : Ctx}
theorem HR.newDeepH {w w1 : World} {hp hp' : Heap} {g : Gh} {i : Nat} {t : DTy} {es : List (List V)} {cur : Array Value} {c n : Nat} {fps : List (List Nat)} {hh : Option (Nat × Nat × Nat × Nat)} (T : Nat → Prop) (H : HR C w hp g) (h1 : w1.heap = w.heap) (h2 : w1.os = w.os) (h3 : w1.tape = w.tape) (h4 : w1.output = w.output)
    (hT : ∀ b, T b → ∃ j io, look hp j = some io ∧ b ∈ g.fp j) (hlk : ∀ j io, look hp' j = some io → j ≠ i → look hp j = some io ∧ ∀ b ∈ g.fp j, ¬ T b) (hi : look hp' i = some (g.cur i + 1, .deep t es hh))
    (hfp : ∀ b ∈ fps.flatten, T b) (hnd : fps.flatten.Nodup) (hlen : ∀ x ∈ es, x.length = t.s) (hle : es.length ≤ c) (hmax : c ≤ maxLen) (hsize : cur.size = c * t.s) (hdc : DC (DR (XX C hp g w) w n) (XX C hp g w) w t (hh.map (fun x => x.1 * t.s + x.2.1)) es cur fps)
    (hole : ∀ k f d ver, hh = some (k, f, d, ver) → k < es.length ∧ f < t.s ∧ (t.sub f).isSome = true ∧ d ≠ i ∧ ver ≤ g.cur d ∧ (ver = g.cur d → cur[k * t.s + f]? = some (g.val d))) :
    HR C (w1.alloc (.cells cur t.e)) hp' (g.upd i (g.cur i + 1) (.slice (some ⟨w.heap.size, 0, none⟩) es.length c) (some w.heap.size) (w.heap.size :: fps.flatten) t.s) ∧
      Fits g (XX C hp g w) w (g.upd i (g.cur i + 1) (.slice (some ⟨w.heap.size, 0, none⟩) es.length c) (some w.heap.size) (w.heap.size :: fps.flatten) t.s) (XX C hp' (g.upd i (g.cur i + 1) (.slice (some ⟨w.heap.size, 0, none⟩) es.length c) (some w.heap.size) (w.heap.size :: fps.flatten) t.s) (w1.alloc (.cells cur t.e))) (w1.alloc (.cells cur t.e)) := by
  have hha : (w1.alloc (.cells cur t.e)).heap = w.heap.push (.cells cur t.e) := by rw [← h1]; rfl
  have hTs : ∀ b, T b → b < w.heap.size := fun b ht => let ⟨j, io, q1, q2⟩ := hT b ht; (H.blk j io b q1 q2).1
  have hold : ∀ b, b < w.heap.size → (w1.alloc (.cells cur t.e)).heap[b]? = w.heap[b]? := fun b hb => by rw [hha, Array.getElem?_push, if_neg (by omega)]
  generalize hG : g.upd i (g.cur i + 1) (.slice (some ⟨w.heap.size, 0, none⟩) es.length c) (some w.heap.size) (w.heap.size :: fps.flatten) t.s = G
  have gi : G.cur i = g.cur i + 1 ∧ G.val i = .slice (some ⟨w.heap.size, 0, none⟩) es.length c ∧ G.blk i = some w.heap.size ∧ G.fp i = w.heap.size :: fps.flatten ∧ G.sz i = t.s := by subst hG; simp [Gh.upd]
  have go : ∀ j, j ≠ i → G.cur j = g.cur j ∧ G.val j = g.val j ∧ G.blk j = g.blk j ∧ G.fp j = g.fp j ∧ G.sz j = g.sz j := by intro j hj; subst hG; exact Gh.upd_other j hj
  refine H.chg T (fun j => j = i) h2 h3 h4 (by rw [hha]; simp) hT (fun b hb _ => hold b hb) (fun j => ?_) (fun j e => ?_) (fun j io hj hN => ?_) (fun j io hj hN => ?_) (fun i' j io jo hNi hNj hi hj hij x hx => absurd (hNi.trans hNj.symm) hij) (fun hf j vj o hN hj => ?_)
  · by_cases e : j = i
    · subst e; rw [gi.1]; omega
    · rw [(go j e).1]; exact Nat.le_refl _
  · by_cases e1 : j = i
    · subst e1; rw [gi.1] at e; omega
    · obtain ⟨_, a1, a2, _, a3⟩ := go j e1; exact ⟨a1, a2, a3⟩
  · obtain ⟨a1, a2⟩ := hlk j io hj hN
    exact ⟨a1, (go j hN).1, (go j hN).2.2.2.1, a2⟩
  · subst hN
    rw [hi] at hj; obtain rfl := Option.some.inj hj
    refine ⟨gi.1, fun x hx => ?_⟩
    rw [gi.2.2.2.1] at hx
    rcases List.mem_cons.1 hx with rfl | hx
    · exact ⟨by rw [hha]; simp, .inr (Nat.le_refl _)⟩
    · have := hTs x (hfp x hx)
      exact ⟨by rw [hha]; simp; omega, .inl (hfp x hx)⟩
  · subst hN
    rw [hi] at hj; simp at hj; obtain ⟨_, rfl⟩ := hj
    refine Dd.or (w := w) (hp := hp) (g := g) (n := n) (b := w.heap.size) (c := c) (cur := cur) (fps := fps) (es := es) hlen gi.2.1 gi.2.2.1 gi.2.2.2.2 gi.2.2.2.1 (List.nodup_cons.2 ⟨fun hx => ?_, hnd⟩) (by rw [hha]; simp) hle hmax hsize ?_ (fun k' f' d' vd' e => by
      obtain ⟨a1, a2, a3, a4, a5, a6⟩ := hole k' f' d' vd' e
      rw [(go d' a4).1, (go d' a4).2.1]; exact ⟨a1, a2, a3, a5, a6⟩)
    · have := hTs _ (hfp _ hx); omega
    · exact hdc.fits hf.set hf.heap (fun t F es u hs h => h.fits hf.set hf.heap (fun b hb => hold b (hTs b (hfp b (hs b hb)))))
theorem HR.wrDeepH {w : World} {hp hp' : Heap} {g : Gh} {i : Nat} {ver v0 : Nat} {ob : Obj} {t : DTy} {es : List (List V)} {cur0 cur : Array Value} {b c n : Nat} {fps : List (List Nat)} {hh : Option (Nat × Nat × Nat × Nat)} (T : Nat → Prop) (H : HR C w hp g) (hib : b ∈ g.fp i) (ho : look hp i = some (v0, ob)) (hc0 : w.heap[b]? = some (.cells cur0 t.e (0, 0))) (hver : g.cur i ≤ ver)
    (hval : ver = g.cur i → g.val i = .slice (some ⟨b, 0, none⟩) es.length c) (hblk : g.blk i = some b) (hsz : g.sz i = t.s)
    (hT : ∀ b, T b → ∃ j io, look hp j = some io ∧ b ∈ g.fp j) (hTi : ∀ x ∈ g.fp i, T x) (hlk : ∀ j io, look hp' j = some io → j ≠ i → look hp j = some io ∧ ∀ b ∈ g.fp j, ¬ T b) (hi : look hp' i = some (ver, .deep t es hh))
    (hfp : ∀ b ∈ fps.flatten, T b) (hnd : (b :: fps.flatten).Nodup) (hlen : ∀ x ∈ es, x.length = t.s) (hle : es.length ≤ c) (hmax : c ≤ maxLen) (hsize : cur.size = c * t.s) (hdc : DC (DR (XX C hp g w) w n) (XX C hp g w) w t (hh.map (fun x => x.1 * t.s + x.2.1)) es cur fps)
    (hole : ∀ k f d ver, hh = some (k, f, d, ver) → k < es.length ∧ f < t.s ∧ (t.sub f).isSome = true ∧ d ≠ i ∧ ver ≤ g.cur d ∧ (ver = g.cur d → cur[k * t.s + f]? = some (g.val d))) :
    HR C (w.setRow b cur) hp' (g.upd i ver (.slice (some ⟨b, 0, none⟩) es.length c) (some b) (b :: fps.flatten) t.s) ∧
      Fits g (XX C hp g w) w (g.upd i ver (.slice (some ⟨b, 0, none⟩) es.length c) (some b) (b :: fps.flatten) t.s) (XX C hp' (g.upd i ver (.slice (some ⟨b, 0, none⟩) es.length c) (some b) (b :: fps.flatten) t.s) (w.setRow b cur)) (w.setRow b cur) := by
  have hTs : ∀ b, T b → b < w.heap.size := fun b ht => let ⟨j, io, q1, q2⟩ := hT b ht; (H.blk j io b q1 q2).1
  have hset : ∀ x, x ≠ b → (w.setRow b cur).heap[x]? = w.heap[x]? := fun x hx => setRow_other w b x _ hx
  have hss : (w.setRow b cur).heap.size = w.heap.size := by simp [World.setRow]
  have hnb : ∀ x, x ∈ fps.flatten → x ≠ b := fun x hx e => by subst e; exact (List.nodup_cons.1 hnd).1 hx
  generalize hG : g.upd i ver (.slice (some ⟨b, 0, none⟩) es.length c) (some b) (b :: fps.flatten) t.s = G
  have gi : G.cur i = ver ∧ G.val i = .slice (some ⟨b, 0, none⟩) es.length c ∧ G.blk i = some b ∧ G.fp i = b :: fps.flatten ∧ G.sz i = t.s := by subst hG; simp [Gh.upd]
  have go : ∀ j, j ≠ i → G.cur j = g.cur j ∧ G.val j = g.val j ∧ G.blk j = g.blk j ∧ G.fp j = g.fp j ∧ G.sz j = g.sz j := by intro j hj; subst hG; exact Gh.upd_other j hj
  refine H.chg T (fun j => j = i) rfl rfl rfl (by rw [hss]; exact Nat.le_refl _) hT (fun x hx hn => hset x (fun e => hn (by rw [e]; exact hTi b hib))) (fun j => ?_) (fun j e => ?_) (fun j io hj hN => ?_) (fun j io hj hN => ?_) (fun i' j io jo hNi hNj hi hj hij x hx => absurd (hNi.trans hNj.symm) hij) (fun hf j vj o hN hj => ?_)
  · by_cases e : j = i
    · subst e; rw [gi.1]; exact hver
    · rw [(go j e).1]; exact Nat.le_refl _
  · by_cases e1 : j = i
    · subst e1; rw [gi.1] at e; exact ⟨gi.2.1.trans (hval e.symm).symm, gi.2.2.1.trans hblk.symm, gi.2.2.2.2.trans hsz.symm⟩
    · obtain ⟨_, a1, a2, _, a3⟩ := go j e1; exact ⟨a1, a2, a3⟩
  · obtain ⟨a1, a2⟩ := hlk j io hj hN
    exact ⟨a1, (go j hN).1, (go j hN).2.2.2.1, a2⟩
  · subst hN
    rw [hi] at hj; obtain rfl := Option.some.inj hj
    refine ⟨gi.1, fun x hx => ?_⟩
    rw [gi.2.2.2.1] at hx
    have : T x := by
      rcases List.mem_cons.1 hx with rfl | hx
      · exact hTi _ hib
      · exact hfp x hx
    exact ⟨by rw [hss]; exact hTs x this, .inl this⟩
  · subst hN
    rw [hi] at hj; simp at hj; obtain ⟨_, rfl⟩ := hj
    refine Dd.or (w := w) (hp := hp) (g := g) (n := n) (b := b) (c := c) (cur := cur) (fps := fps) (es := es) hlen gi.2.1 gi.2.2.1 gi.2.2.2.2 gi.2.2.2.1 hnd (setRow_heap w b cur0 _ t.e _ hc0) hle hmax hsize ?_ (fun k' f' d' vd' e => by
      obtain ⟨a1, a2, a3, a4, a5, a6⟩ := hole k' f' d' vd' e
      rw [(go d' a4).1, (go d' a4).2.1]; exact ⟨a1, a2, a3, a5, a6⟩)
    exact hdc.fits hf.set hf.heap (fun t F es u hs h => h.fits hf.set hf.heap (fun x hx => hset x (hnb x (hs x hx))))
theorem DC.appendH {R : DTy → List Nat → List (List V) → Value → Prop} {X : Nat → Prop} {w : World} {t : DTy} {es es2 : List (List V)} {cur cur1 cur2 : Array Value} {fps fps2 : List (List Nat)} {sk : Option Nat} (hl : ∀ x ∈ es, x.length = t.s) (h1 : DC R X w t none es cur1 fps) (h2 : DC R X w t sk es2 cur2 fps2)
    (e1 : ∀ j, j < es.flatten.length → cur[j]? = cur1[j]?) (e2 : ∀ j, j < es2.flatten.length → cur[es.flatten.length + j]? = cur2[j]?) : DC R X w t (sk.map (fun j => es.flatten.length + j)) (es ++ es2) cur (fps ++ fps2) := by
  have hfl := qq1 hl
  refine ⟨by simp [h1.1, h2.1], fun j v hj => ?_⟩
  rw [List.flatten_append] at hj
  by_cases e : j < es.flatten.length
  · rw [List.getElem?_append_left e] at hj
    obtain ⟨u, F, a1, a2, a3⟩ := h1.2 j v hj
    exact ⟨u, F, by rw [e1 j e]; exact a1, by rw [List.getElem?_append_left (by rw [h1.1]; exact e)]; exact a2, .inr ⟨(fun q => by cases sk with | none => cases q | some z => rw [Option.map_some] at q; have q2 := Option.some.inj q; omega), by rcases a3 with k | k; (· cases k.1); (· exact k.2)⟩⟩
  · rw [List.getElem?_append_right (by omega)] at hj
    obtain ⟨u, F, a1, a2, a3⟩ := h2.2 _ v hj
    have hlt := (List.getElem?_eq_some_iff.1 hj).1
    refine ⟨u, F, ?_, ?_, a3.imp (fun k => ⟨by rw [k.1, Option.map_some]; congr 1; omega, k.2⟩) (fun k => ⟨fun q => k.1 (by cases sk with | none => cases q | some z => rw [Option.map_some] at q; have q2 := Option.some.inj q; congr 1; omega), k.2.mod ?_⟩)⟩
    · rw [← a1, ← e2 _ hlt]; congr 1; omega
    · rw [List.getElem?_append_right (by rw [h1.1]; omega), h1.1]; exact a2
    · rw [hfl]
      have : j = es.length * t.s + (j - es.length * t.s) := by omega
      conv => rhs; rw [this]
      rw [Nat.mul_comm, Nat.mul_add_mod]
end Go.Ab
