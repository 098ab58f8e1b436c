/- Walks and merges of products: plain laws. -/
import Derived.Test.YtkalaahmbdimfaaF5
import Derived.Test.YtkalaahmbdimfaaQ1
namespace Go.Proofs.Ytkalaahmbdimfaa
open Go Go.Abs
set_option maxRecDepth 100000

set_option maxRecDepth 100000
set_option linter.unusedVariables false
attribute [-simp] List.getD_eq_getElem?_getD
attribute [-go_sem] confV

def nxS (s : Int) : Int := (s * 48271).tmod 2147483647
/-- A product with a form put in. -/
def fmPut (q : List Int) (g : Nat) (f : List Int) : List Int := putL q (g * 9) f
def fmAt (q : List Int) (g : Nat) : List Int := sub q (g * 9) 9
def wkOne (p : Int) (g : Nat) (q r : List Int) : List Int := fmPut q g (sumUp p 1 (fmAt r g) (fmAt q g) 9)
def wkTwo (p : Int) (h : Nat) (q r : List Int) : List Int := fmPut r h (sumUp p (p - 1) (fmAt q h) (fmAt r h) 9)
def prAt (l : List Int) (i : Nat) : List Int := sub l (i * 27) 27
def prPut (l : List Int) (i : Nat) (q : List Int) : List Int := putL l (i * 27) q
/-- What a step of a walk makes of products, before those with a zero form are left out. -/
def wkRaw (p : Int) (l : List Int) (i j w : Nat) : List Int :=
  prPut (prPut l i (wkOne p ((w + 1) % 3) (prAt l i) (prAt l j))) j (wkTwo p ((w + 2) % 3) (wkOne p ((w + 1) % 3) (prAt l i) (prAt l j)) (prAt l j))
def wkDo (p : Int) (l : List Int) (n i j w : Nat) : List Int := if i = j ∨ fmAt (prAt l i) w ≠ fmAt (prAt l j) w then l else keptL (wkRaw p l i j w) n
def wkStep (p : Int) (l : List Int) (s : Int) : List Int :=
  let n := l.length / 27
  if n = 0 then l else wkDo p l n (Int.toNat ((nxS s).tmod n)) (Int.toNat ((nxS (nxS s)).tmod n)) (Int.toNat ((nxS (nxS (nxS s))).tmod 3))
def wkS (s : Int) : Nat → Int
  | 0 => s
  | t + 1 => nxS (nxS (nxS (wkS s t)))
def wkL (p : Int) (l : List Int) (s : Int) : Nat → List Int
  | 0 => l
  | t + 1 => wkStep p (wkL p l s t) (wkS s t)
/-- Products modulo p. -/
structure PrOk (p : Int) (n : Nat) (l : List Int) : Prop where
  len : l.length = n * 27
  num : numsOk p l = true
theorem numsOk_sub {p : Int} {l : List Int} (h : numsOk p l = true) (a n : Nat) : numsOk p (sub l a n) = true := by
  rw [numsOk, List.all_eq_true] at h ⊢
  exact fun z hz => h z (List.mem_of_mem_drop (List.mem_of_mem_take hz))
theorem numsOk_app {p : Int} {l l' : List Int} (h : numsOk p l = true) (h' : numsOk p l' = true) : numsOk p (l ++ l') = true := by
  rw [numsOk, List.all_append, Bool.and_eq_true]; exact ⟨h, h'⟩
theorem numsOk_putL {p : Int} {l f : List Int} {a : Nat} (h : numsOk p l = true) (h' : numsOk p f = true) (ha : a + f.length ≤ l.length) : numsOk p (putL l a f) = true := by
  rw [putL_eq ha]
  refine numsOk_app (numsOk_app ?_ h') ?_
  · rw [numsOk, List.all_eq_true] at h ⊢
    exact fun z hz => h z (List.mem_of_mem_take hz)
  · rw [numsOk, List.all_eq_true] at h ⊢
    exact fun z hz => h z (List.mem_of_mem_drop hz)
theorem numsOk_kept {p : Int} {l : List Int} (h : numsOk p l = true) : ∀ t, numsOk p (keptL l t) = true
  | 0 => rfl
  | t + 1 => by
    rw [keptL]
    split
    · exact numsOk_kept h t
    · exact numsOk_app (numsOk_kept h t) (numsOk_sub h _ _)
theorem nxS_rng {s : Int} (h : 0 ≤ s ∧ s ≤ 2147483646) : 0 ≤ nxS s ∧ nxS s ≤ 2147483646 := by
  have h1 : 0 ≤ s * 48271 := by omega
  have := Int.tmod_nonneg 2147483647 h1
  have := Int.tmod_lt_of_pos (s * 48271) (show (0 : Int) < 2147483647 by decide)
  unfold nxS; omega
theorem wkS_rng {s : Int} (h : 0 ≤ s ∧ s ≤ 2147483646) : ∀ t, 0 ≤ wkS s t ∧ wkS s t ≤ 2147483646
  | 0 => h
  | t + 1 => nxS_rng (nxS_rng (nxS_rng (wkS_rng h t)))
section
variable {p : Int} {n i j w : Nat} {l : List Int}
theorem prAt_len (hl : l.length = n * 27) (hi : i < n) : (prAt l i).length = 27 := sub_length (by omega)
theorem wkOne_ok (hp : 2 ≤ p ∧ p ≤ 5) {q r : List Int} {g : Nat} (hg : g < 3) (hq : q.length = 27) (hr : r.length = 27) (hqn : numsOk p q = true) (hrn : numsOk p r = true) : (wkOne p g q r).length = 27 ∧ numsOk p (wkOne p g q r) = true := by
  have h1 : (fmAt q g).length = 9 := sub_length (by omega)
  refine ⟨by rw [wkOne, fmPut, putL_len]; exact hq, numsOk_putL hqn (sumUp_ok hp (by omega) (numsOk_sub hqn _ _) (numsOk_sub hrn _ _) _) (by rw [sumUp_length, h1]; omega)⟩
theorem wkTwo_ok (hp : 2 ≤ p ∧ p ≤ 5) {q r : List Int} {g : Nat} (hg : g < 3) (hq : q.length = 27) (hr : r.length = 27) (hqn : numsOk p q = true) (hrn : numsOk p r = true) : (wkTwo p g q r).length = 27 ∧ numsOk p (wkTwo p g q r) = true := by
  have h1 : (fmAt r g).length = 9 := sub_length (by omega)
  refine ⟨by rw [wkTwo, fmPut, putL_len]; exact hr, numsOk_putL hrn (sumUp_ok hp (by omega) (numsOk_sub hrn _ _) (numsOk_sub hqn _ _) _) (by rw [sumUp_length, h1]; omega)⟩
theorem PrOk.at_ (h : PrOk p n l) (hi : i < n) : (prAt l i).length = 27 ∧ numsOk p (prAt l i) = true := ⟨prAt_len h.len hi, numsOk_sub h.num _ _⟩
theorem PrOk.put (h : PrOk p n l) (hi : i < n) {q : List Int} (hq : q.length = 27) (hqn : numsOk p q = true) : PrOk p n (prPut l i q) := ⟨by rw [prPut, putL_len]; exact h.len, numsOk_putL h.num hqn (by rw [h.len]; omega)⟩
theorem PrOk.raw (hp : 2 ≤ p ∧ p ≤ 5) (h : PrOk p n l) (hi : i < n) (hj : j < n) : PrOk p n (wkRaw p l i j w) := by
  obtain ⟨a1, a2⟩ := h.at_ hi
  obtain ⟨b1, b2⟩ := h.at_ hj
  obtain ⟨c1, c2⟩ := wkOne_ok hp (g := (w + 1) % 3) (Nat.mod_lt _ (by decide)) a1 b1 a2 b2
  obtain ⟨d1, d2⟩ := wkTwo_ok hp (g := (w + 2) % 3) (Nat.mod_lt _ (by decide)) c1 b1 c2 b2
  exact (h.put hi c1 c2).put hj d1 d2
theorem PrOk.kept (h : PrOk p n l) : PrOk p (keptN l n) (keptL l n) := ⟨keptL_length h.len (Nat.le_refl _), numsOk_kept h.num _⟩
theorem PrOk.do_ (hp : 2 ≤ p ∧ p ≤ 5) (h : PrOk p n l) (hi : i < n) (hj : j < n) : ∃ m, m ≤ n ∧ PrOk p m (wkDo p l n i j w) := by
  unfold wkDo
  split
  · exact ⟨n, Nat.le_refl _, h⟩
  · exact ⟨_, keptN_le _ _, (h.raw hp hi hj).kept⟩
theorem tmod_nat {s : Int} (hs : 0 ≤ s) (hn : 0 < n) : Int.toNat (s.tmod n) < n := by
  have := Int.tmod_lt_of_pos s (show (0 : Int) < n by omega)
  have := Int.tmod_nonneg (n : Int) hs
  omega
theorem PrOk.step (hp : 2 ≤ p ∧ p ≤ 5) (h : PrOk p n l) {s : Int} (hs : 0 ≤ s ∧ s ≤ 2147483646) : ∃ m, m ≤ n ∧ PrOk p m (wkStep p l s) := by
  have h1 := nxS_rng hs
  have h2 := nxS_rng h1
  have e : l.length / 27 = n := by rw [h.len, Nat.mul_div_cancel _ (by decide)]
  simp only [wkStep, e]
  split
  · exact ⟨n, Nat.le_refl _, h⟩
  · exact h.do_ hp (tmod_nat h1.1 (by omega)) (tmod_nat h2.1 (by omega))
theorem PrOk.walk (hp : 2 ≤ p ∧ p ≤ 5) (h : PrOk p n l) {s : Int} (hs : 0 ≤ s ∧ s ≤ 2147483646) : ∀ t, ∃ m, m ≤ n ∧ PrOk p m (wkL p l s t)
  | 0 => ⟨n, Nat.le_refl _, h⟩
  | t + 1 => by
    obtain ⟨m, h1, h2⟩ := PrOk.walk hp h hs t
    obtain ⟨m', h3, h4⟩ := h2.step hp (wkS_rng hs t)
    exact ⟨m', Nat.le_trans h3 h1, h4⟩
end

/-- Which of three forms is to be added if two products are merged. -/
def thirdV (q r : List Int) : Int := if fmAt q 0 = fmAt r 0 ∧ fmAt q 1 = fmAt r 1 then 2 else if fmAt q 0 = fmAt r 0 ∧ fmAt q 2 = fmAt r 2 then 1 else if fmAt q 1 = fmAt r 1 ∧ fmAt q 2 = fmAt r 2 then 0 else -1
/-- The first product behind another one with which that can be merged. -/
def mgJ (l : List Int) (i : Nat) : Nat → Nat → Nat
  | 0, j => j
  | f + 1, j => if thirdV (prAt l i) (prAt l j) < 0 then mgJ l i f (j + 1) else j
def mgJn (l : List Int) (n i : Nat) : Nat := mgJ l i (n - (i + 1)) (i + 1)
def mgI (l : List Int) (n : Nat) : Nat → Nat → Nat
  | 0, i => i
  | f + 1, i => if mgJn l n i < n then i else mgI l n f (i + 1)
def mgIn (l : List Int) (n : Nat) : Nat := mgI l n n 0
/-- Products without one of them. -/
def prDel (l : List Int) (j : Nat) : List Int := l.take (j * 27) ++ l.drop ((j + 1) * 27)
def mgRaw (p : Int) (l : List Int) (i j : Nat) : List Int := prPut (prDel l j) i (wkOne p (Int.toNat (thirdV (prAt l i) (prAt l j))) (prAt l i) (prAt l j))
def mgOne (p : Int) (l : List Int) (n : Nat) : List Int := keptL (mgRaw p l (mgIn l n) (mgJn l n (mgIn l n))) (n - 1)
def mgAll (p : Int) : Nat → List Int → List Int
  | 0, l => l
  | f + 1, l => if mgIn l (l.length / 27) < l.length / 27 then mgAll p f (mgOne p l (l.length / 27)) else l
theorem mgJ_yes {l : List Int} {i f j : Nat} (h : ¬ thirdV (prAt l i) (prAt l j) < 0) (hf : 0 < f) : mgJ l i f j = j := by
  cases f with
  | zero => omega
  | succ f => rw [mgJ, if_neg h]
theorem mgJ_no {l : List Int} {i f j : Nat} (h : thirdV (prAt l i) (prAt l j) < 0) : mgJ l i (f + 1) j = mgJ l i f (j + 1) := by rw [mgJ, if_pos h]
theorem mgJ_ge {l : List Int} {i : Nat} : ∀ {f j : Nat}, j ≤ mgJ l i f j ∧ mgJ l i f j ≤ j + f
  | 0, j => ⟨Nat.le_refl _, Nat.le_refl _⟩
  | f + 1, j => by
    rw [mgJ]
    split
    · have := mgJ_ge (l := l) (i := i) (f := f) (j := j + 1); omega
    · omega
end Go.Proofs.Ytkalaahmbdimfaa
