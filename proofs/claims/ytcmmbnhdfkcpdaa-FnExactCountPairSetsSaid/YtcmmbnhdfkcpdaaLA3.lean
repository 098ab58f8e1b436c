/- A basis of rows, built one after the other: what it tells. -/
import Derived.Test.YtcmmbnhdfkcpdaaLA1
namespace Go.Proofs.Ytcmmbnhdfkcpdaa
open Go Go.Abs
set_option maxRecDepth 100000

set_option maxRecDepth 100000
set_option linter.unusedVariables false

def Span (p : Int) (V : Nat → Nat → Int) (m n : Nat) (u : Nat → Int) : Prop := ∃ y : Nat → Int, ∀ a, a < n → Cg p (u a) (sumF (fun k => y k * V k a) m)
section
variable {p : Int} {V : Nat → Nat → Int} {m n : Nat} {u v : Nat → Int}
theorem Span.cg (h : Span p V m n u) (e : ∀ a, a < n → Cg p (v a) (u a)) : Span p V m n v := let ⟨y, hy⟩ := h; ⟨y, fun a ha => (e a ha).trans (hy a ha)⟩
theorem Span.zero : Span p V m n fun _ => 0 := ⟨fun _ => 0, fun a _ => Cg.of (sumF_zero fun _ _ => Int.zero_mul _).symm⟩
theorem Span.add (h : Span p V m n u) (h' : Span p V m n v) : Span p V m n fun a => u a + v a := by
  obtain ⟨y, hy⟩ := h
  obtain ⟨z, hz⟩ := h'
  refine ⟨fun k => y k + z k, fun a ha => ((hy a ha).add (hz a ha)).trans (Cg.of ?_)⟩
  rw [← sumF_add]
  exact sumF_congr fun k _ => (Int.add_mul _ _ _).symm
theorem Span.smul (c : Int) (h : Span p V m n u) : Span p V m n fun a => c * u a := by
  obtain ⟨y, hy⟩ := h
  refine ⟨fun k => c * y k, fun a ha => ((hy a ha).mulL c).trans (Cg.of ?_)⟩
  rw [← sumF_mul]
  exact sumF_congr fun k _ => (Int.mul_assoc _ _ _).symm
theorem Span.sum {f : Nat → Nat → Int} : ∀ {r : Nat}, (∀ j, j < r → Span p V m n (f j)) → Span p V m n fun a => sumF (fun j => f j a) r
  | 0, _ => Span.zero
  | r + 1, h => (Span.sum fun j hj => h j (by omega)).add (h r (by omega))
theorem Span.row {k : Nat} (hk : k < m) : Span p V m n (V k) := by
  refine ⟨fun i => if i = k then 1 else 0, fun a ha => Cg.of ?_⟩
  rw [sumF_one hk fun j _ hne => by simp [hne]]
  simp
theorem Span.succ {V' : Nat → Nat → Int} (hV : ∀ k, k < m → ∀ a, a < n → V' k a = V k a) (h : Span p V m n u) : Span p V' (m + 1) n u := by
  obtain ⟨y, hy⟩ := h
  refine ⟨fun k => if k < m then y k else 0, fun a ha => (hy a ha).trans (Cg.of ?_)⟩
  rw [sumF]; dsimp only; rw [if_neg (Nat.lt_irrefl _), Int.zero_mul, Int.add_zero]
  exact sumF_congr fun k hk => by rw [if_pos hk, hV k hk a ha]
end

structure Bas (p : Int) (M : Nat → Nat → Int) (n r : Nat) (V : Nat → Nat → Int) (ld : Nat → Nat) (m i : Nat) : Prop where
  b1 : ∀ k, k < m → ∀ a, a < n → Cg p (V k a) (sumF (fun j => M a j * V k (n + j)) r)
  b2 : ∀ k, k < m → ∀ j, j < r → (i ≤ j ∨ Dep p M n j) → V k (n + j) = 0
  b3 : ∀ k, k < m → ld k < n ∧ V k (ld k) = 1 ∧ ∀ k', k' < k → V k (ld k') = 0
  b4 : ∀ j, j < i → Span p V m n fun a => M a j
theorem Bas.zero {p : Int} {M V : Nat → Nat → Int} {ld : Nat → Nat} {n r : Nat} : Bas p M n r V ld 0 0 := ⟨fun _ h => by omega, fun _ h => by omega, fun _ h => by omega, fun _ h => by omega⟩
/-- A row from which the first rows of the basis have been taken. -/
structure Red (p : Int) (V : Nat → Nat → Int) (ld : Nat → Nat) (s : Nat) (w0 w : Nat → Int) (k : Nat) : Prop where
  r1 : ∃ y : Nat → Int, ∀ l, l < s → Cg p (w0 l) (w l + sumF (fun t => y t * V t l) k)
  r2 : ∀ t, t < k → w (ld t) = 0
  rng : ∀ l, l < s → 0 ≤ w l ∧ w l < p
theorem Red.zero {p : Int} {V : Nat → Nat → Int} {ld : Nat → Nat} {s : Nat} {w : Nat → Int} (h : ∀ l, l < s → 0 ≤ w l ∧ w l < p) : Red p V ld s w w 0 := ⟨⟨fun _ => 0, fun l _ => Cg.of (by simp [sumF])⟩, fun _ h => by omega, h⟩
section
variable {p : Int} {M V : Nat → Nat → Int} {ld : Nat → Nat} {n r m i : Nat}
theorem Red.step {w0 w w' : Nat → Int} {k : Nat} (hB : Bas p M n r V ld m i) (h : Red p V ld (n + r) w0 w k) (hk : k < m) (hp : 2 ≤ p) (hw : ∀ l, l < n + r → w' l = (w l - w (ld k) * V k l) % p) : Red p V ld (n + r) w0 w' (k + 1) := by
  obtain ⟨y, hy⟩ := h.r1
  have b3 := hB.b3 k hk
  refine ⟨⟨fun t => if t < k then y t else w (ld k), fun l hl => (hy l hl).trans ?_⟩, fun t ht => ?_, fun l hl => ?_⟩
  · rw [sumF]; dsimp only; rw [if_neg (Nat.lt_irrefl _), sumF_congr (f := fun t => (if t < k then y t else w (ld k)) * V t l) (g := fun t => y t * V t l) fun t ht => by rw [if_pos ht]]
    have h1 : Cg p (w' l) (w l - w (ld k) * V k l) := by rw [hw l hl]; exact Cg.emod
    have h2 := h1.symm.add (Cg.rfl' (p := p) (a := sumF (fun t => y t * V t l) k + w (ld k) * V k l))
    rwa [show w l - w (ld k) * V k l + (sumF (fun t => y t * V t l) k + w (ld k) * V k l) = w l + sumF (fun t => y t * V t l) k by omega] at h2
  · by_cases e : t = k
    · subst e
      rw [hw _ (by omega), b3.2.1, Int.mul_one, Int.sub_self]; exact Int.zero_emod p
    · have h3 := hB.b3 t (by omega)
      rw [hw _ (by omega), h.r2 t (by omega), b3.2.2 t (by omega), Int.mul_zero, Int.sub_self]; exact Int.zero_emod p
  · rw [hw l hl]
    exact ⟨Int.emod_nonneg _ (by omega), Int.emod_lt_of_pos _ (by omega)⟩

theorem Bas.span_zero (hB : Bas p M n r V ld m i) {u : Nat → Int} (h : Span p V m n u) (hz : ∀ t, t < m → p ∣ u (ld t)) : ∀ a, a < n → p ∣ u a := by
  obtain ⟨y, hy⟩ := h
  have key : ∀ t, t < m → p ∣ y t := by
    intro t
    induction t using Nat.strongRecOn with
    | ind t ih =>
      intro ht
      obtain ⟨h1, h2, h3⟩ := hB.b3 t ht
      have h4 : p ∣ sumF (fun k => y k * V k (ld t)) m := (hy _ h1).dvd_iff.1 (hz t ht)
      rw [sumF_ext (n := t + 1) (by omega) fun k h5 h6 => by rw [(hB.b3 k h6).2.2 t (by omega), Int.mul_zero], sumF, h2, Int.mul_one] at h4
      have h5 : p ∣ sumF (fun k => y k * V k (ld t)) t := sumF_dvd fun k hk => Int.dvd_trans (ih k hk (by omega)) (Int.dvd_mul_right _ _)
      have := Int.dvd_sub h4 h5
      rwa [show sumF (fun k => y k * V k (ld t)) t + y t - sumF (fun k => y k * V k (ld t)) t = y t by omega] at this
  exact fun a ha => (hy a ha).dvd_iff.2 (sumF_dvd fun k hk => Int.dvd_trans (key k hk) (Int.dvd_mul_right _ _))

/-- The tables' sum that a reduced row is. -/
theorem Bas.red_sum (hB : Bas p M n r V ld m i) {w0 w : Nat → Int} (h : Red p V ld (n + r) w0 w m) {a : Nat} (ha : a < n) : Cg p (w a - sumF (fun j => M a j * w (n + j)) r) (w0 a - sumF (fun j => M a j * w0 (n + j)) r) := by
  obtain ⟨y, hy⟩ := h.r1
  have h1 := hy a (by omega)
  have h2 : Cg p (sumF (fun j => M a j * w0 (n + j)) r) (sumF (fun j => M a j * w (n + j)) r + sumF (fun t => y t * V t a) m) := by
    refine (sumF_cg fun j hj => (hy (n + j) (by omega)).mulL (M a j)).trans ?_
    rw [sumF_congr fun j hj => Int.mul_add _ _ _, sumF_add]
    refine Cg.rfl'.add ?_
    have e1 : sumF (fun j => M a j * sumF (fun t => y t * V t (n + j)) m) r = sumF (fun t => y t * sumF (fun j => M a j * V t (n + j)) r) m := by
      rw [sumF_congr (g := fun j => sumF (fun t => M a j * (y t * V t (n + j))) m) fun j hj => (sumF_mul _ _ _).symm, sumF_swap]
      refine sumF_congr fun t ht => ?_
      rw [← sumF_mul]
      exact sumF_congr fun j hj => Int.mul_left_comm _ _ _
    rw [e1]
    exact sumF_cg fun t ht => ((hB.b1 t ht a ha).symm).mulL _
  have h3 := h1.sub h2
  have h4 := h3.symm
  rwa [show w a + sumF (fun t => y t * V t a) m - (sumF (fun j => M a j * w (n + j)) r + sumF (fun t => y t * V t a) m) = w a - sumF (fun j => M a j * w (n + j)) r by omega] at h4
theorem Bas.red_span (hB : Bas p M n r V ld m i) {w0 w : Nat → Int} (h : Red p V ld (n + r) w0 w m) (h0 : Span p V m n w0) : Span p V m n w := by
  obtain ⟨y, hy⟩ := h.r1
  have h1 : Span p V m n fun a => sumF (fun t => y t * V t a) m := ⟨y, fun a _ => Cg.rfl'⟩
  refine (h0.add (h1.smul (-1))).cg fun a ha => ?_
  have h2 := (hy a (by omega)).sub (Cg.rfl' (p := p) (a := sumF (fun t => y t * V t a) m))
  rw [Int.add_sub_cancel] at h2
  have e : w0 a + -1 * sumF (fun t => y t * V t a) m = w0 a - sumF (fun t => y t * V t a) m := by omega
  rw [e]
  exact h2.symm
theorem Bas.red_free (hB : Bas p M n r V ld m i) (hp : 2 ≤ p) {w0 w : Nat → Int} (h : Red p V ld (n + r) w0 w m) {j : Nat} (hj : j < r) (hd : i ≤ j ∨ Dep p M n j) : Cg p (w (n + j)) (w0 (n + j)) := by
  obtain ⟨y, hy⟩ := h.r1
  have h1 := hy (n + j) (by omega)
  rw [sumF_zero fun t ht => by rw [hB.b2 t ht j hj hd, Int.mul_zero], Int.add_zero] at h1
  exact h1.symm

/-- The row of a pair: its table, and 1 at its number. -/
def tabV (M : Nat → Nat → Int) (n i : Nat) (l : Nat) : Int := if l < n then M l i else if l = n + i then 1 else 0
theorem tabV_lo {a : Nat} (ha : a < n) : tabV M n i a = M a i := if_pos ha
theorem tabV_hi (j : Nat) : tabV M n i (n + j) = if j = i then 1 else 0 := by
  rw [tabV, if_neg (by omega)]
  by_cases e : j = i
  · rw [if_pos (by omega), if_pos e]
  · rw [if_neg (by omega), if_neg e]
theorem tab_sum (hi : i < r) {a : Nat} (ha : a < n) : tabV M n i a - sumF (fun j => M a j * tabV M n i (n + j)) r = 0 := by
  rw [tabV_lo ha, sumF_one hi fun j hj hne => by rw [tabV_hi, if_neg hne, Int.mul_zero], tabV_hi, if_pos rfl]; omega

theorem Bas.dep (hB : Bas p M n r V ld m i) (hp : 2 ≤ p) (hi : i < r) {w : Nat → Int} (h : Red p V ld (n + r) (tabV M n i) w m) (hz : ∀ a, a < n → w a = 0) : Dep p M n i ∧ Bas p M n r V ld m (i + 1) := by
  have hd : Dep p M n i := by
    refine ⟨fun j => w (n + j), ?_, fun a ha => ?_⟩
    · have h1 := hB.red_free hp h hi (.inl (Nat.le_refl _))
      rw [tabV_hi, if_pos rfl] at h1
      exact h1.eq (h.rng _ (by omega)) (by omega)
    · have h1 := hB.red_sum h ha
      rw [tab_sum hi ha, hz a ha] at h1
      have h2 : p ∣ sumF (fun j => M a j * w (n + j)) r := by
        have := Int.dvd_neg.2 (Cg.zero_iff.1 h1)
        rwa [show -(0 - sumF (fun j => M a j * w (n + j)) r) = sumF (fun j => M a j * w (n + j)) r by omega] at this
      rwa [sumF_ext (n := i + 1) (by omega) fun j h1 h2 => ?_] at h2
      have h3 := hB.red_free hp h h2 (.inl (by omega))
      rw [tabV_hi, if_neg (by omega)] at h3
      rw [h3.eq (h.rng _ (by omega)) (by omega), Int.mul_zero]
  refine ⟨hd, hB.b1, fun k hk j hj hh => hB.b2 k hk j hj (hh.imp (by omega) id), hB.b3, fun j hj => ?_⟩
  by_cases e : j = i
  · subst e
    obtain ⟨y, hy⟩ := h.r1
    refine ⟨y, fun a ha => ?_⟩
    have := hy a (by omega)
    rwa [tabV_lo ha, hz a ha, Int.zero_add] at this
  · exact hB.b4 j (by omega)
theorem Bas.indep (hB : Bas p M n r V ld m i) (hp : 2 ≤ p) (hi : i < r) {w : Nat → Int} (h : Red p V ld (n + r) (tabV M n i) w m) {at_ : Nat} (hat : at_ < n) (hne : w at_ ≠ 0) {c : Int} (hc : Cg p (w at_ * c) 1) {V' : Nat → Nat → Int} {ld' : Nat → Nat}
    (hV : ∀ k, k < m → ∀ l, l < n + r → V' k l = V k l) (hl : ∀ k, k < m → ld' k = ld k) (hlm : ld' m = at_) (hVm : ∀ l, l < n + r → V' m l = w l * c % p) : ¬ Dep p M n i ∧ Bas p M n r V' ld' (m + 1) (i + 1) := by
  have hnd : ¬ Dep p M n i := by
    rintro ⟨x, hx, hs⟩
    have h1 : Span p V m n fun a => M a i := by
      have h2 : Span p V m n fun a => sumF (fun j => x j * M a j) i := Span.sum fun j hj => (hB.b4 j hj).smul (x j)
      refine (h2.smul (-1)).cg fun a ha => ?_
      have h3 := hs a ha
      rw [sumF, hx, Int.mul_one] at h3
      rw [sumF_congr (g := fun j => M a j * x j) fun j hj => Int.mul_comm _ _]
      unfold Cg
      rwa [show M a i - -1 * sumF (fun j => M a j * x j) i = sumF (fun j => M a j * x j) i + M a i by omega]
    have h2 : Span p V m n (tabV M n i) := h1.cg fun a ha => Cg.of (tabV_lo ha)
    have h3 := hB.span_zero (hB.red_span h h2) (fun t ht => by rw [h.r2 t ht]; exact Int.dvd_zero p) at_ hat
    have h4 := h.rng at_ (by omega)
    have := Int.le_of_dvd (by omega) h3
    omega
  have hw : ∀ l, l < n + r → w l = 0 → V' m l = 0 := fun l h1 h2 => by rw [hVm l h1, h2, Int.zero_mul]; exact Int.zero_emod p
  refine ⟨hnd, fun k hk a ha => ?_, fun k hk j hj hh => ?_, fun k hk => ?_, fun j hj => ?_⟩
  · by_cases e : k = m
    · subst e
      have h1 := hB.red_sum h ha
      rw [tab_sum hi ha] at h1
      have h2 : Cg p (w a) (sumF (fun j => M a j * w (n + j)) r) := by unfold Cg; exact Cg.zero_iff.1 h1
      rw [hVm a (by omega)]
      refine Cg.emod.trans ((h2.mul (Cg.rfl' (a := c))).trans ?_)
      rw [Int.mul_comm, ← sumF_mul]
      refine sumF_cg fun j hj => ?_
      rw [Int.mul_left_comm]
      refine Cg.mulL _ ?_
      rw [hVm _ (by omega), Int.mul_comm]
      exact Cg.emod.symm
    · rw [hV k (by omega) a (by omega), sumF_congr (g := fun j => M a j * V k (n + j)) fun j hj => by rw [hV k (by omega) _ (by omega)]]
      exact hB.b1 k (by omega) a ha
  · by_cases e : k = m
    · subst e
      refine hw _ (by omega) ?_
      have h2 : j ≠ i := by rintro rfl; rcases hh with h3 | h3; omega; exact hnd h3
      have h1 := hB.red_free hp h hj (hh.imp (by omega) id)
      rw [tabV_hi, if_neg h2] at h1
      exact h1.eq (h.rng _ (by omega)) (by omega)
    · rw [hV k (by omega) _ (by omega)]
      exact hB.b2 k (by omega) j hj (hh.imp (by omega) id)
  · by_cases e : k = m
    · subst e
      rw [hlm]
      refine ⟨hat, ?_, fun k' hk' => ?_⟩
      · rw [hVm at_ (by omega)]
        exact Cg.eq (Cg.emod.trans hc) ⟨Int.emod_nonneg _ (by omega), Int.emod_lt_of_pos _ (by omega)⟩ (by omega)
      · have := (hB.b3 k' hk').1
        rw [hl k' hk']
        exact hw _ (by omega) (h.r2 k' hk')
    · have h1 := hB.b3 k (by omega)
      rw [hl k (by omega), hV k (by omega) _ (by omega)]
      refine ⟨h1.1, h1.2.1, fun k' hk' => ?_⟩
      have h2 := hB.b3 k' (by omega)
      rw [hl k' (by omega), hV k (by omega) _ (by omega)]
      exact h1.2.2 k' hk'
  · by_cases e : j = i
    · subst e
      obtain ⟨y, hy⟩ := h.r1
      refine ⟨fun k => if k < m then y k else w at_, fun a ha => ?_⟩
      have h1 := hy a (by omega)
      rw [tabV_lo ha] at h1
      refine h1.trans ?_
      rw [sumF]; dsimp only; rw [if_neg (Nat.lt_irrefl _), sumF_congr (f := fun k => (if k < m then y k else w at_) * V' k a) (g := fun k => y k * V k a) fun k hk => by rw [if_pos hk, hV k hk a (by omega)], Int.add_comm]
      refine Cg.rfl'.add ?_
      rw [hVm a (by omega)]
      have h2 : Cg p (w at_ * (w a * c % p)) (w at_ * (w a * c)) := Cg.emod.mulL _
      refine Cg.symm (h2.trans ?_)
      have h3 : Cg p (w a * (w at_ * c)) (w a * 1) := hc.mulL _
      rw [Int.mul_one] at h3
      rwa [Int.mul_left_comm]
    · exact (hB.b4 j (by omega)).succ fun k hk a ha => hV k hk a (by omega)

/-- Right sides, and 0 for all pairs. -/
def rhsV (W : Nat → Int) (n : Nat) (l : Nat) : Int := if l < n then W l else 0
theorem rhs_sum {W : Nat → Int} {a : Nat} (ha : a < n) : rhsV W n a - sumF (fun j => M a j * rhsV W n (n + j)) r = W a := by
  rw [rhsV, if_pos ha, sumF_zero fun j _ => by rw [rhsV, if_neg (by omega), Int.mul_zero]]; omega
theorem Bas.sol (hB : Bas p M n r V ld m r) (hp : 2 ≤ p) {W w : Nat → Int} (h : Red p V ld (n + r) (rhsV W n) w m) (hz : ∀ a, a < n → w a = 0) : Sol p M n r W fun j => (- w (n + j)) % p := by
  refine ⟨fun a ha => ?_, fun j hj hd => ?_, fun j hj => ⟨Int.emod_nonneg _ (by omega), Int.emod_lt_of_pos _ (by omega)⟩⟩
  · have h1 := hB.red_sum h ha
    rw [rhs_sum ha, hz a ha] at h1
    refine Cg.trans ?_ h1
    rw [Int.zero_sub, show -sumF (fun j => M a j * w (n + j)) r = -1 * sumF (fun j => M a j * w (n + j)) r by omega, ← sumF_mul]
    refine sumF_cg fun j hj => ?_
    refine (Cg.emod.mulL _).trans (Cg.of ?_)
    rw [Int.mul_neg]; omega
  · have h1 := hB.red_free hp h hj (.inr hd)
    rw [rhsV, if_neg (by omega)] at h1
    rw [h1.eq (h.rng _ (by omega)) (by omega)]
    exact Int.zero_emod p
theorem Bas.nosol (hB : Bas p M n r V ld m r) (hp : 2 ≤ p) {W w : Nat → Int} (h : Red p V ld (n + r) (rhsV W n) w m) {a : Nat} (ha : a < n) (hne : w a ≠ 0) (x : Nat → Int) : ¬ Sol p M n r W x := by
  intro hs
  have h1 : Span p V m n fun a => sumF (fun j => x j * M a j) r := Span.sum fun j hj => (hB.b4 j hj).smul (x j)
  have h2 : Span p V m n (rhsV W n) := h1.cg fun a ha => by
    rw [rhsV, if_pos ha, sumF_congr (g := fun j => M a j * x j) fun j hj => Int.mul_comm _ _]
    exact (hs.eqn a ha).symm
  have h3 := hB.span_zero (hB.red_span h h2) (fun t ht => by rw [h.r2 t ht]; exact Int.dvd_zero p) a ha
  have h4 := h.rng a (by omega)
  have := Int.le_of_dvd (by omega) h3
  omega
end
end Go.Proofs.Ytcmmbnhdfkcpdaa
