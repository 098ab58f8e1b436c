/- Sums modulo a prime; which columns depend on those before; solutions are unique. -/
import Derived.Test.YtcmmbnhdfkcpdaaH2
namespace Go.Proofs.Ytcmmbnhdfkcpdaa
open Go Go.Abs
set_option maxRecDepth 100000

set_option maxRecDepth 100000
set_option linter.unusedVariables false

def sumF (f : Nat → Int) : Nat → Int
  | 0 => 0
  | n + 1 => sumF f n + f n
theorem sumF_congr {f g : Nat → Int} : ∀ {n : Nat}, (∀ j, j < n → f j = g j) → sumF f n = sumF g n
  | 0, _ => rfl
  | n + 1, h => by rw [sumF, sumF, sumF_congr fun j hj => h j (by omega), h n (by omega)]
theorem sumF_zero {f : Nat → Int} : ∀ {n : Nat}, (∀ j, j < n → f j = 0) → sumF f n = 0
  | 0, _ => rfl
  | n + 1, h => by rw [sumF, sumF_zero fun j hj => h j (by omega), h n (by omega)]; rfl
theorem sumF_add (f g : Nat → Int) : ∀ n : Nat, sumF (fun j => f j + g j) n = sumF f n + sumF g n
  | 0 => rfl
  | n + 1 => by simp only [sumF, sumF_add f g n]; omega
theorem sumF_mul (k : Int) (f : Nat → Int) : ∀ n : Nat, sumF (fun j => k * f j) n = k * sumF f n
  | 0 => by simp [sumF]
  | n + 1 => by simp only [sumF, sumF_mul k f n, Int.mul_add]
theorem sumF_ext {f : Nat → Int} {n m : Nat} (h : n ≤ m) (hz : ∀ j, n ≤ j → j < m → f j = 0) : sumF f m = sumF f n := by
  induction m with
  | zero => rw [show n = 0 by omega]
  | succ m ih =>
    by_cases e : n = m + 1
    · rw [e]
    · rw [sumF, ih (by omega) (fun j h1 h2 => hz j h1 (by omega)), hz m (by omega) (by omega)]; omega
theorem sumF_one {f : Nat → Int} {n i : Nat} (hi : i < n) (hz : ∀ j, j < n → j ≠ i → f j = 0) : sumF f n = f i := by
  rw [sumF_ext (n := i + 1) hi fun j h1 h2 => hz j h2 (by omega), sumF, sumF_zero fun j hj => hz j (by omega) (by omega)]; omega
theorem sumF_dvd {p : Int} {f : Nat → Int} : ∀ {n : Nat}, (∀ j, j < n → p ∣ f j) → p ∣ sumF f n
  | 0, _ => Int.dvd_zero p
  | n + 1, h => Int.dvd_add (sumF_dvd fun j hj => h j (by omega)) (h n (by omega))
theorem sumF_swap (f : Nat → Nat → Int) (m : Nat) : ∀ n : Nat, sumF (fun i => sumF (f i) m) n = sumF (fun j => sumF (fun i => f i j) n) m
  | 0 => (sumF_zero fun _ _ => rfl).symm
  | n + 1 => by simp only [sumF, sumF_swap f m n, sumF_add]

/-- Equal modulo p. -/
def Cg (p a b : Int) : Prop := p ∣ a - b
section
variable {p a b c d : Int}
theorem Cg.rfl' : Cg p a a := by simp [Cg, Int.sub_self]
theorem Cg.of (h : a = b) : Cg p a b := h ▸ Cg.rfl'
theorem Cg.symm (h : Cg p a b) : Cg p b a := by have := Int.dvd_neg.2 h; rwa [Int.neg_sub] at this
theorem Cg.trans (h : Cg p a b) (h' : Cg p b c) : Cg p a c := by have := Int.dvd_add h h'; rwa [show a - b + (b - c) = a - c by omega] at this
theorem Cg.add (h : Cg p a b) (h' : Cg p c d) : Cg p (a + c) (b + d) := by have := Int.dvd_add h h'; rwa [show a - b + (c - d) = a + c - (b + d) by omega] at this
theorem Cg.sub (h : Cg p a b) (h' : Cg p c d) : Cg p (a - c) (b - d) := by have := Int.dvd_sub h h'; rwa [show a - b - (c - d) = a - c - (b - d) by omega] at this
theorem Cg.mul (h : Cg p a b) (h' : Cg p c d) : Cg p (a * c) (b * d) := by
  have h1 : p ∣ (a - b) * c := Int.dvd_trans h (Int.dvd_mul_right _ _)
  have h2 : p ∣ b * (c - d) := Int.dvd_trans h' (Int.dvd_mul_left _ _)
  have := Int.dvd_add h1 h2
  rwa [Int.sub_mul, Int.mul_sub, show a * c - b * c + (b * c - b * d) = a * c - b * d by omega] at this
theorem Cg.mulL (k : Int) (h : Cg p a b) : Cg p (k * a) (k * b) := Cg.rfl'.mul h
theorem Cg.emod : Cg p (a % p) a := by
  unfold Cg
  rw [Int.emod_def, show a - p * (a / p) - a = -(p * (a / p)) by omega]
  exact Int.dvd_neg.2 (Int.dvd_mul_right _ _)
theorem Cg.zero_iff : Cg p a 0 ↔ p ∣ a := by simp [Cg]
theorem Cg.dvd_iff (h : Cg p a b) : p ∣ a ↔ p ∣ b := by rw [← Cg.zero_iff, ← Cg.zero_iff]; exact ⟨h.symm.trans, h.trans⟩
theorem Cg.emod_eq (h : Cg p a b) : a % p = b % p := Int.emod_eq_emod_iff_emod_sub_eq_zero.2 (Int.emod_eq_zero_of_dvd h)
theorem Cg.of_emod (h : a % p = b % p) : Cg p a b := Int.dvd_of_emod_eq_zero (Int.emod_eq_emod_iff_emod_sub_eq_zero.1 h)
theorem Cg.eq (h : Cg p a b) (ha : 0 ≤ a ∧ a < p) (hb : 0 ≤ b ∧ b < p) : a = b := by
  have := h.emod_eq
  rwa [Int.emod_eq_of_lt ha.1 ha.2, Int.emod_eq_of_lt hb.1 hb.2] at this
end
theorem sumF_cg {p : Int} {f g : Nat → Int} : ∀ {n : Nat}, (∀ j, j < n → Cg p (f j) (g j)) → Cg p (sumF f n) (sumF g n)
  | 0, _ => Cg.rfl'
  | n + 1, h => (sumF_cg fun j hj => h j (by omega)).add (h n (by omega))
/-- Each number that p does not divide has an inverse. -/
def HasInv (p : Int) : Prop := ∀ x : Int, ¬ p ∣ x → ∃ y, Cg p (y * x) 1
theorem isP_inv {p : Int} (h : isP p = true) : HasInv p := by
  intro x hx
  have h0 : x % p ≠ 0 := fun e => hx (Int.dvd_of_emod_eq_zero e)
  have hc : Cg p x (x % p) := Cg.emod.symm
  have fin : ∀ y : Int, (y * (x % p)) % p = 1 % p → ∃ y, Cg p (y * x) 1 := fun y hy => ⟨y, (hc.mulL y).trans (Cg.of_emod hy)⟩
  have hp : p = 2 ∨ p = 3 ∨ p = 5 := by simp [isP] at h; omega
  rcases hp with rfl | rfl | rfl
  · have : x % 2 = 1 := by omega
    exact fin 1 (by rw [this]; decide)
  · have : x % 3 = 1 ∨ x % 3 = 2 := by omega
    rcases this with e | e
    · exact fin 1 (by rw [e]; decide)
    · exact fin 2 (by rw [e]; decide)
  · have : x % 5 = 1 ∨ x % 5 = 2 ∨ x % 5 = 3 ∨ x % 5 = 4 := by omega
    rcases this with e | e | e | e
    · exact fin 1 (by rw [e]; decide)
    · exact fin 3 (by rw [e]; decide)
    · exact fin 2 (by rw [e]; decide)
    · exact fin 4 (by rw [e]; decide)

/-- A column is a sum of multiples of those before it. -/
def Dep (p : Int) (M : Nat → Nat → Int) (n i : Nat) : Prop := ∃ x : Nat → Int, x i = 1 ∧ ∀ a, a < n → p ∣ sumF (fun j => M a j * x j) (i + 1)
/-- A solution in which the columns that depend on others are not used. -/
structure Sol (p : Int) (M : Nat → Nat → Int) (n r : Nat) (W : Nat → Int) (x : Nat → Int) : Prop where
  eqn : ∀ a, a < n → Cg p (sumF (fun j => M a j * x j) r) (W a)
  dep : ∀ j, j < r → Dep p M n j → x j = 0
  rng : ∀ j, j < r → 0 ≤ x j ∧ x j < p
theorem Sol.unique {p : Int} {M : Nat → Nat → Int} {n r : Nat} {W x y : Nat → Int} (hp : HasInv p) (hx : Sol p M n r W x) (hy : Sol p M n r W y) : ∀ j, j < r → x j = y j := by
  have key : ∀ d m : Nat, m + d = r → ∀ j, m ≤ j → j < r → x j = y j := by
    intro d
    induction d with
    | zero => intro m hm j h1 h2; omega
    | succ d ih =>
      intro m hm j h1 h2
      have rest := ih (m + 1) (by omega)
      by_cases e : j = m
      · subst e
        apply Classical.byContradiction
        intro hne
        have hnd : ¬ p ∣ x j - y j := fun hd => hne (Cg.eq hd (hx.rng j h2) (hy.rng j h2))
        obtain ⟨v, hv⟩ := hp _ hnd
        have hD : Dep p M n j := by
          refine ⟨fun i => if i = j then 1 else v * (x i - y i), by simp, fun a ha => ?_⟩
          have h3 : Cg p (sumF (fun i => M a i * x i) r - sumF (fun i => M a i * y i) r) 0 := by
            have := (hx.eqn a ha).sub (hy.eqn a ha)
            rwa [Int.sub_self] at this
          have h4 : sumF (fun i => M a i * x i) r - sumF (fun i => M a i * y i) r = sumF (fun i => M a i * (x i - y i)) (j + 1) := by
            rw [← sumF_ext (f := fun i => M a i * (x i - y i)) (n := j + 1) (m := r) (by omega) fun i h5 h6 => by simp only [rest i (by omega) h6, Int.sub_self, Int.mul_zero]]
            have h7 := sumF_add (fun i => M a i * (x i - y i)) (fun i => M a i * y i) r
            have h8 : sumF (fun i => M a i * (x i - y i) + M a i * y i) r = sumF (fun i => M a i * x i) r := sumF_congr fun i _ => by rw [Int.mul_sub]; omega
            omega
          rw [h4] at h3
          have h5 := h3.mulL v
          rw [Int.mul_zero, ← sumF_mul] at h5
          refine Cg.zero_iff.1 (Cg.trans (sumF_cg fun i hi => ?_) h5)
          by_cases e : i = j
          · subst e
            simp only [if_true]
            have := (hv.mulL (M a i)).symm
            rwa [show M a i * (v * (x i - y i)) = v * (M a i * (x i - y i)) by rw [Int.mul_left_comm]] at this
          · simp only [e, if_false]
            exact Cg.of (Int.mul_left_comm _ _ _)
        exact hne ((hx.dep j h2 hD).trans (hy.dep j h2 hD).symm)
      · exact rest j (by omega) h2
  exact fun j hj => key r 0 (by omega) j (Nat.zero_le _) hj
end Go.Proofs.Ytcmmbnhdfkcpdaa
