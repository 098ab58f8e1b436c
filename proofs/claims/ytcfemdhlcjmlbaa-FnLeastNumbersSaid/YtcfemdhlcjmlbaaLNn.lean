/- What the row needs, part 14 of 17: the texts LLeast, C9, C10, without what it does not use. -/
import Derived.Test.YtcfemdhlcjmlbaaProg
import Derived.Test.YtcfemdhlcjmlbaaLNa
import Derived.Test.YtcfemdhlcjmlbaaLNb
import Derived.Test.YtcfemdhlcjmlbaaLNc
import Derived.Test.YtcfemdhlcjmlbaaLNd
import Derived.Test.YtcfemdhlcjmlbaaLNe
import Derived.Test.YtcfemdhlcjmlbaaLNf
import Derived.Test.YtcfemdhlcjmlbaaLNg
import Derived.Test.YtcfemdhlcjmlbaaLNh
import Derived.Test.YtcfemdhlcjmlbaaLNi
import Derived.Test.YtcfemdhlcjmlbaaLNk
import Derived.Test.YtcfemdhlcjmlbaaLNl
import Derived.Test.YtcfemdhlcjmlbaaLNm
/- The lower bound, plain laws; LeastNumber, both sides; its law. -/
namespace Go.Proofs.Ytcfemdhlcjmlbaa
open Go Go.Abs
set_option maxRecDepth 100000

/- loop.example/g01262/impl.LeastNumber -/
def c_impl_LeastNumber : SFn := ⟨(.seq (.ops [⟨some 6, .assign (.const (.int .i64 0)), none⟩, ⟨some 7, .assign (.const (.int .i64 0)), none⟩])
 (.seq (.seq (.ops [⟨some 9, .move (.tmp 0), none⟩, ⟨some 10, .move (.tmp 1), none⟩, ⟨some 11, .move (.tmp 2), none⟩, ⟨some 12, .call ⟨.value (.func 107), #[.tmp 9, .tmp 10, .tmp 11], #[2, 2, 2]⟩, none⟩, ⟨some 8, .assign (.tmp 12), none⟩])
   (.seq (.ops [⟨some 13, .move (.tmp 8), none⟩, ⟨some 14, .binOp .neq 2 (.tmp 13) (.const (.int .i64 0)) 2, none⟩])
    (.cond (.tmp 14) (.seq (.ops [⟨some 15, .move (.tmp 8), none⟩, ⟨some 6, .assign (.const (.int .i64 0)), none⟩, ⟨some 7, .assign (.tmp 15), none⟩])
      .ret)
     .skip)))
  (.seq (.ops [⟨some 16, .move (.tmp 0), none⟩, ⟨some 17, .move (.tmp 1), none⟩, ⟨some 18, .binOp .mul 2 (.tmp 16) (.tmp 17) 2, none⟩, ⟨some 19, .move (.tmp 2), none⟩, ⟨some 20, .binOp .mul 2 (.tmp 18) (.tmp 19) 2, none⟩, ⟨some 6, .assign (.tmp 20), none⟩, ⟨some 7, .assign (.const (.int .i64 0)), none⟩])
   .ret))), [.tmp 6, .tmp 7], 21⟩
theorem f_impl_LeastNumber : isFn Go.Proofs.Try.prog 12 = some c_impl_LeastNumber := by kernel_rfl


/- loop.example/g01262/spec.LeastNumber -/
def c_spec_LeastNumber : SFn := ⟨(.seq (.ops [⟨some 6, .assign (.const (.int .i64 0)), none⟩, ⟨some 7, .assign (.const (.int .i64 0)), none⟩])
 (.seq (.seq (.ops [⟨some 11, .move (.tmp 0), none⟩, ⟨some 12, .move (.tmp 1), none⟩, ⟨some 13, .move (.tmp 2), none⟩, ⟨some 14, .call ⟨.value (.func 108), #[.tmp 11, .tmp 12, .tmp 13], #[2, 2, 2]⟩, none⟩, ⟨some 15, .unOp .not 4 (.tmp 14), none⟩])
   (.cond (.tmp 15) (.seq (.ops [⟨some 6, .assign (.const (.int .i64 0)), none⟩, ⟨some 7, .assign (.const (.int .i64 2)), none⟩])
     .ret)
    .skip))
  (.seq (.ops [⟨some 16, .move (.tmp 0), none⟩, ⟨some 17, .move (.tmp 1), none⟩, ⟨some 18, .move (.tmp 2), none⟩, ⟨some 19, .build 53 #[(0, .const (.int .i64 2)), (1, .tmp 16), (2, .tmp 17), (3, .tmp 18)], none⟩, ⟨some 20, .move (.tmp 0), none⟩, ⟨some 21, .move (.tmp 1), none⟩, ⟨some 22, .move (.tmp 2), none⟩, ⟨some 23, .call ⟨.value (.func 109), #[.tmp 20, .tmp 21, .tmp 22], #[2, 2, 2]⟩, none⟩, ⟨some 8, .alloc 53, none⟩, ⟨none, .store 53 (.tmp 8) (.tmp 19), none⟩, ⟨some 9, .assign (.tmp 23), none⟩])
   (.seq (.ops [⟨some 10, .assign (.const (.int .i64 0)), none⟩])
    (.block 0 (.loop (.seq (.block 1 (.seq (.ops [⟨some 26, .load 53 (.tmp 8), none⟩, ⟨some 27, .move (.tmp 9), none⟩, ⟨some 28, .buildSlice 31 0 #[], none⟩, ⟨some 29, .move (.tmp 10), none⟩, ⟨some 30, .call ⟨.value (.func 110), #[.tmp 26, .tmp 27, .tmp 28, .const (.int .i64 0), .tmp 29, .const (.bool true)], #[53, 31, 31, 3, 2, 4]⟩, none⟩, ⟨some 31, .binOp .gtr 2 (.tmp 30) (.const (.int .i64 0)) 2, none⟩])
         (.cond (.tmp 31) (.seq (.ops [⟨some 32, .move (.tmp 10), none⟩, ⟨some 6, .assign (.tmp 32), none⟩, ⟨some 7, .assign (.const (.int .i64 0)), none⟩])
           .ret)
          .skip)))
       (.ops [⟨some 24, .move (.tmp 10), none⟩, ⟨some 25, .binOp .add 2 (.tmp 24) (.const (.int .i64 1)) 2, none⟩, ⟨some 10, .assign (.tmp 25), none⟩])))))))), [.tmp 6, .tmp 7], 33⟩
theorem f_spec_LeastNumber : isFn Go.Proofs.Try.prog 13 = some c_spec_LeastNumber := by kernel_rfl


set_option maxRecDepth 100000
set_option maxHeartbeats 16000000
set_option linter.unusedVariables false
attribute [-simp] List.getD_eq_getElem?_getD
attribute [-go_sem] confV

theorem nnC_all {l : List Int} : ∀ {t : Nat}, (∀ i, i < t → 0 ≤ l.getD i 0) → nnC l t = t
  | 0, _ => rfl
  | t + 1, h => by rw [nnC, if_pos (h t (by omega)), nnC_all fun i hi => h i (by omega)]
/-- Fewer rows than columns: some numbers, not all 0, that all rows take to 0. -/
theorem ker_ex {p : Int} {d D : Nat} (hP : isP p = true) (u : Nat → Nat → Int) (hu : ∀ q j, 0 ≤ u q j ∧ u q j < p) (h : d < D) : ∃ (g : Nat → Int) (i : Nat), i < D ∧ g i = 1 ∧ ∀ q, q < d → p ∣ sumF (fun j => u q j * g j) D := by
  have hp : 2 ≤ p := by simp [isP] at hP; omega
  obtain ⟨R, hR⟩ : ∃ R : List (List Int), R = (List.range d).map (fun q => (List.range D).map (u q)) := ⟨_, rfl⟩
  have hl : R.length = d := by rw [hR]; simp
  have hg : ∀ q, q < d → R.getD q [] = (List.range D).map (u q) := fun q hq => by rw [hR]; simp [List.getD_eq_getElem?_getD, hq]
  have hE : ∀ q j, q < d → j < D → Ef R q j = u q j := fun q j hq hj => by rw [Ef, hg q hq]; simp [List.getD_eq_getElem?_getD, hj]
  have hok : RkOk p D R := by
    constructor
    · intro q hq; rw [hg q (by omega)]; simp
    · intro q j hq
      by_cases hj : j < D
      · have := hE q j (by omega) hj; rw [Ef] at this; rw [this]; exact hu q j
      · rw [getD_none (by rw [hg q (by omega)]; simp; omega)]; omega
  obtain ⟨s1, s2, s3, s4, s5⟩ := svL_inv hP hok D (Nat.le_refl _)
  obtain ⟨-, hnn⟩ := svL_nn p R D
  rw [hl] at s4 s5
  generalize svL p R D = S at s1 s2 s3 s4 s5 hnn
  obtain ⟨R', at_, done⟩ := S
  dsimp only at s1 s2 s3 s4 s5 hnn
  have h6 := s4.p6
  have hex : ∃ i, i < D ∧ at_.getD i 0 = -1 := by
    apply Classical.byContradiction
    intro hno
    have : nnC at_ D = D := nnC_all fun i hi => by
      rcases s4.p1 i hi with e | ⟨q, -, e⟩
      · exact absurd ⟨i, hi, e⟩ hno
      · rw [atF] at e; omega
    omega
  obtain ⟨i, hi, ha⟩ := hex
  obtain ⟨x, hx1, hx2⟩ := (s4.dep hp s5 (Nat.le_refl _) i hi).2 ha
  refine ⟨fun j => if j ≤ i then x j else 0, i, hi, by simp [hx1], fun q hq => ?_⟩
  have e1 : sumF (fun j => u q j * (if j ≤ i then x j else 0)) D = sumF (fun j => Ef R q j * x j) (i + 1) := by
    rw [sumF_ext (n := i + 1) (by omega) fun j h1 h2 => by rw [if_neg (by omega), Int.mul_zero]]
    exact sumF_congr fun j hj => by rw [if_pos (by omega), hE q j hq (by omega)]
  show p ∣ sumF (fun j => u q j * (if j ≤ i then x j else 0)) D
  rw [e1]
  exact hx2 q hq
/-- A test that all tables fail and a right side passes. -/
theorem low {p : Int} {M : Nat → Nat → Int} {n0 r D i : Nat} {W : Nat → Int} (hp : 2 ≤ p) (hs : ∃ x : Nat → Int, ∀ a, a < n0 → Cg p (sumF (fun q => M a q * x q) r) (W a)) (aj : Nat → Nat) (haj : ∀ j, j < D → aj j < n0) (u : Nat → Nat → Int) (c : Nat → Int) (hf : ∀ j, j < D → ∀ q, q < r → Cg p (M (aj j) q) (c q * u q j))
    (g : Nat → Int) (hi : i < D) (hg : g i = 1) (hk : ∀ q, q < r → p ∣ sumF (fun j => u q j * g j) D) (hW : ∀ j, j < D → W (aj j) = if j = i then 1 else 0) : False := by
  obtain ⟨x, hx⟩ := hs
  have e1 : sumF (fun j => g j * W (aj j)) D = 1 := by
    rw [sumF_one hi fun j hj hne => by rw [hW j hj, if_neg hne, Int.mul_zero], hW i hi, if_pos rfl, hg]; rfl
  have e2 : Cg p (sumF (fun j => g j * W (aj j)) D) (sumF (fun j => g j * sumF (fun q => c q * u q j * x q) r) D) :=
    sumF_cg fun j hj => Cg.mulL _ ((hx _ (haj j hj)).symm.trans (sumF_cg fun q hq => (hf j hj q hq).mul Cg.rfl'))
  have e3 : sumF (fun j => g j * sumF (fun q => c q * u q j * x q) r) D = sumF (fun q => c q * x q * sumF (fun j => u q j * g j) D) r := by
    rw [sumF_congr (g := fun j => sumF (fun q => g j * (c q * u q j * x q)) r) fun j _ => (sumF_mul _ _ _).symm, sumF_swap]
    refine sumF_congr fun q _ => ?_
    rw [← sumF_mul]
    refine sumF_congr fun j _ => ?_
    rw [Int.mul_comm (g j), Int.mul_right_comm (c q), Int.mul_assoc]
  have e4 : p ∣ sumF (fun q => c q * x q * sumF (fun j => u q j * g j) D) r := sumF_dvd fun q hq => Int.dvd_trans (hk q hq) (Int.dvd_mul_left _ _)
  rw [e1, e3] at e2
  have := Int.le_of_dvd (by decide) (e2.dvd_iff.2 e4)
  omega
section
variable {p : Int} {n m k r : Nat} {l : List Int}
theorem cpOk_sol (hP : isP p = true) (hmod : modL p l) (h : cpOk p n m k r l = true) {z : Nat} (hz : z < n * k) : ∃ x : Nat → Int, ∀ a, a < n * m * (m * k) → Cg p (sumF (fun q => tabM p (m * k) l a q * x q) r) (wantV m k ((a / (m * k) : Nat) : Int) ((a % (m * k) : Nat) : Int) ((z : Nat) : Int)) := by
  have hp : 2 ≤ p := by simp [isP] at hP; omega
  have hB := bsL_inv (na := n * m) (nb := m * k) (n := n * m * (m * k)) (r := r) hP hmod r (Nat.le_refl _)
  have h1 : okS1 (redL p (n * m) (m * k) l (n * m * (m * k)) r m k z) (n * m * (m * k)) = true := (List.all_eq_true.1 (show ((List.range (n * k)).all fun z => okS1 (redL p (n * m) (m * k) l (n * m * (m * k)) r m k z) (n * m * (m * k))) = true from h)) z (by simpa using hz)
  exact ⟨_, (hB.bas.sol hp (redL_inv hP hmod z).1 (okS1_iff.1 h1)).eqn⟩
theorem tabM_cg (hp : 2 ≤ p) (hmod : modL p l) (nb a q : Nat) : Cg p (tabM p nb l a q) (l.getD (q * 18 + a / nb) 0 * l.getD (q * 18 + 9 + a % nb) 0) := by
  rw [tabM, tabN, tmod_pos hp (Int.mul_nonneg (hmod _).1 (hmod _).1)]
  exact Cg.emod
theorem wantV_nat (m k a b z : Nat) : wantV m k ((a : Nat) : Int) ((b : Nat) : Int) ((z : Nat) : Int) = if a % m = b / k ∧ a / m = z / k ∧ b % k = z % k then 1 else 0 := by
  have e1 : ((a : Nat) : Int).tmod (m : Int) = ((a % m : Nat) : Int) := rfl
  have e2 : ((b : Nat) : Int).tdiv (k : Int) = ((b / k : Nat) : Int) := rfl
  have e3 : ((a : Nat) : Int).tdiv (m : Int) = ((a / m : Nat) : Int) := rfl
  have e4 : ((z : Nat) : Int).tdiv (k : Int) = ((z / k : Nat) : Int) := rfl
  have e5 : ((b : Nat) : Int).tmod (k : Int) = ((b % k : Nat) : Int) := rfl
  have e6 : ((z : Nat) : Int).tmod (k : Int) = ((z % k : Nat) : Int) := rfl
  rw [wantV, e1, e2, e3, e4, e5, e6]
  have : ((((a % m : Nat) : Int) = ((b / k : Nat) : Int)) ∧ (((a / m : Nat) : Int) = ((z / k : Nat) : Int)) ∧ (((b % k : Nat) : Int) = ((z % k : Nat) : Int))) ↔ (a % m = b / k ∧ a / m = z / k ∧ b % k = z % k) := by omega
  simp only [this]
theorem low_k (hP : isP p = true) (hmod : modL p l) (hm : 0 < m) (h : r < n * m) : cpOk p n m 1 r l = false := by
  have hp : 2 ≤ p := by simp [isP] at hP; omega
  cases ho : cpOk p n m 1 r l with
  | false => rfl
  | true =>
    exfalso
    obtain ⟨g, i, hi, hg, hk⟩ := ker_ex (d := r) (D := n * m) hP (fun q j => l.getD (q * 18 + j) 0) (fun q j => hmod _) h
    have hz : i / m < n * 1 := by rw [Nat.mul_one]; exact Nat.div_lt_of_lt_mul (by rw [Nat.mul_comm]; exact hi)
    have hs := cpOk_sol hP hmod ho hz
    rw [Nat.mul_one] at hs
    have hdm : ∀ j, (j * m + i % m) / m = j ∧ (j * m + i % m) % m = i % m := fun j => by
      constructor
      · rw [Nat.mul_comm, Nat.mul_add_div hm, Nat.div_eq_of_lt (Nat.mod_lt _ hm), Nat.add_zero]
      · rw [Nat.mul_comm, Nat.mul_add_mod, Nat.mod_mod]
    refine low hp hs (fun j => j * m + i % m) (fun j hj => ?_) (fun q j => l.getD (q * 18 + j) 0) (fun q => l.getD (q * 18 + 9 + i % m) 0) (fun j hj q _ => ?_) g hi hg hk fun j hj => ?_
    · have h1 := Nat.mod_lt i hm
      have h2 : (j + 1) * m ≤ n * m * m := Nat.mul_le_mul_right _ hj
      rw [Nat.add_mul, Nat.one_mul] at h2
      omega
    · have := tabM_cg hp hmod m (j * m + i % m) q
      rw [(hdm j).1, (hdm j).2, Int.mul_comm] at this
      exact this
    · rw [wantV_nat, (hdm j).1, (hdm j).2, Nat.div_one, Nat.div_one, Nat.mod_one, Nat.mod_one]
      by_cases e : j = i
      · subst e; rw [if_pos ⟨rfl, rfl, rfl⟩, if_pos rfl]
      · rw [if_neg (fun hh => e ?_), if_neg e]
        have h1 := Nat.div_add_mod j m
        have h2 := Nat.div_add_mod i m
        rw [hh.1, hh.2.1] at h1
        exact h1.symm.trans h2
theorem low_n (hP : isP p = true) (hmod : modL p l) (hk : 0 < k) (h : r < m * k) : cpOk p 1 m k r l = false := by
  have hp : 2 ≤ p := by simp [isP] at hP; omega
  cases ho : cpOk p 1 m k r l with
  | false => rfl
  | true =>
    exfalso
    obtain ⟨g, i, hi, hg, hkr⟩ := ker_ex (d := r) (D := m * k) hP (fun q j => l.getD (q * 18 + 9 + j) 0) (fun q j => hmod _) h
    have hz : i % k < 1 * k := by rw [Nat.one_mul]; exact Nat.mod_lt _ hk
    have hs := cpOk_sol hP hmod ho hz
    rw [Nat.one_mul] at hs
    have hpos : 0 < m * k := by omega
    have hik : i / k < m := Nat.div_lt_of_lt_mul (by rw [Nat.mul_comm]; exact hi)
    have hdm : ∀ j, j < m * k → (i / k * (m * k) + j) / (m * k) = i / k ∧ (i / k * (m * k) + j) % (m * k) = j := fun j hj => by
      constructor
      · rw [Nat.mul_comm, Nat.mul_add_div hpos, Nat.div_eq_of_lt hj, Nat.add_zero]
      · rw [Nat.mul_comm, Nat.mul_add_mod, Nat.mod_eq_of_lt hj]
    refine low hp hs (fun j => i / k * (m * k) + j) (fun j hj => ?_) (fun q j => l.getD (q * 18 + 9 + j) 0) (fun q => l.getD (q * 18 + i / k) 0) (fun j hj q _ => ?_) g hi hg hkr fun j hj => ?_
    · have h2 : (i / k + 1) * (m * k) ≤ m * (m * k) := Nat.mul_le_mul_right _ hik
      rw [Nat.add_mul, Nat.one_mul] at h2
      omega
    · have := tabM_cg hp hmod (m * k) (i / k * (m * k) + j) q
      rw [(hdm j hj).1, (hdm j hj).2] at this
      exact this
    · rw [wantV_nat, (hdm j hj).1, (hdm j hj).2, Nat.mod_eq_of_lt hik, Nat.div_eq_of_lt hik, Nat.div_eq_of_lt (Nat.mod_lt i hk), Nat.mod_mod]
      by_cases e : j = i
      · subst e; rw [if_pos ⟨rfl, rfl, rfl⟩, if_pos rfl]
      · rw [if_neg (fun hh => e ?_), if_neg e]
        have h1 := Nat.div_add_mod j k
        have h2 := Nat.div_add_mod i k
        rw [← hh.1, hh.2.2] at h1
        exact h1.symm.trans h2
theorem low_m (hP : isP p = true) (hmod : modL p l) (hk : 0 < k) (h : r < n * k) : cpOk p n 1 k r l = false := by
  have hp : 2 ≤ p := by simp [isP] at hP; omega
  cases ho : cpOk p n 1 k r l with
  | false => rfl
  | true =>
    exfalso
    obtain ⟨g, i, hi, hg, hkr⟩ := ker_ex (d := r) (D := n * k) hP (fun q j => tabM p k l j q) (fun q j => tabN_rng hp hmod) h
    have hs := cpOk_sol hP hmod ho hi
    rw [Nat.mul_one, Nat.one_mul] at hs
    refine low hp hs (fun j => j) (fun j hj => hj) (fun q j => tabM p k l j q) (fun _ => 1) (fun j hj q _ => by rw [Int.one_mul]; exact Cg.rfl') g hi hg hkr fun j hj => ?_
    rw [wantV_nat, Nat.mod_one, Nat.div_one, Nat.mod_mod, Nat.div_eq_of_lt (Nat.mod_lt j hk)]
    by_cases e : j = i
    · subst e; rw [if_pos ⟨rfl, rfl, rfl⟩, if_pos rfl]
    · rw [if_neg (fun hh => e ?_), if_neg e]
      have h1 := Nat.div_add_mod j k
      have h2 := Nat.div_add_mod i k
      rw [hh.2.1, hh.2.2] at h1
      exact h1.symm.trans h2
end
theorem lpV_zero {f : Nat → Int} {one : Bool} : ∀ (c i : Nat), (∀ j, i ≤ j → j < i + c → f j = 0) → lpV f one c i 0 = 0
  | 0, i, _ => rfl
  | c + 1, i, h => by
    rw [lpV, h i (Nat.le_refl _) (by omega), if_neg (by simp)]
    exact lpV_zero c (i + 1) fun j h1 h2 => h j (by omega) (by omega)
theorem lpV_pos {f : Nat → Int} {one : Bool} {B : Int} (hf : ∀ i, 0 ≤ f i ∧ f i ≤ B) {j : Nat} (hj : 0 < f j) : ∀ (c i : Nat) (s : Int), 0 ≤ s → i ≤ j → j < i + c → 0 < lpV f one c i s
  | 0, i, s, _, h1, h2 => by omega
  | c + 1, i, s, h0, h1, h2 => by
    have hi := hf i
    rw [lpV]
    split
    · rename_i h; simp at h; omega
    · by_cases e : i = j
      · subst e
        have := (lpV_rng (one := one) hf c (i + 1) (s + f i) (by omega)).1
        omega
      · exact lpV_pos hf hj c (i + 1) (s + f i) (by omega) (by omega) (by omega)
/-- Too few pairs: none can be completed. -/
theorem setsV_low {n m k q D : Nat} {al : List Int} {one : Bool} (hq : al.length = q * 18) (hall : pairsOk 2 ((n : Int) * m) ((m : Int) * k) q al = true) (hlow : ∀ d li, d < D → li.length = d * 18 → pairsOk 2 ((n : Int) * m) ((m : Int) * k) d li = true → byteL li → cpOk 2 n m k d li = false) (hba : byteL al) :
    ∀ rest d li i, d + rest < D → li.length = d * 18 → pairsOk 2 ((n : Int) * m) ((m : Int) * k) d li = true → byteL li → setsV n m k q al one rest d li i = 0
  | 0, d, li, i, h1, h2, h3, h4 => by rw [setsV, if_neg (by rw [hlow d li (by omega) h2 h3 h4]; simp)]
  | rest + 1, d, li, i, h1, h2, h3, h4 => by
    rw [setsV]
    refine lpV_zero _ _ fun j g1 g2 => ?_
    have hjq : j < q := by omega
    have hv : (sub al (j * 18) 18).length = 18 := sub_length (by omega)
    refine setsV_low hq hall hlow hba rest (d + 1) _ (j + 1) (by omega) (by rw [List.length_append, h2, hv]; omega) (pairsOk_snoc h2 hv h3 (pairsOk_at hall hjq)) ?_
    intro z hz
    rcases List.mem_append.1 hz with hz | hz
    · exact h4 z hz
    · exact hba.sub _ _ z hz
/-- A set that can be completed is met. -/
theorem setsV_hit {n m k q : Nat} {al : List Int} {one : Bool} (hq : q ≤ 64) {j rest d : Nat} {li : List Int} {i : Nat} (hi : i ≤ j) (hj : j < q) (h : 0 < setsV n m k q al one rest (d + 1) (li ++ sub al (j * 18) 18) (j + 1)) : 0 < setsV n m k q al one (rest + 1) d li i := by
  rw [setsV]
  exact lpV_pos (f := fun i => setsV n m k q al one rest (d + 1) (li ++ sub al (i * 18) 18) (i + 1)) (B := (64 : Int) ^ rest) (fun i => setsV_rng n m k hq al one rest (d + 1) _ (i + 1)) h _ _ 0 (by omega) hi (by omega)
theorem setsV_leaf {n m k q d : Nat} {al li : List Int} {one : Bool} {i : Nat} (h : cpOk 2 n m k d li = true) : 0 < setsV n m k q al one 0 d li i := by
  rw [setsV, if_pos h]; decide
/-- The pairs of the standard scheme are such a set. -/
theorem setsV_std {n m k : Nat} {one : Bool} (h : Small n m k) : 0 < setsV n m k (allQ n m k) (allL n m k) one (n * m * k) 0 [] 0 := by
  cases h with
  | a111 => exact setsV_hit (j := 0) (by decide) (by decide) (by decide) (setsV_leaf (by kernel_rfl))
  | a112 => exact setsV_hit (j := 0) (by decide) (by decide) (by decide) (setsV_hit (j := 1) (by decide) (by decide) (by decide) (setsV_leaf (by kernel_rfl)))
  | a113 => exact setsV_hit (j := 0) (by decide) (by decide) (by decide) (setsV_hit (j := 1) (by decide) (by decide) (by decide) (setsV_hit (j := 3) (by decide) (by decide) (by decide) (setsV_leaf (by kernel_rfl))))
  | a121 => exact setsV_hit (j := 0) (by decide) (by decide) (by decide) (setsV_hit (j := 4) (by decide) (by decide) (by decide) (setsV_leaf (by kernel_rfl)))
  | a122 => exact setsV_hit (j := 0) (by decide) (by decide) (by decide) (setsV_hit (j := 1) (by decide) (by decide) (by decide) (setsV_hit (j := 18) (by decide) (by decide) (by decide) (setsV_hit (j := 22) (by decide) (by decide) (by decide) (setsV_leaf (by kernel_rfl)))))
  | a131 => exact setsV_hit (j := 0) (by decide) (by decide) (by decide) (setsV_hit (j := 8) (by decide) (by decide) (by decide) (setsV_hit (j := 24) (by decide) (by decide) (by decide) (setsV_leaf (by kernel_rfl))))
  | a211 => exact setsV_hit (j := 0) (by decide) (by decide) (by decide) (setsV_hit (j := 1) (by decide) (by decide) (by decide) (setsV_leaf (by kernel_rfl)))
  | a212 => exact setsV_hit (j := 0) (by decide) (by decide) (by decide) (setsV_hit (j := 1) (by decide) (by decide) (by decide) (setsV_hit (j := 3) (by decide) (by decide) (by decide) (setsV_hit (j := 4) (by decide) (by decide) (by decide) (setsV_leaf (by kernel_rfl)))))
  | a221 => exact setsV_hit (j := 0) (by decide) (by decide) (by decide) (setsV_hit (j := 4) (by decide) (by decide) (by decide) (setsV_hit (j := 9) (by decide) (by decide) (by decide) (setsV_hit (j := 22) (by decide) (by decide) (by decide) (setsV_leaf (by kernel_rfl)))))
  | a311 => exact setsV_hit (j := 0) (by decide) (by decide) (by decide) (setsV_hit (j := 1) (by decide) (by decide) (by decide) (setsV_hit (j := 3) (by decide) (by decide) (by decide) (setsV_leaf (by kernel_rfl))))
theorem small_low {n m k : Nat} (h : Small n m k) (d : Nat) (li : List Int) (hd : d < n * m * k) (hl : li.length = d * 18) (hp : pairsOk 2 ((n : Int) * m) ((m : Int) * k) d li = true) (hb : byteL li) : cpOk 2 n m k d li = false := by
  have hmod : modL 2 li := pairsOk_rng hl hp hb (by decide)
  cases h with
  | a111 => exact low_k rfl hmod (by decide) hd
  | a112 => exact low_m rfl hmod (by decide) hd
  | a113 => exact low_m rfl hmod (by decide) hd
  | a121 => exact low_k rfl hmod (by decide) hd
  | a122 => exact low_n rfl hmod (by decide) hd
  | a131 => exact low_k rfl hmod (by decide) hd
  | a211 => exact low_k rfl hmod (by decide) hd
  | a212 => exact low_m rfl hmod (by decide) hd
  | a221 => exact low_k rfl hmod (by decide) hd
  | a311 => exact low_k rfl hmod (by decide) hd
theorem implLeast_err (n m k : Int) (h : smallOk n m k = false) : FSpec Try.prog 12 [.c (.int .i64 (n)), .c (.int .i64 (m)), .c (.int .i64 (k))] (.tup [.c (.int .i64 (0)), .c (.int .i64 (2))]) [] [] := by
  have hc := smallCode_spec n m k
  rw [h] at hc
  refine FSpec.of f_impl_LeastNumber (Nat.le_of_ble_eq_true rfl) fun G N hN hr hw => ?_
  simp only [c_impl_LeastNumber, List.length_cons, List.length_nil, List.replicate, List.cons_append, List.nil_append]
  repeat' (first | (with_reducible first | refine W1 ?_ | refine W2 ?_ | refine W3 ?_ | refine W4 mixed ?_ | refine W5 ?_ | refine W6 ?_ | refine W7 ?_ | refine W8 ?_ | refine W9 ?_ | refine V1 ?_ | refine V2 ?_ | refine V3 ?_ | refine V4 (by decide) ?_ | refine V5 ?_ | refine V6 ?_ | refine V7 ?_ | refine V8 ?_ | refine V9 ?_ | refine U1 ?_ | refine U2 ?_ | refine U3 ?_) | (with_reducible refine U4 ?_ ?_; next => first | omega | exact ⟨trivial, by omega⟩) | simp (maxSteps := 2000000) (discharger := first | omega | (simp (discharger := omega) only [Z1, Z2, Z3, Z4, Z5, Z6, Z7] <;> fail) | (simp (discharger := omega) only [Z3, Z8, Z2, Z4, Z1, Z7, Z5, Z6, Z9, Y1, Y2]; omega)) only [go_sem])
  refine call_pure hc ?_
  repeat' (first | (with_reducible first | refine W1 ?_ | refine W2 ?_ | refine W3 ?_ | refine W4 mixed ?_ | refine W5 ?_ | refine W6 ?_ | refine W7 ?_ | refine W8 ?_ | refine W9 ?_ | refine V1 ?_ | refine V2 ?_ | refine V3 ?_ | refine V4 (by decide) ?_ | refine V5 ?_ | refine V6 ?_ | refine V7 ?_ | refine V8 ?_ | refine V9 ?_ | refine U1 ?_ | refine U2 ?_ | refine U3 ?_) | (with_reducible refine U4 ?_ ?_; next => first | omega | exact ⟨trivial, by omega⟩) | ((with_reducible refine U5 _ rfl (fun hq => ?_) (fun hq => ?_)) <;> try (first | (cases hq; done) | exact absurd hq (by decide))) | ((with_reducible refine U6 (fun hq => ?_) (fun hq => ?_)) <;> try (first | (cases hq; done) | exact absurd hq (by decide))) | simp (maxSteps := 2000000) (discharger := first | omega | (simp (discharger := omega) only [Z1, Z2, Z3, Z4, Z5, Z6, Z7] <;> fail) | (simp (discharger := omega) only [Z3, Z8, Z2, Z4, Z1, Z7, Z5, Z6, Z9, Y1, Y2]; omega)) only [go_sem])
  exact ret_none hN [.c (.int .i64 (0)), .c (.int .i64 (2))] ⟨rfl, rfl, trivial⟩ rfl rfl rfl (by simp)
theorem specLeast_err (n m k : Int) (h : smallOk n m k = false) : FSpec Try.prog 13 [.c (.int .i64 (n)), .c (.int .i64 (m)), .c (.int .i64 (k))] (.tup [.c (.int .i64 (0)), .c (.int .i64 (2))]) [] [] := by
  refine FSpec.of f_spec_LeastNumber (Nat.le_of_ble_eq_true rfl) fun G N hN hr hw => ?_
  simp only [c_spec_LeastNumber, List.length_cons, List.length_nil, List.replicate, List.cons_append, List.nil_append]
  repeat' (first | (with_reducible first | refine W1 ?_ | refine W2 ?_ | refine W3 ?_ | refine W4 mixed ?_ | refine W5 ?_ | refine W6 ?_ | refine W7 ?_ | refine W8 ?_ | refine W9 ?_ | refine V1 ?_ | refine V2 ?_ | refine V3 ?_ | refine V4 (by decide) ?_ | refine V5 ?_ | refine V6 ?_ | refine V7 ?_ | refine V8 ?_ | refine V9 ?_ | refine U1 ?_ | refine U2 ?_ | refine U3 ?_) | (with_reducible refine U4 ?_ ?_; next => first | omega | exact ⟨trivial, by omega⟩) | simp (maxSteps := 2000000) (discharger := first | omega | (simp (discharger := omega) only [Z1, Z2, Z3, Z4, Z5, Z6, Z7] <;> fail) | (simp (discharger := omega) only [Z3, Z8, Z2, Z4, Z1, Z7, Z5, Z6, Z9, Y1, Y2]; omega)) only [go_sem])
  refine call_pure (l10Small_spec n m k) ?_
  rw [h]
  repeat' (first | (with_reducible first | refine W1 ?_ | refine W2 ?_ | refine W3 ?_ | refine W4 mixed ?_ | refine W5 ?_ | refine W6 ?_ | refine W7 ?_ | refine W8 ?_ | refine W9 ?_ | refine V1 ?_ | refine V2 ?_ | refine V3 ?_ | refine V4 (by decide) ?_ | refine V5 ?_ | refine V6 ?_ | refine V7 ?_ | refine V8 ?_ | refine V9 ?_ | refine U1 ?_ | refine U2 ?_ | refine U3 ?_) | (with_reducible refine U4 ?_ ?_; next => first | omega | exact ⟨trivial, by omega⟩) | ((with_reducible refine U5 _ rfl (fun hq => ?_) (fun hq => ?_)) <;> try (first | (cases hq; done) | exact absurd hq (by decide))) | ((with_reducible refine U6 (fun hq => ?_) (fun hq => ?_)) <;> try (first | (cases hq; done) | exact absurd hq (by decide))) | simp (maxSteps := 2000000) (discharger := first | omega | (simp (discharger := omega) only [Z1, Z2, Z3, Z4, Z5, Z6, Z7] <;> fail) | (simp (discharger := omega) only [Z3, Z8, Z2, Z4, Z1, Z7, Z5, Z6, Z9, Y1, Y2]; omega)) only [go_sem])
  exact ret_none hN [.c (.int .i64 (0)), .c (.int .i64 (2))] ⟨rfl, rfl, trivial⟩ rfl rfl rfl (by simp)
theorem implLeast_ok {n m k : Nat} (h : Small n m k) : FSpec Try.prog 12 [.c (.int .i64 ((n : Nat) : Int)), .c (.int .i64 ((m : Nat) : Int)), .c (.int .i64 ((k : Nat) : Int))] (.tup [.c (.int .i64 ((n * m * k : Nat) : Int)), .c (.int .i64 (0))]) [] [] := by
  obtain ⟨h0, -, -, -, h1, h2, -, h4⟩ := small_facts h
  have hc := smallCode_spec n m k
  rw [h0] at hc
  have e1 : ((n : Nat) : Int) * ((m : Nat) : Int) = ((n * m : Nat) : Int) := rfl
  have e2 : ((n * m : Nat) : Int) * ((k : Nat) : Int) = ((n * m * k : Nat) : Int) := rfl
  refine FSpec.of f_impl_LeastNumber (Nat.le_of_ble_eq_true rfl) fun G N hN hr hw => ?_
  simp only [c_impl_LeastNumber, List.length_cons, List.length_nil, List.replicate, List.cons_append, List.nil_append]
  repeat' (first | (with_reducible first | refine W1 ?_ | refine W2 ?_ | refine W3 ?_ | refine W4 mixed ?_ | refine W5 ?_ | refine W6 ?_ | refine W7 ?_ | refine W8 ?_ | refine W9 ?_ | refine V1 ?_ | refine V2 ?_ | refine V3 ?_ | refine V4 (by decide) ?_ | refine V5 ?_ | refine V6 ?_ | refine V7 ?_ | refine V8 ?_ | refine V9 ?_ | refine U1 ?_ | refine U2 ?_ | refine U3 ?_) | (with_reducible refine U4 ?_ ?_; next => first | omega | exact ⟨trivial, by omega⟩) | simp (maxSteps := 2000000) (discharger := first | omega | (simp (discharger := omega) only [Z1, Z2, Z3, Z4, Z5, Z6, Z7] <;> fail) | (simp (discharger := omega) only [Z3, Z8, Z2, Z4, Z1, Z7, Z5, Z6, Z9, Y1, Y2]; omega)) only [go_sem])
  refine call_pure hc ?_
  repeat' (first | (with_reducible first | refine W1 ?_ | refine W2 ?_ | refine W3 ?_ | refine W4 mixed ?_ | refine W5 ?_ | refine W6 ?_ | refine W7 ?_ | refine W8 ?_ | refine W9 ?_ | refine V1 ?_ | refine V2 ?_ | refine V3 ?_ | refine V4 (by decide) ?_ | refine V5 ?_ | refine V6 ?_ | refine V7 ?_ | refine V8 ?_ | refine V9 ?_ | refine U1 ?_ | refine U2 ?_ | refine U3 ?_) | (with_reducible refine U4 ?_ ?_; next => first | omega | exact ⟨trivial, by omega⟩) | ((with_reducible refine U5 _ rfl (fun hq => ?_) (fun hq => ?_)) <;> try (first | (cases hq; done) | exact absurd hq (by decide))) | ((with_reducible refine U6 (fun hq => ?_) (fun hq => ?_)) <;> try (first | (cases hq; done) | exact absurd hq (by decide))) | simp (maxSteps := 2000000) (discharger := first | omega | (simp (discharger := omega) only [Z1, Z2, Z3, Z4, Z5, Z6, Z7] <;> fail) | (simp (discharger := omega) only [Z3, Z8, Z2, Z4, Z1, Z7, Z5, Z6, Z9, Y1, Y2]; omega)) only [go_sem, e1, e2])
  exact ret_none hN [.c (.int .i64 ((n * m * k : Nat) : Int)), .c (.int .i64 (0))] ⟨rfl, rfl, trivial⟩ rfl rfl rfl (by simp)
theorem specLeast_ok {n m k : Nat} (h : Small n m k) : FSpec Try.prog 13 [.c (.int .i64 ((n : Nat) : Int)), .c (.int .i64 ((m : Nat) : Int)), .c (.int .i64 ((k : Nat) : Int))] (.tup [.c (.int .i64 ((n * m * k : Nat) : Int)), .c (.int .i64 (0))]) [] [] := by
  obtain ⟨h0, hn, hm, hk, h1, h2, h3, h4⟩ := small_facts h
  obtain ⟨ha1, ha2⟩ := allL_ok h
  have hlen := allL_length n m k
  have hba : byteL (allL n m k) := fun z hz => by
    have := (List.all_eq_true.1 ha2) z hz
    simpa using this
  have hlow := fun r (hr : r < n * m * k) => setsV_low (one := true) hlen ha1 (small_low h) hba r 0 [] 0 (by omega) rfl rfl (fun z hz => by cases hz)
  have hstd := setsV_std (one := true) h
  have hS := fun r (kl ka : Nat) (hr : r ≤ 4) => l10Sets_spec (ka := ka) (cc := .nils) (one := true) (oa := true) hn hm hk h3 hlen ha1 hba r 0 [] 0 kl true hr (by omega) (Nat.zero_le _) rfl rfl (fun z hz => by cases hz)
  have hA := all_spec h
  generalize allL n m k = al at ha1 ha2 hlen hba hlow hstd hS hA
  generalize allQ n m k = q at h3 ha1 hlen hlow hstd hS hA
  generalize n * m * k = D at h4 hlow hstd ⊢
  refine FSpec.of f_spec_LeastNumber (Nat.le_of_ble_eq_true rfl) fun G N hN hr hw => ?_
  simp only [c_spec_LeastNumber, List.length_cons, List.length_nil, List.replicate, List.cons_append, List.nil_append]
  repeat' (first | (with_reducible first | refine W1 ?_ | refine W2 ?_ | refine W3 ?_ | refine W4 mixed ?_ | refine W5 ?_ | refine W6 ?_ | refine W7 ?_ | refine W8 ?_ | refine W9 ?_ | refine V1 ?_ | refine V2 ?_ | refine V3 ?_ | refine V4 (by decide) ?_ | refine V5 ?_ | refine V6 ?_ | refine V7 ?_ | refine V8 ?_ | refine V9 ?_ | refine U1 ?_ | refine U2 ?_ | refine U3 ?_) | (with_reducible refine U4 ?_ ?_; next => first | omega | exact ⟨trivial, by omega⟩) | simp (maxSteps := 2000000) (discharger := first | omega | (simp (discharger := omega) only [Z1, Z2, Z3, Z4, Z5, Z6, Z7] <;> fail) | (simp (discharger := omega) only [Z3, Z8, Z2, Z4, Z1, Z7, Z5, Z6, Z9, Y1, Y2]; omega)) only [go_sem])
  refine call_pure (l10Small_spec n m k) ?_
  rw [h0]
  repeat' (first | (with_reducible first | refine W1 ?_ | refine W2 ?_ | refine W3 ?_ | refine W4 mixed ?_ | refine W5 ?_ | refine W6 ?_ | refine W7 ?_ | refine W8 ?_ | refine W9 ?_ | refine V1 ?_ | refine V2 ?_ | refine V3 ?_ | refine V4 (by decide) ?_ | refine V5 ?_ | refine V6 ?_ | refine V7 ?_ | refine V8 ?_ | refine V9 ?_ | refine U1 ?_ | refine U2 ?_ | refine U3 ?_) | (with_reducible refine U4 ?_ ?_; next => first | omega | exact ⟨trivial, by omega⟩) | ((with_reducible refine U5 _ rfl (fun hq => ?_) (fun hq => ?_)) <;> try (first | (cases hq; done) | exact absurd hq (by decide))) | ((with_reducible refine U6 (fun hq => ?_) (fun hq => ?_)) <;> try (first | (cases hq; done) | exact absurd hq (by decide))) | simp (maxSteps := 2000000) (discharger := first | omega | (simp (discharger := omega) only [Z1, Z2, Z3, Z4, Z5, Z6, Z7] <;> fail) | (simp (discharger := omega) only [Z3, Z8, Z2, Z4, Z1, Z7, Z5, Z6, Z9, Y1, Y2]; omega)) only [go_sem])
  refine call_new1 (rs := []) (fun y _ => hA y) (by simp) nxt_free ?_
  repeat' (first | (with_reducible first | refine W1 ?_ | refine W2 ?_ | refine W3 ?_ | refine W4 mixed ?_ | refine W5 ?_ | refine W6 ?_ | refine W7 ?_ | refine W8 ?_ | refine W9 ?_ | refine V1 ?_ | refine V2 ?_ | refine V3 ?_ | refine V4 (by decide) ?_ | refine V5 ?_ | refine V6 ?_ | refine V7 ?_ | refine V8 ?_ | refine V9 ?_ | refine U1 ?_ | refine U2 ?_ | refine U3 ?_) | (with_reducible refine U4 ?_ ?_; next => first | omega | exact ⟨trivial, by omega⟩) | simp (maxSteps := 2000000) (discharger := first | omega | (simp (discharger := omega) only [Z1, Z2, Z3, Z4, Z5, Z6, Z7] <;> fail) | (simp (discharger := omega) only [Z3, Z8, Z2, Z4, Z1, Z7, Z5, Z6, Z9, Y1, Y2]; omega)) only [go_sem])
  refine swp_for (fun (z : Nat × List Slot) => (List.replicate 8 .any ++ [.c (.ptr (nid N 1) 0), .c (.slice (nid N 0) 0 q 18), .c (.int .i64 ((z.1 : Nat) : Int))] ++ List.replicate 22 .any)) (fun z => ⟨G, N, z.2⟩) (fun z => D - z.1) (fun z => z.1 ≤ D ∧ gd z.2 0 = .live ⟨u8s al, true⟩ ∧ gd z.2 1 = .live ⟨tenC 2 n m k .nils, true⟩ ∧ 1 < z.2.length) (0, _) ⟨Nat.zero_le _, rfl, rfl, by simp⟩ rfl (by repeat' (first | exact trivial | exact .inl rfl | exact .inr rfl | refine ⟨?_, ?_⟩)) ?_
  rintro ⟨r, L⟩ ⟨hr', g0, g1, g2⟩
  dsimp only at hr' g0 g1 g2
  simp only [tenC] at g1
  simp only [List.replicate, List.cons_append, List.nil_append]
  have hSr := hS r (nid N L.length) (nid N 0) (by omega)
  have hlo := hlow r
  have hst : r = D → 0 < setsV n m k q al true r 0 [] 0 := fun e => by rw [e]; exact hstd
  generalize setsV n m k q al true r 0 [] 0 = v at hSr hlo hst
  rw [show ((0 : Nat) : Int) = 0 from rfl] at hSr
  repeat' (first | (with_reducible first | refine W1 ?_ | refine W2 ?_ | refine W3 ?_ | refine W4 mixed ?_ | refine W5 ?_ | refine W6 ?_ | refine W7 ?_ | refine W8 ?_ | refine W9 ?_ | refine V1 ?_ | refine V2 ?_ | refine V3 ?_ | refine V4 (by decide) ?_ | refine V5 ?_ | refine V6 ?_ | refine V7 ?_ | refine V8 ?_ | refine V9 ?_ | refine U1 ?_ | refine U2 ?_ | refine U3 ?_) | (with_reducible refine U4 ?_ ?_; next => first | omega | exact ⟨trivial, by omega⟩) | simp (maxSteps := 2000000) (discharger := first | omega | (simp (discharger := omega) only [Z1, Z2, Z3, Z4, Z5, Z6, Z7] <;> fail) | (simp (discharger := omega) only [Z3, Z8, Z2, Z4, Z1, Z7, Z5, Z6, Z9, Y1, Y2]; omega)) only [go_sem, g1])
  refine call_ro hSr (by
    simp only [List.mem_cons, List.not_mem_nil, or_false]
    rintro p (rfl | rfl)
    · dsimp only; rw [get_new, gd_setAt_ne' (by omega)]; exact g0
    · dsimp only; rw [get_new]; exact gd_setAt_same) ?_
  by_cases hlt : r < D
  · obtain rfl := hlo hlt
    have x1 : decide ((0 : Int) > 0) = false := by decide
    have x2 : decide ((0 : Int) < 0) = false := by decide
    repeat' (first | (with_reducible first | refine W1 ?_ | refine W2 ?_ | refine W3 ?_ | refine W4 mixed ?_ | refine W5 ?_ | refine W6 ?_ | refine W7 ?_ | refine W8 ?_ | refine W9 ?_ | refine V1 ?_ | refine V2 ?_ | refine V3 ?_ | refine V4 (by decide) ?_ | refine V5 ?_ | refine V6 ?_ | refine V7 ?_ | refine V8 ?_ | refine V9 ?_ | refine U1 ?_ | refine U2 ?_ | refine U3 ?_) | (with_reducible refine U4 ?_ ?_; next => first | omega | exact ⟨trivial, by omega⟩) | ((with_reducible refine U5 _ rfl (fun hq => ?_) (fun hq => ?_)) <;> try (first | (cases hq; done) | exact absurd hq (by decide))) | ((with_reducible refine U6 (fun hq => ?_) (fun hq => ?_)) <;> try (first | (cases hq; done) | exact absurd hq (by decide))) | simp (maxSteps := 2000000) (discharger := first | omega | (simp (discharger := omega) only [Z1, Z2, Z3, Z4, Z5, Z6, Z7] <;> fail) | (simp (discharger := omega) only [Z3, Z8, Z2, Z4, Z1, Z7, Z5, Z6, Z9, Y1, Y2]; omega)) only [go_sem, x1, x2])
    refine forK_same (r + 1, _) (by dsimp only; omega) ⟨by dsimp only; omega, ?_, ?_, ?_⟩ rfl (by repeat' (first | exact trivial | exact .inl rfl | exact .inr rfl | refine ⟨?_, ?_⟩))
    · dsimp only
      rw [gd_setAt_ne' (by omega)]; exact g0
    · dsimp only
      rw [gd_setAt_ne' (by omega)]; exact g1
    · dsimp only; simp only [setAt_length]; omega
  · have hre : r = D := by omega
    have hv := hst hre
    have x1 : decide (v > 0) = true := decide_eq_true hv
    have x2 : decide (0 < v) = true := decide_eq_true hv
    subst hre
    repeat' (first | (with_reducible first | refine W1 ?_ | refine W2 ?_ | refine W3 ?_ | refine W4 mixed ?_ | refine W5 ?_ | refine W6 ?_ | refine W7 ?_ | refine W8 ?_ | refine W9 ?_ | refine V1 ?_ | refine V2 ?_ | refine V3 ?_ | refine V4 (by decide) ?_ | refine V5 ?_ | refine V6 ?_ | refine V7 ?_ | refine V8 ?_ | refine V9 ?_ | refine U1 ?_ | refine U2 ?_ | refine U3 ?_) | (with_reducible refine U4 ?_ ?_; next => first | omega | exact ⟨trivial, by omega⟩) | ((with_reducible refine U5 _ rfl (fun hq => ?_) (fun hq => ?_)) <;> try (first | (cases hq; done) | exact absurd hq (by decide))) | ((with_reducible refine U6 (fun hq => ?_) (fun hq => ?_)) <;> try (first | (cases hq; done) | exact absurd hq (by decide))) | simp (maxSteps := 2000000) (discharger := first | omega | (simp (discharger := omega) only [Z1, Z2, Z3, Z4, Z5, Z6, Z7] <;> fail) | (simp (discharger := omega) only [Z3, Z8, Z2, Z4, Z1, Z7, Z5, Z6, Z9, Y1, Y2]; omega)) only [go_sem, x1, x2])
    exact ret_none hN [.c (.int .i64 ((r : Nat) : Int)), .c (.int .i64 (0))] ⟨rfl, rfl, trivial⟩ rfl rfl rfl (by simp)
end Go.Proofs.Ytcfemdhlcjmlbaa
/- The search through sets of pairs, ours: one step's end. -/
namespace Go.Proofs.Ytcfemdhlcjmlbaa
open Go Go.Abs
set_option maxRecDepth 100000

/- loop.example/g01262/impl.CountPairSets$1 -/
def c_impl_CountPairSets_1 : SFn := ⟨(.seq (.seq (.ops [⟨some 11, .load 31 (.tmp 1), none⟩, ⟨some 12, .call ⟨.builtin .len, #[.tmp 11], #[31]⟩, none⟩, ⟨some 13, .load 2 (.tmp 2), none⟩, ⟨some 14, .binOp .eql 2 (.tmp 12) (.tmp 13) 2, none⟩])
  (.cond (.tmp 14) (.seq (.seq (.ops [⟨some 16, .load 53 (.tmp 3), none⟩, ⟨some 17, .load 31 (.tmp 1), none⟩, ⟨some 18, .call ⟨.value (.func 115), #[.tmp 16, .tmp 17], #[53, 31]⟩, none⟩, ⟨some 15, .move (.tmp 18), none⟩, ⟨some 19, .extract (.tmp 15) 0, none⟩, ⟨some 20, .extract (.tmp 15) 1, none⟩, ⟨some 8, .alloc 53, none⟩, ⟨none, .store 53 (.tmp 8) (.tmp 19), none⟩, ⟨some 9, .assign (.tmp 20), none⟩])
     (.seq (.ops [⟨some 21, .move (.tmp 9), none⟩])
      (.cond (.tmp 21) (.ops [⟨some 22, .load 2 (.tmp 4), none⟩, ⟨some 23, .binOp .add 2 (.tmp 22) (.const (.int .i64 1)) 2, none⟩, ⟨none, .store 2 (.tmp 4) (.tmp 23), none⟩])
       .skip)))
    .ret)
   .skip))
 (.seq (.ops [⟨some 24, .move (.tmp 0), none⟩, ⟨some 10, .assign (.tmp 24), none⟩])
  (.block 0 (.loop (.seq (.seq (.ops [⟨some 25, .move (.tmp 10), none⟩, ⟨some 26, .load 31 (.tmp 5), none⟩, ⟨some 27, .call ⟨.builtin .len, #[.tmp 26], #[31]⟩, none⟩, ⟨some 28, .binOp .lss 3 (.tmp 25) (.tmp 27) 3, none⟩])
      (.cond (.tmp 28) .skip
       (.exit 0)))
     (.seq (.block 1 (.seq (.opsD [⟨some 31, .load 31 (.tmp 1), none⟩, ⟨some 32, .load 31 (.tmp 5), none⟩, ⟨some 33, .move (.tmp 10), none⟩, ⟨some 34, .indexAddr 31 (.tmp 32) (.tmp 33), none⟩, ⟨some 35, .load 125 (.tmp 34), none⟩, ⟨some 36, .buildSlice 31 1 #[(0, .tmp 35)], none⟩, ⟨some 37, .call ⟨.builtin .append, #[.tmp 31, .tmp 36], #[31, 31]⟩, none⟩, ⟨none, .store 31 (.tmp 1) (.tmp 37), none⟩] [(0, 1), (0, 4), (0, 5)])
        (.seq (.ops [⟨some 38, .load 119 (.tmp 6), none⟩, ⟨some 39, .move (.tmp 10), none⟩, ⟨some 40, .binOp .add 3 (.tmp 39) (.const (.int .i64 1)) 3, none⟩, ⟨some 41, .call ⟨.value (.tmp 38), #[.tmp 40], #[3]⟩, none⟩])
         (.ops [⟨some 42, .load 31 (.tmp 1), none⟩, ⟨some 43, .load 31 (.tmp 1), none⟩, ⟨some 44, .call ⟨.builtin .len, #[.tmp 43], #[31]⟩, none⟩, ⟨some 45, .binOp .sub 3 (.tmp 44) (.const (.int .i64 1)) 3, none⟩, ⟨some 46, .slice 31 (.tmp 42) none (some (.tmp 45)) none, none⟩, ⟨none, .store 31 (.tmp 1) (.tmp 46), none⟩]))))
      (.ops [⟨some 29, .move (.tmp 10), none⟩, ⟨some 30, .binOp .add 3 (.tmp 29) (.const (.int .i64 1)) 3, none⟩, ⟨some 10, .assign (.tmp 30), none⟩]))))))), [], 47⟩
theorem f_impl_CountPairSets_1 : isFn Go.Proofs.Try.prog 114 = some c_impl_CountPairSets_1 := by kernel_rfl


set_option maxRecDepth 100000
set_option maxHeartbeats 16000000
set_option linter.unusedVariables false
attribute [-simp] List.getD_eq_getElem?_getD
attribute [-go_sem] confV

section
variable {P : Program} {G G' : Heap} {N : Nat} {L : List Slot} {T : List AV}
/-- Old objects written, one of them with the place of a new object of plain cells. -/
theorem ret_ptr (hN : ∀ k, N ≤ k → G k = .free) {F : Heap} {ws : List (Nat × Slot)} (hF : putsG G ws = F) {x j : Nat} {cs : List Cell} (hx : G x = .free) (hFx : F x = .live ⟨cs, true⟩) (hc : Abs.flat cs) (hL : gd L j = .live ⟨cs, true⟩)
    (hb : ∀ k, k ≠ x → ∀ o, F k = .live o → k < N ∧ (G k = .live o ∧ G' k = .live o ∨ G' k = .live ⟨o.cells.map (Cell.mapIds fun k => if k = x then nid N j else k), o.own⟩ ∧ ∀ c ∈ o.cells, ∀ i ∈ c.ids, F i ≠ .free)) (hn : ∀ k, G k ≠ .free → F k ≠ .free)
    {rs : List ResultVar} {val : AV} (vs : List AV) (hr : resAll P T ⟨G', N, L⟩ rs vs) (hv : NoIds val) (he : resOf vs = val) : retS P rs G N val ws .ret T ⟨G', N, L⟩ := by
  refine ⟨vs, fun k => if k = x then nid N j else k, hr, fun k hk => ?_, fun k o hk => ?_, fun k hk => by rw [hF]; exact hn k hk, fun k k' o o' hk hk' _ _ hne => ?_, by rw [he]; exact hv.named⟩
  · rw [if_neg (fun e => hk (by rw [e]; exact hx))]
  · rw [hF] at hk
    by_cases e : k = x
    · subst e
      rw [hFx] at hk
      cases hk
      right
      rw [if_pos rfl, get_new, map_flat hc]
      exact ⟨hL, fun c hcc i hi => by rw [hc c hcc] at hi; cases hi⟩
    · obtain ⟨h1, h2⟩ := hb k e o hk
      rcases h2 with ⟨h2, h3⟩ | ⟨h2, h3⟩
      · left; exact ⟨h2, by rw [get_old h1]; exact h3⟩
      · right
        rw [if_neg e, get_old h1]
        exact ⟨h2, fun c hcc i hi _ => by rw [hF]; exact h3 c hcc i hi⟩
  · rw [hF] at hk hk'
    by_cases e : k = x
    · by_cases e' : k' = x
      · exact absurd (e.trans e'.symm) hne
      · have := (hb k' e' o' hk').1
        rw [if_pos e, if_neg e']; unfold nid; omega
    · have := (hb k e o hk).1
      by_cases e' : k' = x
      · rw [if_neg e, if_pos e']; unfold nid; omega
      · rw [if_neg e, if_neg e']; exact hne
theorem ret_same0 (hN : ∀ k, N ≤ k → G k = .free) {k : Nat} {cs : List Cell} {own : Bool} (hk : k < N) (hg : G k = .live ⟨cs, own⟩) (hc : Abs.flat cs) {rs : List ResultVar} {val : AV} (vs : List AV) (hr : resAll P T ⟨G, N, L⟩ rs vs) (hp : plainT val = true) (hi : ∀ i ∈ val.idsT, G i ≠ .free) (he : resOf vs = renT id val) : retS P rs G N val [(k, .live ⟨cs, own⟩)] .ret T ⟨G, N, L⟩ := by
  have h := ret_upd0 (P := P) (T := T) (L := L) hN hk (by rw [hg]; simp) hc (own := own) (rs := rs) (val := val) vs (by rw [updF1 hg]; exact hr) hp hi he
  rwa [updF1 hg] at h
end
/-- The places of the search's variables. -/
structure SV where
  a15 : Nat
  a7 : Nat
  a13 : Nat
  a14 : Nat
  a10 : Nat
  a16 : Nat
  ka : Nat
def SV.fn (v : SV) : Cell := .fn 114 [(v.a15, 0), (v.a7, 0), (v.a13, 0), (v.a14, 0), (v.a10, 0), (v.a16, 0)]
/-- What the search reads. -/
def SV.rd (v : SV) (n m k q r : Nat) (al : List Int) (kl d : Nat) (li : List Int) (many : Int) : List (Nat × AObj) :=
  [(v.a15, ⟨[.slice kl 0 d 18], true⟩), (kl, ⟨u8s li, true⟩), (v.a7, ⟨[.int .i64 ((r : Nat) : Int)], true⟩), (v.a13, ⟨tenC 2 n m k .nils, true⟩), (v.a14, ⟨[.int .i64 many], true⟩), (v.a10, ⟨[.slice v.ka 0 q 18], true⟩), (v.ka, ⟨u8s al, true⟩), (v.a16, ⟨[v.fn], true⟩)]
theorem search_leaf {v : SV} {n m k q r kl : Nat} {al li g : List Int} {many : Int} {from_ : Nat} (hn : inSz n = true) (hm : inSz m = true) (hk : inSz k = true) (hr4 : r ≤ 4) (hl : li.length = r * 18) (hpl : pairsOk 2 ((n : Int) * m) ((m : Int) * k) r li = true) (hbl : byteL li) (hmany : 0 ≤ many ∧ many ≤ 100000000000) :
    FSpec Try.prog 114 [.c (.int .i64 ((from_ : Nat) : Int)), .c (.ptr v.a15 0), .c (.ptr v.a7 0), .c (.ptr v.a13 0), .c (.ptr v.a14 0), .c (.ptr v.a10 0), .c (.ptr v.a16 0)] (.tup []) (v.rd n m k q r al kl r li many) [(v.a14, .live ⟨[.int .i64 (many + setsV n m k q al false 0 r li from_)], true⟩)] := by
  have A := CpA.mk2 hn hm hk hl hpl hbl (by omega)
  obtain ⟨a15, a7, a13, a14, a10, a16, ka⟩ := v
  simp only [SV.rd, SV.fn]
  refine FSpec.of f_impl_CountPairSets_1 (Nat.le_of_ble_eq_true rfl) fun G N hN hr hw => ?_
  simp only [c_impl_CountPairSets_1, List.length_cons, List.length_nil, List.replicate, List.cons_append, List.nil_append]
  simp only [List.mem_cons, List.not_mem_nil, or_false, forall_eq_or_imp, forall_eq] at hr
  obtain ⟨⟨r1, s1⟩, ⟨r2, s2⟩, ⟨r3, s3⟩, ⟨r4, s4⟩, ⟨r5, s5⟩, ⟨r6, s6⟩, ⟨r7, s7⟩, ⟨r8, s8⟩⟩ := hr
  simp only [tenC] at r4
  have x0 : ((((r : Nat) : Int)) == ((r : Nat) : Int)) = true := by simp
  cases ho : cpOk 2 n m k r li with
  | false =>
    have hval : setsV n m k q al false 0 r li from_ = 0 := by rw [setsV, ho]; rfl
    rw [hval, Int.add_zero]
    repeat' (first | (with_reducible first | refine W1 ?_ | refine W2 ?_ | refine W3 ?_ | refine W4 mixed ?_ | refine W5 ?_ | refine W6 ?_ | refine W7 ?_ | refine W8 ?_ | refine W9 ?_ | refine V1 ?_ | refine V2 ?_ | refine V3 ?_ | refine V4 (by decide) ?_ | refine V5 ?_ | refine V6 ?_ | refine V7 ?_ | refine V8 ?_ | refine V9 ?_ | refine U1 ?_ | refine U2 ?_ | refine U3 ?_) | (with_reducible refine U4 ?_ ?_; next => first | omega | exact ⟨trivial, by omega⟩) | ((with_reducible refine U5 _ rfl (fun hq => ?_) (fun hq => ?_)) <;> try (first | (cases hq; done) | exact absurd hq (by decide))) | ((with_reducible refine U6 (fun hq => ?_) (fun hq => ?_)) <;> try (first | (cases hq; done) | exact absurd hq (by decide))) | simp (maxSteps := 2000000) (discharger := first | omega | (simp (discharger := omega) only [Z1, Z2, Z3, Z4, Z5, Z6, Z7] <;> fail) | (simp (discharger := omega) only [Z3, Z8, Z2, Z4, Z1, Z7, Z5, Z6, Z9, Y1, Y2]; omega)) only [go_sem, r1, r3, x0, r4])
    refine call_ro (implCp_no A (Sl.mk kl true (by rw [u8s_length]; exact hl)) ho) (by simp only [List.mem_singleton]; rintro p rfl; exact (get_old s2).trans r2) ?_
    repeat' (first | (with_reducible first | refine W1 ?_ | refine W2 ?_ | refine W3 ?_ | refine W4 mixed ?_ | refine W5 ?_ | refine W6 ?_ | refine W7 ?_ | refine W8 ?_ | refine W9 ?_ | refine V1 ?_ | refine V2 ?_ | refine V3 ?_ | refine V4 (by decide) ?_ | refine V5 ?_ | refine V6 ?_ | refine V7 ?_ | refine V8 ?_ | refine V9 ?_ | refine U1 ?_ | refine U2 ?_ | refine U3 ?_) | (with_reducible refine U4 ?_ ?_; next => first | omega | exact ⟨trivial, by omega⟩) | ((with_reducible refine U5 _ rfl (fun hq => ?_) (fun hq => ?_)) <;> try (first | (cases hq; done) | exact absurd hq (by decide))) | ((with_reducible refine U6 (fun hq => ?_) (fun hq => ?_)) <;> try (first | (cases hq; done) | exact absurd hq (by decide))) | simp (maxSteps := 2000000) (discharger := first | omega | (simp (discharger := omega) only [Z1, Z2, Z3, Z4, Z5, Z6, Z7] <;> fail) | (simp (discharger := omega) only [Z3, Z8, Z2, Z4, Z1, Z7, Z5, Z6, Z9, Y1, Y2]; omega)) only [go_sem])
    exact ret_same0 hN s5 r5 (show Abs.flat [.int .i64 many] from flat64 [many]) [] trivial rfl (by simp [AV.idsT]) rfl
  | true =>
    have hval : setsV n m k q al false 0 r li from_ = 1 := by rw [setsV, ho]; rfl
    rw [hval]
    repeat' (first | (with_reducible first | refine W1 ?_ | refine W2 ?_ | refine W3 ?_ | refine W4 mixed ?_ | refine W5 ?_ | refine W6 ?_ | refine W7 ?_ | refine W8 ?_ | refine W9 ?_ | refine V1 ?_ | refine V2 ?_ | refine V3 ?_ | refine V4 (by decide) ?_ | refine V5 ?_ | refine V6 ?_ | refine V7 ?_ | refine V8 ?_ | refine V9 ?_ | refine U1 ?_ | refine U2 ?_ | refine U3 ?_) | (with_reducible refine U4 ?_ ?_; next => first | omega | exact ⟨trivial, by omega⟩) | ((with_reducible refine U5 _ rfl (fun hq => ?_) (fun hq => ?_)) <;> try (first | (cases hq; done) | exact absurd hq (by decide))) | ((with_reducible refine U6 (fun hq => ?_) (fun hq => ?_)) <;> try (first | (cases hq; done) | exact absurd hq (by decide))) | simp (maxSteps := 2000000) (discharger := first | omega | (simp (discharger := omega) only [Z1, Z2, Z3, Z4, Z5, Z6, Z7] <;> fail) | (simp (discharger := omega) only [Z3, Z8, Z2, Z4, Z1, Z7, Z5, Z6, Z9, Y1, Y2]; omega)) only [go_sem, r1, r3, x0, r4])
    refine call_new1 (fun y hy => implCp_yes A (Sl.mk kl true (by rw [u8s_length]; exact hl)) ho y hy) (by simp only [List.mem_singleton]; rintro p rfl; exact (get_old s2).trans r2) nxt_free ?_
    repeat' (first | (with_reducible first | refine W1 ?_ | refine W2 ?_ | refine W3 ?_ | refine W4 mixed ?_ | refine W5 ?_ | refine W6 ?_ | refine W7 ?_ | refine W8 ?_ | refine W9 ?_ | refine V1 ?_ | refine V2 ?_ | refine V3 ?_ | refine V4 (by decide) ?_ | refine V5 ?_ | refine V6 ?_ | refine V7 ?_ | refine V8 ?_ | refine V9 ?_ | refine U1 ?_ | refine U2 ?_ | refine U3 ?_) | (with_reducible refine U4 ?_ ?_; next => first | omega | exact ⟨trivial, by omega⟩) | ((with_reducible refine U5 _ rfl (fun hq => ?_) (fun hq => ?_)) <;> try (first | (cases hq; done) | exact absurd hq (by decide))) | ((with_reducible refine U6 (fun hq => ?_) (fun hq => ?_)) <;> try (first | (cases hq; done) | exact absurd hq (by decide))) | simp (maxSteps := 2000000) (discharger := first | omega | (simp (discharger := omega) only [Z1, Z2, Z3, Z4, Z5, Z6, Z7] <;> fail) | (simp (discharger := omega) only [Z3, Z8, Z2, Z4, Z1, Z7, Z5, Z6, Z9, Y1, Y2]; omega)) only [go_sem, r5])
    exact ret_upd0 hN s5 (by rw [r5]; simp) (show Abs.flat [.int .i64 (many + 1)] from flat64 [many + 1]) [] trivial rfl (by simp [AV.idsT]) rfl
end Go.Proofs.Ytcfemdhlcjmlbaa
/- The search through sets of pairs, ours. -/
namespace Go.Proofs.Ytcfemdhlcjmlbaa
open Go Go.Abs
set_option maxRecDepth 100000

set_option maxRecDepth 100000
set_option maxHeartbeats 16000000
set_option linter.unusedVariables false
attribute [-simp] List.getD_eq_getElem?_getD
attribute [-go_sem] confV

/-- The search's variables lie apart. -/
structure SV.nd (v : SV) (kl : Nat) : Prop where
  k15 : kl ≠ v.a15
  k14 : kl ≠ v.a14
  e : v.a14 ≠ v.a15
  s15 : v.a7 ≠ v.a15
  s14 : v.a7 ≠ v.a14
  sk : v.a7 ≠ kl
  t15 : v.a13 ≠ v.a15
  t14 : v.a13 ≠ v.a14
  tk : v.a13 ≠ kl
  l15 : v.a10 ≠ v.a15
  l14 : v.a10 ≠ v.a14
  lk : v.a10 ≠ kl
  d15 : v.ka ≠ v.a15
  d14 : v.ka ≠ v.a14
  dk : v.ka ≠ kl
  f15 : v.a16 ≠ v.a15
  f14 : v.a16 ≠ v.a14
  fk : v.a16 ≠ kl
def SV.av (v : SV) (i : Nat) : List AV := [.c (.int .i64 ((i : Nat) : Int)), .c (.ptr v.a15 0), .c (.ptr v.a7 0), .c (.ptr v.a13 0), .c (.ptr v.a14 0), .c (.ptr v.a10 0), .c (.ptr v.a16 0)]
theorem sub_pre {l l' : List Int} {w : Nat} (h : l.length = w) : sub (l ++ l') 0 w = l := by subst h; simp [sub]
theorem search_spec {v : SV} {n m k q r : Nat} {al : List Int} (hn : inSz n = true) (hm : inSz m = true) (hk : inSz k = true) (hr4 : r ≤ 4) (hq : q ≤ 64) (hal : al.length = q * 18) (hall : pairsOk 2 ((n : Int) * m) ((m : Int) * k) q al = true) (hba : byteL al) :
    ∀ (rest d : Nat) (li : List Int) (kl i : Nat) (many : Int), d + rest = r → i ≤ q → li.length = d * 18 → pairsOk 2 ((n : Int) * m) ((m : Int) * k) d li = true → byteL li → v.nd kl → 0 ≤ many ∧ many ≤ (5 - (rest : Int)) * 17179869184 →
    (rest = 0 ∨ q ≤ i → FSpec Try.prog 114 (v.av i) (.tup []) (v.rd n m k q r al kl d li many) [(v.a14, .live ⟨[.int .i64 (many + setsV n m k q al false rest d li i)], true⟩)]) ∧
    (rest ≠ 0 → i < q → ∀ x, (∀ p ∈ v.rd n m k q r al kl d li many, p.1 ≠ x) → FSpec Try.prog 114 (v.av i) (.tup []) (v.rd n m k q r al kl d li many) [(v.a14, .live ⟨[.int .i64 (many + setsV n m k q al false rest d li i)], true⟩), (v.a15, .live ⟨[.slice x 0 d 18], true⟩), (kl, .dead), (x, .live ⟨u8s (li ++ sub al ((q - 1) * 18) 18), true⟩)])
  | 0, d, li, kl, i, many, hdr, hiq, hl, hpl, hbl, hnd, hmany => by
    obtain rfl : d = r := by omega
    exact ⟨fun _ => search_leaf (g := []) hn hm hk hr4 hl hpl hbl (by omega), fun h => absurd rfl h⟩
  | rest + 1, d, li, kl, i, many, hdr, hiq, hl, hpl, hbl, hnd, hmany => by
    have IH := search_spec (v := v) hn hm hk hr4 hq hal hall hba rest
    have hB : ∀ j li', 0 ≤ setsV n m k q al false rest (d + 1) li' j ∧ setsV n m k q al false rest (d + 1) li' j ≤ 16777216 := fun j li' => by
      have h := setsV_rng n m k hq al false rest (d + 1) li' j
      have h3 : (64 : Int) ^ rest ≤ 64 ^ 4 := by
        have : rest = 0 ∨ rest = 1 ∨ rest = 2 ∨ rest = 3 := by omega
        rcases this with rfl | rfl | rfl | rfl <;> decide
      have h4 : (64 : Int) ^ 4 = 16777216 := by decide
      omega
    obtain ⟨f, hf⟩ : ∃ f : Nat → Int, (fun i => setsV n m k q al false rest (d + 1) (li ++ sub al (i * 18) 18) (i + 1)) = f := ⟨_, rfl⟩
    have hval : setsV n m k q al false (rest + 1) d li i = lpV f false (q - i) i 0 := by rw [setsV, hf]
    have hfj : ∀ j, setsV n m k q al false rest (d + 1) (li ++ sub al (j * 18) 18) (j + 1) = f j := fun j => by rw [← hf]
    have hfB : ∀ j, 0 ≤ f j ∧ f j ≤ 16777216 := fun j => by rw [← hf]; exact hB _ _
    rw [hval]
    clear hval hf hB
    have x0 : ((((d : Nat) : Int)) == ((r : Nat) : Int)) = false := by simp; omega
    obtain ⟨a15, a7, a13, a14, a10, a16, ka⟩ := v
    simp only [SV.rd, SV.fn, SV.av]
    constructor
    · intro hno
      have hqi : q ≤ i := by omega
      rw [show q - i = 0 from by omega, lpV, Int.add_zero]
      refine FSpec.of f_impl_CountPairSets_1 (Nat.le_of_ble_eq_true rfl) fun G N hN hr hw => ?_
      simp only [c_impl_CountPairSets_1, List.length_cons, List.length_nil, List.replicate, List.cons_append, List.nil_append]
      simp only [List.mem_cons, List.not_mem_nil, or_false, forall_eq_or_imp, forall_eq] at hr
      obtain ⟨⟨r1, s1⟩, ⟨r2, s2⟩, ⟨r3, s3⟩, ⟨r4, s4⟩, ⟨r5, s5⟩, ⟨r6, s6⟩, ⟨r7, s7⟩, ⟨r8, s8⟩⟩ := hr
      have x1 : decide (((i : Nat) : Int) < ((q : Nat) : Int)) = false := decide_eq_false (by omega)
      repeat' (first | (with_reducible first | refine W1 ?_ | refine W2 ?_ | refine W3 ?_ | refine W4 mixed ?_ | refine W5 ?_ | refine W6 ?_ | refine W7 ?_ | refine W8 ?_ | refine W9 ?_ | refine V1 ?_ | refine V2 ?_ | refine V3 ?_ | refine V4 (by decide) ?_ | refine V5 ?_ | refine V6 ?_ | refine V7 ?_ | refine V8 ?_ | refine V9 ?_ | refine U1 ?_ | refine U2 ?_ | refine U3 ?_) | (with_reducible refine U4 ?_ ?_; next => first | omega | exact ⟨trivial, by omega⟩) | ((with_reducible refine U5 _ rfl (fun hq => ?_) (fun hq => ?_)) <;> try (first | (cases hq; done) | exact absurd hq (by decide))) | ((with_reducible refine U6 (fun hq => ?_) (fun hq => ?_)) <;> try (first | (cases hq; done) | exact absurd hq (by decide))) | simp (maxSteps := 2000000) (discharger := first | omega | (simp (discharger := omega) only [Z1, Z2, Z3, Z4, Z5, Z6, Z7] <;> fail) | (simp (discharger := omega) only [Z3, Z8, Z2, Z4, Z1, Z7, Z5, Z6, Z9, Y1, Y2]; omega)) only [go_sem, r1, r3, x0])
      refine swp_rounds 1 ?_
      repeat' (first | (with_reducible first | refine W1 ?_ | refine W2 ?_ | refine W3 ?_ | refine W4 mixed ?_ | refine W5 ?_ | refine W6 ?_ | refine W7 ?_ | refine W8 ?_ | refine W9 ?_ | refine V1 ?_ | refine V2 ?_ | refine V3 ?_ | refine V4 (by decide) ?_ | refine V5 ?_ | refine V6 ?_ | refine V7 ?_ | refine V8 ?_ | refine V9 ?_ | refine U1 ?_ | refine U2 ?_ | refine U3 ?_) | (with_reducible refine U4 ?_ ?_; next => first | omega | exact ⟨trivial, by omega⟩) | ((with_reducible refine U5 _ rfl (fun hq => ?_) (fun hq => ?_)) <;> try (first | (cases hq; done) | exact absurd hq (by decide))) | ((with_reducible refine U6 (fun hq => ?_) (fun hq => ?_)) <;> try (first | (cases hq; done) | exact absurd hq (by decide))) | simp (maxSteps := 2000000) (discharger := first | omega | (simp (discharger := omega) only [Z1, Z2, Z3, Z4, Z5, Z6, Z7] <;> fail) | (simp (discharger := omega) only [Z3, Z8, Z2, Z4, Z1, Z7, Z5, Z6, Z9, Y1, Y2]; omega)) only [go_sem, r6, x1])
      exact ret_same0 hN s5 r5 (show Abs.flat [.int .i64 many] from flat64 [many]) [] trivial rfl (by simp [AV.idsT]) rfl
    · intro _ hiq' x hx
      refine FSpec.of f_impl_CountPairSets_1 (Nat.le_of_ble_eq_true rfl) fun G N hN hr hw => ?_
      simp only [c_impl_CountPairSets_1, List.length_cons, List.length_nil, List.replicate, List.cons_append, List.nil_append]
      simp only [List.mem_cons, List.not_mem_nil, or_false, forall_eq_or_imp, forall_eq] at hr
      obtain ⟨⟨r1, s1⟩, ⟨r2, s2⟩, ⟨r3, s3⟩, ⟨r4, s4⟩, ⟨r5, s5⟩, ⟨r6, s6⟩, ⟨r7, s7⟩, ⟨r8, s8⟩⟩ := hr
      repeat' (first | (with_reducible first | refine W1 ?_ | refine W2 ?_ | refine W3 ?_ | refine W4 mixed ?_ | refine W5 ?_ | refine W6 ?_ | refine W7 ?_ | refine W8 ?_ | refine W9 ?_ | refine V1 ?_ | refine V2 ?_ | refine V3 ?_ | refine V4 (by decide) ?_ | refine V5 ?_ | refine V6 ?_ | refine V7 ?_ | refine V8 ?_ | refine V9 ?_ | refine U1 ?_ | refine U2 ?_ | refine U3 ?_) | (with_reducible refine U4 ?_ ?_; next => first | omega | exact ⟨trivial, by omega⟩) | ((with_reducible refine U5 _ rfl (fun hq => ?_) (fun hq => ?_)) <;> try (first | (cases hq; done) | exact absurd hq (by decide))) | ((with_reducible refine U6 (fun hq => ?_) (fun hq => ?_)) <;> try (first | (cases hq; done) | exact absurd hq (by decide))) | simp (maxSteps := 2000000) (discharger := first | omega | (simp (discharger := omega) only [Z1, Z2, Z3, Z4, Z5, Z6, Z7] <;> fail) | (simp (discharger := omega) only [Z3, Z8, Z2, Z4, Z1, Z7, Z5, Z6, Z9, Y1, Y2]; omega)) only [go_sem, r1, r3, x0])
      have hinit : (∀ k', k' ≠ a15 → k' ≠ a14 → k' ≠ kl → G k' = G k') := fun _ _ _ _ => rfl
      refine swp_for (fun (z : Nat × Int × Heap × List Slot × Nat × List Int) => ([.any, .c (.ptr a15 0), .any, .any, .any, .c (.ptr a10 0), .c (.ptr a16 0), .any, .any, .any, .c (.int .i64 ((z.1 : Nat) : Int))] ++ List.replicate 36 .any)) (fun z => ⟨z.2.2.1, N, z.2.2.2.1⟩) (fun z => q - z.1) (fun z => i ≤ z.1 ∧ z.1 ≤ q ∧ 0 ≤ z.2.1 ∧ z.2.1 ≤ z.1 * 16777216 ∧ lpV f false (q - i) i 0 = lpV f false (q - z.1) z.1 z.2.1 ∧ (∀ k', k' ≠ a15 → k' ≠ a14 → k' ≠ kl → z.2.2.1 k' = G k') ∧ z.2.2.1 a14 = .live ⟨[.int .i64 (many + z.2.1)], true⟩ ∧
        ((z.1 = i ∧ z.2.2.1 a15 = .live ⟨[.slice kl 0 d 18], true⟩ ∧ z.2.2.1 kl = .live ⟨u8s li, true⟩) ∨ (i < z.1 ∧ z.2.2.1 a15 = .live ⟨[.slice (nid N z.2.2.2.2.1) 0 d 18], true⟩ ∧ z.2.2.1 kl = .dead ∧ z.2.2.2.2.1 < z.2.2.2.1.length ∧ gd z.2.2.2.1 z.2.2.2.2.1 = .live ⟨u8s (li ++ z.2.2.2.2.2), true⟩ ∧ (z.1 = q → z.2.2.2.2.2 = sub al ((q - 1) * 18) 18))))
        (i, 0, G, [], 0, []) ⟨Nat.le_refl _, hiq, by simp, by dsimp only; omega, rfl, hinit, by dsimp only; rw [Int.add_zero]; exact r5, .inl ⟨rfl, r1, r2⟩⟩ rfl (by repeat' (first | exact trivial | exact .inl rfl | exact .inr rfl | refine ⟨?_, ?_⟩)) ?_
      rintro ⟨j, s, G', L, c, gg⟩ ⟨hij, hjq, hs0, hsB, hlp, fr, m14, D⟩
      dsimp only at hij hjq hs0 hsB hlp fr m14 D
      simp only [List.replicate, List.cons_append, List.nil_append]
      have q10 := (fr a10 hnd.l15 hnd.l14 hnd.lk).trans r6
      have qka := (fr ka hnd.d15 hnd.d14 hnd.dk).trans r7
      by_cases hlt : j < q
      · have x1 : decide (((j : Nat) : Int) < ((q : Nat) : Int)) = true := decide_eq_true (by omega)
        rw [show q - j = (q - (j + 1)) + 1 from by omega, lpV, if_neg (by simp)] at hlp
        have hv : (sub al (j * 18) 18).length = 18 := sub_length (by omega)
        have hfv := hfj j
        have hfB' := hfB j
        have hl2 : (li ++ sub al (j * 18) 18).length = (d + 1) * 18 := by rw [List.length_append, hl, hv]; omega
        have hp2 := pairsOk_snoc hl hv hpl (pairsOk_at hall hlt)
        have hb2 : byteL (li ++ sub al (j * 18) 18) := fun z hz => by
          rcases List.mem_append.1 hz with hz | hz
          · exact hbl z hz
          · exact hba.sub _ _ z hz
        have n1 : ∀ b, a15 ≠ nid N b := fun b => by unfold nid; omega
        have n2 : ∀ b, kl ≠ nid N b := fun b => by unfold nid; omega
        have n3 : ∀ b, a10 ≠ nid N b := fun b => by unfold nid; omega
        have n4 : ∀ b, ka ≠ nid N b := fun b => by unfold nid; omega
        have n1' : ∀ b, nid N b ≠ a15 := fun b => (n1 b).symm
        have n2' : ∀ b, nid N b ≠ kl := fun b => (n2 b).symm
        have n3' : ∀ b, nid N b ≠ a10 := fun b => (n3 b).symm
        have n4' : ∀ b, nid N b ≠ ka := fun b => (n4 b).symm
        have w1 : a15 ≠ kl := hnd.k15.symm
        have w2 : a15 ≠ a10 := hnd.l15.symm
        have w3 : a15 ≠ ka := hnd.d15.symm
        have w4 : kl ≠ a10 := hnd.lk.symm
        have w5 : kl ≠ ka := hnd.dk.symm
        generalize hqd : sub al (j * 18) 18 = v at hv hl2 hp2 hb2 hfv
        rcases D with ⟨hj0, q15, qkl⟩ | ⟨hj0, q15, qkl, hcL, hgc, hgg⟩
        · have eu : upd G' kl .dead a15 = .live ⟨[.slice kl 0 d 18], true⟩ := by rw [upd_ne _ _ w1]; exact q15
          repeat' (first | (with_reducible first | refine W1 ?_ | refine W2 ?_ | refine W3 ?_ | refine W4 mixed ?_ | refine W5 ?_ | refine W6 ?_ | refine W7 ?_ | refine W8 ?_ | refine W9 ?_ | refine V1 ?_ | refine V2 ?_ | refine V3 ?_ | refine V4 (by decide) ?_ | refine V5 ?_ | refine V6 ?_ | refine V7 ?_ | refine V8 ?_ | refine V9 ?_ | refine U1 ?_ | refine U2 ?_ | refine U3 ?_) | (with_reducible refine U4 ?_ ?_; next => first | omega | exact ⟨trivial, by omega⟩) | ((with_reducible refine U5 _ rfl (fun hq => ?_) (fun hq => ?_)) <;> try (first | (cases hq; done) | exact absurd hq (by decide))) | ((with_reducible refine U6 (fun hq => ?_) (fun hq => ?_)) <;> try (first | (cases hq; done) | exact absurd hq (by decide))) | simp (maxSteps := 2000000) (discharger := first | omega | (simp (discharger := omega) only [Z1, Z2, Z3, Z4, Z5, Z6, Z7] <;> fail) | (simp (discharger := omega) only [Z3, Z8, Z2, Z4, Z1, Z7, Z5, Z6, Z9, Y1, Y2]; omega)) only [go_sem, q10, x1, q15, qkl, qka, hqd, eu])
          refine must_intro (by simp [confV, apart, notIn, lk, n1, n2, n3, n4, n1', n2', n3', n4', w1, w2, w3, w4, w5, w1.symm, w2.symm, w3.symm, w4.symm, w5.symm]) ?_
          clear n2' w2 w3 w4 w5
          obtain ⟨c2, hc2⟩ : ∃ c2, c2 = L.length + 1 := ⟨_, rfl⟩
          rw [← hc2]
          obtain ⟨L1, hL1⟩ : ∃ L1, L1 = setAt (setAt L L.length (.live ⟨u8s v, true⟩)) c2 (.live ⟨u8s (li ++ v), true⟩) := ⟨_, rfl⟩
          rw [← hL1]
          obtain ⟨G1, hG1⟩ : ∃ G1, G1 = upd (upd G' kl .dead) a15 (.live ⟨[.slice (nid N c2) 0 (d + 1) 18], true⟩) := ⟨_, rfl⟩
          rw [← hG1]
          have g15 : G1 a15 = .live ⟨[.slice (nid N c2) 0 (d + 1) 18], true⟩ := by rw [hG1, upd_same]
          have g14 : G1 a14 = .live ⟨[.int .i64 (many + s)], true⟩ := by rw [hG1, upd_ne _ _ hnd.e, upd_ne _ _ hnd.k14.symm]; exact m14
          have gkl : G1 kl = .dead := by rw [hG1, upd_ne _ _ hnd.k15, upd_same]
          have gfr : ∀ k', k' ≠ a15 → k' ≠ a14 → k' ≠ kl → G1 k' = G k' := fun k' h1 h2 h3 => by rw [hG1, upd_ne _ _ h1, upd_ne _ _ h3]; exact fr k' h1 h2 h3
          have gL : gd L1 c2 = .live ⟨u8s (li ++ v), true⟩ := by rw [hL1, gd_setAt_same]
          have gc : c2 < L1.length := by rw [hL1]; simp only [setAt_length]; omega
          have q16 := (gfr a16 hnd.f15 hnd.f14 hnd.fk).trans r8
          repeat' (first | (with_reducible first | refine W1 ?_ | refine W2 ?_ | refine W3 ?_ | refine W4 mixed ?_ | refine W5 ?_ | refine W6 ?_ | refine W7 ?_ | refine W8 ?_ | refine W9 ?_ | refine V1 ?_ | refine V2 ?_ | refine V3 ?_ | refine V4 (by decide) ?_ | refine V5 ?_ | refine V6 ?_ | refine V7 ?_ | refine V8 ?_ | refine V9 ?_ | refine U1 ?_ | refine U2 ?_ | refine U3 ?_) | (with_reducible refine U4 ?_ ?_; next => first | omega | exact ⟨trivial, by omega⟩) | simp (maxSteps := 2000000) (discharger := first | omega | (simp (discharger := omega) only [Z1, Z2, Z3, Z4, Z5, Z6, Z7] <;> fail) | (simp (discharger := omega) only [Z3, Z8, Z2, Z4, Z1, Z7, Z5, Z6, Z9, Y1, Y2]; omega)) only [go_sem, q16])
          have hndc : SV.nd ⟨a15, a7, a13, a14, a10, a16, ka⟩ (nid N c2) := by
            constructor
            · exact n1' c2
            · dsimp only; unfold nid; omega
            · exact hnd.e
            · exact hnd.s15
            · exact hnd.s14
            · dsimp only; unfold nid; omega
            · exact hnd.t15
            · exact hnd.t14
            · dsimp only; unfold nid; omega
            · exact hnd.l15
            · exact hnd.l14
            · exact n3 c2
            · exact hnd.d15
            · exact hnd.d14
            · exact n4 c2
            · exact hnd.f15
            · exact hnd.f14
            · dsimp only; unfold nid; omega
          obtain ⟨IA, IB⟩ := IH (d + 1) (li ++ v) (nid N c2) (j + 1) (many + s) (by omega) (by omega) hl2 hp2 hb2 hndc (by omega)
          simp only [SV.rd, SV.fn, SV.av] at IA IB
          rw [hfv] at IA IB
          have hrd : ∀ p ∈ ([(a15, ⟨[.slice (nid N c2) 0 (d + 1) 18], true⟩), (nid N c2, ⟨u8s (li ++ v), true⟩), (a7, ⟨[.int .i64 ((r : Nat) : Int)], true⟩), (a13, ⟨tenC 2 n m k .nils, true⟩), (a14, ⟨[.int .i64 (many + s)], true⟩), (a10, ⟨[.slice ka 0 q 18], true⟩), (ka, ⟨u8s al, true⟩), (a16, ⟨[.fn 114 [(a15, 0), (a7, 0), (a13, 0), (a14, 0), (a10, 0), (a16, 0)]], true⟩)] : List (Nat × AObj)), (⟨G1, N, L1⟩ : AHeap).get p.1 = .live p.2 := by
            simp only [List.mem_cons, List.not_mem_nil, or_false, forall_eq_or_imp, forall_eq]
            refine ⟨(get_old s1).trans g15, get_new.trans gL, (get_old s3).trans ((gfr _ hnd.s15 hnd.s14 hnd.sk).trans r3), (get_old s4).trans ((gfr _ hnd.t15 hnd.t14 hnd.tk).trans r4), (get_old s5).trans g14, (get_old s6).trans ((gfr _ hnd.l15 hnd.l14 hnd.lk).trans r6), (get_old s7).trans ((gfr _ hnd.d15 hnd.d14 hnd.dk).trans r7), (get_old s8).trans q16⟩
          have e1 : ((d + 1 : Nat) : Int) - 1 = ((d : Nat) : Int) := by omega
          by_cases hmv : rest = 0 ∨ q ≤ j + 1
          · refine call_intro (IA hmv) hrd (by simp only [List.mem_singleton]; rintro p rfl; exact .inl ⟨_, .tail _ (.tail _ (.tail _ (.tail _ (.head _))))⟩) ?_
            have e15 : upd G1 a14 (.live ⟨[.int .i64 (many + s + f j)], true⟩) a15 = .live ⟨[.slice (nid N c2) 0 (d + 1) 18], true⟩ := by rw [upd_ne _ _ hnd.e.symm]; exact g15
            repeat' (first | (with_reducible first | refine W1 ?_ | refine W2 ?_ | refine W3 ?_ | refine W4 mixed ?_ | refine W5 ?_ | refine W6 ?_ | refine W7 ?_ | refine W8 ?_ | refine W9 ?_ | refine V1 ?_ | refine V2 ?_ | refine V3 ?_ | refine V4 (by decide) ?_ | refine V5 ?_ | refine V6 ?_ | refine V7 ?_ | refine V8 ?_ | refine V9 ?_ | refine U1 ?_ | refine U2 ?_ | refine U3 ?_) | (with_reducible refine U4 ?_ ?_; next => first | omega | exact ⟨trivial, by omega⟩) | simp (maxSteps := 2000000) (discharger := first | omega | (simp (discharger := omega) only [Z1, Z2, Z3, Z4, Z5, Z6, Z7] <;> fail) | (simp (discharger := omega) only [Z3, Z8, Z2, Z4, Z1, Z7, Z5, Z6, Z9, Y1, Y2]; omega)) only [go_sem, e15, e1])
            refine forK_same (j + 1, s + f j, upd (upd G1 a14 (.live ⟨[.int .i64 (many + s + f j)], true⟩)) a15 (.live ⟨[.slice (nid N c2) 0 d 18], true⟩), L1, c2, v) (by dsimp only; omega) ⟨by dsimp only; omega, by dsimp only; omega, by dsimp only; omega, by dsimp only; omega, hlp, ?_, ?_, .inr ⟨by dsimp only; omega, ?_, ?_, gc, ?_, ?_⟩⟩ rfl (by repeat' (first | exact trivial | exact .inl rfl | exact .inr rfl | refine ⟨?_, ?_⟩))
            · intro k' h1 h2 h3
              dsimp only
              rw [upd_ne _ _ h1, upd_ne _ _ h2]
              exact gfr k' h1 h2 h3
            · dsimp only
              rw [upd_ne _ _ hnd.e, upd_same, Int.add_assoc]
            · dsimp only; rw [upd_same]
            · dsimp only
              rw [upd_ne _ _ hnd.k15, upd_ne _ _ hnd.k14]
              exact gkl
            · exact gL
            · intro hje
              dsimp only at hje ⊢
              rw [← hqd, show q - 1 = j from by omega]
          · have hx2 : ∀ p ∈ ([(a15, ⟨[.slice (nid N c2) 0 (d + 1) 18], true⟩), (nid N c2, ⟨u8s (li ++ v), true⟩), (a7, ⟨[.int .i64 ((r : Nat) : Int)], true⟩), (a13, ⟨tenC 2 n m k .nils, true⟩), (a14, ⟨[.int .i64 (many + s)], true⟩), (a10, ⟨[.slice ka 0 q 18], true⟩), (ka, ⟨u8s al, true⟩), (a16, ⟨[.fn 114 [(a15, 0), (a7, 0), (a13, 0), (a14, 0), (a10, 0), (a16, 0)]], true⟩)] : List (Nat × AObj)), p.1 ≠ nid N L1.length := by
              intro p hp e
              have := hrd p hp
              rw [e, get_new, gd_len (Nat.le_refl _)] at this
              cases this
            refine call_intro (IB (by omega) (by omega) (nid N L1.length) hx2) hrd (by
              intro p hp
              simp only [List.mem_cons, List.not_mem_nil, or_false] at hp
              rcases hp with rfl | rfl | rfl | rfl
              · exact .inl ⟨_, .tail _ (.tail _ (.tail _ (.tail _ (.head _))))⟩
              · exact .inl ⟨_, .head _⟩
              · exact .inl ⟨_, .tail _ (.head _)⟩
              · exact .inr (by dsimp only; rw [get_new, gd_len (Nat.le_refl _)])) ?_
            have e15 : upd (upd G1 a14 (.live ⟨[.int .i64 (many + s + f j)], true⟩)) a15 (.live ⟨[.slice (nid N L1.length) 0 (d + 1) 18], true⟩) a15 = .live ⟨[.slice (nid N L1.length) 0 (d + 1) 18], true⟩ := upd_same _ _ _
            repeat' (first | (with_reducible first | refine W1 ?_ | refine W2 ?_ | refine W3 ?_ | refine W4 mixed ?_ | refine W5 ?_ | refine W6 ?_ | refine W7 ?_ | refine W8 ?_ | refine W9 ?_ | refine V1 ?_ | refine V2 ?_ | refine V3 ?_ | refine V4 (by decide) ?_ | refine V5 ?_ | refine V6 ?_ | refine V7 ?_ | refine V8 ?_ | refine V9 ?_ | refine U1 ?_ | refine U2 ?_ | refine U3 ?_) | (with_reducible refine U4 ?_ ?_; next => first | omega | exact ⟨trivial, by omega⟩) | simp (maxSteps := 2000000) (discharger := first | omega | (simp (discharger := omega) only [Z1, Z2, Z3, Z4, Z5, Z6, Z7] <;> fail) | (simp (discharger := omega) only [Z3, Z8, Z2, Z4, Z1, Z7, Z5, Z6, Z9, Y1, Y2]; omega)) only [go_sem, e15, e1])
            refine forK_same (j + 1, s + f j, upd (upd (upd G1 a14 (.live ⟨[.int .i64 (many + s + f j)], true⟩)) a15 (.live ⟨[.slice (nid N L1.length) 0 (d + 1) 18], true⟩)) a15 (.live ⟨[.slice (nid N L1.length) 0 d 18], true⟩), setAt (setAt L1 c2 .dead) L1.length (.live ⟨u8s (li ++ v ++ sub al ((q - 1) * 18) 18), true⟩), L1.length, v ++ sub al ((q - 1) * 18) 18) (by dsimp only; omega) ⟨by dsimp only; omega, by dsimp only; omega, by dsimp only; omega, by dsimp only; omega, hlp, ?_, ?_, .inr ⟨by dsimp only; omega, ?_, ?_, ?_, ?_, ?_⟩⟩ rfl (by repeat' (first | exact trivial | exact .inl rfl | exact .inr rfl | refine ⟨?_, ?_⟩))
            · intro k' h1 h2 h3
              dsimp only
              rw [upd_ne _ _ h1, upd_ne _ _ h1, upd_ne _ _ h2]
              exact gfr k' h1 h2 h3
            · dsimp only
              rw [upd_ne _ _ hnd.e, upd_ne _ _ hnd.e, upd_same, Int.add_assoc]
            · dsimp only; rw [upd_same]
            · dsimp only
              rw [upd_ne _ _ hnd.k15, upd_ne _ _ hnd.k15, upd_ne _ _ hnd.k14]
              exact gkl
            · dsimp only; simp only [setAt_length]; omega
            · dsimp only
              rw [gd_setAt_same, List.append_assoc]
            · intro hje
              dsimp only at hje
              omega
        · have hcn : nid N c ≠ nid N L.length := by unfold nid; omega
          have hcn2 : nid N c ≠ nid N (L.length + 1) := by unfold nid; omega
          have hglen : (li ++ gg).length = d * 18 + gg.length := by rw [List.length_append, hl]
          repeat' (first | (with_reducible first | refine W1 ?_ | refine W2 ?_ | refine W3 ?_ | refine W4 mixed ?_ | refine W5 ?_ | refine W6 ?_ | refine W7 ?_ | refine W8 ?_ | refine W9 ?_ | refine V1 ?_ | refine V2 ?_ | refine V3 ?_ | refine V4 (by decide) ?_ | refine V5 ?_ | refine V6 ?_ | refine V7 ?_ | refine V8 ?_ | refine V9 ?_ | refine U1 ?_ | refine U2 ?_ | refine U3 ?_) | (with_reducible refine U4 ?_ ?_; next => first | omega | exact ⟨trivial, by omega⟩) | ((with_reducible refine U5 _ rfl (fun hq => ?_) (fun hq => ?_)) <;> try (first | (cases hq; done) | exact absurd hq (by decide))) | ((with_reducible refine U6 (fun hq => ?_) (fun hq => ?_)) <;> try (first | (cases hq; done) | exact absurd hq (by decide))) | simp (maxSteps := 2000000) (discharger := first | omega | (simp (discharger := omega) only [Z1, Z2, Z3, Z4, Z5, Z6, Z7] <;> fail) | (simp (discharger := omega) only [Z3, Z8, Z2, Z4, Z1, Z7, Z5, Z6, Z9, Y1, Y2]; omega)) only [go_sem, q10, x1, q15, hgc, qka, hqd])
          refine must_intro (by simp [confV, apart, notIn, lk, n1, n2, n3, n4, n1', n2', n3', n4', w1, w2, w3, w4, w5, w1.symm, w2.symm, w3.symm, w4.symm, w5.symm, hcn, hcn2]) ?_
          rw [sub_pre hl]
          clear n2' w2 w3 w4 w5 hcn hcn2
          obtain ⟨c2, hc2⟩ : ∃ c2, c2 = L.length + 1 := ⟨_, rfl⟩
          rw [← hc2]
          obtain ⟨L1, hL1⟩ : ∃ L1, L1 = setAt (setAt (setAt L L.length (.live ⟨u8s v, true⟩)) c .dead) c2 (.live ⟨u8s (li ++ v), true⟩) := ⟨_, rfl⟩
          rw [← hL1]
          obtain ⟨G1, hG1⟩ : ∃ G1, G1 = upd G' a15 (.live ⟨[.slice (nid N c2) 0 (d + 1) 18], true⟩) := ⟨_, rfl⟩
          rw [← hG1]
          have g15 : G1 a15 = .live ⟨[.slice (nid N c2) 0 (d + 1) 18], true⟩ := by rw [hG1, upd_same]
          have g14 : G1 a14 = .live ⟨[.int .i64 (many + s)], true⟩ := by rw [hG1, upd_ne _ _ hnd.e]; exact m14
          have gkl : G1 kl = .dead := by rw [hG1, upd_ne _ _ hnd.k15]; exact qkl
          have gfr : ∀ k', k' ≠ a15 → k' ≠ a14 → k' ≠ kl → G1 k' = G k' := fun k' h1 h2 h3 => by rw [hG1, upd_ne _ _ h1]; exact fr k' h1 h2 h3
          have gL : gd L1 c2 = .live ⟨u8s (li ++ v), true⟩ := by rw [hL1, gd_setAt_same]
          have gc : c2 < L1.length := by rw [hL1]; simp only [setAt_length]; omega
          have q16 := (gfr a16 hnd.f15 hnd.f14 hnd.fk).trans r8
          repeat' (first | (with_reducible first | refine W1 ?_ | refine W2 ?_ | refine W3 ?_ | refine W4 mixed ?_ | refine W5 ?_ | refine W6 ?_ | refine W7 ?_ | refine W8 ?_ | refine W9 ?_ | refine V1 ?_ | refine V2 ?_ | refine V3 ?_ | refine V4 (by decide) ?_ | refine V5 ?_ | refine V6 ?_ | refine V7 ?_ | refine V8 ?_ | refine V9 ?_ | refine U1 ?_ | refine U2 ?_ | refine U3 ?_) | (with_reducible refine U4 ?_ ?_; next => first | omega | exact ⟨trivial, by omega⟩) | simp (maxSteps := 2000000) (discharger := first | omega | (simp (discharger := omega) only [Z1, Z2, Z3, Z4, Z5, Z6, Z7] <;> fail) | (simp (discharger := omega) only [Z3, Z8, Z2, Z4, Z1, Z7, Z5, Z6, Z9, Y1, Y2]; omega)) only [go_sem, q16])
          have hndc : SV.nd ⟨a15, a7, a13, a14, a10, a16, ka⟩ (nid N c2) := by
            constructor
            · exact n1' c2
            · dsimp only; unfold nid; omega
            · exact hnd.e
            · exact hnd.s15
            · exact hnd.s14
            · dsimp only; unfold nid; omega
            · exact hnd.t15
            · exact hnd.t14
            · dsimp only; unfold nid; omega
            · exact hnd.l15
            · exact hnd.l14
            · exact n3 c2
            · exact hnd.d15
            · exact hnd.d14
            · exact n4 c2
            · exact hnd.f15
            · exact hnd.f14
            · dsimp only; unfold nid; omega
          obtain ⟨IA, IB⟩ := IH (d + 1) (li ++ v) (nid N c2) (j + 1) (many + s) (by omega) (by omega) hl2 hp2 hb2 hndc (by omega)
          simp only [SV.rd, SV.fn, SV.av] at IA IB
          rw [hfv] at IA IB
          have hrd : ∀ p ∈ ([(a15, ⟨[.slice (nid N c2) 0 (d + 1) 18], true⟩), (nid N c2, ⟨u8s (li ++ v), true⟩), (a7, ⟨[.int .i64 ((r : Nat) : Int)], true⟩), (a13, ⟨tenC 2 n m k .nils, true⟩), (a14, ⟨[.int .i64 (many + s)], true⟩), (a10, ⟨[.slice ka 0 q 18], true⟩), (ka, ⟨u8s al, true⟩), (a16, ⟨[.fn 114 [(a15, 0), (a7, 0), (a13, 0), (a14, 0), (a10, 0), (a16, 0)]], true⟩)] : List (Nat × AObj)), (⟨G1, N, L1⟩ : AHeap).get p.1 = .live p.2 := by
            simp only [List.mem_cons, List.not_mem_nil, or_false, forall_eq_or_imp, forall_eq]
            refine ⟨(get_old s1).trans g15, get_new.trans gL, (get_old s3).trans ((gfr _ hnd.s15 hnd.s14 hnd.sk).trans r3), (get_old s4).trans ((gfr _ hnd.t15 hnd.t14 hnd.tk).trans r4), (get_old s5).trans g14, (get_old s6).trans ((gfr _ hnd.l15 hnd.l14 hnd.lk).trans r6), (get_old s7).trans ((gfr _ hnd.d15 hnd.d14 hnd.dk).trans r7), (get_old s8).trans q16⟩
          have e1 : ((d + 1 : Nat) : Int) - 1 = ((d : Nat) : Int) := by omega
          by_cases hmv : rest = 0 ∨ q ≤ j + 1
          · refine call_intro (IA hmv) hrd (by simp only [List.mem_singleton]; rintro p rfl; exact .inl ⟨_, .tail _ (.tail _ (.tail _ (.tail _ (.head _))))⟩) ?_
            have e15 : upd G1 a14 (.live ⟨[.int .i64 (many + s + f j)], true⟩) a15 = .live ⟨[.slice (nid N c2) 0 (d + 1) 18], true⟩ := by rw [upd_ne _ _ hnd.e.symm]; exact g15
            repeat' (first | (with_reducible first | refine W1 ?_ | refine W2 ?_ | refine W3 ?_ | refine W4 mixed ?_ | refine W5 ?_ | refine W6 ?_ | refine W7 ?_ | refine W8 ?_ | refine W9 ?_ | refine V1 ?_ | refine V2 ?_ | refine V3 ?_ | refine V4 (by decide) ?_ | refine V5 ?_ | refine V6 ?_ | refine V7 ?_ | refine V8 ?_ | refine V9 ?_ | refine U1 ?_ | refine U2 ?_ | refine U3 ?_) | (with_reducible refine U4 ?_ ?_; next => first | omega | exact ⟨trivial, by omega⟩) | simp (maxSteps := 2000000) (discharger := first | omega | (simp (discharger := omega) only [Z1, Z2, Z3, Z4, Z5, Z6, Z7] <;> fail) | (simp (discharger := omega) only [Z3, Z8, Z2, Z4, Z1, Z7, Z5, Z6, Z9, Y1, Y2]; omega)) only [go_sem, e15, e1])
            refine forK_same (j + 1, s + f j, upd (upd G1 a14 (.live ⟨[.int .i64 (many + s + f j)], true⟩)) a15 (.live ⟨[.slice (nid N c2) 0 d 18], true⟩), L1, c2, v) (by dsimp only; omega) ⟨by dsimp only; omega, by dsimp only; omega, by dsimp only; omega, by dsimp only; omega, hlp, ?_, ?_, .inr ⟨by dsimp only; omega, ?_, ?_, gc, ?_, ?_⟩⟩ rfl (by repeat' (first | exact trivial | exact .inl rfl | exact .inr rfl | refine ⟨?_, ?_⟩))
            · intro k' h1 h2 h3
              dsimp only
              rw [upd_ne _ _ h1, upd_ne _ _ h2]
              exact gfr k' h1 h2 h3
            · dsimp only
              rw [upd_ne _ _ hnd.e, upd_same, Int.add_assoc]
            · dsimp only; rw [upd_same]
            · dsimp only
              rw [upd_ne _ _ hnd.k15, upd_ne _ _ hnd.k14]
              exact gkl
            · exact gL
            · intro hje
              dsimp only at hje ⊢
              rw [← hqd, show q - 1 = j from by omega]
          · have hx2 : ∀ p ∈ ([(a15, ⟨[.slice (nid N c2) 0 (d + 1) 18], true⟩), (nid N c2, ⟨u8s (li ++ v), true⟩), (a7, ⟨[.int .i64 ((r : Nat) : Int)], true⟩), (a13, ⟨tenC 2 n m k .nils, true⟩), (a14, ⟨[.int .i64 (many + s)], true⟩), (a10, ⟨[.slice ka 0 q 18], true⟩), (ka, ⟨u8s al, true⟩), (a16, ⟨[.fn 114 [(a15, 0), (a7, 0), (a13, 0), (a14, 0), (a10, 0), (a16, 0)]], true⟩)] : List (Nat × AObj)), p.1 ≠ nid N L1.length := by
              intro p hp e
              have := hrd p hp
              rw [e, get_new, gd_len (Nat.le_refl _)] at this
              cases this
            refine call_intro (IB (by omega) (by omega) (nid N L1.length) hx2) hrd (by
              intro p hp
              simp only [List.mem_cons, List.not_mem_nil, or_false] at hp
              rcases hp with rfl | rfl | rfl | rfl
              · exact .inl ⟨_, .tail _ (.tail _ (.tail _ (.tail _ (.head _))))⟩
              · exact .inl ⟨_, .head _⟩
              · exact .inl ⟨_, .tail _ (.head _)⟩
              · exact .inr (by dsimp only; rw [get_new, gd_len (Nat.le_refl _)])) ?_
            have e15 : upd (upd G1 a14 (.live ⟨[.int .i64 (many + s + f j)], true⟩)) a15 (.live ⟨[.slice (nid N L1.length) 0 (d + 1) 18], true⟩) a15 = .live ⟨[.slice (nid N L1.length) 0 (d + 1) 18], true⟩ := upd_same _ _ _
            repeat' (first | (with_reducible first | refine W1 ?_ | refine W2 ?_ | refine W3 ?_ | refine W4 mixed ?_ | refine W5 ?_ | refine W6 ?_ | refine W7 ?_ | refine W8 ?_ | refine W9 ?_ | refine V1 ?_ | refine V2 ?_ | refine V3 ?_ | refine V4 (by decide) ?_ | refine V5 ?_ | refine V6 ?_ | refine V7 ?_ | refine V8 ?_ | refine V9 ?_ | refine U1 ?_ | refine U2 ?_ | refine U3 ?_) | (with_reducible refine U4 ?_ ?_; next => first | omega | exact ⟨trivial, by omega⟩) | simp (maxSteps := 2000000) (discharger := first | omega | (simp (discharger := omega) only [Z1, Z2, Z3, Z4, Z5, Z6, Z7] <;> fail) | (simp (discharger := omega) only [Z3, Z8, Z2, Z4, Z1, Z7, Z5, Z6, Z9, Y1, Y2]; omega)) only [go_sem, e15, e1])
            refine forK_same (j + 1, s + f j, upd (upd (upd G1 a14 (.live ⟨[.int .i64 (many + s + f j)], true⟩)) a15 (.live ⟨[.slice (nid N L1.length) 0 (d + 1) 18], true⟩)) a15 (.live ⟨[.slice (nid N L1.length) 0 d 18], true⟩), setAt (setAt L1 c2 .dead) L1.length (.live ⟨u8s (li ++ v ++ sub al ((q - 1) * 18) 18), true⟩), L1.length, v ++ sub al ((q - 1) * 18) 18) (by dsimp only; omega) ⟨by dsimp only; omega, by dsimp only; omega, by dsimp only; omega, by dsimp only; omega, hlp, ?_, ?_, .inr ⟨by dsimp only; omega, ?_, ?_, ?_, ?_, ?_⟩⟩ rfl (by repeat' (first | exact trivial | exact .inl rfl | exact .inr rfl | refine ⟨?_, ?_⟩))
            · intro k' h1 h2 h3
              dsimp only
              rw [upd_ne _ _ h1, upd_ne _ _ h1, upd_ne _ _ h2]
              exact gfr k' h1 h2 h3
            · dsimp only
              rw [upd_ne _ _ hnd.e, upd_ne _ _ hnd.e, upd_same, Int.add_assoc]
            · dsimp only; rw [upd_same]
            · dsimp only
              rw [upd_ne _ _ hnd.k15, upd_ne _ _ hnd.k15, upd_ne _ _ hnd.k14]
              exact gkl
            · dsimp only; simp only [setAt_length]; omega
            · dsimp only
              rw [gd_setAt_same, List.append_assoc]
            · intro hje
              dsimp only at hje
              omega
      · have hje : j = q := by omega
        have x1 : decide (((j : Nat) : Int) < ((q : Nat) : Int)) = false := decide_eq_false (by omega)
        rw [hje, Nat.sub_self, lpV] at hlp
        rw [hlp] at hw ⊢
        rcases D with ⟨hj0, -⟩ | ⟨hj0, q15, qkl, hcL, hgc, hgg⟩
        · omega
        rw [hgg hje] at hgc
        repeat' (first | (with_reducible first | refine W1 ?_ | refine W2 ?_ | refine W3 ?_ | refine W4 mixed ?_ | refine W5 ?_ | refine W6 ?_ | refine W7 ?_ | refine W8 ?_ | refine W9 ?_ | refine V1 ?_ | refine V2 ?_ | refine V3 ?_ | refine V4 (by decide) ?_ | refine V5 ?_ | refine V6 ?_ | refine V7 ?_ | refine V8 ?_ | refine V9 ?_ | refine U1 ?_ | refine U2 ?_ | refine U3 ?_) | (with_reducible refine U4 ?_ ?_; next => first | omega | exact ⟨trivial, by omega⟩) | ((with_reducible refine U5 _ rfl (fun hq => ?_) (fun hq => ?_)) <;> try (first | (cases hq; done) | exact absurd hq (by decide))) | ((with_reducible refine U6 (fun hq => ?_) (fun hq => ?_)) <;> try (first | (cases hq; done) | exact absurd hq (by decide))) | simp (maxSteps := 2000000) (discharger := first | omega | (simp (discharger := omega) only [Z1, Z2, Z3, Z4, Z5, Z6, Z7] <;> fail) | (simp (discharger := omega) only [Z3, Z8, Z2, Z4, Z1, Z7, Z5, Z6, Z9, Y1, Y2]; omega)) only [go_sem, q10, x1])
        have hx15 : a15 ≠ x := hx _ (.head _)
        have hxkl : kl ≠ x := hx _ (.tail _ (.head _))
        have hx14 : a14 ≠ x := hx _ (.tail _ (.tail _ (.tail _ (.tail _ (.head _)))))
        have hfx : G x = .free := by
          rcases (hw (x, _) (.tail _ (.tail _ (.tail _ (.head _))))).2 with ⟨ob, hob⟩ | h
          · exact absurd rfl (hx _ hob)
          · exact h
        have hnf : ∀ k', k' ≠ a15 → k' ≠ a14 → k' ≠ kl → k' ≠ x → upd (upd (upd (upd G a14 (.live ⟨[.int .i64 (many + s)], true⟩)) a15 (.live ⟨[.slice x 0 d 18], true⟩)) kl .dead) x (.live ⟨u8s (li ++ sub al ((q - 1) * 18) 18), true⟩) k' = G k' := fun k' h1 h2 h3 h4 => by rw [upd_ne _ _ h4, upd_ne _ _ h3, upd_ne _ _ h1, upd_ne _ _ h2]
        refine ret_ptr hN (F := upd (upd (upd (upd G a14 (.live ⟨[.int .i64 (many + s)], true⟩)) a15 (.live ⟨[.slice x 0 d 18], true⟩)) kl .dead) x (.live ⟨u8s (li ++ sub al ((q - 1) * 18) 18), true⟩)) (x := x) (j := c) rfl hfx (upd_same _ _ _) (flat_u8s _) hgc ?_ ?_ [] trivial (.tup fun _ h => by cases h) rfl
        · intro k' hk' o ho
          by_cases e1 : k' = kl
          · rw [e1, upd_ne _ _ hxkl, upd_same] at ho; cases ho
          by_cases e2 : k' = a15
          · subst e2
            rw [upd_ne _ _ hx15, upd_ne _ _ hnd.k15.symm, upd_same] at ho
            cases ho
            refine ⟨s1, .inr ⟨?_, ?_⟩⟩
            · rw [q15]; simp [Cell.mapIds]
            · intro c' hc' i' hi'
              simp only [List.mem_singleton] at hc'
              subst hc'
              simp only [Cell.ids, List.mem_singleton] at hi'
              rw [hi', upd_same]
              simp
          by_cases e3 : k' = a14
          · subst e3
            rw [upd_ne _ _ hx14, upd_ne _ _ hnd.k14.symm, upd_ne _ _ hnd.e, upd_same] at ho
            cases ho
            refine ⟨s5, .inr ⟨?_, ?_⟩⟩
            · rw [m14]; simp [Cell.mapIds]
            · intro c' hc' i' hi'
              simp only [List.mem_singleton] at hc'
              subst hc'
              simp [Cell.ids] at hi'
          rw [hnf k' e2 e3 e1 hk'] at ho
          refine ⟨?_, .inl ⟨ho, (fr k' e2 e3 e1).trans ho⟩⟩
          rcases Nat.lt_or_ge k' N with h | h
          · exact h
          · rw [hN k' h] at ho; cases ho
        · intro k' hk'
          by_cases e4 : k' = x
          · rw [e4, upd_same]; simp
          by_cases e1 : k' = kl
          · rw [e1, upd_ne _ _ hxkl, upd_same]; simp
          by_cases e2 : k' = a15
          · rw [e2, upd_ne _ _ hx15, upd_ne _ _ hnd.k15.symm, upd_same]; simp
          by_cases e3 : k' = a14
          · rw [e3, upd_ne _ _ hx14, upd_ne _ _ hnd.k14.symm, upd_ne _ _ hnd.e, upd_same]; simp
          rw [hnf k' e2 e3 e1 e4]
          exact hk'
end Go.Proofs.Ytcfemdhlcjmlbaa
