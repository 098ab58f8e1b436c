/- Sets of pairs that can be completed: the lower bound, plain laws, and the reference's walk. -/
import Derived.Test.YtcmmbnhdfkcpdaaY15
import Derived.Test.YtcmmbnhdfkcpdaaV3
namespace Go.Proofs.Ytcmmbnhdfkcpdaa
open Go Go.Abs
set_option maxRecDepth 100000
/- loop.example/g01262/spec.l10Sets -/
def c_spec_l10Sets : SFn := ⟨(.seq (.ops [⟨some 6, .box 41 (.tmp 0), none⟩, ⟨some 12, .assign (.const (.int .i64 0)), none⟩])
 (.seq (.seq (.ops [⟨some 18, .move (.tmp 4), none⟩, ⟨some 19, .binOp .eql 2 (.tmp 18) (.const (.int .i64 0)) 2, none⟩])
   (.cond (.tmp 19) (.seq (.seq (.ops [⟨some 21, .load 41 (.tmp 6), none⟩, ⟨some 22, .move (.tmp 2), none⟩, ⟨some 23, .call ⟨.value (.func 82), #[.tmp 21, .tmp 22], #[41, 35]⟩, none⟩, ⟨some 20, .move (.tmp 23), none⟩, ⟨some 24, .extract (.tmp 20) 0, none⟩, ⟨some 25, .extract (.tmp 20) 1, none⟩, ⟨some 13, .alloc 41, none⟩, ⟨none, .store 41 (.tmp 13) (.tmp 24), none⟩, ⟨some 14, .assign (.tmp 25), none⟩])
      (.seq (.ops [⟨some 26, .move (.tmp 14), none⟩])
       (.cond (.tmp 26) (.seq (.ops [⟨some 12, .assign (.const (.int .i64 1)), none⟩])
         .ret)
        .skip)))
     (.seq (.ops [⟨some 12, .assign (.const (.int .i64 0)), none⟩])
      .ret))
    .skip))
  (.seq (.ops [⟨some 15, .assign (.const (.int .i64 0)), none⟩])
   (.seq (.seq (.ops [⟨some 27, .move (.tmp 3), none⟩, ⟨some 16, .assign (.tmp 27), none⟩])
     (.block 0 (.loop (.seq (.seq (.ops [⟨some 28, .move (.tmp 16), none⟩, ⟨some 29, .move (.tmp 1), none⟩, ⟨some 30, .call ⟨.builtin .len, #[.tmp 29], #[35]⟩, none⟩, ⟨some 31, .binOp .lss 3 (.tmp 28) (.tmp 30) 3, none⟩, ⟨some 32, .move (.tmp 31), none⟩, ⟨some 33, .move (.tmp 5), some (32, true)⟩, ⟨some 34, .move (.tmp 33), some (32, true)⟩, ⟨some 35, .move (.tmp 15), some (34, true)⟩, ⟨some 36, .binOp .gtr 2 (.tmp 35) (.const (.int .i64 0)) 2, some (34, true)⟩, ⟨some 37, .pick (.tmp 34) (.tmp 36) (.const (.bool false)), some (32, true)⟩, ⟨some 38, .unOp .not 4 (.tmp 37), some (32, true)⟩, ⟨some 39, .pick (.tmp 32) (.tmp 38) (.const (.bool false)), none⟩])
         (.cond (.tmp 39) .skip
          (.exit 0)))
        (.seq (.block 1 (.seq (.opsD [⟨some 42, .buildSlice 35 0 #[], none⟩, ⟨some 43, .move (.tmp 2), none⟩, ⟨some 44, .call ⟨.builtin .append, #[.tmp 42, .tmp 43], #[35, 35]⟩, none⟩, ⟨some 45, .move (.tmp 1), none⟩, ⟨some 46, .move (.tmp 16), none⟩, ⟨some 47, .indexAddr 35 (.tmp 45) (.tmp 46), none⟩, ⟨some 48, .load 98 (.tmp 47), none⟩, ⟨some 49, .buildSlice 35 1 #[(0, .tmp 48)], none⟩, ⟨some 50, .call ⟨.builtin .append, #[.tmp 44, .tmp 49], #[35, 35]⟩, none⟩, ⟨some 17, .assign (.tmp 50), none⟩] [(0, 6), (0, 7), (2, 6), (2, 7)])
           (.ops [⟨some 51, .move (.tmp 15), none⟩, ⟨some 52, .load 41 (.tmp 6), none⟩, ⟨some 53, .move (.tmp 1), none⟩, ⟨some 54, .move (.tmp 17), none⟩, ⟨some 55, .move (.tmp 16), none⟩, ⟨some 56, .binOp .add 3 (.tmp 55) (.const (.int .i64 1)) 3, none⟩, ⟨some 57, .move (.tmp 4), none⟩, ⟨some 58, .binOp .sub 2 (.tmp 57) (.const (.int .i64 1)) 2, none⟩, ⟨some 59, .move (.tmp 5), none⟩, ⟨some 60, .call ⟨.value (.func 99), #[.tmp 52, .tmp 53, .tmp 54, .tmp 56, .tmp 58, .tmp 59], #[41, 35, 35, 3, 2, 4]⟩, none⟩, ⟨some 61, .binOp .add 2 (.tmp 51) (.tmp 60) 2, none⟩, ⟨some 15, .assign (.tmp 61), none⟩])))
         (.ops [⟨some 40, .move (.tmp 16), none⟩, ⟨some 41, .binOp .add 3 (.tmp 40) (.const (.int .i64 1)) 3, none⟩, ⟨some 16, .assign (.tmp 41), none⟩]))))))
    (.seq (.ops [⟨some 62, .move (.tmp 15), none⟩, ⟨some 12, .assign (.tmp 62), none⟩])
     .ret))))), [.tmp 12], 63⟩
theorem f_spec_l10Sets : isFn Go.Proofs.Try.prog 99 = some c_spec_l10Sets := by kernel_rfl


set_option maxRecDepth 100000
set_option maxHeartbeats 16000000
set_option linter.unusedVariables false
attribute [-simp] List.getD_eq_getElem?_getD
attribute [-go_sem] confV

theorem nnC_all {l : List Int} : ∀ {t : Nat}, (∀ i, i < t → 0 ≤ l.getD i 0) → nnC l t = t
  | 0, _ => rfl
  | t + 1, h => by rw [nnC, if_pos (h t (by omega)), nnC_all fun i hi => h i (by omega)]
/-- Fewer rows than columns: some numbers, not all 0, that all rows take to 0. -/
theorem ker_ex {p : Int} {d D : Nat} (hP : isP p = true) (u : Nat → Nat → Int) (hu : ∀ q j, 0 ≤ u q j ∧ u q j < p) (h : d < D) : ∃ (g : Nat → Int) (i : Nat), i < D ∧ g i = 1 ∧ ∀ q, q < d → p ∣ sumF (fun j => u q j * g j) D := by
  have hp : 2 ≤ p := by simp [isP] at hP; omega
  obtain ⟨R, hR⟩ : ∃ R : List (List Int), R = (List.range d).map (fun q => (List.range D).map (u q)) := ⟨_, rfl⟩
  have hl : R.length = d := by rw [hR]; simp
  have hg : ∀ q, q < d → R.getD q [] = (List.range D).map (u q) := fun q hq => by rw [hR]; simp [List.getD_eq_getElem?_getD, hq]
  have hE : ∀ q j, q < d → j < D → Ef R q j = u q j := fun q j hq hj => by rw [Ef, hg q hq]; simp [List.getD_eq_getElem?_getD, hj]
  have hok : RkOk p D R := by
    constructor
    · intro q hq; rw [hg q (by omega)]; simp
    · intro q j hq
      by_cases hj : j < D
      · have := hE q j (by omega) hj; rw [Ef] at this; rw [this]; exact hu q j
      · rw [getD_none (by rw [hg q (by omega)]; simp; omega)]; omega
  obtain ⟨s1, s2, s3, s4, s5⟩ := svL_inv hP hok D (Nat.le_refl _)
  obtain ⟨-, hnn⟩ := svL_nn p R D
  rw [hl] at s4 s5
  generalize svL p R D = S at s1 s2 s3 s4 s5 hnn
  obtain ⟨R', at_, done⟩ := S
  dsimp only at s1 s2 s3 s4 s5 hnn
  have h6 := s4.p6
  have hex : ∃ i, i < D ∧ at_.getD i 0 = -1 := by
    apply Classical.byContradiction
    intro hno
    have : nnC at_ D = D := nnC_all fun i hi => by
      rcases s4.p1 i hi with e | ⟨q, -, e⟩
      · exact absurd ⟨i, hi, e⟩ hno
      · rw [atF] at e; omega
    omega
  obtain ⟨i, hi, ha⟩ := hex
  obtain ⟨x, hx1, hx2⟩ := (s4.dep hp s5 (Nat.le_refl _) i hi).2 ha
  refine ⟨fun j => if j ≤ i then x j else 0, i, hi, by simp [hx1], fun q hq => ?_⟩
  have e1 : sumF (fun j => u q j * (if j ≤ i then x j else 0)) D = sumF (fun j => Ef R q j * x j) (i + 1) := by
    rw [sumF_ext (n := i + 1) (by omega) fun j h1 h2 => by rw [if_neg (by omega), Int.mul_zero]]
    exact sumF_congr fun j hj => by rw [if_pos (by omega), hE q j hq (by omega)]
  show p ∣ sumF (fun j => u q j * (if j ≤ i then x j else 0)) D
  rw [e1]
  exact hx2 q hq
/-- A test that all tables fail and a right side passes. -/
theorem low {p : Int} {M : Nat → Nat → Int} {n0 r D i : Nat} {W : Nat → Int} (hp : 2 ≤ p) (hs : ∃ x : Nat → Int, ∀ a, a < n0 → Cg p (sumF (fun q => M a q * x q) r) (W a)) (aj : Nat → Nat) (haj : ∀ j, j < D → aj j < n0) (u : Nat → Nat → Int) (c : Nat → Int) (hf : ∀ j, j < D → ∀ q, q < r → Cg p (M (aj j) q) (c q * u q j))
    (g : Nat → Int) (hi : i < D) (hg : g i = 1) (hk : ∀ q, q < r → p ∣ sumF (fun j => u q j * g j) D) (hW : ∀ j, j < D → W (aj j) = if j = i then 1 else 0) : False := by
  obtain ⟨x, hx⟩ := hs
  have e1 : sumF (fun j => g j * W (aj j)) D = 1 := by
    rw [sumF_one hi fun j hj hne => by rw [hW j hj, if_neg hne, Int.mul_zero], hW i hi, if_pos rfl, hg]; rfl
  have e2 : Cg p (sumF (fun j => g j * W (aj j)) D) (sumF (fun j => g j * sumF (fun q => c q * u q j * x q) r) D) :=
    sumF_cg fun j hj => Cg.mulL _ ((hx _ (haj j hj)).symm.trans (sumF_cg fun q hq => (hf j hj q hq).mul Cg.rfl'))
  have e3 : sumF (fun j => g j * sumF (fun q => c q * u q j * x q) r) D = sumF (fun q => c q * x q * sumF (fun j => u q j * g j) D) r := by
    rw [sumF_congr (g := fun j => sumF (fun q => g j * (c q * u q j * x q)) r) fun j _ => (sumF_mul _ _ _).symm, sumF_swap]
    refine sumF_congr fun q _ => ?_
    rw [← sumF_mul]
    refine sumF_congr fun j _ => ?_
    rw [Int.mul_comm (g j), Int.mul_right_comm (c q), Int.mul_assoc]
  have e4 : p ∣ sumF (fun q => c q * x q * sumF (fun j => u q j * g j) D) r := sumF_dvd fun q hq => Int.dvd_trans (hk q hq) (Int.dvd_mul_left _ _)
  rw [e1, e3] at e2
  have := Int.le_of_dvd (by decide) (e2.dvd_iff.2 e4)
  omega
section
variable {p : Int} {n m k r : Nat} {l : List Int}
theorem cpOk_sol (hP : isP p = true) (hmod : modL p l) (h : cpOk p n m k r l = true) {z : Nat} (hz : z < n * k) : ∃ x : Nat → Int, ∀ a, a < n * m * (m * k) → Cg p (sumF (fun q => tabM p (m * k) l a q * x q) r) (wantV m k ((a / (m * k) : Nat) : Int) ((a % (m * k) : Nat) : Int) ((z : Nat) : Int)) := by
  have hp : 2 ≤ p := by simp [isP] at hP; omega
  have hB := bsL_inv (na := n * m) (nb := m * k) (n := n * m * (m * k)) (r := r) hP hmod r (Nat.le_refl _)
  have h1 : okS1 (redL p (n * m) (m * k) l (n * m * (m * k)) r m k z) (n * m * (m * k)) = true := (List.all_eq_true.1 (show ((List.range (n * k)).all fun z => okS1 (redL p (n * m) (m * k) l (n * m * (m * k)) r m k z) (n * m * (m * k))) = true from h)) z (by simpa using hz)
  exact ⟨_, (hB.bas.sol hp (redL_inv hP hmod z).1 (okS1_iff.1 h1)).eqn⟩
theorem tabM_cg (hp : 2 ≤ p) (hmod : modL p l) (nb a q : Nat) : Cg p (tabM p nb l a q) (l.getD (q * 18 + a / nb) 0 * l.getD (q * 18 + 9 + a % nb) 0) := by
  rw [tabM, tabN, tmod_pos hp (Int.mul_nonneg (hmod _).1 (hmod _).1)]
  exact Cg.emod
theorem wantV_nat (m k a b z : Nat) : wantV m k ((a : Nat) : Int) ((b : Nat) : Int) ((z : Nat) : Int) = if a % m = b / k ∧ a / m = z / k ∧ b % k = z % k then 1 else 0 := by
  have e1 : ((a : Nat) : Int).tmod (m : Int) = ((a % m : Nat) : Int) := rfl
  have e2 : ((b : Nat) : Int).tdiv (k : Int) = ((b / k : Nat) : Int) := rfl
  have e3 : ((a : Nat) : Int).tdiv (m : Int) = ((a / m : Nat) : Int) := rfl
  have e4 : ((z : Nat) : Int).tdiv (k : Int) = ((z / k : Nat) : Int) := rfl
  have e5 : ((b : Nat) : Int).tmod (k : Int) = ((b % k : Nat) : Int) := rfl
  have e6 : ((z : Nat) : Int).tmod (k : Int) = ((z % k : Nat) : Int) := rfl
  rw [wantV, e1, e2, e3, e4, e5, e6]
  have : ((((a % m : Nat) : Int) = ((b / k : Nat) : Int)) ∧ (((a / m : Nat) : Int) = ((z / k : Nat) : Int)) ∧ (((b % k : Nat) : Int) = ((z % k : Nat) : Int))) ↔ (a % m = b / k ∧ a / m = z / k ∧ b % k = z % k) := by omega
  simp only [this]
theorem low_k (hP : isP p = true) (hmod : modL p l) (hm : 0 < m) (h : r < n * m) : cpOk p n m 1 r l = false := by
  have hp : 2 ≤ p := by simp [isP] at hP; omega
  cases ho : cpOk p n m 1 r l with
  | false => rfl
  | true =>
    exfalso
    obtain ⟨g, i, hi, hg, hk⟩ := ker_ex (d := r) (D := n * m) hP (fun q j => l.getD (q * 18 + j) 0) (fun q j => hmod _) h
    have hz : i / m < n * 1 := by rw [Nat.mul_one]; exact Nat.div_lt_of_lt_mul (by rw [Nat.mul_comm]; exact hi)
    have hs := cpOk_sol hP hmod ho hz
    rw [Nat.mul_one] at hs
    have hdm : ∀ j, (j * m + i % m) / m = j ∧ (j * m + i % m) % m = i % m := fun j => by
      constructor
      · rw [Nat.mul_comm, Nat.mul_add_div hm, Nat.div_eq_of_lt (Nat.mod_lt _ hm), Nat.add_zero]
      · rw [Nat.mul_comm, Nat.mul_add_mod, Nat.mod_mod]
    refine low hp hs (fun j => j * m + i % m) (fun j hj => ?_) (fun q j => l.getD (q * 18 + j) 0) (fun q => l.getD (q * 18 + 9 + i % m) 0) (fun j hj q _ => ?_) g hi hg hk fun j hj => ?_
    · have h1 := Nat.mod_lt i hm
      have h2 : (j + 1) * m ≤ n * m * m := Nat.mul_le_mul_right _ hj
      rw [Nat.add_mul, Nat.one_mul] at h2
      omega
    · have := tabM_cg hp hmod m (j * m + i % m) q
      rw [(hdm j).1, (hdm j).2, Int.mul_comm] at this
      exact this
    · rw [wantV_nat, (hdm j).1, (hdm j).2, Nat.div_one, Nat.div_one, Nat.mod_one, Nat.mod_one]
      by_cases e : j = i
      · subst e; rw [if_pos ⟨rfl, rfl, rfl⟩, if_pos rfl]
      · rw [if_neg (fun hh => e ?_), if_neg e]
        have h1 := Nat.div_add_mod j m
        have h2 := Nat.div_add_mod i m
        rw [hh.1, hh.2.1] at h1
        exact h1.symm.trans h2
theorem low_n (hP : isP p = true) (hmod : modL p l) (hk : 0 < k) (h : r < m * k) : cpOk p 1 m k r l = false := by
  have hp : 2 ≤ p := by simp [isP] at hP; omega
  cases ho : cpOk p 1 m k r l with
  | false => rfl
  | true =>
    exfalso
    obtain ⟨g, i, hi, hg, hkr⟩ := ker_ex (d := r) (D := m * k) hP (fun q j => l.getD (q * 18 + 9 + j) 0) (fun q j => hmod _) h
    have hz : i % k < 1 * k := by rw [Nat.one_mul]; exact Nat.mod_lt _ hk
    have hs := cpOk_sol hP hmod ho hz
    rw [Nat.one_mul] at hs
    have hpos : 0 < m * k := by omega
    have hik : i / k < m := Nat.div_lt_of_lt_mul (by rw [Nat.mul_comm]; exact hi)
    have hdm : ∀ j, j < m * k → (i / k * (m * k) + j) / (m * k) = i / k ∧ (i / k * (m * k) + j) % (m * k) = j := fun j hj => by
      constructor
      · rw [Nat.mul_comm, Nat.mul_add_div hpos, Nat.div_eq_of_lt hj, Nat.add_zero]
      · rw [Nat.mul_comm, Nat.mul_add_mod, Nat.mod_eq_of_lt hj]
    refine low hp hs (fun j => i / k * (m * k) + j) (fun j hj => ?_) (fun q j => l.getD (q * 18 + 9 + j) 0) (fun q => l.getD (q * 18 + i / k) 0) (fun j hj q _ => ?_) g hi hg hkr fun j hj => ?_
    · have h2 : (i / k + 1) * (m * k) ≤ m * (m * k) := Nat.mul_le_mul_right _ hik
      rw [Nat.add_mul, Nat.one_mul] at h2
      omega
    · have := tabM_cg hp hmod (m * k) (i / k * (m * k) + j) q
      rw [(hdm j hj).1, (hdm j hj).2] at this
      exact this
    · rw [wantV_nat, (hdm j hj).1, (hdm j hj).2, Nat.mod_eq_of_lt hik, Nat.div_eq_of_lt hik, Nat.div_eq_of_lt (Nat.mod_lt i hk), Nat.mod_mod]
      by_cases e : j = i
      · subst e; rw [if_pos ⟨rfl, rfl, rfl⟩, if_pos rfl]
      · rw [if_neg (fun hh => e ?_), if_neg e]
        have h1 := Nat.div_add_mod j k
        have h2 := Nat.div_add_mod i k
        rw [← hh.1, hh.2.2] at h1
        exact h1.symm.trans h2
theorem low_m (hP : isP p = true) (hmod : modL p l) (hk : 0 < k) (h : r < n * k) : cpOk p n 1 k r l = false := by
  have hp : 2 ≤ p := by simp [isP] at hP; omega
  cases ho : cpOk p n 1 k r l with
  | false => rfl
  | true =>
    exfalso
    obtain ⟨g, i, hi, hg, hkr⟩ := ker_ex (d := r) (D := n * k) hP (fun q j => tabM p k l j q) (fun q j => tabN_rng hp hmod) h
    have hs := cpOk_sol hP hmod ho hi
    rw [Nat.mul_one, Nat.one_mul] at hs
    refine low hp hs (fun j => j) (fun j hj => hj) (fun q j => tabM p k l j q) (fun _ => 1) (fun j hj q _ => by rw [Int.one_mul]; exact Cg.rfl') g hi hg hkr fun j hj => ?_
    rw [wantV_nat, Nat.mod_one, Nat.div_one, Nat.mod_mod, Nat.div_eq_of_lt (Nat.mod_lt j hk)]
    by_cases e : j = i
    · subst e; rw [if_pos ⟨rfl, rfl, rfl⟩, if_pos rfl]
    · rw [if_neg (fun hh => e ?_), if_neg e]
      have h1 := Nat.div_add_mod j k
      have h2 := Nat.div_add_mod i k
      rw [hh.2.1, hh.2.2] at h1
      exact h1.symm.trans h2
end
/-- The sum over the places from i on, that ends at the first one if that is asked. -/
def lpV (f : Nat → Int) (one : Bool) : Nat → Nat → Int → Int
  | 0, _, s => s
  | c + 1, i, s => if (one && decide (s > 0)) = true then s else lpV f one c (i + 1) (s + f i)
def setsV (n m k q : Nat) (al : List Int) (one : Bool) : Nat → Nat → List Int → Nat → Int
  | 0, d, li, _ => if cpOk 2 n m k d li = true then 1 else 0
  | rest + 1, d, li, from_ => lpV (fun i => setsV n m k q al one rest (d + 1) (li ++ sub al (i * 18) 18) (i + 1)) one (q - from_) from_ 0
theorem lpV_rng {f : Nat → Int} {one : Bool} {B : Int} (hf : ∀ i, 0 ≤ f i ∧ f i ≤ B) : ∀ (c i : Nat) (s : Int), 0 ≤ s → s ≤ lpV f one c i s ∧ lpV f one c i s ≤ s + c * B
  | 0, i, s, h => by simp [lpV]
  | c + 1, i, s, h => by
    have hi := hf i
    have hcB : 0 ≤ (c : Int) * B := Int.mul_nonneg (by omega) (by omega)
    have e : ((c + 1 : Nat) : Int) * B = c * B + B := by rw [Int.natCast_add, Int.add_mul]; simp
    rw [e, lpV]
    split
    · omega
    · have := lpV_rng (one := one) hf c (i + 1) (s + f i) (by omega)
      omega
theorem setsV_rng (n m k : Nat) {q : Nat} (hq : q ≤ 64) (al : List Int) (one : Bool) : ∀ rest d li i, 0 ≤ setsV n m k q al one rest d li i ∧ setsV n m k q al one rest d li i ≤ (64 : Int) ^ rest
  | 0, d, li, i => by rw [setsV]; split <;> simp
  | rest + 1, d, li, i => by
    have h := lpV_rng (one := one) (B := (64 : Int) ^ rest) (f := fun i => setsV n m k q al one rest (d + 1) (li ++ sub al (i * 18) 18) (i + 1)) (fun i => setsV_rng n m k hq al one rest (d + 1) _ (i + 1)) (q - i) i 0 (by omega)
    have hB : (0 : Int) ≤ 64 ^ rest := Int.pow_nonneg (by omega)
    have h2 : ((q - i : Nat) : Int) * 64 ^ rest ≤ 64 * 64 ^ rest := Int.mul_le_mul_of_nonneg_right (by omega) hB
    rw [setsV, Int.pow_succ, Int.mul_comm]
    omega
theorem lpV_zero {f : Nat → Int} {one : Bool} : ∀ (c i : Nat), (∀ j, i ≤ j → j < i + c → f j = 0) → lpV f one c i 0 = 0
  | 0, i, _ => rfl
  | c + 1, i, h => by
    rw [lpV, h i (Nat.le_refl _) (by omega), if_neg (by simp)]
    exact lpV_zero c (i + 1) fun j h1 h2 => h j (by omega) (by omega)
theorem lpV_pos {f : Nat → Int} {one : Bool} {B : Int} (hf : ∀ i, 0 ≤ f i ∧ f i ≤ B) {j : Nat} (hj : 0 < f j) : ∀ (c i : Nat) (s : Int), 0 ≤ s → i ≤ j → j < i + c → 0 < lpV f one c i s
  | 0, i, s, _, h1, h2 => by omega
  | c + 1, i, s, h0, h1, h2 => by
    have hi := hf i
    rw [lpV]
    split
    · rename_i h; simp at h; omega
    · by_cases e : i = j
      · subst e
        have := (lpV_rng (one := one) hf c (i + 1) (s + f i) (by omega)).1
        omega
      · exact lpV_pos hf hj c (i + 1) (s + f i) (by omega) (by omega) (by omega)
/-- Pairs may be appended. -/
theorem pairsOk_snoc {p a b : Int} {d : Nat} {li v : List Int} (hl : li.length = d * 18) (hv : v.length = 18) (h1 : pairsOk p a b d li = true) (h2 : pairOk p a b v = true) : pairsOk p a b (d + 1) (li ++ v) = true := by
  rw [pairsOk, List.all_eq_true] at h1 ⊢
  intro t ht
  simp only [List.mem_range] at ht h1
  by_cases e : t < d
  · rw [sub, List.drop_append_of_le_length (by omega), List.take_append_of_le_length (by rw [List.length_drop]; omega)]
    exact h1 t e
  · have : t = d := by omega
    subst this
    rw [sub, ← hl, List.drop_left, List.take_of_length_le (by omega)]
    exact h2
theorem pairsOk_at {p a b : Int} {q i : Nat} {al : List Int} (h : pairsOk p a b q al = true) (hi : i < q) : pairOk p a b (sub al (i * 18) 18) = true := (List.all_eq_true.1 h) i (by simpa using hi)
/-- Too few pairs: none can be completed. -/
theorem setsV_low {n m k q D : Nat} {al : List Int} {one : Bool} (hq : al.length = q * 18) (hall : pairsOk 2 ((n : Int) * m) ((m : Int) * k) q al = true) (hlow : ∀ d li, d < D → li.length = d * 18 → pairsOk 2 ((n : Int) * m) ((m : Int) * k) d li = true → byteL li → cpOk 2 n m k d li = false) (hba : byteL al) :
    ∀ rest d li i, d + rest < D → li.length = d * 18 → pairsOk 2 ((n : Int) * m) ((m : Int) * k) d li = true → byteL li → setsV n m k q al one rest d li i = 0
  | 0, d, li, i, h1, h2, h3, h4 => by rw [setsV, if_neg (by rw [hlow d li (by omega) h2 h3 h4]; simp)]
  | rest + 1, d, li, i, h1, h2, h3, h4 => by
    rw [setsV]
    refine lpV_zero _ _ fun j g1 g2 => ?_
    have hjq : j < q := by omega
    have hv : (sub al (j * 18) 18).length = 18 := sub_length (by omega)
    refine setsV_low hq hall hlow hba rest (d + 1) _ (j + 1) (by omega) (by rw [List.length_append, h2, hv]; omega) (pairsOk_snoc h2 hv h3 (pairsOk_at hall hjq)) ?_
    intro z hz
    rcases List.mem_append.1 hz with hz | hz
    · exact h4 z hz
    · exact hba.sub _ _ z hz
/-- A set that can be completed is met. -/
theorem setsV_hit {n m k q : Nat} {al : List Int} {one : Bool} (hq : q ≤ 64) {j rest d : Nat} {li : List Int} {i : Nat} (hi : i ≤ j) (hj : j < q) (h : 0 < setsV n m k q al one rest (d + 1) (li ++ sub al (j * 18) 18) (j + 1)) : 0 < setsV n m k q al one (rest + 1) d li i := by
  rw [setsV]
  exact lpV_pos (f := fun i => setsV n m k q al one rest (d + 1) (li ++ sub al (i * 18) 18) (i + 1)) (B := (64 : Int) ^ rest) (fun i => setsV_rng n m k hq al one rest (d + 1) _ (i + 1)) h _ _ 0 (by omega) hi (by omega)
theorem setsV_leaf {n m k q d : Nat} {al li : List Int} {one : Bool} {i : Nat} (h : cpOk 2 n m k d li = true) : 0 < setsV n m k q al one 0 d li i := by
  rw [setsV, if_pos h]; decide
/-- All pairs of sizes. -/
def allQ (n m k : Nat) : Nat := (2 ^ (n * m) - 1) * (2 ^ (m * k) - 1)
def allL (n m k : Nat) : List Int := pairsUp (formsL (n * m) (2 ^ (n * m) - 1)) (formsL (m * k) (2 ^ (m * k) - 1)) (2 ^ (m * k) - 1) (2 ^ (n * m) - 1) 0
theorem allL_length (n m k : Nat) : (allL n m k).length = allQ n m k * 18 := by rw [allL, pairsUp_length, allQ]; rfl
/-- The sizes of which this speaks. -/
inductive Small : Nat → Nat → Nat → Prop
  | a111 : Small 1 1 1
  | a112 : Small 1 1 2
  | a113 : Small 1 1 3
  | a121 : Small 1 2 1
  | a122 : Small 1 2 2
  | a131 : Small 1 3 1
  | a211 : Small 2 1 1
  | a212 : Small 2 1 2
  | a221 : Small 2 2 1
  | a311 : Small 3 1 1
theorem small_cases {n m k : Nat} (hn : 1 ≤ n ∧ n ≤ 3) (hm : 1 ≤ m ∧ m ≤ 3) (hk : 1 ≤ k ∧ k ≤ 3) (h : n * m * k ≤ 4) : Small n m k := by
  have e1 : n = 1 ∨ n = 2 ∨ n = 3 := by omega
  have e2 : m = 1 ∨ m = 2 ∨ m = 3 := by omega
  have e3 : k = 1 ∨ k = 2 ∨ k = 3 := by omega
  rcases e1 with rfl | rfl | rfl <;> rcases e2 with rfl | rfl | rfl <;> rcases e3 with rfl | rfl | rfl <;> first | constructor | omega
theorem allL_ok {n m k : Nat} (h : Small n m k) : pairsOk 2 ((n : Int) * m) ((m : Int) * k) (allQ n m k) (allL n m k) = true ∧ (allL n m k).all (fun z => decide (0 ≤ z) && decide (z ≤ 255)) = true := by
  cases h <;> exact ⟨by kernel_rfl, by kernel_rfl⟩
/-- The pairs of the standard scheme are such a set. -/
theorem setsV_std {n m k : Nat} (h : Small n m k) : 0 < setsV n m k (allQ n m k) (allL n m k) true (n * m * k) 0 [] 0 := by
  cases h with
  | a111 => exact setsV_hit (j := 0) (by decide) (by decide) (by decide) (setsV_leaf (by kernel_rfl))
  | a112 => exact setsV_hit (j := 0) (by decide) (by decide) (by decide) (setsV_hit (j := 1) (by decide) (by decide) (by decide) (setsV_leaf (by kernel_rfl)))
  | a113 => exact setsV_hit (j := 0) (by decide) (by decide) (by decide) (setsV_hit (j := 1) (by decide) (by decide) (by decide) (setsV_hit (j := 3) (by decide) (by decide) (by decide) (setsV_leaf (by kernel_rfl))))
  | a121 => exact setsV_hit (j := 0) (by decide) (by decide) (by decide) (setsV_hit (j := 4) (by decide) (by decide) (by decide) (setsV_leaf (by kernel_rfl)))
  | a122 => exact setsV_hit (j := 0) (by decide) (by decide) (by decide) (setsV_hit (j := 1) (by decide) (by decide) (by decide) (setsV_hit (j := 18) (by decide) (by decide) (by decide) (setsV_hit (j := 22) (by decide) (by decide) (by decide) (setsV_leaf (by kernel_rfl)))))
  | a131 => exact setsV_hit (j := 0) (by decide) (by decide) (by decide) (setsV_hit (j := 8) (by decide) (by decide) (by decide) (setsV_hit (j := 24) (by decide) (by decide) (by decide) (setsV_leaf (by kernel_rfl))))
  | a211 => exact setsV_hit (j := 0) (by decide) (by decide) (by decide) (setsV_hit (j := 1) (by decide) (by decide) (by decide) (setsV_leaf (by kernel_rfl)))
  | a212 => exact setsV_hit (j := 0) (by decide) (by decide) (by decide) (setsV_hit (j := 1) (by decide) (by decide) (by decide) (setsV_hit (j := 3) (by decide) (by decide) (by decide) (setsV_hit (j := 4) (by decide) (by decide) (by decide) (setsV_leaf (by kernel_rfl)))))
  | a221 => exact setsV_hit (j := 0) (by decide) (by decide) (by decide) (setsV_hit (j := 4) (by decide) (by decide) (by decide) (setsV_hit (j := 9) (by decide) (by decide) (by decide) (setsV_hit (j := 22) (by decide) (by decide) (by decide) (setsV_leaf (by kernel_rfl)))))
  | a311 => exact setsV_hit (j := 0) (by decide) (by decide) (by decide) (setsV_hit (j := 1) (by decide) (by decide) (by decide) (setsV_hit (j := 3) (by decide) (by decide) (by decide) (setsV_leaf (by kernel_rfl))))
theorem CpA.mk2 {n m k d : Nat} {li : List Int} (hn : inSz n = true) (hm : inSz m = true) (hk : inSz k = true) (h1 : li.length = d * 18) (h2 : pairsOk 2 ((n : Int) * m) ((m : Int) * k) d li = true) (h3 : byteL li) (h4 : d ≤ 30) : CpA 2 n m k (n * m) (m * k) (n * k) d li := ⟨rfl, hn, hm, hk, rfl, rfl, rfl, h2, h4, h1, h3⟩
theorem l10Sets_spec {n m k q ka : Nat} {al : List Int} {cc : Cell} {one oa : Bool} (hn : inSz n = true) (hm : inSz m = true) (hk : inSz k = true) (hq : q ≤ 64) (hal : al.length = q * 18) (hall : pairsOk 2 ((n : Int) * m) ((m : Int) * k) q al = true) (hba : byteL al) :
    ∀ (rest d : Nat) (li : List Int) (i kl : Nat) (ol : Bool), rest ≤ 4 → d + rest ≤ 30 → i ≤ q → li.length = d * 18 → pairsOk 2 ((n : Int) * m) ((m : Int) * k) d li = true → byteL li →
    FSpec Try.prog 99 [.agg (tenC 2 n m k cc), .c (.slice ka 0 q 18), .c (.slice kl 0 d 18), .c (.int .i64 ((i : Nat) : Int)), .c (.int .i64 ((rest : Nat) : Int)), .c (.bool one)] (.c (.int .i64 (setsV n m k q al one rest d li i))) [(ka, ⟨u8s al, oa⟩), (kl, ⟨u8s li, ol⟩)] []
  | 0, d, li, i, kl, ol, hr4, hdr, hiq, hl, hpl, hbl => by
    have A := CpA.mk2 hn hm hk hl hpl hbl (by omega)
    refine FSpec.of f_spec_l10Sets (Nat.le_of_ble_eq_true rfl) fun G N hN hr hw => ?_
    simp only [c_spec_l10Sets, List.length_cons, List.length_nil, List.replicate, List.cons_append, List.nil_append]
    have ⟨g2, g3⟩ := hr _ (List.mem_cons_self ..)
    have ⟨g4, g5⟩ := hr _ (List.mem_cons_of_mem _ (List.mem_cons_self ..))
    dsimp only at g2 g3 g4 g5
    cases ho : cpOk 2 n m k d li with
    | false =>
      repeat' (first | (with_reducible first | refine W1 ?_ | refine W2 ?_ | refine W3 ?_ | refine W4 mixed ?_ | refine W5 ?_ | refine W6 ?_ | refine W7 ?_ | refine W8 ?_ | refine W9 ?_ | refine V1 ?_ | refine V2 ?_ | refine V3 ?_ | refine V4 (by decide) ?_ | refine V5 ?_ | refine V6 ?_ | refine V7 ?_ | refine V8 ?_ | refine V9 ?_ | refine U1 ?_ | refine U2 ?_ | refine U3 ?_) | (with_reducible refine U4 ?_ ?_; next => first | omega | exact ⟨trivial, by omega⟩) | ((with_reducible refine U5 _ rfl (fun hq => ?_) (fun hq => ?_)) <;> try (first | (cases hq; done) | exact absurd hq (by decide))) | ((with_reducible refine U6 (fun hq => ?_) (fun hq => ?_)) <;> try (first | (cases hq; done) | exact absurd hq (by decide))) | simp (maxSteps := 2000000) (discharger := first | omega | (simp (discharger := omega) only [Z1, Z2, Z3, Z4, Z5, Z6, Z7] <;> fail) | (simp (discharger := omega) only [Z3, Z8, Z2, Z4, Z1, Z7, Z5, Z6, Z9, Y1, Y2]; omega)) only [go_sem])
      refine call_ro (specCp_no A (Sl.mk kl ol (by rw [u8s_length]; exact hl)) ho) (by simp only [List.mem_singleton]; rintro p rfl; exact (get_old g5).trans g4) ?_
      repeat' (first | (with_reducible first | refine W1 ?_ | refine W2 ?_ | refine W3 ?_ | refine W4 mixed ?_ | refine W5 ?_ | refine W6 ?_ | refine W7 ?_ | refine W8 ?_ | refine W9 ?_ | refine V1 ?_ | refine V2 ?_ | refine V3 ?_ | refine V4 (by decide) ?_ | refine V5 ?_ | refine V6 ?_ | refine V7 ?_ | refine V8 ?_ | refine V9 ?_ | refine U1 ?_ | refine U2 ?_ | refine U3 ?_) | (with_reducible refine U4 ?_ ?_; next => first | omega | exact ⟨trivial, by omega⟩) | ((with_reducible refine U5 _ rfl (fun hq => ?_) (fun hq => ?_)) <;> try (first | (cases hq; done) | exact absurd hq (by decide))) | ((with_reducible refine U6 (fun hq => ?_) (fun hq => ?_)) <;> try (first | (cases hq; done) | exact absurd hq (by decide))) | simp (maxSteps := 2000000) (discharger := first | omega | (simp (discharger := omega) only [Z1, Z2, Z3, Z4, Z5, Z6, Z7] <;> fail) | (simp (discharger := omega) only [Z3, Z8, Z2, Z4, Z1, Z7, Z5, Z6, Z9, Y1, Y2]; omega)) only [go_sem])
      exact ret_eq hN rfl rfl (by rw [setsV, ho]; rfl)
    | true =>
      repeat' (first | (with_reducible first | refine W1 ?_ | refine W2 ?_ | refine W3 ?_ | refine W4 mixed ?_ | refine W5 ?_ | refine W6 ?_ | refine W7 ?_ | refine W8 ?_ | refine W9 ?_ | refine V1 ?_ | refine V2 ?_ | refine V3 ?_ | refine V4 (by decide) ?_ | refine V5 ?_ | refine V6 ?_ | refine V7 ?_ | refine V8 ?_ | refine V9 ?_ | refine U1 ?_ | refine U2 ?_ | refine U3 ?_) | (with_reducible refine U4 ?_ ?_; next => first | omega | exact ⟨trivial, by omega⟩) | ((with_reducible refine U5 _ rfl (fun hq => ?_) (fun hq => ?_)) <;> try (first | (cases hq; done) | exact absurd hq (by decide))) | ((with_reducible refine U6 (fun hq => ?_) (fun hq => ?_)) <;> try (first | (cases hq; done) | exact absurd hq (by decide))) | simp (maxSteps := 2000000) (discharger := first | omega | (simp (discharger := omega) only [Z1, Z2, Z3, Z4, Z5, Z6, Z7] <;> fail) | (simp (discharger := omega) only [Z3, Z8, Z2, Z4, Z1, Z7, Z5, Z6, Z9, Y1, Y2]; omega)) only [go_sem])
      refine call_new1 (fun y hy => specCp_yes A (Sl.mk kl ol (by rw [u8s_length]; exact hl)) ho y hy) (by simp only [List.mem_singleton]; rintro p rfl; exact (get_old g5).trans g4) nxt_free ?_
      repeat' (first | (with_reducible first | refine W1 ?_ | refine W2 ?_ | refine W3 ?_ | refine W4 mixed ?_ | refine W5 ?_ | refine W6 ?_ | refine W7 ?_ | refine W8 ?_ | refine W9 ?_ | refine V1 ?_ | refine V2 ?_ | refine V3 ?_ | refine V4 (by decide) ?_ | refine V5 ?_ | refine V6 ?_ | refine V7 ?_ | refine V8 ?_ | refine V9 ?_ | refine U1 ?_ | refine U2 ?_ | refine U3 ?_) | (with_reducible refine U4 ?_ ?_; next => first | omega | exact ⟨trivial, by omega⟩) | ((with_reducible refine U5 _ rfl (fun hq => ?_) (fun hq => ?_)) <;> try (first | (cases hq; done) | exact absurd hq (by decide))) | ((with_reducible refine U6 (fun hq => ?_) (fun hq => ?_)) <;> try (first | (cases hq; done) | exact absurd hq (by decide))) | simp (maxSteps := 2000000) (discharger := first | omega | (simp (discharger := omega) only [Z1, Z2, Z3, Z4, Z5, Z6, Z7] <;> fail) | (simp (discharger := omega) only [Z3, Z8, Z2, Z4, Z1, Z7, Z5, Z6, Z9, Y1, Y2]; omega)) only [go_sem])
      exact ret_eq hN rfl rfl (by rw [setsV, ho]; rfl)
  | rest + 1, d, li, i, kl, ol, hr4, hdr, hiq, hl, hpl, hbl => by
    have IH := l10Sets_spec (ka := ka) (cc := cc) (one := one) (oa := oa) hn hm hk hq hal hall hba rest
    have hB : ∀ j li', 0 ≤ setsV n m k q al one rest (d + 1) li' j ∧ setsV n m k q al one rest (d + 1) li' j ≤ 16777216 := fun j li' => by
      have h := setsV_rng n m k hq al one rest (d + 1) li' j
      have h3 : (64 : Int) ^ rest ≤ 64 ^ 4 := by
        have : rest = 0 ∨ rest = 1 ∨ rest = 2 ∨ rest = 3 := by omega
        rcases this with rfl | rfl | rfl | rfl <;> decide
      have h4 : (64 : Int) ^ 4 = 16777216 := by decide
      omega
    obtain ⟨f, hf⟩ : ∃ f : Nat → Int, (fun i => setsV n m k q al one rest (d + 1) (li ++ sub al (i * 18) 18) (i + 1)) = f := ⟨_, rfl⟩
    have hval : setsV n m k q al one (rest + 1) d li i = lpV f one (q - i) i 0 := by rw [setsV, hf]
    have hfj : ∀ j, setsV n m k q al one rest (d + 1) (li ++ sub al (j * 18) 18) (j + 1) = f j := fun j => by rw [← hf]
    have hfB : ∀ j, 0 ≤ f j ∧ f j ≤ 16777216 := fun j => by rw [← hf]; exact hB _ _
    rw [hval]
    clear hval hf hB
    refine FSpec.of f_spec_l10Sets (Nat.le_of_ble_eq_true rfl) fun G N hN hr hw => ?_
    simp only [c_spec_l10Sets, List.length_cons, List.length_nil, List.replicate, List.cons_append, List.nil_append]
    have ⟨g2, g3⟩ := hr _ (List.mem_cons_self ..)
    have ⟨g4, g5⟩ := hr _ (List.mem_cons_of_mem _ (List.mem_cons_self ..))
    dsimp only at g2 g3 g4 g5
    have x0 : ((((rest + 1 : Nat) : Int)) == 0) = false := by simp; omega
    repeat' (first | (with_reducible first | refine W1 ?_ | refine W2 ?_ | refine W3 ?_ | refine W4 mixed ?_ | refine W5 ?_ | refine W6 ?_ | refine W7 ?_ | refine W8 ?_ | refine W9 ?_ | refine V1 ?_ | refine V2 ?_ | refine V3 ?_ | refine V4 (by decide) ?_ | refine V5 ?_ | refine V6 ?_ | refine V7 ?_ | refine V8 ?_ | refine V9 ?_ | refine U1 ?_ | refine U2 ?_ | refine U3 ?_) | (with_reducible refine U4 ?_ ?_; next => first | omega | exact ⟨trivial, by omega⟩) | ((with_reducible refine U5 _ rfl (fun hq => ?_) (fun hq => ?_)) <;> try (first | (cases hq; done) | exact absurd hq (by decide))) | ((with_reducible refine U6 (fun hq => ?_) (fun hq => ?_)) <;> try (first | (cases hq; done) | exact absurd hq (by decide))) | simp (maxSteps := 2000000) (discharger := first | omega | (simp (discharger := omega) only [Z1, Z2, Z3, Z4, Z5, Z6, Z7] <;> fail) | (simp (discharger := omega) only [Z3, Z8, Z2, Z4, Z1, Z7, Z5, Z6, Z9, Y1, Y2]; omega)) only [go_sem, x0])
    refine swp_for (fun (z : Nat × Int × List Slot) => ([.any, .c (.slice ka 0 q 18), .c (.slice kl 0 d 18), .any, .c (.int .i64 ((rest + 1 : Nat) : Int)), .c (.bool one), .c (.ptr (nid N 0) 0)] ++ List.replicate 8 .any ++ [.c (.int .i64 (z.2.1)), .c (.int .i64 ((z.1 : Nat) : Int))] ++ List.replicate 46 .any)) (fun z => ⟨G, N, z.2.2⟩) (fun z => q - z.1) (fun z => i ≤ z.1 ∧ z.1 ≤ q ∧ 0 ≤ z.2.1 ∧ z.2.1 ≤ z.1 * 16777216 ∧ lpV f one (q - i) i 0 = lpV f one (q - z.1) z.1 z.2.1 ∧ gd z.2.2 0 = .live ⟨tenC 2 n m k cc, true⟩ ∧ 0 < z.2.2.length) (i, 0, _) ⟨Nat.le_refl _, hiq, by simp, by simp; omega, rfl, rfl, by simp⟩ rfl (by repeat' (first | exact trivial | exact .inl rfl | exact .inr rfl | refine ⟨?_, ?_⟩)) ?_
    rintro ⟨j, s, L⟩ ⟨hij, hjq, hs0, hsB, hlp, h0, h1⟩
    dsimp only at hij hjq hs0 hsB hlp h0 h1
    simp only [tenC] at h0
    simp only [List.replicate, List.cons_append, List.nil_append]
    by_cases hlt : j < q
    · have x1 : decide (((j : Nat) : Int) < ((q : Nat) : Int)) = true := decide_eq_true (by omega)
      by_cases hstop : (one && decide (s > 0)) = true
      · have hone : one = true := by simp at hstop; exact hstop.1
        have hs1 : s > 0 := by simp at hstop; exact hstop.2
        have x2 : decide (s > 0) = true := decide_eq_true hs1
        have x2' : decide (0 < s) = true := decide_eq_true hs1
        rw [show q - j = (q - (j + 1)) + 1 from by omega, lpV, if_pos hstop] at hlp
        rw [hlp]
        subst hone
        repeat' (first | (with_reducible first | refine W1 ?_ | refine W2 ?_ | refine W3 ?_ | refine W4 mixed ?_ | refine W5 ?_ | refine W6 ?_ | refine W7 ?_ | refine W8 ?_ | refine W9 ?_ | refine V1 ?_ | refine V2 ?_ | refine V3 ?_ | refine V4 (by decide) ?_ | refine V5 ?_ | refine V6 ?_ | refine V7 ?_ | refine V8 ?_ | refine V9 ?_ | refine U1 ?_ | refine U2 ?_ | refine U3 ?_) | (with_reducible refine U4 ?_ ?_; next => first | omega | exact ⟨trivial, by omega⟩) | ((with_reducible refine U5 _ rfl (fun hq => ?_) (fun hq => ?_)) <;> try (first | (cases hq; done) | exact absurd hq (by decide))) | ((with_reducible refine U6 (fun hq => ?_) (fun hq => ?_)) <;> try (first | (cases hq; done) | exact absurd hq (by decide))) | simp (maxSteps := 2000000) (discharger := first | omega | (simp (discharger := omega) only [Z1, Z2, Z3, Z4, Z5, Z6, Z7] <;> fail) | (simp (discharger := omega) only [Z3, Z8, Z2, Z4, Z1, Z7, Z5, Z6, Z9, Y1, Y2]; omega)) only [go_sem, x1, x2, x2'])
        exact ret_eq hN rfl rfl rfl
      · rw [show q - j = (q - (j + 1)) + 1 from by omega, lpV, if_neg hstop] at hlp
        have hgo : one = false ∨ (one = true ∧ ¬ s > 0) := by
          cases one
          · exact .inl rfl
          · right; refine ⟨rfl, fun h => hstop (by simp; exact h)⟩
        have hv : (sub al (j * 18) 18).length = 18 := sub_length (by omega)
        have hfj' := hfj j
        have hfB' := hfB j
        have hl2 : (li ++ sub al (j * 18) 18).length = (d + 1) * 18 := by rw [List.length_append, hl, hv]; omega
        have hp2 := pairsOk_snoc hl hv hpl (pairsOk_at hall hlt)
        have hb2 : byteL (li ++ sub al (j * 18) 18) := fun z hz => by
          rcases List.mem_append.1 hz with hz | hz
          · exact hbl z hz
          · exact hba.sub _ _ z hz
        have IHj := fun kl' => IH (d + 1) (li ++ sub al (j * 18) 18) (j + 1) kl' true (by omega) (by omega) (by omega) hl2 hp2 hb2
        rw [hfj'] at IHj
        clear hfj hfB IH hpl hp2 hb2 hfj'
        have nk : ∀ a, ka ≠ nid N a := fun a => by unfold nid; omega
        have nl : ∀ a, kl ≠ nid N a := fun a => by unfold nid; omega
        generalize hqd : sub al (j * 18) 18 = v at hv hl2 IHj
        have nk' : ∀ a, nid N a ≠ ka := fun a => (nk a).symm
        have nl' : ∀ a, nid N a ≠ kl := fun a => (nl a).symm
        have n1 : nid N L.length ≠ nid N (L.length + 1 + 1) := by unfold nid; omega
        have n2 : nid N (L.length + 1) ≠ nid N (L.length + 1 + 1) := by unfold nid; omega
        have n3 : nid N L.length ≠ nid N (L.length + 1) := by unfold nid; omega
        have n4 : nid N L.length ≠ nid N (L.length + 1 + 1 + 1) := by unfold nid; omega
        have n5 : nid N (L.length + 1) ≠ nid N (L.length + 1 + 1 + 1) := by unfold nid; omega
        have er : (((rest + 1 : Nat)) : Int) - 1 = ((rest : Nat) : Int) := by omega
        have ej : ((j : Nat) : Int) + 1 = ((j + 1 : Nat) : Int) := rfl
        rcases hgo with hone | ⟨hone, hs1⟩
        · subst hone
          repeat' (first | (with_reducible first | refine W1 ?_ | refine W2 ?_ | refine W3 ?_ | refine W4 mixed ?_ | refine W5 ?_ | refine W6 ?_ | refine W7 ?_ | refine W8 ?_ | refine W9 ?_ | refine V1 ?_ | refine V2 ?_ | refine V3 ?_ | refine V4 (by decide) ?_ | refine V5 ?_ | refine V6 ?_ | refine V7 ?_ | refine V8 ?_ | refine V9 ?_ | refine U1 ?_ | refine U2 ?_ | refine U3 ?_) | (with_reducible refine U4 ?_ ?_; next => first | omega | exact ⟨trivial, by omega⟩) | ((with_reducible refine U5 _ rfl (fun hq => ?_) (fun hq => ?_)) <;> try (first | (cases hq; done) | exact absurd hq (by decide))) | ((with_reducible refine U6 (fun hq => ?_) (fun hq => ?_)) <;> try (first | (cases hq; done) | exact absurd hq (by decide))) | simp (maxSteps := 2000000) (discharger := first | omega | (simp (discharger := omega) only [Z1, Z2, Z3, Z4, Z5, Z6, Z7] <;> fail) | (simp (discharger := omega) only [Z3, Z8, Z2, Z4, Z1, Z7, Z5, Z6, Z9, Y1, Y2]; omega)) only [go_sem, x1, g2, g4, hqd])
          refine must_intro (by simp [confV, apart, notIn, lk, nk, nl, nk', nl', n1, n2, n3, n4, n5]) ?_
          repeat' (first | (with_reducible first | refine W1 ?_ | refine W2 ?_ | refine W3 ?_ | refine W4 mixed ?_ | refine W5 ?_ | refine W6 ?_ | refine W7 ?_ | refine W8 ?_ | refine W9 ?_ | refine V1 ?_ | refine V2 ?_ | refine V3 ?_ | refine V4 (by decide) ?_ | refine V5 ?_ | refine V6 ?_ | refine V7 ?_ | refine V8 ?_ | refine V9 ?_ | refine U1 ?_ | refine U2 ?_ | refine U3 ?_) | (with_reducible refine U4 ?_ ?_; next => first | omega | exact ⟨trivial, by omega⟩) | simp (maxSteps := 2000000) (discharger := first | omega | (simp (discharger := omega) only [Z1, Z2, Z3, Z4, Z5, Z6, Z7] <;> fail) | (simp (discharger := omega) only [Z3, Z8, Z2, Z4, Z1, Z7, Z5, Z6, Z9, Y1, Y2]; omega)) only [go_sem, h0, er, ej])
          refine call_ro (IHj _) (by
            simp only [List.mem_cons, List.not_mem_nil, or_false]
            rintro p (rfl | rfl)
            · exact (get_old g3).trans g2
            · dsimp only; rw [get_new]; exact gd_setAt_same) ?_
          repeat' (first | (with_reducible first | refine W1 ?_ | refine W2 ?_ | refine W3 ?_ | refine W4 mixed ?_ | refine W5 ?_ | refine W6 ?_ | refine W7 ?_ | refine W8 ?_ | refine W9 ?_ | refine V1 ?_ | refine V2 ?_ | refine V3 ?_ | refine V4 (by decide) ?_ | refine V5 ?_ | refine V6 ?_ | refine V7 ?_ | refine V8 ?_ | refine V9 ?_ | refine U1 ?_ | refine U2 ?_ | refine U3 ?_) | (with_reducible refine U4 ?_ ?_; next => first | omega | exact ⟨trivial, by omega⟩) | simp (maxSteps := 2000000) (discharger := first | omega | (simp (discharger := omega) only [Z1, Z2, Z3, Z4, Z5, Z6, Z7] <;> fail) | (simp (discharger := omega) only [Z3, Z8, Z2, Z4, Z1, Z7, Z5, Z6, Z9, Y1, Y2]; omega)) only [go_sem])
          refine forK_same (j + 1, s + f j, _) (by dsimp only; omega) ⟨by dsimp only; omega, by dsimp only; omega, by dsimp only; omega, by dsimp only; omega, hlp, ?_, ?_⟩ rfl (by repeat' (first | exact trivial | exact .inl rfl | exact .inr rfl | refine ⟨?_, ?_⟩))
          · dsimp only
            repeat rw [gd_setAt_ne' (by omega)]
            exact h0
          · dsimp only; simp only [setAt_length]; omega
        · subst hone
          have x2 : decide (s > 0) = false := decide_eq_false hs1
          have x2' : decide (0 < s) = false := decide_eq_false hs1
          repeat' (first | (with_reducible first | refine W1 ?_ | refine W2 ?_ | refine W3 ?_ | refine W4 mixed ?_ | refine W5 ?_ | refine W6 ?_ | refine W7 ?_ | refine W8 ?_ | refine W9 ?_ | refine V1 ?_ | refine V2 ?_ | refine V3 ?_ | refine V4 (by decide) ?_ | refine V5 ?_ | refine V6 ?_ | refine V7 ?_ | refine V8 ?_ | refine V9 ?_ | refine U1 ?_ | refine U2 ?_ | refine U3 ?_) | (with_reducible refine U4 ?_ ?_; next => first | omega | exact ⟨trivial, by omega⟩) | ((with_reducible refine U5 _ rfl (fun hq => ?_) (fun hq => ?_)) <;> try (first | (cases hq; done) | exact absurd hq (by decide))) | ((with_reducible refine U6 (fun hq => ?_) (fun hq => ?_)) <;> try (first | (cases hq; done) | exact absurd hq (by decide))) | simp (maxSteps := 2000000) (discharger := first | omega | (simp (discharger := omega) only [Z1, Z2, Z3, Z4, Z5, Z6, Z7] <;> fail) | (simp (discharger := omega) only [Z3, Z8, Z2, Z4, Z1, Z7, Z5, Z6, Z9, Y1, Y2]; omega)) only [go_sem, x1, x2, x2', g2, g4, hqd])
          refine must_intro (by simp [confV, apart, notIn, lk, nk, nl, nk', nl', n1, n2, n3, n4, n5]) ?_
          repeat' (first | (with_reducible first | refine W1 ?_ | refine W2 ?_ | refine W3 ?_ | refine W4 mixed ?_ | refine W5 ?_ | refine W6 ?_ | refine W7 ?_ | refine W8 ?_ | refine W9 ?_ | refine V1 ?_ | refine V2 ?_ | refine V3 ?_ | refine V4 (by decide) ?_ | refine V5 ?_ | refine V6 ?_ | refine V7 ?_ | refine V8 ?_ | refine V9 ?_ | refine U1 ?_ | refine U2 ?_ | refine U3 ?_) | (with_reducible refine U4 ?_ ?_; next => first | omega | exact ⟨trivial, by omega⟩) | simp (maxSteps := 2000000) (discharger := first | omega | (simp (discharger := omega) only [Z1, Z2, Z3, Z4, Z5, Z6, Z7] <;> fail) | (simp (discharger := omega) only [Z3, Z8, Z2, Z4, Z1, Z7, Z5, Z6, Z9, Y1, Y2]; omega)) only [go_sem, h0, er, ej])
          refine call_ro (IHj _) (by
            simp only [List.mem_cons, List.not_mem_nil, or_false]
            rintro p (rfl | rfl)
            · exact (get_old g3).trans g2
            · dsimp only; rw [get_new]; exact gd_setAt_same) ?_
          repeat' (first | (with_reducible first | refine W1 ?_ | refine W2 ?_ | refine W3 ?_ | refine W4 mixed ?_ | refine W5 ?_ | refine W6 ?_ | refine W7 ?_ | refine W8 ?_ | refine W9 ?_ | refine V1 ?_ | refine V2 ?_ | refine V3 ?_ | refine V4 (by decide) ?_ | refine V5 ?_ | refine V6 ?_ | refine V7 ?_ | refine V8 ?_ | refine V9 ?_ | refine U1 ?_ | refine U2 ?_ | refine U3 ?_) | (with_reducible refine U4 ?_ ?_; next => first | omega | exact ⟨trivial, by omega⟩) | simp (maxSteps := 2000000) (discharger := first | omega | (simp (discharger := omega) only [Z1, Z2, Z3, Z4, Z5, Z6, Z7] <;> fail) | (simp (discharger := omega) only [Z3, Z8, Z2, Z4, Z1, Z7, Z5, Z6, Z9, Y1, Y2]; omega)) only [go_sem])
          refine forK_same (j + 1, s + f j, _) (by dsimp only; omega) ⟨by dsimp only; omega, by dsimp only; omega, by dsimp only; omega, by dsimp only; omega, hlp, ?_, ?_⟩ rfl (by repeat' (first | exact trivial | exact .inl rfl | exact .inr rfl | refine ⟨?_, ?_⟩))
          · dsimp only
            repeat rw [gd_setAt_ne' (by omega)]
            exact h0
          · dsimp only; simp only [setAt_length]; omega
    · have hje : j = q := by omega
      have x1 : decide (((j : Nat) : Int) < ((q : Nat) : Int)) = false := decide_eq_false (by omega)
      rw [hje, Nat.sub_self, lpV] at hlp
      rw [hlp]
      repeat' (first | (with_reducible first | refine W1 ?_ | refine W2 ?_ | refine W3 ?_ | refine W4 mixed ?_ | refine W5 ?_ | refine W6 ?_ | refine W7 ?_ | refine W8 ?_ | refine W9 ?_ | refine V1 ?_ | refine V2 ?_ | refine V3 ?_ | refine V4 (by decide) ?_ | refine V5 ?_ | refine V6 ?_ | refine V7 ?_ | refine V8 ?_ | refine V9 ?_ | refine U1 ?_ | refine U2 ?_ | refine U3 ?_) | (with_reducible refine U4 ?_ ?_; next => first | omega | exact ⟨trivial, by omega⟩) | ((with_reducible refine U5 _ rfl (fun hq => ?_) (fun hq => ?_)) <;> try (first | (cases hq; done) | exact absurd hq (by decide))) | ((with_reducible refine U6 (fun hq => ?_) (fun hq => ?_)) <;> try (first | (cases hq; done) | exact absurd hq (by decide))) | simp (maxSteps := 2000000) (discharger := first | omega | (simp (discharger := omega) only [Z1, Z2, Z3, Z4, Z5, Z6, Z7] <;> fail) | (simp (discharger := omega) only [Z3, Z8, Z2, Z4, Z1, Z7, Z5, Z6, Z9, Y1, Y2]; omega)) only [go_sem, x1])
      exact ret_eq hN rfl rfl rfl
end Go.Proofs.Ytcmmbnhdfkcpdaa
