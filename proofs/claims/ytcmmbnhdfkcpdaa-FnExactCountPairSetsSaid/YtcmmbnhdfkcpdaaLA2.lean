/- Elimination by the first columns: what it keeps, and what it tells. -/
import Derived.Test.YtcmmbnhdfkcpdaaLA1
namespace Go.Proofs.Ytcmmbnhdfkcpdaa
open Go Go.Abs
set_option maxRecDepth 100000

set_option maxRecDepth 100000
set_option linter.unusedVariables false

def Ker (p : Int) (E : Nat → Nat → Int) (n w : Nat) (x : Nat → Int) : Prop := ∀ k, k < n → p ∣ sumF (fun j => E k j * x j) w
def KEq (p : Int) (n w : Nat) (A B : Nat → Nat → Int) : Prop := ∀ x, Ker p A n w x ↔ Ker p B n w x
theorem KEq.rfl' {p : Int} {n w : Nat} {A : Nat → Nat → Int} : KEq p n w A A := fun _ => Iff.rfl
theorem KEq.trans {p : Int} {n w : Nat} {A B C : Nat → Nat → Int} (h : KEq p n w A B) (h' : KEq p n w B C) : KEq p n w A C := fun x => (h x).trans (h' x)
def swI (a b k : Nat) : Nat := if k = b then a else if k = a then b else k
theorem KEq.elim {p : Int} {n w d i0 : Nat} {A B : Nat → Nat → Int} {u v : Int} {ck : Nat → Int} (hd : d < n) (hi : i0 < n) (huv : Cg p (v * u) 1) (hB : ∀ l, l < w → Cg p (B d l) (u * A i0 l))
    (hk : ∀ k, k < n → k ≠ d → ∀ l, l < w → Cg p (B k l) (A (swI d i0 k) l + ck k * B d l)) : KEq p n w A B := by
  intro x
  have e1 : Cg p (sumF (fun j => B d j * x j) w) (u * sumF (fun j => A i0 j * x j) w) := by
    rw [← sumF_mul]
    refine sumF_cg fun j hj => ?_
    rw [← Int.mul_assoc]
    exact (hB j hj).mul Cg.rfl'
  have e2 : ∀ k, k < n → k ≠ d → Cg p (sumF (fun j => B k j * x j) w) (sumF (fun j => A (swI d i0 k) j * x j) w + ck k * sumF (fun j => B d j * x j) w) := by
    intro k hkn hkd
    rw [← sumF_mul, ← sumF_add]
    refine sumF_cg fun j hj => ?_
    rw [← Int.mul_assoc, ← Int.add_mul]
    exact (hk k hkn hkd j hj).mul Cg.rfl'
  constructor
  · intro h k hkn
    have h0 : p ∣ sumF (fun j => B d j * x j) w := e1.dvd_iff.2 (Int.dvd_trans (h i0 hi) (Int.dvd_mul_left _ _))
    by_cases e : k = d
    · subst e; exact h0
    · refine (e2 k hkn e).dvd_iff.2 (Int.dvd_add (h _ ?_) (Int.dvd_trans h0 (Int.dvd_mul_left _ _)))
      unfold swI; split
      · exact hd
      · exact hkn
  · intro h k hkn
    have h0 := h d hd
    have hi0 : p ∣ sumF (fun j => A i0 j * x j) w := by
      have h1 : p ∣ u * sumF (fun j => A i0 j * x j) w := e1.dvd_iff.1 h0
      have h2 : p ∣ v * (u * sumF (fun j => A i0 j * x j) w) := Int.dvd_trans h1 (Int.dvd_mul_left _ _)
      rw [← Int.mul_assoc] at h2
      have h3 : Cg p (v * u * sumF (fun j => A i0 j * x j) w) (1 * sumF (fun j => A i0 j * x j) w) := huv.mul Cg.rfl'
      rw [Int.one_mul] at h3
      exact h3.dvd_iff.1 h2
    have other : ∀ q, q < n → q ≠ d → p ∣ sumF (fun j => A (swI d i0 q) j * x j) w := by
      intro q hq hqd
      have h1 : p ∣ sumF (fun j => A (swI d i0 q) j * x j) w + ck q * sumF (fun j => B d j * x j) w := (e2 q hq hqd).dvd_iff.1 (h q hq)
      have h2 := Int.dvd_sub h1 (Int.dvd_trans h0 (Int.dvd_mul_left (ck q) (sumF (fun j => B d j * x j) w)))
      rwa [Int.add_sub_cancel] at h2
    by_cases e : k = i0
    · subst e; exact hi0
    · by_cases e' : k = d
      · have := other i0 hi (fun e2 => e (e'.trans e2.symm))
        rwa [show swI d i0 i0 = d by simp [swI], ← e'] at this
      · have := other k hkn e'
        rwa [show swI d i0 k = k by simp [swI, e, e']] at this

/-- Columns before c are eliminated. -/
structure Piv (E : Nat → Nat → Int) (at_ : Nat → Int) (n c done : Nat) : Prop where
  p1 : ∀ c', c' < c → at_ c' = -1 ∨ ∃ i : Nat, i < done ∧ at_ c' = i
  p2 : ∀ c', c' < c → ∀ i : Nat, at_ c' = i → E i c' = 1 ∧ ∀ k, k < n → k ≠ i → E k c' = 0
  p3 : ∀ c', c' < c → at_ c' = -1 → ∀ k : Nat, k < n → (∀ j, j < c' → at_ j ≠ k) → E k c' = 0
  p4 : ∀ c1 c2 (i : Nat), c1 < c2 → c2 < c → at_ c1 = i → at_ c2 ≠ i
  p5 : ∀ i : Nat, i < done → ∃ c', c' < c ∧ at_ c' = i
  p6 : done ≤ n
theorem Piv.zero {E : Nat → Nat → Int} {at_ : Nat → Int} {n : Nat} : Piv E at_ n 0 0 := ⟨fun _ h => by omega, fun _ h => by omega, fun _ h => by omega, fun _ _ _ _ h => by omega, fun _ h => by omega, Nat.zero_le _⟩
theorem Piv.lt {E : Nat → Nat → Int} {at_ : Nat → Int} {n c done : Nat} (h : Piv E at_ n c done) {c' i : Nat} (hc : c' < c) (e : at_ c' = i) : i < done := by
  rcases h.p1 c' hc with h1 | ⟨j, h1, h2⟩ <;> omega
theorem Piv.none {E : Nat → Nat → Int} {at_ at' : Nat → Int} {n c done : Nat} (h : Piv E at_ n c done) (hs : ∀ j, j < c → at' j = at_ j) (hc : at' c = -1) (hz : ∀ k, done ≤ k → k < n → E k c = 0) : Piv E at' n (c + 1) done := by
  have old : ∀ c', c' < c + 1 → c' ≠ c → c' < c := fun c' h1 h2 => by omega
  refine ⟨fun c' h1 => ?_, fun c' h1 i e => ?_, fun c' h1 e k hk hno => ?_, fun c1 c2 i h1 h2 e1 e2 => ?_, fun i hi => ?_, h.p6⟩
  · by_cases e : c' = c
    · rw [e]; exact .inl hc
    · rw [hs _ (old _ h1 e)]; exact h.p1 _ (old _ h1 e)
  · by_cases e' : c' = c
    · subst e'; omega
    · rw [hs _ (old _ h1 e')] at e; exact h.p2 _ (old _ h1 e') i e
  · by_cases e' : c' = c
    · subst e'
      refine hz k (Nat.le_of_not_lt fun hlt => ?_) hk
      obtain ⟨j, hj, e3⟩ := h.p5 k hlt
      exact hno j hj (by rw [hs j hj, e3])
    · rw [hs _ (old _ h1 e')] at e
      exact h.p3 _ (old _ h1 e') e k hk fun j hj => by rw [← hs j (by omega)]; exact hno j hj
  · by_cases e' : c2 = c
    · subst e'; omega
    · rw [hs _ (by omega)] at e1 e2
      exact h.p4 c1 c2 i h1 (by omega) e1 e2
  · obtain ⟨c', h1, h2⟩ := h.p5 i hi
    exact ⟨c', by omega, by rw [hs _ h1]; exact h2⟩
theorem Piv.some {p : Int} {E E' : Nat → Nat → Int} {at_ at' : Nat → Int} {n w c done i0 : Nat} {u : Int} (h : Piv E at_ n c done) (hs : ∀ j, j < c → at' j = at_ j) (hc : at' c = done) (hi : done ≤ i0) (hi' : i0 < n) (hcw : c < w) (hp : 2 ≤ p)
    (rng : ∀ k, k < n → ∀ l, l < w → 0 ≤ E k l ∧ E k l < p) (h1 : E' done c = 1) (hd : ∀ l, l < w → E' done l = (E i0 l * u) % p)
    (hk : ∀ k, k < n → k ≠ done → ∀ l, l < w → E' k l = (E (swI done i0 k) l + (p - E (swI done i0 k) c) * E' done l) % p) : Piv E' at' n (c + 1) (done + 1) := by
  have old : ∀ c', c' < c + 1 → c' ≠ c → c' < c := fun c' h1 h2 => by omega
  have swlt : ∀ k, k < n → swI done i0 k < n := fun k hk => by unfold swI; split; omega; split; exact hi'; exact hk
  have swge : ∀ k, done ≤ k → done ≤ swI done i0 k := fun k hk => by unfold swI; split; omega; split; exact hi; exact hk
  have swid : ∀ k, k < done → swI done i0 k = k := fun k hk => by unfold swI; rw [if_neg (by omega), if_neg (by omega)]
  -- a column in which the row of the pivot is 0 stays, but for the change of rows
  have keep : ∀ c', c' < c → E i0 c' = 0 → E' done c' = 0 ∧ ∀ k, k < n → k ≠ done → E' k c' = E (swI done i0 k) c' := by
    intro c' hc' hz
    have z : E' done c' = 0 := by rw [hd c' (by omega), hz, Int.zero_mul]; exact Int.zero_emod p
    refine ⟨z, fun k hkn hkd => ?_⟩
    rw [hk k hkn hkd c' (by omega), z, Int.mul_zero, Int.add_zero]
    have := rng _ (swlt k hkn) c' (by omega)
    exact Int.emod_eq_of_lt this.1 this.2
  have z0 : ∀ c', c' < c → E i0 c' = 0 := by
    intro c' hc'
    rcases h.p1 c' hc' with e | ⟨i, h2, e⟩
    · exact h.p3 c' hc' e i0 hi' fun j hj e2 => by have := h.lt (show j < c by omega) e2; omega
    · exact (h.p2 c' hc' i e).2 i0 hi' (by omega)
  refine ⟨fun c' h2 => ?_, fun c' h2 i e => ?_, fun c' h2 e k hkn hno => ?_, fun c1 c2 i h2 h3 e1 e2 => ?_, fun i hi2 => ?_, by omega⟩
  · by_cases e : c' = c
    · rw [e]; exact .inr ⟨done, by omega, hc⟩
    · rw [hs _ (old _ h2 e)]
      rcases h.p1 _ (old _ h2 e) with h3 | ⟨i, h3, h4⟩
      · exact .inl h3
      · exact .inr ⟨i, by omega, h4⟩
  · by_cases e' : c' = c
    · subst e'
      have : i = done := by omega
      subst this
      refine ⟨h1, fun k hkn hkd => ?_⟩
      rw [hk k hkn hkd c' hcw, h1, Int.mul_one, show E (swI i i0 k) c' + (p - E (swI i i0 k) c') = p by omega]
      exact Int.emod_self
    · have hc' := old _ h2 e'
      rw [hs _ hc'] at e
      have hlt := h.lt hc' e
      obtain ⟨k1, k2⟩ := keep c' hc' (z0 c' hc')
      obtain ⟨g1, g2⟩ := h.p2 c' hc' i e
      refine ⟨by rw [k2 i (by omega) (by omega), swid i hlt]; exact g1, fun k hkn hki => ?_⟩
      by_cases e3 : k = done
      · rw [e3]; exact k1
      · rw [k2 k hkn e3]
        refine g2 _ (swlt k hkn) fun e4 => ?_
        by_cases h5 : k < done
        · rw [swid k h5] at e4; exact hki e4
        · have := swge k (by omega); omega
  · by_cases e' : c' = c
    · subst e'; omega
    · have hc' := old _ h2 e'
      rw [hs _ hc'] at e
      have hno' : ∀ j, j < c' → at_ j ≠ k := fun j hj => by rw [← hs j (by omega)]; exact hno j hj
      obtain ⟨k1, k2⟩ := keep c' hc' (z0 c' hc')
      by_cases e3 : k = done
      · rw [e3]; exact k1
      · rw [k2 k hkn e3]
        refine h.p3 c' hc' e _ (swlt k hkn) fun j hj e4 => ?_
        by_cases h5 : k < done
        · rw [swid k h5] at e4; exact hno' j hj e4
        · have h6 := swge k (by omega)
          have h7 := h.lt (show j < c by omega) e4
          omega
  · by_cases e' : c2 = c
    · subst e'
      rw [hs _ h2] at e1
      have := h.lt h2 e1
      omega
    · rw [hs _ (by omega)] at e1 e2
      exact h.p4 c1 c2 i h2 (by omega) e1 e2
  · by_cases e : i = done
    · exact ⟨c, by omega, by rw [e]; exact hc⟩
    · obtain ⟨c', h3, h4⟩ := h.p5 i (by omega)
      exact ⟨c', by omega, by rw [hs _ h3]; exact h4⟩

section
variable {p : Int} {E E0 : Nat → Nat → Int} {at_ : Nat → Int} {n w r done : Nat}
theorem Piv.dep (h : Piv E at_ n r done) (hp : 2 ≤ p) (hk : KEq p n w E0 E) (hrw : r ≤ w) (j : Nat) (hj : j < r) : Dep p E0 n j ↔ at_ j = -1 := by
  have wide : ∀ x : Nat → Int, ∀ F : Nat → Nat → Int, (∀ a, a < n → p ∣ sumF (fun i => F a i * x i) (j + 1)) ↔ Ker p F n w (fun i => if i ≤ j then x i else 0) := by
    intro x F
    have e : ∀ a, sumF (fun i => F a i * (if i ≤ j then x i else 0)) w = sumF (fun i => F a i * x i) (j + 1) := by
      intro a
      rw [sumF_ext (n := j + 1) (by omega) fun i h1 h2 => by rw [if_neg (by omega), Int.mul_zero]]
      exact sumF_congr fun i hi => by rw [if_pos (by omega)]
    exact ⟨fun h a ha => by rw [e]; exact h a ha, fun h a ha => by rw [← e]; exact h a ha⟩
  constructor
  · rintro ⟨x, hx, hd⟩
    have h1 := (wide x E).2 ((hk _).1 ((wide x E0).1 hd))
    rcases h.p1 j hj with e | ⟨i, hi, e⟩
    · exact e
    · exfalso
      have hin : i < n := by have := h.p6; omega
      have h2 := h1 i hin
      rw [sumF, sumF_zero fun b hb => ?_, (h.p2 j hj i e).1, hx] at h2
      · have := Int.le_of_dvd (by decide) h2
        omega
      · have hbr : b < r := by omega
        rcases h.p1 b hbr with e2 | ⟨i2, hi2, e2⟩
        · rw [h.p3 b hbr e2 i hin fun q hq e3 => h.p4 q j i (by omega) hj e3 e, Int.zero_mul]
        · have : i ≠ i2 := fun e3 => by subst e3; exact h.p4 b j i hb hj e2 e
          rw [(h.p2 b hbr i2 e2).2 i hin this, Int.zero_mul]
  · intro e
    let x : Nat → Int := fun b => if b = j then 1 else if at_ b = -1 then 0 else - E (at_ b).toNat j
    refine ⟨x, by simp [x], (wide x E0).2 ((hk _).2 ((wide x E).1 fun k hkn => ?_))⟩
    refine Cg.zero_iff.1 (Cg.of ?_)
    have hxj : x j = 1 := by simp [x]
    have hxb : ∀ b, b < j → x b = if at_ b = -1 then 0 else - E (at_ b).toNat j := fun b hb => by simp only [x]; rw [if_neg (by omega)]
    rw [sumF, hxj, Int.mul_one]
    by_cases hpv : ∃ b, b < j ∧ at_ b = k
    · obtain ⟨b, hb, e2⟩ := hpv
      rw [sumF_one (i := b) hb fun q hq hqb => ?_, hxb b hb, if_neg (by omega), e2, (h.p2 b (by omega) k e2).1]
      · simp; omega
      · rw [hxb q hq]
        rcases h.p1 q (by omega) with e3 | ⟨i3, hi3, e3⟩
        · rw [if_pos e3, Int.mul_zero]
        · have : k ≠ i3 := fun e4 => by
            subst e4
            rcases Nat.lt_or_ge q b with h5 | h5
            · exact h.p4 q b k h5 (by omega) e3 e2
            · exact h.p4 b q k (by omega) (by omega) e2 e3
          rw [(h.p2 q (by omega) i3 e3).2 k hkn this, Int.zero_mul]
    · rw [h.p3 j hj e k hkn fun b hb e2 => hpv ⟨b, hb, e2⟩, sumF_zero fun b hb => ?_]
      · rfl
      · rw [hxb b hb]
        rcases h.p1 b (by omega) with e3 | ⟨i3, hi3, e3⟩
        · rw [if_pos e3, Int.mul_zero]
        · rw [(h.p2 b (by omega) i3 e3).2 k hkn fun e4 => hpv ⟨b, hb, by rw [e4]; exact e3⟩, Int.zero_mul]

/-- Ker of a solution's vector. -/
def solV (x : Nat → Int) (r q : Nat) (j : Nat) : Int := if j < r then x j else if j = r + q then -1 else 0
theorem solV_sum (F : Nat → Nat → Int) (x : Nat → Int) {q a : Nat} (hq : r + q < w) : sumF (fun j => F a j * solV x r q j) w = sumF (fun j => F a j * x j) r - F a (r + q) := by
  have h1 : sumF (fun j => F a j * solV x r q j) w = sumF (fun j => F a j * solV x r q j) (r + q + 1) := sumF_ext (by omega) fun j h1 h2 => by rw [solV, if_neg (by omega), if_neg (by omega), Int.mul_zero]
  have h2 : sumF (fun j => F a j * solV x r q j) (r + q) = sumF (fun j => F a j * solV x r q j) r := sumF_ext (by omega) fun j h1 h2 => by rw [solV, if_neg (by omega), if_neg (by omega), Int.mul_zero]
  rw [h1, sumF, h2, sumF_congr (f := fun j => F a j * solV x r q j) (g := fun j => F a j * x j) fun j hj => by rw [solV, if_pos hj], solV, if_neg (by omega), if_pos rfl]
  omega
theorem Piv.sol_iff (hk : KEq p n w E0 E) {q : Nat} (hq : r + q < w) (x : Nat → Int) : (∀ a, a < n → Cg p (sumF (fun j => E0 a j * x j) r) (E0 a (r + q))) ↔ ∀ a, a < n → Cg p (sumF (fun j => E a j * x j) r) (E a (r + q)) := by
  have h := hk (solV x r q)
  unfold Ker at h
  simp only [solV_sum _ x hq] at h
  exact h
theorem Piv.sol (h : Piv E at_ n r done) (hp : 2 ≤ p) (hk : KEq p n w E0 E) {q : Nat} (hq : r + q < w) (rng : ∀ k, k < n → 0 ≤ E k (r + q) ∧ E k (r + q) < p) (hz : ∀ k, done ≤ k → k < n → E k (r + q) = 0) :
    Sol p E0 n r (fun a => E0 a (r + q)) (fun j => if at_ j = -1 then 0 else E (at_ j).toNat (r + q)) := by
  refine ⟨(Piv.sol_iff hk hq _).2 fun k hkn => ?_, fun j hj hd => if_pos ((h.dep hp hk (by omega) j hj).1 hd), fun j hj => ?_⟩
  · refine Cg.of ?_
    by_cases hkd : k < done
    · obtain ⟨b, hb, e2⟩ := h.p5 k hkd
      rw [sumF_one (i := b) hb fun c hc hcb => ?_, if_neg (by omega), e2, (h.p2 b hb k e2).1]
      · simp
      · rcases h.p1 c hc with e3 | ⟨i3, hi3, e3⟩
        · rw [if_pos e3, Int.mul_zero]
        · have : k ≠ i3 := fun e4 => by
            subst e4
            rcases Nat.lt_or_ge c b with h5 | h5
            · exact h.p4 c b k h5 (by omega) e3 e2
            · exact h.p4 b c k (by omega) (by omega) e2 e3
          rw [(h.p2 c hc i3 e3).2 k hkn this, Int.zero_mul]
    · rw [hz k (by omega) hkn]
      refine sumF_zero fun c hc => ?_
      rcases h.p1 c hc with e3 | ⟨i3, hi3, e3⟩
      · rw [if_pos e3, Int.mul_zero]
      · rw [(h.p2 c hc i3 e3).2 k hkn (by omega), Int.zero_mul]
  · rcases h.p1 j hj with e3 | ⟨i3, hi3, e3⟩
    · rw [if_pos e3]; omega
    · rw [if_neg (by omega), e3]
      exact rng _ (by have := h.p6; simp; omega)
theorem Piv.nosol (h : Piv E at_ n r done) (hp : 2 ≤ p) (hk : KEq p n w E0 E) {q k : Nat} (hq : r + q < w) (rng : 0 ≤ E k (r + q) ∧ E k (r + q) < p) (hkd : done ≤ k) (hkn : k < n) (hne : E k (r + q) ≠ 0) (x : Nat → Int) : ¬ Sol p E0 n r (fun a => E0 a (r + q)) x := by
  intro hs
  have h1 := (Piv.sol_iff hk hq x).1 hs.eqn k hkn
  rw [sumF_zero fun c hc => ?_] at h1
  · exact hne (h1.eq (by omega) rng).symm
  · have hd := hs.dep c hc
    rcases h.p1 c hc with e3 | ⟨i3, hi3, e3⟩
    · rw [hd ((h.dep hp hk (by omega) c hc).2 e3), Int.mul_zero]
    · rw [(h.p2 c hc i3 e3).2 k hkn (by omega), Int.zero_mul]
end
end Go.Proofs.Ytcmmbnhdfkcpdaa
