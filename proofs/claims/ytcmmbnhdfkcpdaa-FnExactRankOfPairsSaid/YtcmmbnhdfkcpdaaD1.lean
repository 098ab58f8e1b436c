/- What a method makes of two lists: one form at a list. -/
import Derived.Test.YtcmmbnhdfkcpdaaT1
namespace Go.Proofs.Ytcmmbnhdfkcpdaa
open Go Go.Abs
set_option maxRecDepth 100000

set_option maxRecDepth 100000
set_option maxHeartbeats 8000000
set_option linter.unusedVariables false
attribute [-simp] List.getD_eq_getElem?_getD
attribute [-go_sem] confV

/-- A form at a list: the first terms' sum. -/
def dot (f l : List Int) : Nat → Int
  | 0 => 0
  | n + 1 => dot f l n + f.getD n 0 * l.getD n 0
theorem mul_bnd {x y : Int} (hx : 0 ≤ x ∧ x ≤ 255) (hy : 0 ≤ y ∧ y ≤ 5) : 0 ≤ x * y ∧ x * y ≤ 1275 := by
  have p1 : 0 ≤ x * y := Int.mul_nonneg hx.1 hy.1
  have p2 : x * y ≤ 255 * 5 := Int.mul_le_mul hx.2 hy.2 hy.1 (by omega)
  omega
theorem numsOk_get5 {p : Int} {l : List Int} (hp : 2 ≤ p ∧ p ≤ 5) (hl : numsOk p l = true) (i : Nat) : 0 ≤ l.getD i 0 ∧ l.getD i 0 ≤ 5 := by
  have := numsOk_get hl (by omega) i
  omega
theorem dot_bnd {p : Int} {f l : List Int} (hp : 2 ≤ p ∧ p ≤ 5) (hb : byteL f) (hl : numsOk p l = true) (n : Nat) : 0 ≤ dot f l n ∧ dot f l n ≤ n * 1275 := by
  induction n with
  | zero => simp [dot]
  | succ n ih =>
    have := mul_bnd (hb.get n) (numsOk_get5 hp hl n)
    simp only [dot]
    have e : ((n + 1 : Nat) : Int) * 1275 = n * 1275 + 1275 := by rw [Int.natCast_add, Int.add_mul]; simp
    omega

/-- One product's part of the list, its first places. -/
def mkLk (p : Int) (q : List Int) (D : Int) (o : List Int) (k : Nat) : List Int := (List.range k).foldl (fun o k => o.set k ((o.getD k 0 + q.getD (18 + k) 0 * D) % p)) o
theorem mkLk_zero (p : Int) (q : List Int) (D : Int) (o : List Int) : mkLk p q D o 0 = o := rfl
theorem mkLk_succ (p : Int) (q : List Int) (D : Int) (o : List Int) (k : Nat) : mkLk p q D o (k + 1) = (mkLk p q D o k).set k (((mkLk p q D o k).getD k 0 + q.getD (18 + k) 0 * D) % p) := by simp [mkLk, List.range_succ]
def mkD (q u v : List Int) : Int := dot (sub q 0 9) u u.length * dot (sub q 9 9) v v.length
def mkL (p : Int) (l u v : List Int) (K : Nat) : Nat → List Int
  | 0 => List.replicate K 0
  | t + 1 => mkLk p (sub l (t * 27) 27) (mkD (sub l (t * 27) 27) u v) (mkL p l u v K t) K
theorem mkLk_ok {p : Int} {q o : List Int} {D : Int} {K : Nat} (hp : 2 ≤ p ∧ p ≤ 5) (ho : o.length = K ∧ numsOk p o = true) (k : Nat) : (mkLk p q D o k).length = K ∧ numsOk p (mkLk p q D o k) = true := by
  induction k with
  | zero => exact ho
  | succ k ih =>
    rw [mkLk_succ]
    refine ⟨by rw [List.length_set]; exact ih.1, ?_⟩
    rw [numsOk, List.all_eq_true]
    intro z hz
    rcases List.mem_or_eq_of_mem_set hz with h | rfl
    · exact List.all_eq_true.1 ih.2 z h
    · simp only [inP, Bool.and_eq_true, decide_eq_true_eq]
      exact ⟨Int.emod_nonneg _ (by omega), Int.emod_lt_of_pos _ (by omega)⟩
theorem mkL_ok {p : Int} {l u v : List Int} {K : Nat} (hp : 2 ≤ p ∧ p ≤ 5) (t : Nat) : (mkL p l u v K t).length = K ∧ numsOk p (mkL p l u v K t) = true := by
  induction t with
  | zero =>
    refine ⟨by simp [mkL], ?_⟩
    rw [mkL, numsOk, List.all_eq_true]
    intro z hz
    rw [(List.mem_replicate.1 hz).2]
    simp [inP]; omega
  | succ t ih => exact mkLk_ok hp ih K
theorem mkD_bnd {p : Int} {q u v : List Int} (hp : 2 ≤ p ∧ p ≤ 5) (hb : byteL q) (hu : numsOk p u = true) (hv : numsOk p v = true) (hul : u.length ≤ 9) (hvl : v.length ≤ 9) :
    (0 ≤ dot (sub q 0 9) u u.length ∧ dot (sub q 0 9) u u.length ≤ 11475) ∧ (0 ≤ dot (sub q 9 9) v v.length ∧ dot (sub q 9 9) v v.length ≤ 11475) ∧ (0 ≤ mkD q u v ∧ mkD q u v ≤ 131675625) := by
  have h1 := dot_bnd hp (hb.sub 0 9) hu u.length
  have h2 := dot_bnd hp (hb.sub 9 9) hv v.length
  have h3 : 0 ≤ dot (sub q 0 9) u u.length ∧ dot (sub q 0 9) u u.length ≤ 11475 := by omega
  have h4 : 0 ≤ dot (sub q 9 9) v v.length ∧ dot (sub q 9 9) v v.length ≤ 11475 := by omega
  refine ⟨h3, h4, ?_⟩
  rw [mkD]
  have p1 := Int.mul_nonneg h3.1 h4.1
  have p2 := Int.mul_le_mul h3.2 h4.2 h4.1 (by omega)
  omega
theorem mk_eq1 {p o c D : Int} (hp : 2 ≤ p) (ho : 0 ≤ o) (hc : 0 ≤ c) (hD : 0 ≤ D) : (o + c * D.tmod p).tmod p = (o + c * D) % p := by
  rw [Int.tmod_eq_emod_of_nonneg hD, Int.tmod_eq_emod_of_nonneg (Int.add_nonneg ho (Int.mul_nonneg hc (Int.emod_nonneg _ (by omega)))), Int.add_emod, Int.mul_emod, Int.emod_emod, ← Int.mul_emod, ← Int.add_emod]
theorem mk_eq2 {p o c a b : Int} (hp : 2 ≤ p) (ho : 0 ≤ o) (hc : 0 ≤ c) (ha : 0 ≤ a) (hb : 0 ≤ b) : (o + c * (a.tmod p * b.tmod p)).tmod p = (o + c * (a * b)) % p := by
  rw [Int.tmod_eq_emod_of_nonneg ha, Int.tmod_eq_emod_of_nonneg hb, Int.tmod_eq_emod_of_nonneg (Int.add_nonneg ho (Int.mul_nonneg hc (Int.mul_nonneg (Int.emod_nonneg _ (by omega)) (Int.emod_nonneg _ (by omega))))), Int.add_emod, Int.mul_emod, ← Int.mul_emod a b, ← Int.mul_emod, ← Int.add_emod]
end Go.Proofs.Ytcmmbnhdfkcpdaa
