/- Systems of pairs: plain laws of both eliminations. -/
import Derived.Test.YtcmmbnhdfkcpdaaK0
import Derived.Test.YtcmmbnhdfkcpdaaLA2
import Derived.Test.YtcmmbnhdfkcpdaaLA3
namespace Go.Proofs.Ytcmmbnhdfkcpdaa
open Go Go.Abs
set_option maxRecDepth 100000

set_option maxRecDepth 100000
set_option linter.unusedVariables false
attribute [-simp] List.getD_eq_getElem?_getD

theorem tmod_pos {p x : Int} (hp : 2 ≤ p) (hx : 0 ≤ x) : x.tmod p = x % p := Int.tmod_eq_emod_of_nonneg hx
theorem rkX_eq {p f x y : Int} (hp : 2 ≤ p) : rkX p f x y = (x - f * y) % p := by
  have h2 := Int.lt_tmod_of_pos (x - f * y) (show 0 < p by omega)
  unfold rkX
  rw [tmod_pos hp (by omega)]
  refine Cg.emod_eq ?_
  unfold Cg
  rw [Int.tmod_def]
  exact ⟨1 - (x - f * y).tdiv p, by rw [Int.mul_sub]; omega⟩
theorem invV_ok {p a : Int} (hp : isP p = true) (ha : 0 < a ∧ a < p) : (invV p a * a) % p = 1 ∧ 1 ≤ invV p a ∧ invV p a ≤ 4 := by
  have h : p = 2 ∧ a = 1 ∨ p = 3 ∧ a = 1 ∨ p = 3 ∧ a = 2 ∨ p = 5 ∧ a = 1 ∨ p = 5 ∧ a = 2 ∨ p = 5 ∧ a = 3 ∨ p = 5 ∧ a = 4 := by
    simp [isP] at hp; omega
  rcases h with ⟨rfl, rfl⟩ | ⟨rfl, rfl⟩ | ⟨rfl, rfl⟩ | ⟨rfl, rfl⟩ | ⟨rfl, rfl⟩ | ⟨rfl, rfl⟩ | ⟨rfl, rfl⟩ <;> decide

/-- The first numbers of a row times b. -/
def svMul (p b : Int) (u : List Int) (t : Nat) : List Int := (List.range u.length).map fun j => if j < t then (u.getD j 0 * b).tmod p else u.getD j 0
theorem svMul_length (p b : Int) (u : List Int) (t : Nat) : (svMul p b u t).length = u.length := by simp [svMul]
theorem svMul_get {p b : Int} {u : List Int} {t j : Nat} (h : j < u.length) : (svMul p b u t).getD j 0 = if j < t then (u.getD j 0 * b).tmod p else u.getD j 0 := by
  simp [svMul, List.getD_eq_getElem?_getD, h]
theorem svMul_zero (p b : Int) (u : List Int) : svMul p b u 0 = u := list_ext_getD (svMul_length ..) fun j hj => by
  rw [svMul_length] at hj
  rw [svMul_get hj, if_neg (by omega)]
theorem svMul_succ (p b : Int) (u : List Int) {t : Nat} (ht : t < u.length) : svMul p b u (t + 1) = (svMul p b u t).set t ((u.getD t 0 * b).tmod p) := by
  refine list_ext_getD (by rw [List.length_set, svMul_length, svMul_length]) fun j hj => ?_
  rw [svMul_length] at hj
  rw [getD_set (by rw [svMul_length]; exact ht), svMul_get hj, svMul_get hj]
  by_cases e : j = t
  · subst e; rw [if_pos (by omega), if_pos rfl]
  · rw [if_neg e]
    by_cases e2 : j < t
    · rw [if_pos (by omega), if_pos e2]
    · rw [if_neg (by omega), if_neg e2]
/-- The first numbers of a row plus a multiple of another's. -/
def svRow (p s : Int) (u v : List Int) (t : Nat) : List Int := (List.range u.length).map fun j => if j < t then (u.getD j 0 + (p - s) * v.getD j 0).tmod p else u.getD j 0
theorem svRow_length (p s : Int) (u v : List Int) (t : Nat) : (svRow p s u v t).length = u.length := by simp [svRow]
theorem svRow_get {p s : Int} {u v : List Int} {t j : Nat} (h : j < u.length) : (svRow p s u v t).getD j 0 = if j < t then (u.getD j 0 + (p - s) * v.getD j 0).tmod p else u.getD j 0 := by
  simp [svRow, List.getD_eq_getElem?_getD, h]
theorem svRow_zero (p s : Int) (u v : List Int) : svRow p s u v 0 = u := list_ext_getD (svRow_length ..) fun j hj => by
  rw [svRow_length] at hj
  rw [svRow_get hj, if_neg (by omega)]
theorem svRow_succ (p s : Int) (u v : List Int) {t : Nat} (ht : t < u.length) : svRow p s u v (t + 1) = (svRow p s u v t).set t ((u.getD t 0 + (p - s) * v.getD t 0).tmod p) := by
  refine list_ext_getD (by rw [List.length_set, svRow_length, svRow_length]) fun j hj => ?_
  rw [svRow_length] at hj
  rw [getD_set (by rw [svRow_length]; exact ht), svRow_get hj, svRow_get hj]
  by_cases e : j = t
  · subst e; rw [if_pos (by omega), if_pos rfl]
  · rw [if_neg e]
    by_cases e2 : j < t
    · rw [if_pos (by omega), if_pos e2]
    · rw [if_neg (by omega), if_neg e2]
/-- A row cleared at c by the pivot's. -/
def svClr (p : Int) (c : Nat) (u v : List Int) : List Int := if u.getD c 0 = 0 then u else svRow p (u.getD c 0) u v u.length
theorem svClr_length (p : Int) (c : Nat) (u v : List Int) : (svClr p c u v).length = u.length := by unfold svClr; split; rfl; exact svRow_length ..
def svEl (p : Int) (R : List (List Int)) (d c : Nat) : Nat → List (List Int)
  | 0 => R
  | t + 1 => if t = d then svEl p R d c t else (svEl p R d c t).set t (svClr p c ((svEl p R d c t).getD t []) ((svEl p R d c t).getD d []))
theorem svEl_length (p : Int) (R : List (List Int)) (d c : Nat) : ∀ t, (svEl p R d c t).length = R.length
  | 0 => rfl
  | t + 1 => by
    rw [svEl]; split
    · exact svEl_length p R d c t
    · rw [List.length_set]; exact svEl_length p R d c t
theorem svEl_get (p : Int) {R : List (List Int)} {d c : Nat} (hd : d < R.length) : ∀ t, t ≤ R.length → ∀ k, (svEl p R d c t).getD k [] = if k < t ∧ k ≠ d then svClr p c (R.getD k []) (R.getD d []) else R.getD k []
  | 0, _, k => by rw [svEl, if_neg (by omega)]
  | t + 1, ht, k => by
    have ih := svEl_get p (c := c) hd t (by omega)
    have hl := svEl_length p R d c t
    rw [svEl]
    by_cases e : t = d
    · rw [if_pos e, ih k]
      by_cases e1 : k < t ∧ k ≠ d
      · rw [if_pos e1, if_pos ⟨by omega, e1.2⟩]
      · rw [if_neg e1, if_neg (by omega)]
    · have iht := ih t
      rw [if_neg (by omega)] at iht
      have ihd := ih d
      rw [if_neg (by omega)] at ihd
      rw [if_neg e, getD_set (by omega), iht, ihd, ih k]
      by_cases e2 : k = t
      · subst e2; rw [if_pos rfl, if_pos ⟨by omega, e⟩]
      · rw [if_neg e2]
        by_cases e1 : k < t ∧ k ≠ d
        · rw [if_pos e1, if_pos ⟨by omega, e1.2⟩]
        · rw [if_neg e1, if_neg (by omega)]
/-- One column: rows, pivots and the number of pivots. -/
def svPiv (p : Int) (S : List (List Int)) (d c : Nat) : List (List Int) := S.set d (svMul p (invV p ((S.getD d []).getD c 0)) (S.getD d []) (S.getD d []).length)
def svStep (p : Int) (z : List (List Int) × List Int × Nat) (c : Nat) : List (List Int) × List Int × Nat :=
  if rkAt z.1 z.2.2 c < z.1.length then (svEl p (svPiv p (swapL z.1 z.2.2 (rkAt z.1 z.2.2 c) []) z.2.2 c) z.2.2 c z.1.length, z.2.1 ++ [((z.2.2 : Nat) : Int)], z.2.2 + 1) else (z.1, z.2.1 ++ [-1], z.2.2)
def svL (p : Int) (R : List (List Int)) : Nat → List (List Int) × List Int × Nat
  | 0 => (R, [], 0)
  | c + 1 => svStep p (svL p R c) c

def Ef (R : List (List Int)) (k l : Nat) : Int := (R.getD k []).getD l 0
def atF (l : List Int) (j : Nat) : Int := l.getD j 0
theorem getD_none {l : List Int} {j : Nat} (h : l.length ≤ j) : l.getD j 0 = 0 := by
  rw [List.getD_eq_getElem?_getD, List.getElem?_eq_none h]; rfl
theorem getD_app {a b : List Int} {j : Nat} : (a ++ b).getD j 0 = if j < a.length then a.getD j 0 else b.getD (j - a.length) 0 := by
  simp only [List.getD_eq_getElem?_getD]
  split
  · rename_i h; rw [List.getElem?_append_left h]
  · rename_i h; rw [List.getElem?_append_right (by omega)]
section
variable {p : Int} {w : Nat} {R : List (List Int)}
theorem svMul_rng (hp : 2 ≤ p) {b : Int} (hb : 0 ≤ b) {u : List Int} {t : Nat} (hu : ∀ j, 0 ≤ u.getD j 0 ∧ u.getD j 0 < p) (j : Nat) : 0 ≤ (svMul p b u t).getD j 0 ∧ (svMul p b u t).getD j 0 < p := by
  by_cases hj : j < u.length
  · rw [svMul_get hj]
    split
    · have h1 := Int.mul_nonneg (hu j).1 hb
      exact ⟨Int.tmod_nonneg _ h1, Int.tmod_lt_of_pos _ (by omega)⟩
    · exact hu j
  · rw [getD_none (by rw [svMul_length]; omega)]; omega
theorem svRow_rng (hp : 2 ≤ p) {s : Int} (hs : 0 ≤ s ∧ s < p) {u v : List Int} {t : Nat} (hu : ∀ j, 0 ≤ u.getD j 0 ∧ u.getD j 0 < p) (hv : ∀ j, 0 ≤ v.getD j 0 ∧ v.getD j 0 < p) (j : Nat) : 0 ≤ (svRow p s u v t).getD j 0 ∧ (svRow p s u v t).getD j 0 < p := by
  by_cases hj : j < u.length
  · rw [svRow_get hj]
    split
    · have h1 := Int.mul_nonneg (show 0 ≤ p - s by omega) (hv j).1
      have h2 := (hu j).1
      exact ⟨Int.tmod_nonneg _ (by omega), Int.tmod_lt_of_pos _ (by omega)⟩
    · exact hu j
  · rw [getD_none (by rw [svRow_length]; omega)]; omega
theorem svClr_rng (hp : 2 ≤ p) {c : Nat} {u v : List Int} (hu : ∀ j, 0 ≤ u.getD j 0 ∧ u.getD j 0 < p) (hv : ∀ j, 0 ≤ v.getD j 0 ∧ v.getD j 0 < p) (j : Nat) : 0 ≤ (svClr p c u v).getD j 0 ∧ (svClr p c u v).getD j 0 < p := by
  unfold svClr; split
  · exact hu j
  · exact svRow_rng hp (hu c) hu hv j
theorem svEl_ok (hp : 2 ≤ p) (h : RkOk p w R) {d c : Nat} (hd : d < R.length) : ∀ t, t ≤ R.length → RkOk p w (svEl p R d c t)
  | 0, _ => h
  | t + 1, ht => by
    have ih := svEl_ok hp h (c := c) hd t (by omega)
    have hl := svEl_length p R d c t
    rw [svEl]
    split
    · exact ih
    · exact ih.set (by omega) (by rw [svClr_length]; exact ih.len _ (by omega)) (svClr_rng hp (fun j => ih.rng _ j (by omega)) fun j => ih.rng _ j (by omega))
theorem svPiv_ok (hP : isP p = true) (h : RkOk p w R) {d c : Nat} (hd : d < R.length) (hnz : (R.getD d []).getD c 0 ≠ 0) : RkOk p w (svPiv p R d c) := by
  have hp : 2 ≤ p := by simp [isP] at hP; omega
  have h0 := h.rng d c hd
  have hi := invV_ok hP (a := (R.getD d []).getD c 0) (by omega)
  exact h.set hd (by rw [svMul_length]; exact h.len d hd) (svMul_rng hp (by omega) fun j => h.rng d j hd)
theorem svStep_len (z : List (List Int) × List Int × Nat) (c : Nat) : (svStep p z c).1.length = z.1.length ∧ (svStep p z c).2.1.length = z.2.1.length + 1 := by
  unfold svStep
  split
  · exact ⟨by rw [svEl_length, svPiv, List.length_set, swapL_length], by simp⟩
  · exact ⟨rfl, by simp⟩
/-- What one column does. -/
theorem svStep_inv (hP : isP p = true) {z : List (List Int) × List Int × Nat} {c : Nat} (hc : c < w) (h : RkOk p w z.1) (hat : z.2.1.length = c) (hpv : Piv (Ef z.1) (atF z.2.1) z.1.length c z.2.2) :
    RkOk p w (svStep p z c).1 ∧ Piv (Ef (svStep p z c).1) (atF (svStep p z c).2.1) z.1.length (c + 1) (svStep p z c).2.2 ∧ KEq p z.1.length w (Ef z.1) (Ef (svStep p z c).1) := by
  have hp : 2 ≤ p := by simp [isP] at hP; omega
  obtain ⟨R, at_, d⟩ := z
  dsimp only at h hat hpv ⊢
  have hge := (rkF_ge (R := R) (c := c) (f := R.length - d) (i := d))
  have hd0 := hpv.p6
  have e1 : rkAt R d c = rkF R c (R.length - d) d := rfl
  rw [← e1] at hge
  have hold : ∀ x : Int, ∀ j, j < c → atF (at_ ++ [x]) j = atF at_ j := fun x j hj => by rw [atF, atF, getD_app, if_pos (by omega)]
  have hnew : ∀ x : Int, atF (at_ ++ [x]) c = x := fun x => by rw [atF, getD_app, if_neg (by omega), hat, Nat.sub_self]; rfl
  unfold svStep
  dsimp only
  by_cases hf : rkAt R d c < R.length
  · rw [if_pos hf]
    dsimp only
    have hnz : (R.getD (rkAt R d c) []).getD c 0 ≠ 0 := by rw [e1]; exact rkF_nz (by rw [← e1]; omega)
    generalize rkAt R d c = i0 at hf hnz hge
    have hd : d < R.length := by omega
    have hS := h.swap hd hf
    have hSl : (swapL R d i0 []).length = R.length := swapL_length ..
    have hSg : ∀ k, (swapL R d i0 []).getD k [] = R.getD (swI d i0 k) [] := fun k => by rw [swapL_get hd hf]; rfl
    have hsd : swI d i0 d = i0 := by unfold swI; split <;> simp_all
    have hnz' : ((swapL R d i0 []).getD d []).getD c 0 ≠ 0 := by rw [hSg, hsd]; exact hnz
    have hPo := svPiv_ok hP hS (d := d) (c := c) (by omega) hnz'
    have hPl : (svPiv p (swapL R d i0 []) d c).length = R.length := by rw [svPiv, List.length_set, hSl]
    have hPd : (svPiv p (swapL R d i0 []) d c).getD d [] = svMul p (invV p ((R.getD i0 []).getD c 0)) (R.getD i0 []) w := by
      rw [svPiv, getD_set (by omega), if_pos rfl, hSg, hsd, h.len i0 hf]
    have hPk : ∀ k, k ≠ d → (svPiv p (swapL R d i0 []) d c).getD k [] = R.getD (swI d i0 k) [] := fun k hk => by
      rw [svPiv, getD_set (by omega), if_neg hk, hSg]
    have hEo := svEl_ok hp hPo (d := d) (c := c) (by omega) R.length (by omega)
    have hEg := svEl_get p (R := svPiv p (swapL R d i0 []) d c) (d := d) (c := c) (by omega) R.length (by omega)
    have hEd := hEg d
    rw [if_neg (by omega), hPd] at hEd
    have hEk : ∀ k, k < R.length → k ≠ d → (svEl p (svPiv p (swapL R d i0 []) d c) d c R.length).getD k [] = svClr p c (R.getD (swI d i0 k) []) (svMul p (invV p ((R.getD i0 []).getD c 0)) (R.getD i0 []) w) := by
      intro k hk hkd
      rw [hEg k, if_pos ⟨hk, hkd⟩, hPk k hkd, hPd]
    have hrg := h.rng i0 c hf
    obtain ⟨hiv, hiv1, hiv2⟩ := invV_ok hP (a := (R.getD i0 []).getD c 0) (by omega)
    generalize svEl p (svPiv p (swapL R d i0 []) d c) d c R.length = Q at hEo hEd hEk
    clear hEg hPk hPd hPl hPo
    generalize hu : invV p ((R.getD i0 []).getD c 0) = u at *
    have hlen := h.len i0 hf
    have swlt : ∀ k, k < R.length → swI d i0 k < R.length := fun k hk => by unfold swI; split; omega; split; exact hf; exact hk
    have fd : ∀ l, l < w → Ef Q d l = (Ef R i0 l * u) % p := by
      intro l hl
      have h1 := (h.rng i0 l hf).1
      rw [Ef, hEd, svMul_get (by omega), if_pos hl, tmod_pos hp (Int.mul_nonneg h1 (by omega))]; rfl
    have fk : ∀ k, k < R.length → k ≠ d → ∀ l, l < w → Ef Q k l = (Ef R (swI d i0 k) l + (p - Ef R (swI d i0 k) c) * Ef Q d l) % p := by
      intro k hk hkd l hl
      have h1 := h.rng _ l (swlt k hk)
      have h2 := h.rng _ c (swlt k hk)
      have h3 : 0 ≤ Ef Q d l := by rw [fd l hl]; exact Int.emod_nonneg _ (by omega)
      have h5 : (svMul p u (R.getD i0 []) w).getD l 0 = Ef Q d l := by rw [Ef, hEd]
      rw [show Ef Q k l = (Q.getD k []).getD l 0 from rfl, hEk k hk hkd, svClr]
      by_cases e0 : (R.getD (swI d i0 k) []).getD c 0 = 0
      · rw [if_pos e0, show Ef R (swI d i0 k) c = 0 from e0, Int.sub_zero, Int.add_mul_emod_self_left]
        exact (Int.emod_eq_of_lt h1.1 h1.2).symm
      · have h4 := h.len _ (swlt k hk)
        rw [if_neg e0, svRow_get (by omega), if_pos (by omega), h5, tmod_pos hp]
        · rfl
        · have := Int.mul_nonneg (show 0 ≤ p - (R.getD (swI d i0 k) []).getD c 0 by omega) h3
          omega
    have f1 : Ef Q d c = 1 := by rw [fd c hc, Int.mul_comm]; exact hiv
    refine ⟨hEo, ?_, ?_⟩
    · refine hpv.some (hold _) (hnew _) hge.1 hf hc hp (fun k hk l hl => h.rng k l hk) f1 fd fk
    · refine KEq.elim (d := d) (i0 := i0) (u := u) (v := Ef R i0 c) (ck := fun k => p - Ef R (swI d i0 k) c) hd hf ?_ (fun l hl => ?_) fun k hk hkd l hl => ?_
      · rw [Int.mul_comm]
        exact Cg.of_emod (by rw [show u * Ef R i0 c = u * (R.getD i0 []).getD c 0 from rfl, hiv]; exact (Int.emod_eq_of_lt (by omega) (by omega)).symm)
      · rw [fd l hl, Int.mul_comm u]; exact Cg.emod
      · rw [fk k hk hkd l hl]; exact Cg.emod
  · rw [if_neg hf]
    dsimp only
    have hz : ∀ k, d ≤ k → k < R.length → Ef R k c = 0 := by
      have key : ∀ f i, i + f = R.length → rkF R c f i = R.length → ∀ k, i ≤ k → k < R.length → (R.getD k []).getD c 0 = 0 := by
        intro f
        induction f with
        | zero => intro i h1 h2 k h3 h4; omega
        | succ f ih =>
          intro i h1 h2 k h3 h4
          rw [rkF] at h2
          by_cases e0 : (R.getD i []).getD c 0 = 0
          · rw [if_pos e0] at h2
            by_cases e : k = i
            · rw [e]; exact e0
            · exact ih (i + 1) (by omega) h2 k (by omega) h4
          · rw [if_neg e0] at h2; omega
      exact fun k h1 h2 => key (R.length - d) d (by omega) (by omega) k h1 h2
    exact ⟨h, hpv.none (hold _) (hnew _) hz, KEq.rfl'⟩
theorem svL_inv (hP : isP p = true) (h : RkOk p w R) : ∀ c, c ≤ w → RkOk p w (svL p R c).1 ∧ (svL p R c).1.length = R.length ∧ (svL p R c).2.1.length = c ∧ Piv (Ef (svL p R c).1) (atF (svL p R c).2.1) R.length c (svL p R c).2.2 ∧ KEq p R.length w (Ef R) (Ef (svL p R c).1)
  | 0, _ => ⟨h, rfl, rfl, Piv.zero, KEq.rfl'⟩
  | c + 1, hc => by
    obtain ⟨h1, h2, h3, h4, h5⟩ := svL_inv hP h c (by omega)
    obtain ⟨g1, g2, g3⟩ := svStep_inv hP (z := svL p R c) (c := c) (by omega) h1 h3 (by rw [h2]; exact h4)
    obtain ⟨k1, k2⟩ := svStep_len (p := p) (svL p R c) c
    rw [h2] at g2 g3 k1
    exact ⟨g1, k1, by rw [svL, k2, h3], g2, h5.trans g3⟩
end
/-- The number of pivots among the first t. -/
def nnC (l : List Int) : Nat → Nat
  | 0 => 0
  | t + 1 => if 0 ≤ l.getD t 0 then nnC l t + 1 else nnC l t
theorem nnC_le (l : List Int) : ∀ t, nnC l t ≤ t
  | 0 => Nat.le_refl _
  | t + 1 => by have := nnC_le l t; rw [nnC]; split <;> omega
end Go.Proofs.Ytcmmbnhdfkcpdaa
