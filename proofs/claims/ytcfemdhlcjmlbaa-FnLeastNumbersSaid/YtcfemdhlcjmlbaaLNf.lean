/- What the row needs, part 6 of 17: the texts Y0, GR, K1, Y3, Y1, without what it does not use. -/
import Derived.Test.YtcfemdhlcjmlbaaProg
import Derived.Test.YtcfemdhlcjmlbaaLNa
import Derived.Test.YtcfemdhlcjmlbaaLNb
import Derived.Test.YtcfemdhlcjmlbaaLNc
import Derived.Test.YtcfemdhlcjmlbaaLNd
import Derived.Test.YtcfemdhlcjmlbaaLNe
/- Systems of pairs: plain laws of both eliminations. -/
namespace Go.Proofs.Ytcfemdhlcjmlbaa
open Go Go.Abs
set_option maxRecDepth 100000

set_option maxRecDepth 100000
set_option linter.unusedVariables false
attribute [-simp] List.getD_eq_getElem?_getD

theorem tmod_pos {p x : Int} (hp : 2 ≤ p) (hx : 0 ≤ x) : x.tmod p = x % p := Int.tmod_eq_emod_of_nonneg hx
theorem rkX_eq {p f x y : Int} (hp : 2 ≤ p) : rkX p f x y = (x - f * y) % p := by
  have h2 := Int.lt_tmod_of_pos (x - f * y) (show 0 < p by omega)
  unfold rkX
  rw [tmod_pos hp (by omega)]
  refine Cg.emod_eq ?_
  unfold Cg
  rw [Int.tmod_def]
  exact ⟨1 - (x - f * y).tdiv p, by rw [Int.mul_sub]; omega⟩
theorem invV_ok {p a : Int} (hp : isP p = true) (ha : 0 < a ∧ a < p) : (invV p a * a) % p = 1 ∧ 1 ≤ invV p a ∧ invV p a ≤ 4 := by
  have h : p = 2 ∧ a = 1 ∨ p = 3 ∧ a = 1 ∨ p = 3 ∧ a = 2 ∨ p = 5 ∧ a = 1 ∨ p = 5 ∧ a = 2 ∨ p = 5 ∧ a = 3 ∨ p = 5 ∧ a = 4 := by
    simp [isP] at hp; omega
  rcases h with ⟨rfl, rfl⟩ | ⟨rfl, rfl⟩ | ⟨rfl, rfl⟩ | ⟨rfl, rfl⟩ | ⟨rfl, rfl⟩ | ⟨rfl, rfl⟩ | ⟨rfl, rfl⟩ <;> decide

/-- The first numbers of a row times b. -/
def svMul (p b : Int) (u : List Int) (t : Nat) : List Int := (List.range u.length).map fun j => if j < t then (u.getD j 0 * b).tmod p else u.getD j 0
theorem svMul_length (p b : Int) (u : List Int) (t : Nat) : (svMul p b u t).length = u.length := by simp [svMul]
theorem svMul_get {p b : Int} {u : List Int} {t j : Nat} (h : j < u.length) : (svMul p b u t).getD j 0 = if j < t then (u.getD j 0 * b).tmod p else u.getD j 0 := by
  simp [svMul, List.getD_eq_getElem?_getD, h]
theorem svMul_zero (p b : Int) (u : List Int) : svMul p b u 0 = u := list_ext_getD (svMul_length ..) fun j hj => by
  rw [svMul_length] at hj
  rw [svMul_get hj, if_neg (by omega)]
theorem svMul_succ (p b : Int) (u : List Int) {t : Nat} (ht : t < u.length) : svMul p b u (t + 1) = (svMul p b u t).set t ((u.getD t 0 * b).tmod p) := by
  refine list_ext_getD (by rw [List.length_set, svMul_length, svMul_length]) fun j hj => ?_
  rw [svMul_length] at hj
  rw [getD_set (by rw [svMul_length]; exact ht), svMul_get hj, svMul_get hj]
  by_cases e : j = t
  · subst e; rw [if_pos (by omega), if_pos rfl]
  · rw [if_neg e]
    by_cases e2 : j < t
    · rw [if_pos (by omega), if_pos e2]
    · rw [if_neg (by omega), if_neg e2]
/-- The first numbers of a row plus a multiple of another's. -/
def svRow (p s : Int) (u v : List Int) (t : Nat) : List Int := (List.range u.length).map fun j => if j < t then (u.getD j 0 + (p - s) * v.getD j 0).tmod p else u.getD j 0
theorem svRow_length (p s : Int) (u v : List Int) (t : Nat) : (svRow p s u v t).length = u.length := by simp [svRow]
theorem svRow_get {p s : Int} {u v : List Int} {t j : Nat} (h : j < u.length) : (svRow p s u v t).getD j 0 = if j < t then (u.getD j 0 + (p - s) * v.getD j 0).tmod p else u.getD j 0 := by
  simp [svRow, List.getD_eq_getElem?_getD, h]
theorem svRow_zero (p s : Int) (u v : List Int) : svRow p s u v 0 = u := list_ext_getD (svRow_length ..) fun j hj => by
  rw [svRow_length] at hj
  rw [svRow_get hj, if_neg (by omega)]
theorem svRow_succ (p s : Int) (u v : List Int) {t : Nat} (ht : t < u.length) : svRow p s u v (t + 1) = (svRow p s u v t).set t ((u.getD t 0 + (p - s) * v.getD t 0).tmod p) := by
  refine list_ext_getD (by rw [List.length_set, svRow_length, svRow_length]) fun j hj => ?_
  rw [svRow_length] at hj
  rw [getD_set (by rw [svRow_length]; exact ht), svRow_get hj, svRow_get hj]
  by_cases e : j = t
  · subst e; rw [if_pos (by omega), if_pos rfl]
  · rw [if_neg e]
    by_cases e2 : j < t
    · rw [if_pos (by omega), if_pos e2]
    · rw [if_neg (by omega), if_neg e2]
/-- A row cleared at c by the pivot's. -/
def svClr (p : Int) (c : Nat) (u v : List Int) : List Int := if u.getD c 0 = 0 then u else svRow p (u.getD c 0) u v u.length
theorem svClr_length (p : Int) (c : Nat) (u v : List Int) : (svClr p c u v).length = u.length := by unfold svClr; split; rfl; exact svRow_length ..
def svEl (p : Int) (R : List (List Int)) (d c : Nat) : Nat → List (List Int)
  | 0 => R
  | t + 1 => if t = d then svEl p R d c t else (svEl p R d c t).set t (svClr p c ((svEl p R d c t).getD t []) ((svEl p R d c t).getD d []))
theorem svEl_length (p : Int) (R : List (List Int)) (d c : Nat) : ∀ t, (svEl p R d c t).length = R.length
  | 0 => rfl
  | t + 1 => by
    rw [svEl]; split
    · exact svEl_length p R d c t
    · rw [List.length_set]; exact svEl_length p R d c t
theorem svEl_get (p : Int) {R : List (List Int)} {d c : Nat} (hd : d < R.length) : ∀ t, t ≤ R.length → ∀ k, (svEl p R d c t).getD k [] = if k < t ∧ k ≠ d then svClr p c (R.getD k []) (R.getD d []) else R.getD k []
  | 0, _, k => by rw [svEl, if_neg (by omega)]
  | t + 1, ht, k => by
    have ih := svEl_get p (c := c) hd t (by omega)
    have hl := svEl_length p R d c t
    rw [svEl]
    by_cases e : t = d
    · rw [if_pos e, ih k]
      by_cases e1 : k < t ∧ k ≠ d
      · rw [if_pos e1, if_pos ⟨by omega, e1.2⟩]
      · rw [if_neg e1, if_neg (by omega)]
    · have iht := ih t
      rw [if_neg (by omega)] at iht
      have ihd := ih d
      rw [if_neg (by omega)] at ihd
      rw [if_neg e, getD_set (by omega), iht, ihd, ih k]
      by_cases e2 : k = t
      · subst e2; rw [if_pos rfl, if_pos ⟨by omega, e⟩]
      · rw [if_neg e2]
        by_cases e1 : k < t ∧ k ≠ d
        · rw [if_pos e1, if_pos ⟨by omega, e1.2⟩]
        · rw [if_neg e1, if_neg (by omega)]
/-- One column: rows, pivots and the number of pivots. -/
def svPiv (p : Int) (S : List (List Int)) (d c : Nat) : List (List Int) := S.set d (svMul p (invV p ((S.getD d []).getD c 0)) (S.getD d []) (S.getD d []).length)
def svStep (p : Int) (z : List (List Int) × List Int × Nat) (c : Nat) : List (List Int) × List Int × Nat :=
  if rkAt z.1 z.2.2 c < z.1.length then (svEl p (svPiv p (swapL z.1 z.2.2 (rkAt z.1 z.2.2 c) []) z.2.2 c) z.2.2 c z.1.length, z.2.1 ++ [((z.2.2 : Nat) : Int)], z.2.2 + 1) else (z.1, z.2.1 ++ [-1], z.2.2)
def svL (p : Int) (R : List (List Int)) : Nat → List (List Int) × List Int × Nat
  | 0 => (R, [], 0)
  | c + 1 => svStep p (svL p R c) c

def Ef (R : List (List Int)) (k l : Nat) : Int := (R.getD k []).getD l 0
def atF (l : List Int) (j : Nat) : Int := l.getD j 0
theorem getD_none {l : List Int} {j : Nat} (h : l.length ≤ j) : l.getD j 0 = 0 := by
  rw [List.getD_eq_getElem?_getD, List.getElem?_eq_none h]; rfl
theorem getD_app {a b : List Int} {j : Nat} : (a ++ b).getD j 0 = if j < a.length then a.getD j 0 else b.getD (j - a.length) 0 := by
  simp only [List.getD_eq_getElem?_getD]
  split
  · rename_i h; rw [List.getElem?_append_left h]
  · rename_i h; rw [List.getElem?_append_right (by omega)]
section
variable {p : Int} {w : Nat} {R : List (List Int)}
theorem svMul_rng (hp : 2 ≤ p) {b : Int} (hb : 0 ≤ b) {u : List Int} {t : Nat} (hu : ∀ j, 0 ≤ u.getD j 0 ∧ u.getD j 0 < p) (j : Nat) : 0 ≤ (svMul p b u t).getD j 0 ∧ (svMul p b u t).getD j 0 < p := by
  by_cases hj : j < u.length
  · rw [svMul_get hj]
    split
    · have h1 := Int.mul_nonneg (hu j).1 hb
      exact ⟨Int.tmod_nonneg _ h1, Int.tmod_lt_of_pos _ (by omega)⟩
    · exact hu j
  · rw [getD_none (by rw [svMul_length]; omega)]; omega
theorem svRow_rng (hp : 2 ≤ p) {s : Int} (hs : 0 ≤ s ∧ s < p) {u v : List Int} {t : Nat} (hu : ∀ j, 0 ≤ u.getD j 0 ∧ u.getD j 0 < p) (hv : ∀ j, 0 ≤ v.getD j 0 ∧ v.getD j 0 < p) (j : Nat) : 0 ≤ (svRow p s u v t).getD j 0 ∧ (svRow p s u v t).getD j 0 < p := by
  by_cases hj : j < u.length
  · rw [svRow_get hj]
    split
    · have h1 := Int.mul_nonneg (show 0 ≤ p - s by omega) (hv j).1
      have h2 := (hu j).1
      exact ⟨Int.tmod_nonneg _ (by omega), Int.tmod_lt_of_pos _ (by omega)⟩
    · exact hu j
  · rw [getD_none (by rw [svRow_length]; omega)]; omega
theorem svClr_rng (hp : 2 ≤ p) {c : Nat} {u v : List Int} (hu : ∀ j, 0 ≤ u.getD j 0 ∧ u.getD j 0 < p) (hv : ∀ j, 0 ≤ v.getD j 0 ∧ v.getD j 0 < p) (j : Nat) : 0 ≤ (svClr p c u v).getD j 0 ∧ (svClr p c u v).getD j 0 < p := by
  unfold svClr; split
  · exact hu j
  · exact svRow_rng hp (hu c) hu hv j
theorem svEl_ok (hp : 2 ≤ p) (h : RkOk p w R) {d c : Nat} (hd : d < R.length) : ∀ t, t ≤ R.length → RkOk p w (svEl p R d c t)
  | 0, _ => h
  | t + 1, ht => by
    have ih := svEl_ok hp h (c := c) hd t (by omega)
    have hl := svEl_length p R d c t
    rw [svEl]
    split
    · exact ih
    · exact ih.set (by omega) (by rw [svClr_length]; exact ih.len _ (by omega)) (svClr_rng hp (fun j => ih.rng _ j (by omega)) fun j => ih.rng _ j (by omega))
theorem svPiv_ok (hP : isP p = true) (h : RkOk p w R) {d c : Nat} (hd : d < R.length) (hnz : (R.getD d []).getD c 0 ≠ 0) : RkOk p w (svPiv p R d c) := by
  have hp : 2 ≤ p := by simp [isP] at hP; omega
  have h0 := h.rng d c hd
  have hi := invV_ok hP (a := (R.getD d []).getD c 0) (by omega)
  exact h.set hd (by rw [svMul_length]; exact h.len d hd) (svMul_rng hp (by omega) fun j => h.rng d j hd)
theorem svStep_len (z : List (List Int) × List Int × Nat) (c : Nat) : (svStep p z c).1.length = z.1.length ∧ (svStep p z c).2.1.length = z.2.1.length + 1 := by
  unfold svStep
  split
  · exact ⟨by rw [svEl_length, svPiv, List.length_set, swapL_length], by simp⟩
  · exact ⟨rfl, by simp⟩
/-- What one column does. -/
theorem svStep_inv (hP : isP p = true) {z : List (List Int) × List Int × Nat} {c : Nat} (hc : c < w) (h : RkOk p w z.1) (hat : z.2.1.length = c) (hpv : Piv (Ef z.1) (atF z.2.1) z.1.length c z.2.2) :
    RkOk p w (svStep p z c).1 ∧ Piv (Ef (svStep p z c).1) (atF (svStep p z c).2.1) z.1.length (c + 1) (svStep p z c).2.2 ∧ KEq p z.1.length w (Ef z.1) (Ef (svStep p z c).1) := by
  have hp : 2 ≤ p := by simp [isP] at hP; omega
  obtain ⟨R, at_, d⟩ := z
  dsimp only at h hat hpv ⊢
  have hge := (rkF_ge (R := R) (c := c) (f := R.length - d) (i := d))
  have hd0 := hpv.p6
  have e1 : rkAt R d c = rkF R c (R.length - d) d := rfl
  rw [← e1] at hge
  have hold : ∀ x : Int, ∀ j, j < c → atF (at_ ++ [x]) j = atF at_ j := fun x j hj => by rw [atF, atF, getD_app, if_pos (by omega)]
  have hnew : ∀ x : Int, atF (at_ ++ [x]) c = x := fun x => by rw [atF, getD_app, if_neg (by omega), hat, Nat.sub_self]; rfl
  unfold svStep
  dsimp only
  by_cases hf : rkAt R d c < R.length
  · rw [if_pos hf]
    dsimp only
    have hnz : (R.getD (rkAt R d c) []).getD c 0 ≠ 0 := by rw [e1]; exact rkF_nz (by rw [← e1]; omega)
    generalize rkAt R d c = i0 at hf hnz hge
    have hd : d < R.length := by omega
    have hS := h.swap hd hf
    have hSl : (swapL R d i0 []).length = R.length := swapL_length ..
    have hSg : ∀ k, (swapL R d i0 []).getD k [] = R.getD (swI d i0 k) [] := fun k => by rw [swapL_get hd hf]; rfl
    have hsd : swI d i0 d = i0 := by unfold swI; split <;> simp_all
    have hnz' : ((swapL R d i0 []).getD d []).getD c 0 ≠ 0 := by rw [hSg, hsd]; exact hnz
    have hPo := svPiv_ok hP hS (d := d) (c := c) (by omega) hnz'
    have hPl : (svPiv p (swapL R d i0 []) d c).length = R.length := by rw [svPiv, List.length_set, hSl]
    have hPd : (svPiv p (swapL R d i0 []) d c).getD d [] = svMul p (invV p ((R.getD i0 []).getD c 0)) (R.getD i0 []) w := by
      rw [svPiv, getD_set (by omega), if_pos rfl, hSg, hsd, h.len i0 hf]
    have hPk : ∀ k, k ≠ d → (svPiv p (swapL R d i0 []) d c).getD k [] = R.getD (swI d i0 k) [] := fun k hk => by
      rw [svPiv, getD_set (by omega), if_neg hk, hSg]
    have hEo := svEl_ok hp hPo (d := d) (c := c) (by omega) R.length (by omega)
    have hEg := svEl_get p (R := svPiv p (swapL R d i0 []) d c) (d := d) (c := c) (by omega) R.length (by omega)
    have hEd := hEg d
    rw [if_neg (by omega), hPd] at hEd
    have hEk : ∀ k, k < R.length → k ≠ d → (svEl p (svPiv p (swapL R d i0 []) d c) d c R.length).getD k [] = svClr p c (R.getD (swI d i0 k) []) (svMul p (invV p ((R.getD i0 []).getD c 0)) (R.getD i0 []) w) := by
      intro k hk hkd
      rw [hEg k, if_pos ⟨hk, hkd⟩, hPk k hkd, hPd]
    have hrg := h.rng i0 c hf
    obtain ⟨hiv, hiv1, hiv2⟩ := invV_ok hP (a := (R.getD i0 []).getD c 0) (by omega)
    generalize svEl p (svPiv p (swapL R d i0 []) d c) d c R.length = Q at hEo hEd hEk
    clear hEg hPk hPd hPl hPo
    generalize hu : invV p ((R.getD i0 []).getD c 0) = u at *
    have hlen := h.len i0 hf
    have swlt : ∀ k, k < R.length → swI d i0 k < R.length := fun k hk => by unfold swI; split; omega; split; exact hf; exact hk
    have fd : ∀ l, l < w → Ef Q d l = (Ef R i0 l * u) % p := by
      intro l hl
      have h1 := (h.rng i0 l hf).1
      rw [Ef, hEd, svMul_get (by omega), if_pos hl, tmod_pos hp (Int.mul_nonneg h1 (by omega))]; rfl
    have fk : ∀ k, k < R.length → k ≠ d → ∀ l, l < w → Ef Q k l = (Ef R (swI d i0 k) l + (p - Ef R (swI d i0 k) c) * Ef Q d l) % p := by
      intro k hk hkd l hl
      have h1 := h.rng _ l (swlt k hk)
      have h2 := h.rng _ c (swlt k hk)
      have h3 : 0 ≤ Ef Q d l := by rw [fd l hl]; exact Int.emod_nonneg _ (by omega)
      have h5 : (svMul p u (R.getD i0 []) w).getD l 0 = Ef Q d l := by rw [Ef, hEd]
      rw [show Ef Q k l = (Q.getD k []).getD l 0 from rfl, hEk k hk hkd, svClr]
      by_cases e0 : (R.getD (swI d i0 k) []).getD c 0 = 0
      · rw [if_pos e0, show Ef R (swI d i0 k) c = 0 from e0, Int.sub_zero, Int.add_mul_emod_self_left]
        exact (Int.emod_eq_of_lt h1.1 h1.2).symm
      · have h4 := h.len _ (swlt k hk)
        rw [if_neg e0, svRow_get (by omega), if_pos (by omega), h5, tmod_pos hp]
        · rfl
        · have := Int.mul_nonneg (show 0 ≤ p - (R.getD (swI d i0 k) []).getD c 0 by omega) h3
          omega
    have f1 : Ef Q d c = 1 := by rw [fd c hc, Int.mul_comm]; exact hiv
    refine ⟨hEo, ?_, ?_⟩
    · refine hpv.some (hold _) (hnew _) hge.1 hf hc hp (fun k hk l hl => h.rng k l hk) f1 fd fk
    · refine KEq.elim (d := d) (i0 := i0) (u := u) (v := Ef R i0 c) (ck := fun k => p - Ef R (swI d i0 k) c) hd hf ?_ (fun l hl => ?_) fun k hk hkd l hl => ?_
      · rw [Int.mul_comm]
        exact Cg.of_emod (by rw [show u * Ef R i0 c = u * (R.getD i0 []).getD c 0 from rfl, hiv]; exact (Int.emod_eq_of_lt (by omega) (by omega)).symm)
      · rw [fd l hl, Int.mul_comm u]; exact Cg.emod
      · rw [fk k hk hkd l hl]; exact Cg.emod
  · rw [if_neg hf]
    dsimp only
    have hz : ∀ k, d ≤ k → k < R.length → Ef R k c = 0 := by
      have key : ∀ f i, i + f = R.length → rkF R c f i = R.length → ∀ k, i ≤ k → k < R.length → (R.getD k []).getD c 0 = 0 := by
        intro f
        induction f with
        | zero => intro i h1 h2 k h3 h4; omega
        | succ f ih =>
          intro i h1 h2 k h3 h4
          rw [rkF] at h2
          by_cases e0 : (R.getD i []).getD c 0 = 0
          · rw [if_pos e0] at h2
            by_cases e : k = i
            · rw [e]; exact e0
            · exact ih (i + 1) (by omega) h2 k (by omega) h4
          · rw [if_neg e0] at h2; omega
      exact fun k h1 h2 => key (R.length - d) d (by omega) (by omega) k h1 h2
    exact ⟨h, hpv.none (hold _) (hnew _) hz, KEq.rfl'⟩
theorem svL_inv (hP : isP p = true) (h : RkOk p w R) : ∀ c, c ≤ w → RkOk p w (svL p R c).1 ∧ (svL p R c).1.length = R.length ∧ (svL p R c).2.1.length = c ∧ Piv (Ef (svL p R c).1) (atF (svL p R c).2.1) R.length c (svL p R c).2.2 ∧ KEq p R.length w (Ef R) (Ef (svL p R c).1)
  | 0, _ => ⟨h, rfl, rfl, Piv.zero, KEq.rfl'⟩
  | c + 1, hc => by
    obtain ⟨h1, h2, h3, h4, h5⟩ := svL_inv hP h c (by omega)
    obtain ⟨g1, g2, g3⟩ := svStep_inv hP (z := svL p R c) (c := c) (by omega) h1 h3 (by rw [h2]; exact h4)
    obtain ⟨k1, k2⟩ := svStep_len (p := p) (svL p R c) c
    rw [h2] at g2 g3 k1
    exact ⟨g1, k1, by rw [svL, k2, h3], g2, h5.trans g3⟩
end
/-- The number of pivots among the first t. -/
def nnC (l : List Int) : Nat → Nat
  | 0 => 0
  | t + 1 => if 0 ≤ l.getD t 0 then nnC l t + 1 else nnC l t
theorem nnC_le (l : List Int) : ∀ t, nnC l t ≤ t
  | 0 => Nat.le_refl _
  | t + 1 => by have := nnC_le l t; rw [nnC]; split <;> omega
end Go.Proofs.Ytcfemdhlcjmlbaa
/- Rows written in place by a body that is handed them. -/
namespace Go.Abs
set_option linter.unusedVariables false
@[go_sem] theorem splice_rowC {ks : List Nat} {m i k : Nat} (h : i < ks.length) : splice (rowC ks m) i [.slice k 0 m 1] = rowC (ks.set i k) m := by
  simp only [splice, rowC, List.length_cons, List.length_nil]
  rw [← List.map_take, ← List.map_drop, List.set_eq_take_append_cons_drop, if_pos h]
  simp
theorem updG2 {α : Type} (f : Nat → α) (k : Nat) (a b : α) : upd (upd f k a) k b = upd f k b := by
  funext j; simp only [upd]; split <;> rfl
theorem swapL_mem {js : List Nat} {a b : Nat} (ha : a < js.length) (hb : b < js.length) {j : Nat} (hj : j ∈ swapL js a b 0) : j ∈ js := by
  rcases List.mem_or_eq_of_mem_set hj with h1 | h1
  · rcases List.mem_or_eq_of_mem_set h1 with h2 | h2
    · exact h2
    · rw [h2]; exact getD_mem hb
  · rw [h1]; exact getD_mem ha
theorem swapL_nodup {js : List Nat} (hn : js.Nodup) {a b : Nat} (ha : a < js.length) (hb : b < js.length) : (swapL js a b 0).Nodup := by
  rw [List.nodup_iff_pairwise_ne, List.pairwise_iff_getElem]
  intro i j hi hj hij e
  have hi' : i < js.length := by simpa [swapL_length] using hi
  have hj' : j < js.length := by simpa [swapL_length] using hj
  have e2 : (swapL js a b 0).getD i 0 = (swapL js a b 0).getD j 0 := by
    simp only [List.getD_eq_getElem?_getD, List.getElem?_eq_getElem hi, List.getElem?_eq_getElem hj, Option.getD_some]; exact e
  rw [swapL_get ha hb, swapL_get ha hb] at e2
  have := getD_inj hn (swap_lt ha hb hi') (swap_lt ha hb hj') e2
  split at this <;> split at this <;> (try split at this) <;> (try split at this) <;> omega
theorem swapL_map {js : List Nat} {a b : Nat} (ha : a < js.length) (hb : b < js.length) (N : Nat) : swapL (js.map (nid N)) a b 0 = (swapL js a b 0).map (nid N) := by
  have e : ∀ i, i < js.length → (js.map (nid N)).getD i 0 = nid N (js.getD i 0) := fun i hi => by simp [List.getD_eq_getElem?_getD, hi]
  rw [swapL, swapL, e b hb, e a ha, List.map_set, List.map_set]
/-- The rows, and all else as it was. -/
structure GRows (N : Nat) (G G' : Heap) (a : Nat) (ks : List Nat) (w : Nat) (R : List (List Int)) : Prop where
  hd : G' a = .live ⟨rowC ks w, true⟩
  row : ∀ i, i < R.length → G' (ks.getD i 0) = .live ⟨i64s (R.getD i []), true⟩
  out : ∀ k, k ≠ a → k ∉ ks → G' k = G k
  len : ks.length = R.length
  na : a ∉ ks
  nd : ks.Nodup
  old : ∀ k, k = a ∨ k ∈ ks → k < N ∧ G k ≠ .free
section
variable {P : Program} {N : Nat} {G G' : Heap} {a w : Nat} {ks : List Nat} {R : List (List Int)}
theorem rowsR_start (hl : ks.length = R.length) (hnd : (a :: ks).Nodup) (hr : ∀ p ∈ (a, (⟨rowC ks w, true⟩ : AObj)) :: rowsR ks R, G p.1 = .live p.2 ∧ p.1 < N) : GRows N G G a ks w R := by
  have hnd' := List.nodup_cons.1 hnd
  have h0 := hr _ List.mem_cons_self
  have hrow : ∀ i, i < R.length → G (ks.getD i 0) = .live ⟨i64s (R.getD i []), true⟩ ∧ ks.getD i 0 < N := fun i hi => hr _ (List.mem_cons_of_mem _ (rowsR_get hl i hi))
  refine ⟨h0.1, fun i hi => (hrow i hi).1, fun _ _ _ => rfl, hl, hnd'.1, hnd'.2, fun k hk => ?_⟩
  rcases hk with rfl | hk
  · exact ⟨h0.2, by rw [h0.1]; simp⟩
  · obtain ⟨i, hi, rfl⟩ := List.mem_iff_getElem.1 hk
    have e : ks[i] = ks.getD i 0 := by simp [List.getD_eq_getElem?_getD, hi]
    have := hrow i (by omega)
    rw [e]
    exact ⟨this.2, by rw [this.1]; simp⟩
theorem GRows.lt (h : GRows N G G' a ks w R) {i : Nat} (hi : i < R.length) : ks.getD i 0 < N ∧ ks.getD i 0 ≠ a := by
  have hm : ks.getD i 0 ∈ ks := getD_mem (by rw [h.len]; exact hi)
  exact ⟨(h.old _ (.inr hm)).1, fun e => h.na (e ▸ hm)⟩
theorem GRows.set (h : GRows N G G' a ks w R) {i : Nat} (hi : i < R.length) (r : List Int) : GRows N G (upd G' (ks.getD i 0) (.live ⟨i64s r, true⟩)) a ks w (R.set i r) := by
  have hl := h.len
  have hne := (h.lt hi).2
  refine ⟨by rw [upd_ne _ _ hne.symm]; exact h.hd, fun t ht => ?_, fun k h1 h2 => ?_, by simpa using h.len, h.na, h.nd, h.old⟩
  · rw [List.length_set] at ht
    rw [getD_set hi]
    by_cases e : t = i
    · subst e; rw [if_pos rfl, upd_same]
    · rw [if_neg e, upd_ne _ _ (fun e' => e (getD_inj h.nd (by omega) (by omega) e')), h.row t ht]
  · rw [upd_ne _ _ (fun e => h2 (by rw [e]; exact getD_mem (by omega)))]; exact h.out k h1 h2
theorem GRows.swap (h : GRows N G G' a ks w R) {x y : Nat} (hx : x < R.length) (hy : y < R.length) : GRows N G (upd G' a (.live ⟨rowC (swapL ks x y 0) w, true⟩)) a (swapL ks x y 0) w (swapL R x y []) := by
  have hl := h.len
  have hx' : x < ks.length := by omega
  have hy' : y < ks.length := by omega
  have mem : ∀ j, j ∈ swapL ks x y 0 → j ∈ ks := fun j hj => swapL_mem hx' hy' hj
  have mem' : ∀ j, j ∈ ks → j ∈ swapL ks x y 0 := by
    intro j hj
    obtain ⟨i, hi, rfl⟩ := List.mem_iff_getElem.1 hj
    have e : ks[i] = (swapL ks x y 0).getD (if i = y then x else if i = x then y else i) 0 := by
      rw [swapL_get hx' hy']
      rw [show (if (if i = y then x else if i = x then y else i) = y then x else if (if i = y then x else if i = x then y else i) = x then y else (if i = y then x else if i = x then y else i)) = i by
        split <;> split <;> (try split at *) <;> omega]
      simp [List.getD_eq_getElem?_getD, hi]
    rw [e]
    exact getD_mem (by rw [swapL_length]; exact swap_lt hx' hy' hi)
  refine ⟨upd_same _ _ _, fun i hi => ?_, fun k h1 h2 => ?_, by simp [swapL_length, hl], fun hm => h.na (mem _ hm), swapL_nodup h.nd hx' hy', fun k hk => h.old k (hk.imp id (mem k))⟩
  · rw [swapL_length] at hi
    rw [swapL_get hx' hy', swapL_get hx hy]
    have hlt := swap_lt hx hy hi
    rw [upd_ne _ _ (h.lt hlt).2]
    exact h.row _ hlt
  · rw [upd_ne _ _ h1]
    exact h.out k h1 fun hm => h2 (mem' k hm)
theorem rowsW_ids (hl : ks.length = R.length) : idsW (rowsW ks R) = ks := by
  induction ks generalizing R with
  | nil => cases R <;> rfl
  | cons k ks ih =>
    cases R with
    | nil => simp at hl
    | cons r R =>
      have := ih (R := R) (by simpa using hl)
      simp only [idsW] at this
      simp [rowsW, idsW, this]
theorem putsG_rowsW (hl : ks.length = R.length) (hnd : ks.Nodup) (G : Heap) : ∀ i, i < R.length → putsG G (rowsW ks R) (ks.getD i 0) = .live ⟨i64s (R.getD i []), true⟩ := by
  induction ks generalizing R G with
  | nil => intro i hi; cases R <;> simp at hl hi
  | cons k ks ih =>
    cases R with
    | nil => simp at hl
    | cons r R =>
      have hnd' := List.nodup_cons.1 hnd
      have hl' : ks.length = R.length := by simpa using hl
      intro i hi
      cases i with
      | zero =>
        show putsG (upd G k _) (rowsW ks R) k = _
        rw [putsG_out _ _ (by rw [rowsW_ids hl']; exact hnd'.1), upd_same]
        rfl
      | succ i =>
        have := ih hl' hnd'.2 (upd G k (.live ⟨i64s r, true⟩)) i (by simpa using hi)
        exact this
theorem GRows.eq (h : GRows N G G' a ks w R) : G' = putsG G ((a, .live ⟨rowC ks w, true⟩) :: rowsW ks R) := by
  have hl := h.len
  funext k
  show _ = putsG (upd G a _) (rowsW ks R) k
  by_cases e : k ∈ ks
  · obtain ⟨i, hi, rfl⟩ := List.mem_iff_getElem.1 e
    have e2 : ks[i] = ks.getD i 0 := by simp [List.getD_eq_getElem?_getD, hi]
    rw [e2, putsG_rowsW hl h.nd _ i (by omega), h.row i (by omega)]
  · rw [putsG_out _ _ (by rw [rowsW_ids hl]; exact e)]
    by_cases e2 : k = a
    · subst e2; rw [upd_same]; exact h.hd
    · rw [upd_ne _ _ e2]; exact h.out k e2 e
theorem GRows.ok (h : GRows N G G' a ks w R) : OldOk G N ((a, .live ⟨rowC ks w, true⟩) :: rowsW ks R) := by
  have hl := h.len
  intro q hq
  rcases List.mem_cons.1 hq with rfl | hq
  · obtain ⟨h1, h2⟩ := h.old a (.inl rfl)
    refine ⟨h1, h2, by simp, fun o ho c hc i hi => ?_⟩
    cases ho
    simp only [rowC, List.mem_map] at hc
    obtain ⟨y, hy, rfl⟩ := hc
    simp only [Cell.ids, List.mem_singleton] at hi
    subst hi
    exact h.old _ (.inr hy)
  · obtain ⟨i, h1, rfl⟩ := rowsW_mem hl q hq
    obtain ⟨h3, h4⟩ := h.old (ks.getD i 0) (.inr (getD_mem (by omega)))
    refine ⟨h3, h4, by simp, fun o ho c hc j hj => ?_⟩
    cases ho
    rw [flat64 _ c hc] at hj
    cases hj
theorem rd_rowsG {L : List Slot} {q c : Nat} {own : Bool} (h : GRows N G G' a ks w R) (hq : gd L q = .live ⟨[.int .i64 (c : Nat)], own⟩) :
    ∀ p ∈ (a, (⟨rowC ks w, true⟩ : AObj)) :: (nid N q, ⟨[.int .i64 (c : Nat)], own⟩) :: rowsR ks R, (⟨G', N, L⟩ : AHeap).get p.1 = .live p.2 := by
  intro p hp
  rcases List.mem_cons.1 hp with rfl | hp
  · exact (get_old (h.old a (.inl rfl)).1).trans h.hd
  · rcases List.mem_cons.1 hp with rfl | hp
    · dsimp only; rw [get_new]; exact hq
    · obtain ⟨i, hi, rfl⟩ := rowsR_mem h.len p hp
      exact (get_old (h.lt hi).1).trans (h.row i hi)
end
end Go.Abs
/- Ranks: helpers. -/
namespace Go.Proofs.Ytcfemdhlcjmlbaa
open Go Go.Abs
set_option maxRecDepth 100000

/- loop.example/g01262/impl.inverse -/
def c_impl_inverse : SFn := ⟨(.seq (.ops [⟨some 4, .assign (.const (.int .i64 0)), none⟩])
 (.seq (.ops [⟨some 5, .assign (.const (.int .i64 1)), none⟩])
  (.block 0 (.loop (.seq (.block 1 (.seq (.ops [⟨some 8, .move (.tmp 5), none⟩, ⟨some 9, .move (.tmp 1), none⟩, ⟨some 10, .binOp .mul 2 (.tmp 8) (.tmp 9) 2, none⟩, ⟨some 11, .move (.tmp 0), none⟩, ⟨some 12, .binOp .rem 2 (.tmp 10) (.tmp 11) 2, none⟩, ⟨some 13, .binOp .eql 2 (.tmp 12) (.const (.int .i64 1)) 2, none⟩])
       (.cond (.tmp 13) (.seq (.ops [⟨some 14, .move (.tmp 5), none⟩, ⟨some 4, .assign (.tmp 14), none⟩])
         .ret)
        .skip)))
     (.ops [⟨some 6, .move (.tmp 5), none⟩, ⟨some 7, .binOp .add 2 (.tmp 6) (.const (.int .i64 1)) 2, none⟩, ⟨some 5, .assign (.tmp 7), none⟩])))))), [.tmp 4], 15⟩
theorem f_impl_inverse : isFn Go.Proofs.Try.prog 271 = some c_impl_inverse := by kernel_rfl


/- loop.example/g01262/spec.l01Mod -/
def c_spec_l01Mod : SFn := ⟨(.seq (.ops [⟨some 4, .assign (.const (.int .i64 0)), none⟩])
 (.seq (.ops [⟨some 5, .move (.tmp 1), none⟩, ⟨some 6, .move (.tmp 0), none⟩, ⟨some 7, .binOp .rem 2 (.tmp 5) (.tmp 6) 2, none⟩, ⟨some 8, .move (.tmp 0), none⟩, ⟨some 9, .binOp .add 2 (.tmp 7) (.tmp 8) 2, none⟩, ⟨some 10, .move (.tmp 0), none⟩, ⟨some 11, .binOp .rem 2 (.tmp 9) (.tmp 10) 2, none⟩, ⟨some 4, .assign (.tmp 11), none⟩])
  .ret)), [.tmp 4], 12⟩
theorem f_spec_l01Mod : isFn Go.Proofs.Try.prog 130 = some c_spec_l01Mod := by kernel_rfl


/- loop.example/g01262/spec.l01Inverse -/
def c_spec_l01Inverse : SFn := ⟨(.seq (.ops [⟨some 4, .assign (.const (.int .i64 0)), none⟩])
 (.seq (.seq (.ops [⟨some 5, .assign (.const (.int .i64 1)), none⟩])
   (.block 0 (.loop (.seq (.seq (.ops [⟨some 6, .move (.tmp 5), none⟩, ⟨some 7, .move (.tmp 0), none⟩, ⟨some 8, .binOp .lss 2 (.tmp 6) (.tmp 7) 2, none⟩])
       (.cond (.tmp 8) .skip
        (.exit 0)))
      (.seq (.block 1 (.seq (.ops [⟨some 11, .move (.tmp 5), none⟩, ⟨some 12, .move (.tmp 0), none⟩, ⟨some 13, .move (.tmp 1), none⟩, ⟨some 14, .call ⟨.value (.func 130), #[.tmp 12, .tmp 13], #[2, 2]⟩, none⟩, ⟨some 15, .binOp .mul 2 (.tmp 11) (.tmp 14) 2, none⟩, ⟨some 16, .move (.tmp 0), none⟩, ⟨some 17, .binOp .rem 2 (.tmp 15) (.tmp 16) 2, none⟩, ⟨some 18, .binOp .eql 2 (.tmp 17) (.const (.int .i64 1)) 2, none⟩])
         (.cond (.tmp 18) (.seq (.ops [⟨some 19, .move (.tmp 5), none⟩, ⟨some 4, .assign (.tmp 19), none⟩])
           .ret)
          .skip)))
       (.ops [⟨some 9, .move (.tmp 5), none⟩, ⟨some 10, .binOp .add 2 (.tmp 9) (.const (.int .i64 1)) 2, none⟩, ⟨some 5, .assign (.tmp 10), none⟩]))))))
  (.seq (.ops [⟨some 4, .assign (.const (.int .i64 0)), none⟩])
   .ret))), [.tmp 4], 20⟩
theorem f_spec_l01Inverse : isFn Go.Proofs.Try.prog 273 = some c_spec_l01Inverse := by kernel_rfl


set_option maxRecDepth 100000
set_option maxHeartbeats 16000000
set_option linter.unusedVariables false
attribute [-simp] List.getD_eq_getElem?_getD
attribute [-go_sem] confV

theorem inv_cases {p a : Int} (hp : isP p = true) (ha : 0 < a ∧ a < p) : p = 2 ∧ a = 1 ∨ p = 3 ∧ a = 1 ∨ p = 3 ∧ a = 2 ∨ p = 5 ∧ a = 1 ∨ p = 5 ∧ a = 2 ∨ p = 5 ∧ a = 3 ∨ p = 5 ∧ a = 4 := by
  simp [isP] at hp; omega
theorem inverse_spec {p a : Int} (hp : isP p = true) (ha : 0 < a ∧ a < p) : FSpec Try.prog 271 [.c (.int .i64 (p)), .c (.int .i64 (a))] (.c (.int .i64 (invV p a))) [] [] := by
  refine FSpec.of f_impl_inverse (Nat.le_of_ble_eq_true rfl) fun G N hN hr hw => ?_
  simp only [c_impl_inverse, List.length_cons, List.length_nil, List.replicate, List.cons_append, List.nil_append]
  rcases inv_cases hp ha with ⟨rfl, rfl⟩ | ⟨rfl, rfl⟩ | ⟨rfl, rfl⟩ | ⟨rfl, rfl⟩ | ⟨rfl, rfl⟩ | ⟨rfl, rfl⟩ | ⟨rfl, rfl⟩
  all_goals repeat' (first | (with_reducible first | refine W1 ?_ | refine W2 ?_ | refine W3 ?_ | refine W4 mixed ?_ | refine W5 ?_ | refine W6 ?_ | refine W7 ?_ | refine W8 ?_ | refine W9 ?_ | refine V1 ?_ | refine V2 ?_ | refine V3 ?_ | refine V4 (by decide) ?_ | refine V5 ?_ | refine V6 ?_ | refine V7 ?_ | refine V8 ?_ | refine V9 ?_ | refine U1 ?_ | refine U2 ?_ | refine U3 ?_) | (with_reducible refine U4 ?_ ?_; next => first | omega | exact ⟨trivial, by omega⟩) | ((with_reducible refine U5 _ rfl (fun hq => ?_) (fun hq => ?_)) <;> try (first | (cases hq; done) | exact absurd hq (by decide))) | ((with_reducible refine U6 (fun hq => ?_) (fun hq => ?_)) <;> try (first | (cases hq; done) | exact absurd hq (by decide))) | with_reducible refine swp_rounds 7 ?_ | simp (maxSteps := 2000000) (discharger := first | omega | (simp (discharger := omega) only [Z1, Z2, Z3, Z4, Z5, Z6, Z7] <;> fail) | (simp (discharger := omega) only [Z3, Z8, Z2, Z4, Z1, Z7, Z5, Z6, Z9, Y1, Y2]; omega)) only [go_sem])
  all_goals exact ret_eq hN rfl rfl (congrArg (Cell.int IntKind.i64) (by decide))
theorem l01ModR_spec {p a : Int} (hp : 2 ≤ p ∧ p ≤ 5) (ha : -1000000 ≤ a ∧ a ≤ 1000000) : FSpec Try.prog 130 [.c (.int .i64 (p)), .c (.int .i64 (a))] (.c (.int .i64 ((a.tmod p + p).tmod p))) [] [] := by
  refine FSpec.of f_spec_l01Mod (Nat.le_of_ble_eq_true rfl) fun G N hN hr hw => ?_
  simp only [c_spec_l01Mod, List.length_cons, List.length_nil, List.replicate, List.cons_append, List.nil_append]
  have h1 := Int.tmod_lt_of_pos a (show 0 < p by omega)
  have h2 := Int.lt_tmod_of_pos a (show 0 < p by omega)
  repeat' (first | (with_reducible first | refine W1 ?_ | refine W2 ?_ | refine W3 ?_ | refine W4 mixed ?_ | refine W5 ?_ | refine W6 ?_ | refine W7 ?_ | refine W8 ?_ | refine W9 ?_ | refine V1 ?_ | refine V2 ?_ | refine V3 ?_ | refine V4 (by decide) ?_ | refine V5 ?_ | refine V6 ?_ | refine V7 ?_ | refine V8 ?_ | refine V9 ?_ | refine U1 ?_ | refine U2 ?_ | refine U3 ?_) | (with_reducible refine U4 ?_ ?_; next => first | omega | exact ⟨trivial, by omega⟩) | simp (maxSteps := 2000000) (discharger := first | omega | (simp (discharger := omega) only [Z1, Z2, Z3, Z4, Z5, Z6, Z7] <;> fail) | (simp (discharger := omega) only [Z3, Z8, Z2, Z4, Z1, Z7, Z5, Z6, Z9, Y1, Y2]; omega)) only [go_sem])
  exact ret_eq hN rfl rfl rfl
theorem l01InverseP_spec {p a : Int} (hp : isP p = true) (ha : 0 < a ∧ a < p) : FSpec Try.prog 273 [.c (.int .i64 (p)), .c (.int .i64 (a))] (.c (.int .i64 (invV p a))) [] [] := by
  refine FSpec.of f_spec_l01Inverse (Nat.le_of_ble_eq_true rfl) fun G N hN hr hw => ?_
  simp only [c_spec_l01Inverse, List.length_cons, List.length_nil, List.replicate, List.cons_append, List.nil_append]
  rcases inv_cases hp ha with ⟨rfl, rfl⟩ | ⟨rfl, rfl⟩ | ⟨rfl, rfl⟩ | ⟨rfl, rfl⟩ | ⟨rfl, rfl⟩ | ⟨rfl, rfl⟩ | ⟨rfl, rfl⟩
  all_goals repeat' (first | (with_reducible first | refine W1 ?_ | refine W2 ?_ | refine W3 ?_ | refine W4 mixed ?_ | refine W5 ?_ | refine W6 ?_ | refine W7 ?_ | refine W8 ?_ | refine W9 ?_ | refine V1 ?_ | refine V2 ?_ | refine V3 ?_ | refine V4 (by decide) ?_ | refine V5 ?_ | refine V6 ?_ | refine V7 ?_ | refine V8 ?_ | refine V9 ?_ | refine U1 ?_ | refine U2 ?_ | refine U3 ?_) | (with_reducible refine U4 ?_ ?_; next => first | omega | exact ⟨trivial, by omega⟩) | ((with_reducible refine U5 _ rfl (fun hq => ?_) (fun hq => ?_)) <;> try (first | (cases hq; done) | exact absurd hq (by decide))) | ((with_reducible refine U6 (fun hq => ?_) (fun hq => ?_)) <;> try (first | (cases hq; done) | exact absurd hq (by decide))) | with_reducible refine swp_rounds 7 ?_ | with_reducible refine call_pure (l01ModR_spec (by decide) (by decide)) ?_ | simp (maxSteps := 2000000) (discharger := first | omega | (simp (discharger := omega) only [Z1, Z2, Z3, Z4, Z5, Z6, Z7] <;> fail) | (simp (discharger := omega) only [Z3, Z8, Z2, Z4, Z1, Z7, Z5, Z6, Z9, Y1, Y2]; omega)) only [go_sem])
  all_goals exact ret_eq hN rfl rfl (congrArg (Cell.int IntKind.i64) (by decide))
end Go.Proofs.Ytcfemdhlcjmlbaa
/- Elimination by the first columns, ours. -/
namespace Go.Proofs.Ytcfemdhlcjmlbaa
open Go Go.Abs
set_option maxRecDepth 100000

/- loop.example/g01262/impl.solved$1 -/
def c_impl_solved_1 : SFn := ⟨(.seq (.ops [⟨some 3, .assign (.const (.bool false)), none⟩])
 (.seq (.ops [⟨some 4, .move (.tmp 0), none⟩, ⟨some 5, .load 3 (.tmp 1), none⟩, ⟨some 6, .indexAddr 36 (.tmp 4) (.tmp 5), none⟩, ⟨some 7, .load 2 (.tmp 6), none⟩, ⟨some 8, .binOp .neq 2 (.tmp 7) (.const (.int .i64 0)) 2, none⟩, ⟨some 3, .assign (.tmp 8), none⟩])
  .ret)), [.tmp 3], 9⟩
theorem f_impl_solved_1 : isFn Go.Proofs.Try.prog 270 = some c_impl_solved_1 := by kernel_rfl


/- slices.IndexFunc(()()int64,()int64) -/
def c_slices_IndexFunc_SS_int64_int64 : SFn := ⟨(.seq (.ops [⟨some 4, .assign (.const (.int .i64 0)), none⟩])
 (.seq (.seq (.ops [⟨some 6, .move (.tmp 0), none⟩, ⟨some 7, .call ⟨.builtin .len, #[.tmp 6], #[56]⟩, none⟩, ⟨some 8, .move (.const (.int .i64 0)), none⟩])
   (.block 0 (.loop (.seq (.ops [⟨some 9, .binOp .lss 3 (.tmp 8) (.tmp 7) 3, none⟩])
      (.seq (.cond (.tmp 9) .skip
        (.exit 0))
       (.seq (.block 1 (.seq (.ops [⟨some 10, .move (.tmp 8), none⟩, ⟨some 5, .assign (.tmp 10), none⟩])
          (.seq (.ops [⟨some 11, .move (.tmp 1), none⟩, ⟨some 12, .move (.tmp 0), none⟩, ⟨some 13, .move (.tmp 5), none⟩, ⟨some 14, .indexAddr 56 (.tmp 12) (.tmp 13), none⟩, ⟨some 15, .load 36 (.tmp 14), none⟩, ⟨some 16, .call ⟨.value (.tmp 11), #[.tmp 15], #[36]⟩, none⟩])
           (.cond (.tmp 16) (.seq (.ops [⟨some 17, .move (.tmp 5), none⟩, ⟨some 4, .assign (.tmp 17), none⟩])
             .ret)
            .skip))))
        (.ops [⟨some 18, .binOp .add 3 (.tmp 8) (.const (.int .i64 1)) 3, none⟩, ⟨some 8, .move (.tmp 18), none⟩])))))))
  (.seq (.ops [⟨some 4, .assign (.const (.int .i64 (-1))), none⟩])
   .ret))), [.tmp 4], 19⟩
theorem f_slices_IndexFunc_SS_int64_int64 : isFn Go.Proofs.Try.prog 269 = some c_slices_IndexFunc_SS_int64_int64 := by kernel_rfl


/- loop.example/g01262/impl.solved -/
def c_impl_solved : SFn := ⟨(.seq (.ops [⟨some 6, .assign (.const (.slice none 0 0)), none⟩])
 (.seq (.ops [⟨some 16, .buildSlice 198 0 #[], none⟩, ⟨some 7, .assign (.tmp 16), none⟩, ⟨some 8, .assign (.const (.int .i64 0)), none⟩])
  (.seq (.seq (.ops [⟨some 17, .move (.tmp 2), none⟩, ⟨some 18, .move (.const (.int .i64 0)), none⟩])
    (.block 0 (.loop (.seq (.ops [⟨some 19, .binOp .lss 3 (.tmp 18) (.tmp 17) 3, none⟩])
       (.seq (.cond (.tmp 19) .skip
         (.exit 0))
        (.seq (.block 1 (.seq (.ops [⟨some 20, .move (.tmp 18), none⟩, ⟨some 9, .alloc 3, none⟩, ⟨none, .store 3 (.tmp 9) (.tmp 20), none⟩])
           (.seq (.ops [⟨some 21, .move (.tmp 1), none⟩, ⟨some 22, .move (.tmp 8), none⟩, ⟨some 23, .slice 56 (.tmp 21) (some (.tmp 22)) none none, none⟩, ⟨some 24, .makeFunc (.func 270) #[] #[.tmp 9], none⟩, ⟨some 25, .call ⟨.value (.func 269), #[.tmp 23, .tmp 24], #[56, 248]⟩, none⟩, ⟨some 10, .assign (.tmp 25), none⟩])
            (.seq (.seq (.ops [⟨some 26, .move (.tmp 10), none⟩, ⟨some 27, .binOp .lss 3 (.tmp 26) (.const (.int .i64 0)) 3, none⟩])
              (.cond (.tmp 27) (.seq (.ops [⟨some 28, .move (.tmp 7), none⟩, ⟨some 29, .buildSlice 198 1 #[(0, .const (.int .i64 (-1)))], none⟩, ⟨some 30, .call ⟨.builtin .append, #[.tmp 28, .tmp 29], #[198, 198]⟩, none⟩, ⟨some 7, .assign (.tmp 30), none⟩])
                (.exit 1))
               .skip))
             (.seq (.opsD [⟨some 31, .move (.tmp 1), none⟩, ⟨some 32, .move (.tmp 8), none⟩, ⟨some 33, .move (.tmp 1), none⟩, ⟨some 34, .move (.tmp 8), none⟩, ⟨some 35, .move (.tmp 10), none⟩, ⟨some 36, .binOp .add 3 (.tmp 34) (.tmp 35) 3, none⟩, ⟨some 37, .move (.tmp 1), none⟩, ⟨some 38, .move (.tmp 8), none⟩, ⟨some 39, .move (.tmp 10), none⟩, ⟨some 40, .binOp .add 3 (.tmp 38) (.tmp 39) 3, none⟩, ⟨some 41, .indexAddr 56 (.tmp 37) (.tmp 40), none⟩, ⟨some 42, .load 36 (.tmp 41), none⟩, ⟨some 43, .move (.tmp 1), none⟩, ⟨some 44, .move (.tmp 8), none⟩, ⟨some 45, .indexAddr 56 (.tmp 43) (.tmp 44), none⟩, ⟨some 46, .load 36 (.tmp 45), none⟩, ⟨some 47, .indexAddr 56 (.tmp 31) (.tmp 32), none⟩, ⟨none, .store 36 (.tmp 47) (.tmp 42), none⟩, ⟨some 48, .indexAddr 56 (.tmp 33) (.tmp 36), none⟩, ⟨none, .store 36 (.tmp 48) (.tmp 46), none⟩] [(11, 15)])
              (.seq (.opsD [⟨some 49, .move (.tmp 0), none⟩, ⟨some 50, .move (.tmp 1), none⟩, ⟨some 51, .move (.tmp 8), none⟩, ⟨some 52, .indexAddr 56 (.tmp 50) (.tmp 51), none⟩, ⟨some 53, .load 36 (.tmp 52), none⟩, ⟨some 54, .load 3 (.tmp 9), none⟩, ⟨some 55, .indexAddr 36 (.tmp 53) (.tmp 54), none⟩, ⟨some 56, .load 2 (.tmp 55), none⟩, ⟨some 57, .call ⟨.value (.func 271), #[.tmp 49, .tmp 56], #[2, 2]⟩, none⟩, ⟨some 11, .assign (.tmp 57), none⟩] [(4, 5)])
               (.seq (.seq (.ops [⟨some 58, .move (.tmp 1), none⟩, ⟨some 59, .move (.tmp 8), none⟩, ⟨some 60, .indexAddr 56 (.tmp 58) (.tmp 59), none⟩, ⟨some 61, .load 36 (.tmp 60), none⟩, ⟨some 62, .call ⟨.builtin .len, #[.tmp 61], #[36]⟩, none⟩, ⟨some 63, .move (.const (.int .i64 0)), none⟩])
                 (.block 2 (.loop (.seq (.ops [⟨some 64, .binOp .lss 3 (.tmp 63) (.tmp 62) 3, none⟩])
                    (.seq (.cond (.tmp 64) .skip
                      (.exit 2))
                     (.seq (.block 3 (.seq (.ops [⟨some 65, .move (.tmp 63), none⟩, ⟨some 12, .assign (.tmp 65), none⟩])
                        (.opsD [⟨some 66, .move (.tmp 1), none⟩, ⟨some 67, .move (.tmp 8), none⟩, ⟨some 68, .indexAddr 56 (.tmp 66) (.tmp 67), none⟩, ⟨some 69, .load 36 (.tmp 68), none⟩, ⟨some 70, .move (.tmp 12), none⟩, ⟨some 71, .move (.tmp 1), none⟩, ⟨some 72, .move (.tmp 8), none⟩, ⟨some 73, .indexAddr 56 (.tmp 71) (.tmp 72), none⟩, ⟨some 74, .load 36 (.tmp 73), none⟩, ⟨some 75, .move (.tmp 12), none⟩, ⟨some 76, .indexAddr 36 (.tmp 74) (.tmp 75), none⟩, ⟨some 77, .load 2 (.tmp 76), none⟩, ⟨some 78, .move (.tmp 11), none⟩, ⟨some 79, .binOp .mul 2 (.tmp 77) (.tmp 78) 2, none⟩, ⟨some 80, .move (.tmp 0), none⟩, ⟨some 81, .binOp .rem 2 (.tmp 79) (.tmp 80) 2, none⟩, ⟨some 82, .indexAddr 36 (.tmp 69) (.tmp 70), none⟩, ⟨none, .store 2 (.tmp 82) (.tmp 81), none⟩] [(3, 8), (3, 11)])))
                      (.ops [⟨some 83, .binOp .add 3 (.tmp 63) (.const (.int .i64 1)) 3, none⟩, ⟨some 63, .move (.tmp 83), none⟩])))))))
                (.seq (.seq (.ops [⟨some 84, .move (.tmp 1), none⟩, ⟨some 85, .call ⟨.builtin .len, #[.tmp 84], #[56]⟩, none⟩, ⟨some 86, .move (.const (.int .i64 0)), none⟩])
                  (.block 4 (.loop (.seq (.ops [⟨some 87, .binOp .lss 3 (.tmp 86) (.tmp 85) 3, none⟩])
                     (.seq (.cond (.tmp 87) .skip
                       (.exit 4))
                      (.seq (.block 5 (.seq (.ops [⟨some 88, .move (.tmp 86), none⟩, ⟨some 13, .assign (.tmp 88), none⟩])
                         (.seq (.opsD [⟨some 89, .move (.tmp 1), none⟩, ⟨some 90, .move (.tmp 13), none⟩, ⟨some 91, .indexAddr 56 (.tmp 89) (.tmp 90), none⟩, ⟨some 92, .load 36 (.tmp 91), none⟩, ⟨some 93, .load 3 (.tmp 9), none⟩, ⟨some 94, .indexAddr 36 (.tmp 92) (.tmp 93), none⟩, ⟨some 95, .load 2 (.tmp 94), none⟩, ⟨some 14, .assign (.tmp 95), none⟩] [(3, 4)])
                          (.seq (.seq (.ops [⟨some 96, .move (.tmp 13), none⟩, ⟨some 97, .move (.tmp 8), none⟩, ⟨some 98, .binOp .eql 3 (.tmp 96) (.tmp 97) 3, none⟩, ⟨some 99, .move (.tmp 98), none⟩, ⟨some 100, .move (.tmp 14), some (99, false)⟩, ⟨some 101, .binOp .eql 2 (.tmp 100) (.const (.int .i64 0)) 2, some (99, false)⟩, ⟨some 102, .pick (.tmp 99) (.const (.bool true)) (.tmp 101), none⟩])
                            (.cond (.tmp 102) (.exit 5)
                             .skip))
                           (.seq (.ops [⟨some 103, .move (.tmp 1), none⟩, ⟨some 104, .move (.tmp 13), none⟩, ⟨some 105, .indexAddr 56 (.tmp 103) (.tmp 104), none⟩, ⟨some 106, .load 36 (.tmp 105), none⟩, ⟨some 107, .call ⟨.builtin .len, #[.tmp 106], #[36]⟩, none⟩, ⟨some 108, .move (.const (.int .i64 0)), none⟩])
                            (.block 6 (.loop (.seq (.ops [⟨some 109, .binOp .lss 3 (.tmp 108) (.tmp 107) 3, none⟩])
                               (.seq (.cond (.tmp 109) .skip
                                 (.exit 6))
                                (.seq (.block 7 (.seq (.ops [⟨some 110, .move (.tmp 108), none⟩, ⟨some 15, .assign (.tmp 110), none⟩])
                                   (.opsD [⟨some 111, .move (.tmp 1), none⟩, ⟨some 112, .move (.tmp 13), none⟩, ⟨some 113, .indexAddr 56 (.tmp 111) (.tmp 112), none⟩, ⟨some 114, .load 36 (.tmp 113), none⟩, ⟨some 115, .move (.tmp 15), none⟩, ⟨some 116, .move (.tmp 1), none⟩, ⟨some 117, .move (.tmp 13), none⟩, ⟨some 118, .indexAddr 56 (.tmp 116) (.tmp 117), none⟩, ⟨some 119, .load 36 (.tmp 118), none⟩, ⟨some 120, .move (.tmp 15), none⟩, ⟨some 121, .indexAddr 36 (.tmp 119) (.tmp 120), none⟩, ⟨some 122, .load 2 (.tmp 121), none⟩, ⟨some 123, .move (.tmp 0), none⟩, ⟨some 124, .move (.tmp 14), none⟩, ⟨some 125, .binOp .sub 2 (.tmp 123) (.tmp 124) 2, none⟩, ⟨some 126, .move (.tmp 1), none⟩, ⟨some 127, .move (.tmp 8), none⟩, ⟨some 128, .indexAddr 56 (.tmp 126) (.tmp 127), none⟩, ⟨some 129, .load 36 (.tmp 128), none⟩, ⟨some 130, .move (.tmp 15), none⟩, ⟨some 131, .indexAddr 36 (.tmp 129) (.tmp 130), none⟩, ⟨some 132, .load 2 (.tmp 131), none⟩, ⟨some 133, .binOp .mul 2 (.tmp 125) (.tmp 132) 2, none⟩, ⟨some 134, .binOp .add 2 (.tmp 122) (.tmp 133) 2, none⟩, ⟨some 135, .move (.tmp 0), none⟩, ⟨some 136, .binOp .rem 2 (.tmp 134) (.tmp 135) 2, none⟩, ⟨some 137, .indexAddr 36 (.tmp 114) (.tmp 115), none⟩, ⟨none, .store 2 (.tmp 137) (.tmp 136), none⟩] [(3, 8), (3, 11), (3, 18), (3, 21), (8, 18), (8, 21), (11, 18), (11, 21)])))
                                 (.ops [⟨some 138, .binOp .add 3 (.tmp 108) (.const (.int .i64 1)) 3, none⟩, ⟨some 108, .move (.tmp 138), none⟩])))))))))))
                       (.ops [⟨some 139, .binOp .add 3 (.tmp 86) (.const (.int .i64 1)) 3, none⟩, ⟨some 86, .move (.tmp 139), none⟩])))))))
                 (.seq (.ops [⟨some 140, .move (.tmp 7), none⟩, ⟨some 141, .move (.tmp 8), none⟩, ⟨some 142, .buildSlice 198 1 #[(0, .tmp 141)], none⟩, ⟨some 143, .call ⟨.builtin .append, #[.tmp 140, .tmp 142], #[198, 198]⟩, none⟩, ⟨some 7, .assign (.tmp 143), none⟩])
                  (.ops [⟨some 144, .move (.tmp 8), none⟩, ⟨some 145, .binOp .add 3 (.tmp 144) (.const (.int .i64 1)) 3, none⟩, ⟨some 8, .assign (.tmp 145), none⟩]))))))))))
         (.ops [⟨some 146, .binOp .add 3 (.tmp 18) (.const (.int .i64 1)) 3, none⟩, ⟨some 18, .move (.tmp 146), none⟩])))))))
   (.seq (.ops [⟨some 147, .move (.tmp 7), none⟩, ⟨some 6, .assign (.tmp 147), none⟩])
    .ret)))), [.tmp 6], 148⟩
theorem f_impl_solved : isFn Go.Proofs.Try.prog 210 = some c_impl_solved := by kernel_rfl


set_option maxRecDepth 100000
set_option maxHeartbeats 16000000
set_option linter.unusedVariables false
attribute [-simp] List.getD_eq_getElem?_getD
attribute [-go_sem] confV

theorem solvedAt_spec {q c w k : Nat} {l : List Int} {own own2 : Bool} (hc : c < w) (hl : l.length = w) : FSpec Try.prog 270 [.c (.slice k 0 w 1), .c (.ptr q 0)] (.c (.bool (l.getD c 0 != 0))) [(q, ⟨[.int .i64 (c : Nat)], own⟩), (k, ⟨i64s l, own2⟩)] [] := by
  refine FSpec.of f_impl_solved_1 (Nat.le_of_ble_eq_true rfl) fun G N hN hr hw => ?_
  simp only [c_impl_solved_1, List.length_cons, List.length_nil, List.replicate, List.cons_append, List.nil_append]
  have ⟨g2, g3⟩ := hr _ (List.mem_cons_self ..)
  have ⟨g4, g5⟩ := hr _ (List.mem_cons_of_mem _ (List.mem_cons_self ..))
  dsimp only at g2 g3 g4 g5
  repeat' (first | (with_reducible first | refine W1 ?_ | refine W2 ?_ | refine W3 ?_ | refine W4 mixed ?_ | refine W5 ?_ | refine W6 ?_ | refine W7 ?_ | refine W8 ?_ | refine W9 ?_ | refine V1 ?_ | refine V2 ?_ | refine V3 ?_ | refine V4 (by decide) ?_ | refine V5 ?_ | refine V6 ?_ | refine V7 ?_ | refine V8 ?_ | refine V9 ?_ | refine U1 ?_ | refine U2 ?_ | refine U3 ?_) | (with_reducible refine U4 ?_ ?_; next => first | omega | exact ⟨trivial, by omega⟩) | simp (maxSteps := 2000000) (discharger := first | omega | (simp (discharger := omega) only [Z1, Z2, Z3, Z4, Z5, Z6, Z7] <;> fail) | (simp (discharger := omega) only [Z3, Z8, Z2, Z4, Z1, Z7, Z5, Z6, Z9, Y1, Y2]; omega)) only [go_sem, g2, g4])
  exact ret_eq hN rfl rfl rfl
theorem indexSolved_spec {a q c w r n : Nat} {R : List (List Int)} {ks : List Nat} {own own2 : Bool} (hc : c < w) (hk : ks.length = n) (hR : R.length = n) (hr1 : r ≤ n) (hn : n ≤ 1048576) (hw : ∀ i, i < n → (R.getD i []).length = w) :
    FSpec Try.prog 269 [.c (.slice a r (n - r) 1), .c (.fn 270 [(q, 0)])] (.c (.int .i64 (if rkF R c (n - r) r < n then ((rkF R c (n - r) r : Nat) : Int) - (r : Nat) else -1))) ((a, ⟨rowC ks w, own⟩) :: (q, ⟨[.int .i64 (c : Nat)], own2⟩) :: rowsR ks R) [] := by
  have hw' := hw
  refine FSpec.of f_slices_IndexFunc_SS_int64_int64 (Nat.le_of_ble_eq_true rfl) fun G N hN hr hw => ?_
  simp only [c_slices_IndexFunc_SS_int64_int64, List.length_cons, List.length_nil, List.replicate, List.cons_append, List.nil_append]
  have ⟨g2, g3⟩ := hr _ (List.mem_cons_self ..)
  have ⟨g4, g5⟩ := hr _ (List.mem_cons_of_mem _ (List.mem_cons_self ..))
  dsimp only at g2 g3 g4 g5
  repeat' (first | (with_reducible first | refine W1 ?_ | refine W2 ?_ | refine W3 ?_ | refine W4 mixed ?_ | refine W5 ?_ | refine W6 ?_ | refine W7 ?_ | refine W8 ?_ | refine W9 ?_ | refine V1 ?_ | refine V2 ?_ | refine V3 ?_ | refine V4 (by decide) ?_ | refine V5 ?_ | refine V6 ?_ | refine V7 ?_ | refine V8 ?_ | refine V9 ?_ | refine U1 ?_ | refine U2 ?_ | refine U3 ?_) | (with_reducible refine U4 ?_ ?_; next => first | omega | exact ⟨trivial, by omega⟩) | simp (maxSteps := 2000000) (discharger := first | omega | (simp (discharger := omega) only [Z1, Z2, Z3, Z4, Z5, Z6, Z7] <;> fail) | (simp (discharger := omega) only [Z3, Z8, Z2, Z4, Z1, Z7, Z5, Z6, Z9, Y1, Y2]; omega)) only [go_sem])
  refine swp_for (fun t : Nat => ([.c (.slice a r (n - r) 1), .c (.fn 270 [(q, 0)])] ++ List.replicate 5 .any ++ [.c (.int .i64 ((n - r : Nat) : Int)), .c (.int .i64 ((t : Nat) : Int))] ++ List.replicate 10 .any)) (fun t => ⟨G, N, []⟩) (fun t => n - r - t) (fun t => t ≤ n - r ∧ rkF R c (n - r) r = rkF R c (n - r - t) (r + t)) 0 ⟨Nat.zero_le _, rfl⟩ rfl (by repeat' (first | exact trivial | exact .inl rfl | exact .inr rfl | refine ⟨?_, ?_⟩)) fun t ht => ?_
  simp only [List.replicate, List.cons_append, List.nil_append]
  repeat' (first | (with_reducible first | refine W1 ?_ | refine W2 ?_ | refine W3 ?_ | refine W4 mixed ?_ | refine W5 ?_ | refine W6 ?_ | refine W7 ?_ | refine W8 ?_ | refine W9 ?_ | refine V1 ?_ | refine V2 ?_ | refine V3 ?_ | refine V4 (by decide) ?_ | refine V5 ?_ | refine V6 ?_ | refine V7 ?_ | refine V8 ?_ | refine V9 ?_ | refine U1 ?_ | refine U2 ?_ | refine U3 ?_) | (with_reducible refine U4 ?_ ?_; next => first | omega | exact ⟨trivial, by omega⟩) | simp (maxSteps := 2000000) (discharger := first | omega | (simp (discharger := omega) only [Z1, Z2, Z3, Z4, Z5, Z6, Z7] <;> fail) | (simp (discharger := omega) only [Z3, Z8, Z2, Z4, Z1, Z7, Z5, Z6, Z9, Y1, Y2]; omega)) only [go_sem])
  refine swp_cond _ rfl (fun h => ?_) (fun h => ?_)
  · have hlt : t < n - r := by simpa using h
    have ⟨g6, g7⟩ := hr _ (List.mem_cons_of_mem _ (List.mem_cons_of_mem _ (rowsR_get (hk.trans hR.symm) (r + t) (by omega))))
    dsimp only at g6 g7
    repeat' (first | (with_reducible first | refine W1 ?_ | refine W2 ?_ | refine W3 ?_ | refine W4 mixed ?_ | refine W5 ?_ | refine W6 ?_ | refine W7 ?_ | refine W8 ?_ | refine W9 ?_ | refine V1 ?_ | refine V2 ?_ | refine V3 ?_ | refine V4 (by decide) ?_ | refine V5 ?_ | refine V6 ?_ | refine V7 ?_ | refine V8 ?_ | refine V9 ?_ | refine U1 ?_ | refine U2 ?_ | refine U3 ?_) | (with_reducible refine U4 ?_ ?_; next => first | omega | exact ⟨trivial, by omega⟩) | simp (maxSteps := 2000000) (discharger := first | omega | (simp (discharger := omega) only [Z1, Z2, Z3, Z4, Z5, Z6, Z7] <;> fail) | (simp (discharger := omega) only [Z3, Z8, Z2, Z4, Z1, Z7, Z5, Z6, Z9, Y1, Y2]; omega)) only [go_sem, g2])
    refine call_ro (solvedAt_spec (own := own2) (own2 := true) hc (hw' (r + t) (by omega))) (by
      simp only [List.mem_cons, List.not_mem_nil, or_false]
      rintro p (rfl | rfl)
      · exact (get_old g5).trans g4
      · exact (get_old g7).trans g6) ?_
    have h2 := ht.2
    cases hb : ((R.getD (r + t) []).getD c 0 != 0) with
    | true =>
      have hnz : ¬ (R.getD (r + t) []).getD c 0 = 0 := by simpa using hb
      rw [rkF_yes hnz (by omega)] at h2
      repeat' (first | (with_reducible first | refine W1 ?_ | refine W2 ?_ | refine W3 ?_ | refine W4 mixed ?_ | refine W5 ?_ | refine W6 ?_ | refine W7 ?_ | refine W8 ?_ | refine W9 ?_ | refine V1 ?_ | refine V2 ?_ | refine V3 ?_ | refine V4 (by decide) ?_ | refine V5 ?_ | refine V6 ?_ | refine V7 ?_ | refine V8 ?_ | refine V9 ?_ | refine U1 ?_ | refine U2 ?_ | refine U3 ?_) | (with_reducible refine U4 ?_ ?_; next => first | omega | exact ⟨trivial, by omega⟩) | ((with_reducible refine U5 _ rfl (fun hq => ?_) (fun hq => ?_)) <;> try (first | (cases hq; done) | exact absurd hq (by decide))) | ((with_reducible refine U6 (fun hq => ?_) (fun hq => ?_)) <;> try (first | (cases hq; done) | exact absurd hq (by decide))) | simp (maxSteps := 2000000) (discharger := first | omega | (simp (discharger := omega) only [Z1, Z2, Z3, Z4, Z5, Z6, Z7] <;> fail) | (simp (discharger := omega) only [Z3, Z8, Z2, Z4, Z1, Z7, Z5, Z6, Z9, Y1, Y2]; omega)) only [go_sem])
      refine ret_eq hN rfl rfl (congrArg (Cell.int IntKind.i64) ?_)
      rw [h2, if_pos (by omega)]
      omega
    | false =>
      have hnz : (R.getD (r + t) []).getD c 0 = 0 := by simpa using hb
      rw [show n - r - t = (n - r - (t + 1)) + 1 from by omega, rkF_no hnz] at h2
      repeat' (first | (with_reducible first | refine W1 ?_ | refine W2 ?_ | refine W3 ?_ | refine W4 mixed ?_ | refine W5 ?_ | refine W6 ?_ | refine W7 ?_ | refine W8 ?_ | refine W9 ?_ | refine V1 ?_ | refine V2 ?_ | refine V3 ?_ | refine V4 (by decide) ?_ | refine V5 ?_ | refine V6 ?_ | refine V7 ?_ | refine V8 ?_ | refine V9 ?_ | refine U1 ?_ | refine U2 ?_ | refine U3 ?_) | (with_reducible refine U4 ?_ ?_; next => first | omega | exact ⟨trivial, by omega⟩) | ((with_reducible refine U5 _ rfl (fun hq => ?_) (fun hq => ?_)) <;> try (first | (cases hq; done) | exact absurd hq (by decide))) | ((with_reducible refine U6 (fun hq => ?_) (fun hq => ?_)) <;> try (first | (cases hq; done) | exact absurd hq (by decide))) | simp (maxSteps := 2000000) (discharger := first | omega | (simp (discharger := omega) only [Z1, Z2, Z3, Z4, Z5, Z6, Z7] <;> fail) | (simp (discharger := omega) only [Z3, Z8, Z2, Z4, Z1, Z7, Z5, Z6, Z9, Y1, Y2]; omega)) only [go_sem])
      exact forK_same (t + 1) (by omega) ⟨by omega, h2⟩ rfl (by repeat' (first | exact trivial | exact .inl rfl | exact .inr rfl | refine ⟨?_, ?_⟩))
  · have hlt : t = n - r := by have : ¬ t < n - r := by simpa using h
                               omega
    subst hlt
    repeat' (first | (with_reducible first | refine W1 ?_ | refine W2 ?_ | refine W3 ?_ | refine W4 mixed ?_ | refine W5 ?_ | refine W6 ?_ | refine W7 ?_ | refine W8 ?_ | refine W9 ?_ | refine V1 ?_ | refine V2 ?_ | refine V3 ?_ | refine V4 (by decide) ?_ | refine V5 ?_ | refine V6 ?_ | refine V7 ?_ | refine V8 ?_ | refine V9 ?_ | refine U1 ?_ | refine U2 ?_ | refine U3 ?_) | (with_reducible refine U4 ?_ ?_; next => first | omega | exact ⟨trivial, by omega⟩) | simp (maxSteps := 2000000) (discharger := first | omega | (simp (discharger := omega) only [Z1, Z2, Z3, Z4, Z5, Z6, Z7] <;> fail) | (simp (discharger := omega) only [Z3, Z8, Z2, Z4, Z1, Z7, Z5, Z6, Z9, Y1, Y2]; omega)) only [go_sem])
    refine ret_eq hN rfl rfl ?_
    have h2 := ht.2
    rw [Nat.sub_self, rkF] at h2
    rw [h2, if_neg (by omega)]

theorem set_selfY {T : List (List Int)} {i : Nat} (h : i < T.length) : T.set i (T.getD i []) = T := by
  rw [List.getD_eq_getElem?_getD, List.getElem?_eq_getElem h]
  exact List.set_getElem_self h
/-- The rows' places after the first columns. -/
def svK (p : Int) (R : List (List Int)) (ks : List Nat) : Nat → List Nat
  | 0 => ks
  | c + 1 => if rkAt (svL p R c).1 (svL p R c).2.2 c < (svL p R c).1.length then swapL (svK p R ks c) (svL p R c).2.2 (rkAt (svL p R c).1 (svL p R c).2.2 c) 0 else svK p R ks c
/-- What holds before each column. -/
structure SvI (N : Nat) (G : Heap) (p : Int) (R : List (List Int)) (ks : List Nat) (a w r c : Nat) (G' : Heap) (L : List Slot) (mm : Nat) : Prop where
  w0 : c ≤ r
  w1 : mm < L.length
  w2 : gd L mm = .live ⟨i64s (svL p R c).2.1, true⟩
  w3 : GRows N G G' a (svK p R ks c) w (svL p R c).1
theorem at_snoc {l : List Int} {x : Int} : i64s l ++ [.int .i64 x] = i64s (l ++ [x]) := by simp [i64s]
theorem solved_spec {p : Int} {a n w r : Nat} {R : List (List Int)} {ks : List Nat} (hp : isP p = true) (hk : ks.length = n) (hR : R.length = n) (hn : n ≤ 1000) (hn0 : 0 < n) (hrw : r ≤ w) (hww : w ≤ 1000) (ho : RkOk p w R) (hnd : (a :: ks).Nodup) (x : Nat) (hx : ∀ q ∈ ((a, (⟨rowC ks w, true⟩ : AObj)) :: rowsR ks R), q.1 ≠ x) :
    FSpec Try.prog 210 [.c (.int .i64 (p)), .c (.slice a 0 n 1), .c (.int .i64 ((r : Nat) : Int))] (.c (.slice x 0 r 1)) ((a, ⟨rowC ks w, true⟩) :: rowsR ks R) ((a, .live ⟨rowC (svK p R ks r) w, true⟩) :: rowsW (svK p R ks r) (svL p R r).1 ++ [(x, .live ⟨i64s (svL p R r).2.1, true⟩)]) := by
  have hp2 : 2 ≤ p ∧ p ≤ 5 := by simp [isP] at hp; omega
  refine FSpec.of f_impl_solved (Nat.le_of_ble_eq_true rfl) fun G N hN hr hw => ?_
  simp only [c_impl_solved, List.length_cons, List.length_nil, List.replicate, List.cons_append, List.nil_append]
  have hG0 := rowsR_start (hk.trans hR.symm) hnd hr
  have hfree : G x = .free := new_free (hw _ (List.mem_append_right _ (List.mem_singleton.2 rfl))).2 hx
  have haN := (hG0.old a (.inl rfl)).1
  have hSI := fun c (hc : c ≤ w) => svL_inv hp ho c hc
  repeat' (first | (with_reducible first | refine W1 ?_ | refine W2 ?_ | refine W3 ?_ | refine W4 mixed ?_ | refine W5 ?_ | refine W6 ?_ | refine W7 ?_ | refine W8 ?_ | refine W9 ?_ | refine V1 ?_ | refine V2 ?_ | refine V3 ?_ | refine V4 (by decide) ?_ | refine V5 ?_ | refine V6 ?_ | refine V7 ?_ | refine V8 ?_ | refine V9 ?_ | refine U1 ?_ | refine U2 ?_ | refine U3 ?_) | (with_reducible refine U4 ?_ ?_; next => first | omega | exact ⟨trivial, by omega⟩) | simp (maxSteps := 2000000) (discharger := first | omega | (simp (discharger := omega) only [Z1, Z2, Z3, Z4, Z5, Z6, Z7] <;> fail) | (simp (discharger := omega) only [Z3, Z8, Z2, Z4, Z1, Z7, Z5, Z6, Z9, Y1, Y2]; omega)) only [go_sem])
  refine swp_for (fun (z : Nat × Heap × List Slot × Nat) => ([.c (.int .i64 (p)), .c (.slice a 0 n 1)] ++ List.replicate 5 .any ++ [.c (.slice (nid N z.2.2.2) 0 z.1 1), .c (.int .i64 (((svL p R z.1).2.2 : Nat) : Int))] ++ List.replicate 8 .any ++ [.c (.int .i64 ((r : Nat) : Int)), .c (.int .i64 ((z.1 : Nat) : Int))] ++ List.replicate 129 .any)) (fun z => ⟨z.2.1, N, z.2.2.1⟩) (fun z => r - z.1) (fun z => SvI N G p R ks a w r z.1 z.2.1 z.2.2.1 z.2.2.2) (0, G, _, 0) ⟨Nat.zero_le _, by simp, rfl, hG0⟩ rfl (by repeat' (first | exact trivial | exact .inl rfl | exact .inr rfl | refine ⟨?_, ?_⟩)) ?_
  rintro ⟨c, G', L, mm⟩ ⟨hcr, f1, f2, hG⟩
  dsimp only at hcr f1 f2 hG
  obtain ⟨o1, o2, o3, o4, -⟩ := hSI c (by omega)
  have hS1 : svL p R (c + 1) = svStep p (svL p R c) c := rfl
  have hK1 : svK p R ks (c + 1) = if rkAt (svL p R c).1 (svL p R c).2.2 c < (svL p R c).1.length then swapL (svK p R ks c) (svL p R c).2.2 (rkAt (svL p R c).1 (svL p R c).2.2 c) 0 else svK p R ks c := rfl
  have hend : c = r → svL p R r = svL p R c ∧ svK p R ks r = svK p R ks c := fun e => by rw [e]; exact ⟨rfl, rfl⟩
  obtain ⟨z, hz⟩ : ∃ z, z = svL p R c := ⟨_, rfl⟩
  rw [← hz] at f2 hG o1 o2 o3 o4 hS1 hK1 hend ⊢
  obtain ⟨S, at_, d⟩ := z
  generalize svK p R ks c = jq at hG hK1 hend
  dsimp only at o1 o2 o3 o4 hS1 hK1 hG f2 ⊢
  have hd0 := o4.p6
  have hjl := hG.len
  simp only [List.replicate, List.cons_append, List.nil_append]
  repeat' (first | (with_reducible first | refine W1 ?_ | refine W2 ?_ | refine W3 ?_ | refine W4 mixed ?_ | refine W5 ?_ | refine W6 ?_ | refine W7 ?_ | refine W8 ?_ | refine W9 ?_ | refine V1 ?_ | refine V2 ?_ | refine V3 ?_ | refine V4 (by decide) ?_ | refine V5 ?_ | refine V6 ?_ | refine V7 ?_ | refine V8 ?_ | refine V9 ?_ | refine U1 ?_ | refine U2 ?_ | refine U3 ?_) | (with_reducible refine U4 ?_ ?_; next => first | omega | exact ⟨trivial, by omega⟩) | simp (maxSteps := 2000000) (discharger := first | omega | (simp (discharger := omega) only [Z1, Z2, Z3, Z4, Z5, Z6, Z7] <;> fail) | (simp (discharger := omega) only [Z3, Z8, Z2, Z4, Z1, Z7, Z5, Z6, Z9, Y1, Y2]; omega)) only [go_sem])
  refine swp_cond _ rfl (fun h => ?_) (fun h => ?_)
  · have hlt : c < r := by simpa using h
    clear h
    have g2 := hG.hd
    have hnn : jq.length = n := by omega
    repeat' (first | (with_reducible first | refine W1 ?_ | refine W2 ?_ | refine W3 ?_ | refine W4 mixed ?_ | refine W5 ?_ | refine W6 ?_ | refine W7 ?_ | refine W8 ?_ | refine W9 ?_ | refine V1 ?_ | refine V2 ?_ | refine V3 ?_ | refine V4 (by decide) ?_ | refine V5 ?_ | refine V6 ?_ | refine V7 ?_ | refine V8 ?_ | refine V9 ?_ | refine U1 ?_ | refine U2 ?_ | refine U3 ?_) | (with_reducible refine U4 ?_ ?_; next => first | omega | exact ⟨trivial, by omega⟩) | simp (maxSteps := 2000000) (discharger := first | omega | (simp (discharger := omega) only [Z1, Z2, Z3, Z4, Z5, Z6, Z7] <;> fail) | (simp (discharger := omega) only [Z3, Z8, Z2, Z4, Z1, Z7, Z5, Z6, Z9, Y1, Y2]; omega)) only [go_sem, ptrs])
    refine call_ro (indexSolved_spec (c := c) (q := nid N L.length) (a := a) (ks := jq) (R := S) (w := w) (n := n) (r := d) (own := true) (own2 := true) (by omega) hnn (by omega) (by omega) (by omega) (fun i hi => o1.len i (by omega))) (rd_rowsG (L := setAt L L.length (.live ⟨[.int .i64 (c : Nat)], true⟩)) hG gd_setAt_same) ?_
    have hz1 : rkAt S d c = rkF S c (n - d) d := by rw [rkAt, show S.length = n from by omega]
    rw [← hz1]
    have hge := (rkF_ge (R := S) (c := c) (f := n - d) (i := d)).1
    rw [← hz1] at hge
    by_cases hfd : rkAt S d c < n
    · rw [if_pos hfd]
      have hst : svStep p (S, at_, d) c = (svEl p (svPiv p (swapL S d (rkAt S d c) []) d c) d c n, at_ ++ [((d : Nat) : Int)], d + 1) := by
        rw [svStep, if_pos (by dsimp only; omega)]
        dsimp only
        rw [show S.length = n from by omega]
      have hKs : svK p R ks (c + 1) = swapL jq d (rkAt S d c) 0 := by rw [hK1, if_pos (by omega)]
      have hnz : (S.getD (rkAt S d c) []).getD c 0 ≠ 0 := by
        rw [hz1]; exact rkF_nz (by rw [← hz1]; omega)
      generalize rkAt S d c = at' at hfd hge hst hnz hKs
      have y1 : decide (((at' : Nat) : Int) - (d : Nat) < 0) = false := decide_eq_false (by omega)
      have e1 : ((d : Nat) : Int) + (((at' : Nat) : Int) - (d : Nat)) = (at' : Nat) := by omega
      repeat' (first | (with_reducible first | refine W1 ?_ | refine W2 ?_ | refine W3 ?_ | refine W4 mixed ?_ | refine W5 ?_ | refine W6 ?_ | refine W7 ?_ | refine W8 ?_ | refine W9 ?_ | refine V1 ?_ | refine V2 ?_ | refine V3 ?_ | refine V4 (by decide) ?_ | refine V5 ?_ | refine V6 ?_ | refine V7 ?_ | refine V8 ?_ | refine V9 ?_ | refine U1 ?_ | refine U2 ?_ | refine U3 ?_) | (with_reducible refine U4 ?_ ?_; next => first | omega | exact ⟨trivial, by omega⟩) | ((with_reducible refine U5 _ rfl (fun hq => ?_) (fun hq => ?_)) <;> try (first | (cases hq; done) | exact absurd hq (by decide))) | ((with_reducible refine U6 (fun hq => ?_) (fun hq => ?_)) <;> try (first | (cases hq; done) | exact absurd hq (by decide))) | simp (maxSteps := 2000000) (discharger := first | omega | (simp (discharger := omega) only [Z1, Z2, Z3, Z4, Z5, Z6, Z7] <;> fail) | (simp (discharger := omega) only [Z3, Z8, Z2, Z4, Z1, Z7, Z5, Z6, Z9, Y1, Y2]; omega)) only [go_sem, y1, e1, g2, updG2, upd_same])
      refine must_confF [] rfl (by simp [confV]) ?_
      have hsw := hG.swap (x := d) (y := at') (by omega) (by omega)
      have hjs : (jq.set d (jq.getD at' 0)).set at' (jq.getD d 0) = swapL jq d at' 0 := rfl
      rw [hjs]
      have hso := o1.swap (a := d) (b := at') (by omega) (by omega)
      have hsl : (swapL S d at' []).length = n := by rw [swapL_length]; omega
      have hsr : (swapL S d at' []).getD d [] = S.getD at' [] := by
        rw [swapL_get (by omega) (by omega)]
        by_cases e : d = at'
        · rw [if_pos e, ← e]
        · rw [if_neg e, if_pos rfl]
      rw [← hsr] at hnz
      have hjl2 : (swapL jq d at' 0).length = n := by rw [swapL_length]; omega
      generalize swapL S d at' [] = S2 at hst hsw hso hsl hsr hnz
      generalize swapL jq d at' 0 = j2 at hsw hKs hjl2 ⊢
      generalize upd G' a (.live ⟨rowC j2 w, true⟩) = G2 at hsw ⊢
      have q2 := hsw.hd
      have qr := hsw.row d (by omega)
      have hpl := hso.len d (by omega)
      have hpg := hso.rng d c (by omega)
      obtain ⟨hdN, hda⟩ := hsw.lt (i := d) (by omega)
      have hin := inverse_spec (a := (S2.getD d []).getD c 0) hp (by omega)
      have hinv := (invV_ok hp (a := (S2.getD d []).getD c 0) (by omega)).2
      have hPv : svPiv p S2 d c = S2.set d (svMul p (invV p ((S2.getD d []).getD c 0)) (S2.getD d []) w) := by rw [svPiv, hpl]
      have hPo := svPiv_ok hp hso (d := d) (c := c) (by omega) hnz
      rw [hPv] at hst hPo
      generalize invV p ((S2.getD d []).getD c 0) = inv at hst hin hinv hPo
      have hself : S2.set d (S2.getD d []) = S2 := set_selfY (by omega)
      have hrg := fun j => hso.rng d j (by omega)
      have hset : ∀ row, (S2.set d row).getD d [] = row := fun row => by rw [getD_set (by omega), if_pos rfl]
      have hsetl : ∀ row, (S2.set d row).length = n := fun row => by rw [List.length_set, hsl]
      repeat' (first | (with_reducible first | refine W1 ?_ | refine W2 ?_ | refine W3 ?_ | refine W4 mixed ?_ | refine W5 ?_ | refine W6 ?_ | refine W7 ?_ | refine W8 ?_ | refine W9 ?_ | refine V1 ?_ | refine V2 ?_ | refine V3 ?_ | refine V4 (by decide) ?_ | refine V5 ?_ | refine V6 ?_ | refine V7 ?_ | refine V8 ?_ | refine V9 ?_ | refine U1 ?_ | refine U2 ?_ | refine U3 ?_) | (with_reducible refine U4 ?_ ?_; next => first | omega | exact ⟨trivial, by omega⟩) | simp (maxSteps := 2000000) (discharger := first | omega | (simp (discharger := omega) only [Z1, Z2, Z3, Z4, Z5, Z6, Z7] <;> fail) | (simp (discharger := omega) only [Z3, Z8, Z2, Z4, Z1, Z7, Z5, Z6, Z9, Y1, Y2]; omega)) only [go_sem, q2, qr, gd_setAt_same])
      refine call_pure hin ?_
      repeat' (first | (with_reducible first | refine W1 ?_ | refine W2 ?_ | refine W3 ?_ | refine W4 mixed ?_ | refine W5 ?_ | refine W6 ?_ | refine W7 ?_ | refine W8 ?_ | refine W9 ?_ | refine V1 ?_ | refine V2 ?_ | refine V3 ?_ | refine V4 (by decide) ?_ | refine V5 ?_ | refine V6 ?_ | refine V7 ?_ | refine V8 ?_ | refine V9 ?_ | refine U1 ?_ | refine U2 ?_ | refine U3 ?_) | (with_reducible refine U4 ?_ ?_; next => first | omega | exact ⟨trivial, by omega⟩) | simp (maxSteps := 2000000) (discharger := first | omega | (simp (discharger := omega) only [Z1, Z2, Z3, Z4, Z5, Z6, Z7] <;> fail) | (simp (discharger := omega) only [Z3, Z8, Z2, Z4, Z1, Z7, Z5, Z6, Z9, Y1, Y2]; omega)) only [go_sem, q2, qr, hpl])
      refine must_confF [] rfl (by simp [confV]) ?_
      repeat' (first | (with_reducible first | refine W1 ?_ | refine W2 ?_ | refine W3 ?_ | refine W4 mixed ?_ | refine W5 ?_ | refine W6 ?_ | refine W7 ?_ | refine W8 ?_ | refine W9 ?_ | refine V1 ?_ | refine V2 ?_ | refine V3 ?_ | refine V4 (by decide) ?_ | refine V5 ?_ | refine V6 ?_ | refine V7 ?_ | refine V8 ?_ | refine V9 ?_ | refine U1 ?_ | refine U2 ?_ | refine U3 ?_) | (with_reducible refine U4 ?_ ?_; next => first | omega | exact ⟨trivial, by omega⟩) | simp (maxSteps := 2000000) (discharger := first | omega | (simp (discharger := omega) only [Z1, Z2, Z3, Z4, Z5, Z6, Z7] <;> fail) | (simp (discharger := omega) only [Z3, Z8, Z2, Z4, Z1, Z7, Z5, Z6, Z9, Y1, Y2]; omega)) only [go_sem, q2, qr, hpl])
      have hL1 : gd (setAt L L.length (.live ⟨[.int .i64 (c : Nat)], true⟩)) L.length = .live ⟨[.int .i64 (c : Nat)], true⟩ := gd_setAt_same
      have hL2 : gd (setAt L L.length (.live ⟨[.int .i64 (c : Nat)], true⟩)) mm = .live ⟨i64s at_, true⟩ := by rw [gd_setAt_ne' (by omega)]; exact f2
      have hL3 : (setAt L L.length (.live ⟨[.int .i64 (c : Nat)], true⟩)).length = L.length + 1 := by simp only [setAt_length]; omega
      generalize setAt L L.length (.live ⟨[.int .i64 (c : Nat)], true⟩) = L1 at hL1 hL2 hL3 ⊢
      generalize hv : S2.getD d [] = v at hpl hpg hnz hself hrg hPo hst
      clear q2 qr hS1
      refine swp_for (fun (z : Nat × Heap) => ([.c (.int .i64 (p)), .c (.slice a 0 n 1)] ++ List.replicate 5 .any ++ [.c (.slice (nid N mm) 0 c 1), .c (.int .i64 ((d : Nat) : Int)), .c (.ptr (nid N L.length) 0), .any, .c (.int .i64 (inv))] ++ List.replicate 5 .any ++ [.c (.int .i64 ((r : Nat) : Int)), .c (.int .i64 ((c : Nat) : Int))] ++ List.replicate 43 .any ++ [.c (.int .i64 ((w : Nat) : Int)), .c (.int .i64 ((z.1 : Nat) : Int))] ++ List.replicate 84 .any)) (fun z => ⟨z.2, N, L1⟩) (fun z => w - z.1) (fun z => z.1 ≤ w ∧ GRows N G z.2 a j2 w (S2.set d (svMul p inv v z.1))) (0, G2) ⟨Nat.zero_le _, by rw [svMul_zero, hself]; exact hsw⟩ rfl (by repeat' (first | exact trivial | exact .inl rfl | exact .inr rfl | refine ⟨?_, ?_⟩)) ?_
      rintro ⟨t, Gx⟩ ⟨ht, hM⟩
      dsimp only at ht hM
      have m1 := hM.hd
      have m2 := hM.row d (by rw [hsetl]; omega)
      rw [hset] at m2
      have hml := svMul_length p inv v t
      simp only [List.replicate, List.cons_append, List.nil_append]
      repeat' (first | (with_reducible first | refine W1 ?_ | refine W2 ?_ | refine W3 ?_ | refine W4 mixed ?_ | refine W5 ?_ | refine W6 ?_ | refine W7 ?_ | refine W8 ?_ | refine W9 ?_ | refine V1 ?_ | refine V2 ?_ | refine V3 ?_ | refine V4 (by decide) ?_ | refine V5 ?_ | refine V6 ?_ | refine V7 ?_ | refine V8 ?_ | refine V9 ?_ | refine U1 ?_ | refine U2 ?_ | refine U3 ?_) | (with_reducible refine U4 ?_ ?_; next => first | omega | exact ⟨trivial, by omega⟩) | simp (maxSteps := 2000000) (discharger := first | omega | (simp (discharger := omega) only [Z1, Z2, Z3, Z4, Z5, Z6, Z7] <;> fail) | (simp (discharger := omega) only [Z3, Z8, Z2, Z4, Z1, Z7, Z5, Z6, Z9, Y1, Y2]; omega)) only [go_sem])
      refine swp_cond _ rfl (fun h => ?_) (fun h => ?_)
      · have hlt2 : t < w := by simpa using h
        clear h
        have hget : (svMul p inv v t).getD t 0 = v.getD t 0 := by rw [svMul_get (by omega), if_neg (by omega)]
        have hnx := svMul_succ p inv v (t := t) (by omega)
        have hst3 := hM.set (i := d) (by rw [hsetl]; omega) (svMul p inv v (t + 1))
        rw [List.set_set] at hst3
        generalize svMul p inv v t = ue at m2 hget hml hnx
        have k2 := hrg t
        have k3 : 0 ≤ v.getD t 0 * inv ∧ v.getD t 0 * inv ≤ 16 := by
          have a1 : 0 ≤ v.getD t 0 * inv := Int.mul_nonneg k2.1 (by omega)
          have a2 : v.getD t 0 * inv ≤ 4 * 4 := Int.mul_le_mul (by omega) (by omega) (by omega) (by omega)
          omega
        repeat' (first | (with_reducible first | refine W1 ?_ | refine W2 ?_ | refine W3 ?_ | refine W4 mixed ?_ | refine W5 ?_ | refine W6 ?_ | refine W7 ?_ | refine W8 ?_ | refine W9 ?_ | refine V1 ?_ | refine V2 ?_ | refine V3 ?_ | refine V4 (by decide) ?_ | refine V5 ?_ | refine V6 ?_ | refine V7 ?_ | refine V8 ?_ | refine V9 ?_ | refine U1 ?_ | refine U2 ?_ | refine U3 ?_) | (with_reducible refine U4 ?_ ?_; next => first | omega | exact ⟨trivial, by omega⟩) | simp (maxSteps := 2000000) (discharger := first | omega | (simp (discharger := omega) only [Z1, Z2, Z3, Z4, Z5, Z6, Z7] <;> fail) | (simp (discharger := omega) only [Z3, Z8, Z2, Z4, Z1, Z7, Z5, Z6, Z9, Y1, Y2]; omega)) only [go_sem, m1, m2, hget])
        refine must_confF [] rfl (by simp [confV]) ?_
        repeat' (first | (with_reducible first | refine W1 ?_ | refine W2 ?_ | refine W3 ?_ | refine W4 mixed ?_ | refine W5 ?_ | refine W6 ?_ | refine W7 ?_ | refine W8 ?_ | refine W9 ?_ | refine V1 ?_ | refine V2 ?_ | refine V3 ?_ | refine V4 (by decide) ?_ | refine V5 ?_ | refine V6 ?_ | refine V7 ?_ | refine V8 ?_ | refine V9 ?_ | refine U1 ?_ | refine U2 ?_ | refine U3 ?_) | (with_reducible refine U4 ?_ ?_; next => first | omega | exact ⟨trivial, by omega⟩) | simp (maxSteps := 2000000) (discharger := first | omega | (simp (discharger := omega) only [Z1, Z2, Z3, Z4, Z5, Z6, Z7] <;> fail) | (simp (discharger := omega) only [Z3, Z8, Z2, Z4, Z1, Z7, Z5, Z6, Z9, Y1, Y2]; omega)) only [go_sem])
        refine forK_same (t + 1, _) (by dsimp only; omega) ⟨by dsimp only; omega, ?_⟩ rfl (by repeat' (first | exact trivial | exact .inl rfl | exact .inr rfl | refine ⟨?_, ?_⟩))
        dsimp only
        rw [← hnx]
        exact hst3
      · have hlt2 : w = t := by have : ¬ t < w := by simpa using h
                                omega
        subst hlt2
        clear h m2 hml
        repeat' (first | (with_reducible first | refine W1 ?_ | refine W2 ?_ | refine W3 ?_ | refine W4 mixed ?_ | refine W5 ?_ | refine W6 ?_ | refine W7 ?_ | refine W8 ?_ | refine W9 ?_ | refine V1 ?_ | refine V2 ?_ | refine V3 ?_ | refine V4 (by decide) ?_ | refine V5 ?_ | refine V6 ?_ | refine V7 ?_ | refine V8 ?_ | refine V9 ?_ | refine U1 ?_ | refine U2 ?_ | refine U3 ?_) | (with_reducible refine U4 ?_ ?_; next => first | omega | exact ⟨trivial, by omega⟩) | simp (maxSteps := 2000000) (discharger := first | omega | (simp (discharger := omega) only [Z1, Z2, Z3, Z4, Z5, Z6, Z7] <;> fail) | (simp (discharger := omega) only [Z3, Z8, Z2, Z4, Z1, Z7, Z5, Z6, Z9, Y1, Y2]; omega)) only [go_sem, m1])
        have hRl : (S2.set d (svMul p inv v w)).length = n := hsetl _
        generalize S2.set d (svMul p inv v w) = T0 at hM hPo hst hRl
        clear hsw hself hset hsetl hso hsl
        refine swp_for (fun (z : Nat × Heap) => ([.c (.int .i64 (p)), .c (.slice a 0 n 1)] ++ List.replicate 5 .any ++ [.c (.slice (nid N mm) 0 c 1), .c (.int .i64 ((d : Nat) : Int)), .c (.ptr (nid N L.length) 0)] ++ List.replicate 7 .any ++ [.c (.int .i64 ((r : Nat) : Int)), .c (.int .i64 ((c : Nat) : Int))] ++ List.replicate 66 .any ++ [.c (.int .i64 ((n : Nat) : Int)), .c (.int .i64 ((z.1 : Nat) : Int))] ++ List.replicate 61 .any)) (fun z => ⟨z.2, N, L1⟩) (fun z => n - z.1) (fun z => z.1 ≤ n ∧ GRows N G z.2 a j2 w (svEl p T0 d c z.1)) (0, Gx) ⟨Nat.zero_le _, hM⟩ rfl (by repeat' (first | exact trivial | exact .inl rfl | exact .inr rfl | refine ⟨?_, ?_⟩)) ?_
        rintro ⟨i, Gy⟩ ⟨hi, hY⟩
        dsimp only at hi hY
        have y1 := hY.hd
        have hTl := svEl_length p T0 d c i
        rw [hRl] at hTl
        have hTo := svEl_ok hp2.1 hPo (d := d) (c := c) (by omega) i (by omega)
        have hTs : svEl p T0 d c (i + 1) = if i = d then svEl p T0 d c i else (svEl p T0 d c i).set i (svClr p c ((svEl p T0 d c i).getD i []) ((svEl p T0 d c i).getD d [])) := rfl
        have hEnd : i = n → svL p R (c + 1) = (svEl p T0 d c i, at_ ++ [((d : Nat) : Int)], d + 1) := fun e => by
          show svStep p (svL p R c) c = _
          rw [← hz, hst, e]
        generalize svEl p T0 d c i = T at hY hTl hTo hTs hEnd
        simp only [List.replicate, List.cons_append, List.nil_append]
        repeat' (first | (with_reducible first | refine W1 ?_ | refine W2 ?_ | refine W3 ?_ | refine W4 mixed ?_ | refine W5 ?_ | refine W6 ?_ | refine W7 ?_ | refine W8 ?_ | refine W9 ?_ | refine V1 ?_ | refine V2 ?_ | refine V3 ?_ | refine V4 (by decide) ?_ | refine V5 ?_ | refine V6 ?_ | refine V7 ?_ | refine V8 ?_ | refine V9 ?_ | refine U1 ?_ | refine U2 ?_ | refine U3 ?_) | (with_reducible refine U4 ?_ ?_; next => first | omega | exact ⟨trivial, by omega⟩) | simp (maxSteps := 2000000) (discharger := first | omega | (simp (discharger := omega) only [Z1, Z2, Z3, Z4, Z5, Z6, Z7] <;> fail) | (simp (discharger := omega) only [Z3, Z8, Z2, Z4, Z1, Z7, Z5, Z6, Z9, Y1, Y2]; omega)) only [go_sem])
        refine swp_cond _ rfl (fun h => ?_) (fun h => ?_)
        · have hlt3 : i < n := by simpa using h
          clear h
          have pu := hY.row i (by omega)
          have lu := hTo.len i (by omega)
          have gu := fun j => hTo.rng i j (by omega)
          obtain ⟨hiN, hia⟩ := hY.lt (i := i) (by omega)
          repeat' (first | (with_reducible first | refine W1 ?_ | refine W2 ?_ | refine W3 ?_ | refine W4 mixed ?_ | refine W5 ?_ | refine W6 ?_ | refine W7 ?_ | refine W8 ?_ | refine W9 ?_ | refine V1 ?_ | refine V2 ?_ | refine V3 ?_ | refine V4 (by decide) ?_ | refine V5 ?_ | refine V6 ?_ | refine V7 ?_ | refine V8 ?_ | refine V9 ?_ | refine U1 ?_ | refine U2 ?_ | refine U3 ?_) | (with_reducible refine U4 ?_ ?_; next => first | omega | exact ⟨trivial, by omega⟩) | simp (maxSteps := 2000000) (discharger := first | omega | (simp (discharger := omega) only [Z1, Z2, Z3, Z4, Z5, Z6, Z7] <;> fail) | (simp (discharger := omega) only [Z3, Z8, Z2, Z4, Z1, Z7, Z5, Z6, Z9, Y1, Y2]; omega)) only [go_sem, y1, pu, hL1, lu])
          refine must_confF [] rfl (by simp [confV]) ?_
          by_cases hid : i = d
          · have x1 : ((((i : Nat) : Int)) == ((d : Nat) : Int)) = true := by simp [hid]
            repeat' (first | (with_reducible first | refine W1 ?_ | refine W2 ?_ | refine W3 ?_ | refine W4 mixed ?_ | refine W5 ?_ | refine W6 ?_ | refine W7 ?_ | refine W8 ?_ | refine W9 ?_ | refine V1 ?_ | refine V2 ?_ | refine V3 ?_ | refine V4 (by decide) ?_ | refine V5 ?_ | refine V6 ?_ | refine V7 ?_ | refine V8 ?_ | refine V9 ?_ | refine U1 ?_ | refine U2 ?_ | refine U3 ?_) | (with_reducible refine U4 ?_ ?_; next => first | omega | exact ⟨trivial, by omega⟩) | ((with_reducible refine U5 _ rfl (fun hq => ?_) (fun hq => ?_)) <;> try (first | (cases hq; done) | exact absurd hq (by decide))) | ((with_reducible refine U6 (fun hq => ?_) (fun hq => ?_)) <;> try (first | (cases hq; done) | exact absurd hq (by decide))) | simp (maxSteps := 2000000) (discharger := first | omega | (simp (discharger := omega) only [Z1, Z2, Z3, Z4, Z5, Z6, Z7] <;> fail) | (simp (discharger := omega) only [Z3, Z8, Z2, Z4, Z1, Z7, Z5, Z6, Z9, Y1, Y2]; omega)) only [go_sem, x1])
            refine forK_same (i + 1, Gy) (by dsimp only; omega) ⟨by dsimp only; omega, ?_⟩ rfl (by repeat' (first | exact trivial | exact .inl rfl | exact .inr rfl | refine ⟨?_, ?_⟩))
            dsimp only
            rw [hTs, if_pos hid]
            exact hY
          have x1 : ((((i : Nat) : Int)) == ((d : Nat) : Int)) = false := by simp; omega
          rw [if_neg hid] at hTs
          by_cases hs0 : (T.getD i []).getD c 0 = 0
          · have x2 : ((T.getD i []).getD c 0 == 0) = true := by simp [hs0]
            repeat' (first | (with_reducible first | refine W1 ?_ | refine W2 ?_ | refine W3 ?_ | refine W4 mixed ?_ | refine W5 ?_ | refine W6 ?_ | refine W7 ?_ | refine W8 ?_ | refine W9 ?_ | refine V1 ?_ | refine V2 ?_ | refine V3 ?_ | refine V4 (by decide) ?_ | refine V5 ?_ | refine V6 ?_ | refine V7 ?_ | refine V8 ?_ | refine V9 ?_ | refine U1 ?_ | refine U2 ?_ | refine U3 ?_) | (with_reducible refine U4 ?_ ?_; next => first | omega | exact ⟨trivial, by omega⟩) | ((with_reducible refine U5 _ rfl (fun hq => ?_) (fun hq => ?_)) <;> try (first | (cases hq; done) | exact absurd hq (by decide))) | ((with_reducible refine U6 (fun hq => ?_) (fun hq => ?_)) <;> try (first | (cases hq; done) | exact absurd hq (by decide))) | simp (maxSteps := 2000000) (discharger := first | omega | (simp (discharger := omega) only [Z1, Z2, Z3, Z4, Z5, Z6, Z7] <;> fail) | (simp (discharger := omega) only [Z3, Z8, Z2, Z4, Z1, Z7, Z5, Z6, Z9, Y1, Y2]; omega)) only [go_sem, x1, x2])
            refine forK_same (i + 1, Gy) (by dsimp only; omega) ⟨by dsimp only; omega, ?_⟩ rfl (by repeat' (first | exact trivial | exact .inl rfl | exact .inr rfl | refine ⟨?_, ?_⟩))
            dsimp only
            rw [hTs, svClr, if_pos hs0, set_selfY (by omega)]
            exact hY
          have x2 : ((T.getD i []).getD c 0 == 0) = false := by simp [hs0]
          have pv := hY.row d (by omega)
          have lv := hTo.len d (by omega)
          have gv := fun j => hTo.rng d j (by omega)
          obtain ⟨hdN', hda'⟩ := hY.lt (i := d) (by omega)
          rw [svClr, if_neg hs0, lu] at hTs
          have hself : T.set i (T.getD i []) = T := set_selfY (by omega)
          have hother : ∀ row, (T.set i row).getD d [] = T.getD d [] := fun row => by rw [getD_set (by omega), if_neg (by omega)]
          have hsame : ∀ row, (T.set i row).getD i [] = row := fun row => by rw [getD_set (by omega), if_pos rfl]
          have hsl : ∀ row, (T.set i row).length = n := fun row => by rw [List.length_set, hTl]
          generalize T.getD i [] = u at pu lu gu hself hTs hs0 x2
          generalize T.getD d [] = v2 at pv lv gv hother hTs
          have hgc := gu c
          repeat' (first | (with_reducible first | refine W1 ?_ | refine W2 ?_ | refine W3 ?_ | refine W4 mixed ?_ | refine W5 ?_ | refine W6 ?_ | refine W7 ?_ | refine W8 ?_ | refine W9 ?_ | refine V1 ?_ | refine V2 ?_ | refine V3 ?_ | refine V4 (by decide) ?_ | refine V5 ?_ | refine V6 ?_ | refine V7 ?_ | refine V8 ?_ | refine V9 ?_ | refine U1 ?_ | refine U2 ?_ | refine U3 ?_) | (with_reducible refine U4 ?_ ?_; next => first | omega | exact ⟨trivial, by omega⟩) | ((with_reducible refine U5 _ rfl (fun hq => ?_) (fun hq => ?_)) <;> try (first | (cases hq; done) | exact absurd hq (by decide))) | ((with_reducible refine U6 (fun hq => ?_) (fun hq => ?_)) <;> try (first | (cases hq; done) | exact absurd hq (by decide))) | simp (maxSteps := 2000000) (discharger := first | omega | (simp (discharger := omega) only [Z1, Z2, Z3, Z4, Z5, Z6, Z7] <;> fail) | (simp (discharger := omega) only [Z3, Z8, Z2, Z4, Z1, Z7, Z5, Z6, Z9, Y1, Y2]; omega)) only [go_sem, x1, x2, y1, pu, lu])
          have hY0 : GRows N G Gy a j2 w (T.set i (svRow p (u.getD c 0) u v2 0)) := by rw [svRow_zero, hself]; exact hY
          generalize u.getD c 0 = sf at hY0 hTs hgc hs0 ⊢
          refine swp_for (fun (z : Nat × Heap) => ([.c (.int .i64 (p)), .c (.slice a 0 n 1)] ++ List.replicate 5 .any ++ [.c (.slice (nid N mm) 0 c 1), .c (.int .i64 ((d : Nat) : Int)), .c (.ptr (nid N L.length) 0), .any, .any, .any, .c (.int .i64 ((i : Nat) : Int)), .c (.int .i64 (sf)), .any, .any, .c (.int .i64 ((r : Nat) : Int)), .c (.int .i64 ((c : Nat) : Int))] ++ List.replicate 66 .any ++ [.c (.int .i64 ((n : Nat) : Int)), .c (.int .i64 ((i : Nat) : Int))] ++ List.replicate 20 .any ++ [.c (.int .i64 ((w : Nat) : Int)), .c (.int .i64 ((z.1 : Nat) : Int))] ++ List.replicate 39 .any)) (fun z => ⟨z.2, N, L1⟩) (fun z => w - z.1) (fun z => z.1 ≤ w ∧ GRows N G z.2 a j2 w (T.set i (svRow p sf u v2 z.1))) (0, Gy) ⟨Nat.zero_le _, hY0⟩ rfl (by repeat' (first | exact trivial | exact .inl rfl | exact .inr rfl | refine ⟨?_, ?_⟩)) ?_
          rintro ⟨e, Gz⟩ ⟨he, hZ⟩
          dsimp only at he hZ
          have z1 := hZ.hd
          simp only [List.replicate, List.cons_append, List.nil_append]
          repeat' (first | (with_reducible first | refine W1 ?_ | refine W2 ?_ | refine W3 ?_ | refine W4 mixed ?_ | refine W5 ?_ | refine W6 ?_ | refine W7 ?_ | refine W8 ?_ | refine W9 ?_ | refine V1 ?_ | refine V2 ?_ | refine V3 ?_ | refine V4 (by decide) ?_ | refine V5 ?_ | refine V6 ?_ | refine V7 ?_ | refine V8 ?_ | refine V9 ?_ | refine U1 ?_ | refine U2 ?_ | refine U3 ?_) | (with_reducible refine U4 ?_ ?_; next => first | omega | exact ⟨trivial, by omega⟩) | simp (maxSteps := 2000000) (discharger := first | omega | (simp (discharger := omega) only [Z1, Z2, Z3, Z4, Z5, Z6, Z7] <;> fail) | (simp (discharger := omega) only [Z3, Z8, Z2, Z4, Z1, Z7, Z5, Z6, Z9, Y1, Y2]; omega)) only [go_sem])
          refine swp_cond _ rfl (fun h => ?_) (fun h => ?_)
          · have hlte : e < w := by simpa using h
            clear h
            have pu3 := hZ.row i (by rw [hsl]; omega)
            have pv3 := hZ.row d (by rw [hsl]; omega)
            rw [hsame] at pu3
            rw [hother] at pv3
            have hget : (svRow p sf u v2 e).getD e 0 = u.getD e 0 := by rw [svRow_get (by omega), if_neg (by omega)]
            have hrl := svRow_length p sf u v2 e
            have hnx := svRow_succ p sf u v2 (t := e) (by omega)
            have hst3 := hZ.set (i := i) (by rw [hsl]; omega) (svRow p sf u v2 (e + 1))
            rw [List.set_set] at hst3
            generalize svRow p sf u v2 e = ue at pu3 hget hrl hnx
            have k1 := gu e
            have k2 := gv e
            have k3 : 0 ≤ (p - sf) * v2.getD e 0 ∧ (p - sf) * v2.getD e 0 ≤ 20 := by
              have a1 : 0 ≤ (p - sf) * v2.getD e 0 := Int.mul_nonneg (by omega) k2.1
              have a2 : (p - sf) * v2.getD e 0 ≤ 5 * 4 := Int.mul_le_mul (by omega) (by omega) k2.1 (by omega)
              omega
            repeat' (first | (with_reducible first | refine W1 ?_ | refine W2 ?_ | refine W3 ?_ | refine W4 mixed ?_ | refine W5 ?_ | refine W6 ?_ | refine W7 ?_ | refine W8 ?_ | refine W9 ?_ | refine V1 ?_ | refine V2 ?_ | refine V3 ?_ | refine V4 (by decide) ?_ | refine V5 ?_ | refine V6 ?_ | refine V7 ?_ | refine V8 ?_ | refine V9 ?_ | refine U1 ?_ | refine U2 ?_ | refine U3 ?_) | (with_reducible refine U4 ?_ ?_; next => first | omega | exact ⟨trivial, by omega⟩) | simp (maxSteps := 2000000) (discharger := first | omega | (simp (discharger := omega) only [Z1, Z2, Z3, Z4, Z5, Z6, Z7] <;> fail) | (simp (discharger := omega) only [Z3, Z8, Z2, Z4, Z1, Z7, Z5, Z6, Z9, Y1, Y2]; omega)) only [go_sem, z1, pu3, pv3, hget])
            refine must_confF [] rfl (by simp [confV]) ?_
            repeat' (first | (with_reducible first | refine W1 ?_ | refine W2 ?_ | refine W3 ?_ | refine W4 mixed ?_ | refine W5 ?_ | refine W6 ?_ | refine W7 ?_ | refine W8 ?_ | refine W9 ?_ | refine V1 ?_ | refine V2 ?_ | refine V3 ?_ | refine V4 (by decide) ?_ | refine V5 ?_ | refine V6 ?_ | refine V7 ?_ | refine V8 ?_ | refine V9 ?_ | refine U1 ?_ | refine U2 ?_ | refine U3 ?_) | (with_reducible refine U4 ?_ ?_; next => first | omega | exact ⟨trivial, by omega⟩) | simp (maxSteps := 2000000) (discharger := first | omega | (simp (discharger := omega) only [Z1, Z2, Z3, Z4, Z5, Z6, Z7] <;> fail) | (simp (discharger := omega) only [Z3, Z8, Z2, Z4, Z1, Z7, Z5, Z6, Z9, Y1, Y2]; omega)) only [go_sem])
            refine forK_same (e + 1, _) (by dsimp only; omega) ⟨by dsimp only; omega, ?_⟩ rfl (by repeat' (first | exact trivial | exact .inl rfl | exact .inr rfl | refine ⟨?_, ?_⟩))
            dsimp only
            rw [← hnx]
            exact hst3
          · have hlte : e = w := by have : ¬ e < w := by simpa using h
                                    omega
            clear h
            repeat' (first | (with_reducible first | refine W1 ?_ | refine W2 ?_ | refine W3 ?_ | refine W4 mixed ?_ | refine W5 ?_ | refine W6 ?_ | refine W7 ?_ | refine W8 ?_ | refine W9 ?_ | refine V1 ?_ | refine V2 ?_ | refine V3 ?_ | refine V4 (by decide) ?_ | refine V5 ?_ | refine V6 ?_ | refine V7 ?_ | refine V8 ?_ | refine V9 ?_ | refine U1 ?_ | refine U2 ?_ | refine U3 ?_) | (with_reducible refine U4 ?_ ?_; next => first | omega | exact ⟨trivial, by omega⟩) | simp (maxSteps := 2000000) (discharger := first | omega | (simp (discharger := omega) only [Z1, Z2, Z3, Z4, Z5, Z6, Z7] <;> fail) | (simp (discharger := omega) only [Z3, Z8, Z2, Z4, Z1, Z7, Z5, Z6, Z9, Y1, Y2]; omega)) only [go_sem])
            refine forK_same (i + 1, Gz) (by dsimp only; omega) ⟨by dsimp only; omega, ?_⟩ rfl (by repeat' (first | exact trivial | exact .inl rfl | exact .inr rfl | refine ⟨?_, ?_⟩))
            dsimp only
            rw [hTs]
            rw [hlte] at hZ
            exact hZ
        · have hlt3 : i = n := by have : ¬ i < n := by simpa using h
                                  omega
          clear h
          have hE := hEnd hlt3
          have e9 : ldn (i64s at_) 0 c ++ [.int .i64 ((d : Nat) : Int)] = i64s (at_ ++ [((d : Nat) : Int)]) := by
            rw [← at_snoc, ← o3, ← i64s_length at_, ldn_full]
          repeat' (first | (with_reducible first | refine W1 ?_ | refine W2 ?_ | refine W3 ?_ | refine W4 mixed ?_ | refine W5 ?_ | refine W6 ?_ | refine W7 ?_ | refine W8 ?_ | refine W9 ?_ | refine V1 ?_ | refine V2 ?_ | refine V3 ?_ | refine V4 (by decide) ?_ | refine V5 ?_ | refine V6 ?_ | refine V7 ?_ | refine V8 ?_ | refine V9 ?_ | refine U1 ?_ | refine U2 ?_ | refine U3 ?_) | (with_reducible refine U4 ?_ ?_; next => first | omega | exact ⟨trivial, by omega⟩) | simp (maxSteps := 2000000) (discharger := first | omega | (simp (discharger := omega) only [Z1, Z2, Z3, Z4, Z5, Z6, Z7] <;> fail) | (simp (discharger := omega) only [Z3, Z8, Z2, Z4, Z1, Z7, Z5, Z6, Z9, Y1, Y2]; omega)) only [go_sem, hL2])
          refine forK_same (c + 1, Gy, _, L1.length + 1) (by dsimp only; omega) ⟨by dsimp only; omega, ?_, ?_, ?_⟩ rfl ?_
          · dsimp only; simp only [setAt_length]; omega
          · dsimp only; rw [gd_setAt_same, e9, hE]
          · dsimp only; rw [hE, hKs]; exact hY
          · dsimp only; rw [hE]; repeat' (first | exact trivial | exact .inl rfl | exact .inr rfl | refine ⟨?_, ?_⟩)
    · rw [if_neg hfd]
      have hst : svStep p (S, at_, d) c = (S, at_ ++ [-1], d) := by rw [svStep, if_neg (by dsimp only; omega)]
      have hKs : svK p R ks (c + 1) = jq := by rw [hK1, if_neg (by omega)]
      repeat' (first | (with_reducible first | refine W1 ?_ | refine W2 ?_ | refine W3 ?_ | refine W4 mixed ?_ | refine W5 ?_ | refine W6 ?_ | refine W7 ?_ | refine W8 ?_ | refine W9 ?_ | refine V1 ?_ | refine V2 ?_ | refine V3 ?_ | refine V4 (by decide) ?_ | refine V5 ?_ | refine V6 ?_ | refine V7 ?_ | refine V8 ?_ | refine V9 ?_ | refine U1 ?_ | refine U2 ?_ | refine U3 ?_) | (with_reducible refine U4 ?_ ?_; next => first | omega | exact ⟨trivial, by omega⟩) | ((with_reducible refine U5 _ rfl (fun hq => ?_) (fun hq => ?_)) <;> try (first | (cases hq; done) | exact absurd hq (by decide))) | ((with_reducible refine U6 (fun hq => ?_) (fun hq => ?_)) <;> try (first | (cases hq; done) | exact absurd hq (by decide))) | simp (maxSteps := 2000000) (discharger := first | omega | (simp (discharger := omega) only [Z1, Z2, Z3, Z4, Z5, Z6, Z7] <;> fail) | (simp (discharger := omega) only [Z3, Z8, Z2, Z4, Z1, Z7, Z5, Z6, Z9, Y1, Y2]; omega)) only [go_sem, f2, at_snoc])
      have e9 : ldn (i64s at_) 0 c ++ [.int .i64 (-1)] = i64s (at_ ++ [-1]) := by
        rw [← at_snoc, ← o3, ← i64s_length at_, ldn_full]
      refine forK_same (c + 1, G', _, L.length + 1 + 1) (by dsimp only; omega) ⟨by dsimp only; omega, ?_, ?_, ?_⟩ rfl ?_
      · dsimp only; simp only [setAt_length]; omega
      · dsimp only; rw [gd_setAt_same, e9, hS1, hst]
      · dsimp only; rw [hS1, hst, hKs]; exact hG
      · dsimp only; rw [hS1, hst]; repeat' (first | exact trivial | exact .inl rfl | exact .inr rfl | refine ⟨?_, ?_⟩)
  · have hlt : c = r := by have : ¬ c < r := by simpa using h
                           omega
    obtain ⟨e1, e2⟩ := hend hlt
    rw [e1, e2]
    repeat' (first | (with_reducible first | refine W1 ?_ | refine W2 ?_ | refine W3 ?_ | refine W4 mixed ?_ | refine W5 ?_ | refine W6 ?_ | refine W7 ?_ | refine W8 ?_ | refine W9 ?_ | refine V1 ?_ | refine V2 ?_ | refine V3 ?_ | refine V4 (by decide) ?_ | refine V5 ?_ | refine V6 ?_ | refine V7 ?_ | refine V8 ?_ | refine V9 ?_ | refine U1 ?_ | refine U2 ?_ | refine U3 ?_) | (with_reducible refine U4 ?_ ?_; next => first | omega | exact ⟨trivial, by omega⟩) | simp (maxSteps := 2000000) (discharger := first | omega | (simp (discharger := omega) only [Z1, Z2, Z3, Z4, Z5, Z6, Z7] <;> fail) | (simp (discharger := omega) only [Z3, Z8, Z2, Z4, Z1, Z7, Z5, Z6, Z9, Y1, Y2]; omega)) only [go_sem])
    rw [hG.eq]
    refine ret_mix1 hN _ hG.ok x mm (i64s at_) [.c (.slice (nid N mm) 0 r 1)] ⟨by rw [hlt]; rfl, trivial⟩ hfree f2 (flat_i64s _) rfl ?_ ?_
    · simp [AV.idsT, AV.ids1, Cell.ids]
    · simp [resOf, renT, ren1, Cell.mapIds]
end Go.Proofs.Ytcfemdhlcjmlbaa
/- Systems of pairs: the basis of rows, and both ranks. -/
namespace Go.Proofs.Ytcfemdhlcjmlbaa
open Go Go.Abs
set_option maxRecDepth 100000

set_option maxRecDepth 100000
set_option linter.unusedVariables false
attribute [-simp] List.getD_eq_getElem?_getD

/-- The product of the numbers of pair j at the place a. -/
def tabN (p : Int) (nb : Nat) (l : List Int) (j a : Nat) : Int := (l.getD (j * 18 + a / nb) 0 * l.getD (j * 18 + 9 + a % nb) 0).tmod p
def tabL (p : Int) (na nb : Nat) (l : List Int) (j t : Nat) : List Int := (List.range t).map (tabN p nb l j)
theorem tabL_length (p : Int) (na nb : Nat) (l : List Int) (j t : Nat) : (tabL p na nb l j t).length = t := by simp [tabL]
theorem tabL_succ (p : Int) (na nb : Nat) (l : List Int) (j t : Nat) : tabL p na nb l j (t + 1) = tabL p na nb l j t ++ [tabN p nb l j t] := by simp [tabL, List.range_succ]
theorem tabL_get {p : Int} {na nb : Nat} {l : List Int} {j t a : Nat} (h : a < t) : (tabL p na nb l j t).getD a 0 = tabN p nb l j a := by
  simp [tabL, List.getD_eq_getElem?_getD, h]
/-- All numbers of pairs are numbers modulo p. -/
def modL (p : Int) (l : List Int) : Prop := ∀ i, 0 ≤ l.getD i 0 ∧ l.getD i 0 < p
theorem tabN_rng {p : Int} {nb : Nat} {l : List Int} {j a : Nat} (hp : 2 ≤ p) (h : modL p l) : 0 ≤ tabN p nb l j a ∧ tabN p nb l j a < p := by
  have h1 := Int.mul_nonneg (h (j * 18 + a / nb)).1 (h (j * 18 + 9 + a % nb)).1
  exact ⟨Int.tmod_nonneg _ h1, Int.tmod_lt_of_pos _ (by omega)⟩

/-- A row from which multiples of rows are taken. -/
def bsRed (p : Int) (rows : List (List Int)) (leads : List Int) (row : List Int) : Nat → List Int
  | 0 => row
  | k + 1 => rkRow p ((bsRed p rows leads row k).getD (leads.getD k 0).toNat 0) (bsRed p rows leads row k) (rows.getD k []) (bsRed p rows leads row k).length
theorem bsRed_length (p : Int) (rows : List (List Int)) (leads row : List Int) : ∀ k, (bsRed p rows leads row k).length = row.length
  | 0 => rfl
  | k + 1 => by rw [bsRed, rkRow_length]; exact bsRed_length p rows leads row k
/-- The first place of a row that is not 0, from i on. -/
def nzF (l : List Int) : Nat → Nat → Nat
  | 0, i => i
  | f + 1, i => if l.getD i 0 = 0 then nzF l f (i + 1) else i
theorem nzF_ge {l : List Int} : ∀ {f i : Nat}, i ≤ nzF l f i ∧ nzF l f i ≤ i + f
  | 0, i => ⟨Nat.le_refl _, Nat.le_refl _⟩
  | f + 1, i => by
    rw [nzF]; split
    · have := nzF_ge (l := l) (f := f) (i := i + 1); omega
    · omega
theorem nzF_nz {l : List Int} : ∀ {f i : Nat}, nzF l f i < i + f → l.getD (nzF l f i) 0 ≠ 0
  | 0, i, h => by rw [nzF] at h; omega
  | f + 1, i, h => by
    rw [nzF] at h ⊢
    split
    · rename_i h0
      rw [if_pos h0] at h
      exact nzF_nz (by omega)
    · rename_i h0; exact h0
theorem nzF_z {l : List Int} : ∀ {f i : Nat}, nzF l f i = i + f → ∀ k, i ≤ k → k < i + f → l.getD k 0 = 0
  | 0, i, h, k, h1, h2 => by omega
  | f + 1, i, h, k, h1, h2 => by
    rw [nzF] at h
    by_cases e0 : l.getD i 0 = 0
    · rw [if_pos e0] at h
      by_cases e : k = i
      · rw [e]; exact e0
      · exact nzF_z (f := f) (i := i + 1) (by omega) k (by omega) (by omega)
    · rw [if_neg e0] at h; omega
theorem nzF_no {l : List Int} {f i : Nat} (h : l.getD i 0 = 0) : nzF l (f + 1) i = nzF l f (i + 1) := by rw [nzF, if_pos h]
theorem nzF_yes {l : List Int} {f i : Nat} (h : ¬ l.getD i 0 = 0) (hf : 0 < f) : nzF l f i = i := by
  cases f with
  | zero => omega
  | succ f => rw [nzF, if_neg h]
/-- The row of pair i: its table, and 1 at its number. -/
def bsRow (p : Int) (na nb : Nat) (l : List Int) (n r i : Nat) : List Int := (tabL p na nb l i n ++ List.replicate r 0).set (n + i) 1
def bsStep (p : Int) (na nb : Nat) (l : List Int) (n r : Nat) (z : List (List Int) × List Int) (i : Nat) : List (List Int) × List Int :=
  if nzF (bsRed p z.1 z.2 (bsRow p na nb l n r i) z.1.length) n 0 = n then z else
    (z.1 ++ [svMul p (invV p ((bsRed p z.1 z.2 (bsRow p na nb l n r i) z.1.length).getD (nzF (bsRed p z.1 z.2 (bsRow p na nb l n r i) z.1.length) n 0) 0)) (bsRed p z.1 z.2 (bsRow p na nb l n r i) z.1.length) (bsRed p z.1 z.2 (bsRow p na nb l n r i) z.1.length).length], z.2 ++ [((nzF (bsRed p z.1 z.2 (bsRow p na nb l n r i) z.1.length) n 0 : Nat) : Int)])
def bsL (p : Int) (na nb : Nat) (l : List Int) (n r : Nat) : Nat → List (List Int) × List Int
  | 0 => ([], [])
  | i + 1 => bsStep p na nb l n r (bsL p na nb l n r i) i

def tabM (p : Int) (nb : Nat) (l : List Int) (a j : Nat) : Int := tabN p nb l j a
def ldF (l : List Int) (k : Nat) : Nat := (l.getD k 0).toNat
section
variable {p : Int} {na nb n r : Nat} {l : List Int}
theorem bsRow_length (i : Nat) : (bsRow p na nb l n r i).length = n + r := by simp [bsRow, tabL]
theorem bsRow_get {i : Nat} (hi : i < r) : ∀ a, a < n + r → (bsRow p na nb l n r i).getD a 0 = tabV (tabM p nb l) n i a := by
  intro a ha
  have h0 : (tabL p na nb l i n ++ List.replicate r 0).length = n + r := by simp [tabL]
  rw [bsRow, getD_set (by omega), getD_app, tabL_length, tabV]
  by_cases e : a < n
  · rw [if_neg (by omega), if_pos e, if_pos e, tabL_get e]; rfl
  · by_cases e2 : a = n + i
    · rw [if_pos e2, if_neg e, if_pos e2]
    · rw [if_neg e2, if_neg e, if_neg e, if_neg e2, List.getD_eq_getElem?_getD, List.getElem?_replicate]
      split <;> rfl
theorem bsRow_rng (hp : 2 ≤ p) (h : modL p l) {i : Nat} (hi : i < r) (a : Nat) : 0 ≤ (bsRow p na nb l n r i).getD a 0 ∧ (bsRow p na nb l n r i).getD a 0 < p := by
  by_cases ha : a < n + r
  · rw [bsRow_get hi a ha, tabV]
    split
    · exact tabN_rng hp h
    · split <;> omega
  · rw [getD_none (by rw [bsRow_length]; omega)]; omega
/-- Reduced rows. -/
theorem bsRed_inv (hp : 2 ≤ p) {M : Nat → Nat → Int} {i : Nat} {rows : List (List Int)} {leads row : List Int} (hB : Bas p M n r (Ef rows) (ldF leads) rows.length i) (ho : RkOk p (n + r) rows) (hr : row.length = n + r) (hg : ∀ j, 0 ≤ row.getD j 0 ∧ row.getD j 0 < p) :
    ∀ k, k ≤ rows.length → Red p (Ef rows) (ldF leads) (n + r) (fun a => row.getD a 0) (fun a => (bsRed p rows leads row k).getD a 0) k ∧ ∀ j, 0 ≤ (bsRed p rows leads row k).getD j 0 ∧ (bsRed p rows leads row k).getD j 0 < p
  | 0, _ => ⟨Red.zero fun l _ => hg l, hg⟩
  | k + 1, hk => by
    obtain ⟨h1, h2⟩ := bsRed_inv hp hB ho hr hg k (by omega)
    refine ⟨h1.step hB (by omega) hp fun a ha => ?_, rkRow_rng hp h2⟩
    have hl := bsRed_length p rows leads row k
    rw [bsRed, rkRow_get (by omega), if_pos (by omega), rkX_eq hp]; rfl
theorem RkOk.app {w : Nat} {R : List (List Int)} (h : RkOk p w R) {u : List Int} (hu : u.length = w) (hr : ∀ j, 0 ≤ u.getD j 0 ∧ u.getD j 0 < p) : RkOk p w (R ++ [u]) := by
  have key : ∀ i, i < (R ++ [u]).length → (i < R.length ∧ (R ++ [u]).getD i [] = R.getD i []) ∨ (R ++ [u]).getD i [] = u := by
    intro i hi
    rw [List.length_append, List.length_singleton] at hi
    by_cases e : i < R.length
    · left; exact ⟨e, by simp only [List.getD_eq_getElem?_getD]; rw [List.getElem?_append_left e]⟩
    · right
      have : i = R.length := by omega
      subst this
      simp [List.getD_eq_getElem?_getD]
  constructor
  · intro i hi
    rcases key i hi with ⟨h1, h2⟩ | h2
    · rw [h2]; exact h.len i h1
    · rw [h2]; exact hu
  · intro i j hi
    rcases key i hi with ⟨h1, h2⟩ | h2
    · rw [h2]; exact h.rng i j h1
    · rw [h2]; exact hr j
theorem getD_last {α : Type} {R : List α} {u d : α} : (R ++ [u]).getD R.length d = u := by simp [List.getD_eq_getElem?_getD]
theorem getD_init {α : Type} {R : List α} {u d : α} {k : Nat} (h : k < R.length) : (R ++ [u]).getD k d = R.getD k d := by
  simp only [List.getD_eq_getElem?_getD]; rw [List.getElem?_append_left h]
/-- What holds of the basis after i pairs. -/
structure BsI (p : Int) (nb : Nat) (l : List Int) (n r : Nat) (z : List (List Int) × List Int) (i : Nat) : Prop where
  bas : Bas p (tabM p nb l) n r (Ef z.1) (ldF z.2) z.1.length i
  ok : RkOk p (n + r) z.1
  len : z.2.length = z.1.length
  ld : ∀ k, k < z.2.length → 0 ≤ z.2.getD k 0 ∧ z.2.getD k 0 < n
  le : z.1.length ≤ i
theorem bsStep_inv (hP : isP p = true) (h : modL p l) {z : List (List Int) × List Int} {i : Nat} (hi : i < r) (hB : BsI p nb l n r z i) :
    BsI p nb l n r (bsStep p na nb l n r z i) (i + 1) ∧ (Dep p (tabM p nb l) n i ∧ (bsStep p na nb l n r z i).1.length = z.1.length ∨ ¬ Dep p (tabM p nb l) n i ∧ (bsStep p na nb l n r z i).1.length = z.1.length + 1) := by
  have hp : 2 ≤ p := by simp [isP] at hP; omega
  obtain ⟨rows, leads⟩ := z
  obtain ⟨b1, b2, b3, b4, b5⟩ := hB
  dsimp only at b1 b2 b3 b4 b5 ⊢
  have hl0 := bsRow_length (p := p) (na := na) (nb := nb) (l := l) (n := n) (r := r) i
  obtain ⟨h1, h2⟩ := bsRed_inv hp b1 b2 hl0 (bsRow_rng hp h hi) rows.length (Nat.le_refl _)
  have hlen := bsRed_length p rows leads (bsRow p na nb l n r i) rows.length
  have h1' : Red p (Ef rows) (ldF leads) (n + r) (tabV (tabM p nb l) n i) (fun a => (bsRed p rows leads (bsRow p na nb l n r i) rows.length).getD a 0) rows.length := by
    obtain ⟨⟨y, hy⟩, r2, rg⟩ := h1
    exact ⟨⟨y, fun a ha => by rw [← bsRow_get (na := na) hi a ha]; exact hy a ha⟩, r2, rg⟩
  unfold bsStep
  dsimp only
  generalize bsRed p rows leads (bsRow p na nb l n r i) rows.length = row at h1' h2 hlen
  rw [hl0] at hlen
  have hnb := nzF_ge (l := row) (f := n) (i := 0)
  by_cases e : nzF row n 0 = n
  · rw [if_pos e]
    have hz := nzF_z (l := row) (f := n) (i := 0) (by omega)
    obtain ⟨g1, g2⟩ := b1.dep hp hi h1' fun a ha => hz a (Nat.zero_le _) (by omega)
    exact ⟨⟨g2, b2, b3, b4, by dsimp only; omega⟩, .inl ⟨g1, rfl⟩⟩
  · rw [if_neg e]
    have hlt : nzF row n 0 < n := by omega
    have hnz := nzF_nz (l := row) (f := n) (i := 0) (by omega)
    generalize nzF row n 0 = at_ at hlt hnz
    have hrg := h2 at_
    obtain ⟨v1, v2, v3⟩ := invV_ok hP (a := row.getD at_ 0) (by omega)
    have hc : Cg p (row.getD at_ 0 * invV p (row.getD at_ 0)) 1 := by
      rw [Int.mul_comm]
      exact Cg.of_emod (by rw [v1]; exact (Int.emod_eq_of_lt (by omega) (by omega)).symm)
    obtain ⟨g1, g2⟩ := b1.indep hp hi h1' hlt hnz hc (V' := Ef (rows ++ [svMul p (invV p (row.getD at_ 0)) row row.length])) (ld' := ldF (leads ++ [((at_ : Nat) : Int)]))
      (fun k hk l hl => by rw [Ef, Ef, getD_init hk]) (fun k hk => by rw [ldF, ldF, getD_init (by omega)]) (by rw [ldF, ← b3, getD_last]; simp) (fun l hl => by
        rw [Ef, getD_last, svMul_get (by omega), if_pos (by omega), tmod_pos hp]
        exact Int.mul_nonneg (h2 l).1 (by omega))
    refine ⟨⟨by simpa using g2, b2.app (by rw [svMul_length]; exact hlen) (svMul_rng hp (by omega) h2), by simp [b3], fun k hk => ?_, by simp; omega⟩, .inr ⟨g1, by simp⟩⟩
    simp only [List.length_append, List.length_singleton] at hk
    dsimp only
    by_cases e2 : k < leads.length
    · rw [getD_init e2]; exact b4 k e2
    · have : k = leads.length := by omega
      subst this
      rw [getD_last]; omega
theorem bsL_inv (hP : isP p = true) (h : modL p l) : ∀ i, i ≤ r → BsI p nb l n r (bsL p na nb l n r i) i
  | 0, _ => ⟨Bas.zero, ⟨fun _ h => by simp [bsL] at h, fun _ _ h => by simp [bsL] at h⟩, rfl, fun k h => by simp [bsL] at h, Nat.le_refl _⟩
  | i + 1, hi => (bsStep_inv hP h (by omega) (bsL_inv hP h i (by omega))).1
/-- The rows of the equations: the tables' numbers, then the right sides. -/
def sysRow (p : Int) (nb : Nat) (l : List Int) (r : Nat) (W : Nat → List Int) (a : Nat) : List Int := (List.range r).map (fun j => tabN p nb l j a) ++ W a
def sysR (p : Int) (nb : Nat) (l : List Int) (r : Nat) (W : Nat → List Int) (t : Nat) : List (List Int) := (List.range t).map (sysRow p nb l r W)
theorem sysR_length (W : Nat → List Int) (t : Nat) : (sysR p nb l r W t).length = t := by simp [sysR]
theorem sysR_succ (W : Nat → List Int) (t : Nat) : sysR p nb l r W (t + 1) = sysR p nb l r W t ++ [sysRow p nb l r W t] := by simp [sysR, List.range_succ]
theorem sysR_get {W : Nat → List Int} {t a : Nat} (h : a < t) : (sysR p nb l r W t).getD a [] = sysRow p nb l r W a := by
  simp [sysR, List.getD_eq_getElem?_getD, h]
theorem sysR_ok (hp : 2 ≤ p) (h : modL p l) {W : Nat → List Int} {c t : Nat} (hW : ∀ a, a < t → (W a).length = c ∧ ∀ j, 0 ≤ (W a).getD j 0 ∧ (W a).getD j 0 < p) : RkOk p (r + c) (sysR p nb l r W t) := by
  constructor
  · intro i hi
    rw [sysR_length] at hi
    rw [sysR_get hi, sysRow, List.length_append, (hW i hi).1]; simp
  · intro i j hi
    rw [sysR_length] at hi
    rw [sysR_get hi, sysRow, getD_app]
    split
    · rename_i hj
      have hj' : j < r := by simpa using hj
      rw [show ((List.range r).map fun j => tabN p nb l j i).getD j 0 = tabN p nb l j i by simp [List.getD_eq_getElem?_getD, hj']]
      exact tabN_rng hp h
    · exact (hW i hi).2 _
theorem sysR_M {W : Nat → List Int} {t a j : Nat} (ha : a < t) (hj : j < r) : Ef (sysR p nb l r W t) a j = tabM p nb l a j := by
  rw [Ef, sysR_get ha, sysRow, getD_app, if_pos (by simpa using hj)]
  simp [List.getD_eq_getElem?_getD, hj, tabM]
theorem sysR_W {W : Nat → List Int} {t a c : Nat} (ha : a < t) : Ef (sysR p nb l r W t) a (r + c) = (W a).getD c 0 := by
  rw [Ef, sysR_get ha, sysRow, getD_app, if_neg (by simp)]
  simp
theorem Dep.ext {M M' : Nat → Nat → Int} {i : Nat} (h : ∀ a, a < n → ∀ j, j ≤ i → M a j = M' a j) : Dep p M n i ↔ Dep p M' n i := by
  have e : ∀ (x : Nat → Int) a, a < n → sumF (fun j => M a j * x j) (i + 1) = sumF (fun j => M' a j * x j) (i + 1) := fun x a ha => sumF_congr fun j hj => by rw [h a ha j (by omega)]
  constructor
  · rintro ⟨x, h1, h2⟩
    exact ⟨x, h1, fun a ha => by rw [← e x a ha]; exact h2 a ha⟩
  · rintro ⟨x, h1, h2⟩
    exact ⟨x, h1, fun a ha => by rw [e x a ha]; exact h2 a ha⟩
end
end Go.Proofs.Ytcfemdhlcjmlbaa
