/- Systems of pairs: the basis of rows, and both ranks. -/
import Derived.Test.YtcmmbnhdfkcpdaaY0
namespace Go.Proofs.Ytcmmbnhdfkcpdaa
open Go Go.Abs
set_option maxRecDepth 100000

set_option maxRecDepth 100000
set_option linter.unusedVariables false
attribute [-simp] List.getD_eq_getElem?_getD

/-- The product of the numbers of pair j at the place a. -/
def tabN (p : Int) (nb : Nat) (l : List Int) (j a : Nat) : Int := (l.getD (j * 18 + a / nb) 0 * l.getD (j * 18 + 9 + a % nb) 0).tmod p
def tabL (p : Int) (na nb : Nat) (l : List Int) (j t : Nat) : List Int := (List.range t).map (tabN p nb l j)
theorem tabL_length (p : Int) (na nb : Nat) (l : List Int) (j t : Nat) : (tabL p na nb l j t).length = t := by simp [tabL]
theorem tabL_succ (p : Int) (na nb : Nat) (l : List Int) (j t : Nat) : tabL p na nb l j (t + 1) = tabL p na nb l j t ++ [tabN p nb l j t] := by simp [tabL, List.range_succ]
theorem tabL_get {p : Int} {na nb : Nat} {l : List Int} {j t a : Nat} (h : a < t) : (tabL p na nb l j t).getD a 0 = tabN p nb l j a := by
  simp [tabL, List.getD_eq_getElem?_getD, h]
/-- All numbers of pairs are numbers modulo p. -/
def modL (p : Int) (l : List Int) : Prop := ∀ i, 0 ≤ l.getD i 0 ∧ l.getD i 0 < p
theorem tabN_rng {p : Int} {nb : Nat} {l : List Int} {j a : Nat} (hp : 2 ≤ p) (h : modL p l) : 0 ≤ tabN p nb l j a ∧ tabN p nb l j a < p := by
  have h1 := Int.mul_nonneg (h (j * 18 + a / nb)).1 (h (j * 18 + 9 + a % nb)).1
  exact ⟨Int.tmod_nonneg _ h1, Int.tmod_lt_of_pos _ (by omega)⟩

/-- A row from which multiples of rows are taken. -/
def bsRed (p : Int) (rows : List (List Int)) (leads : List Int) (row : List Int) : Nat → List Int
  | 0 => row
  | k + 1 => rkRow p ((bsRed p rows leads row k).getD (leads.getD k 0).toNat 0) (bsRed p rows leads row k) (rows.getD k []) (bsRed p rows leads row k).length
theorem bsRed_length (p : Int) (rows : List (List Int)) (leads row : List Int) : ∀ k, (bsRed p rows leads row k).length = row.length
  | 0 => rfl
  | k + 1 => by rw [bsRed, rkRow_length]; exact bsRed_length p rows leads row k
/-- The first place of a row that is not 0, from i on. -/
def nzF (l : List Int) : Nat → Nat → Nat
  | 0, i => i
  | f + 1, i => if l.getD i 0 = 0 then nzF l f (i + 1) else i
theorem nzF_ge {l : List Int} : ∀ {f i : Nat}, i ≤ nzF l f i ∧ nzF l f i ≤ i + f
  | 0, i => ⟨Nat.le_refl _, Nat.le_refl _⟩
  | f + 1, i => by
    rw [nzF]; split
    · have := nzF_ge (l := l) (f := f) (i := i + 1); omega
    · omega
theorem nzF_nz {l : List Int} : ∀ {f i : Nat}, nzF l f i < i + f → l.getD (nzF l f i) 0 ≠ 0
  | 0, i, h => by rw [nzF] at h; omega
  | f + 1, i, h => by
    rw [nzF] at h ⊢
    split
    · rename_i h0
      rw [if_pos h0] at h
      exact nzF_nz (by omega)
    · rename_i h0; exact h0
theorem nzF_z {l : List Int} : ∀ {f i : Nat}, nzF l f i = i + f → ∀ k, i ≤ k → k < i + f → l.getD k 0 = 0
  | 0, i, h, k, h1, h2 => by omega
  | f + 1, i, h, k, h1, h2 => by
    rw [nzF] at h
    by_cases e0 : l.getD i 0 = 0
    · rw [if_pos e0] at h
      by_cases e : k = i
      · rw [e]; exact e0
      · exact nzF_z (f := f) (i := i + 1) (by omega) k (by omega) (by omega)
    · rw [if_neg e0] at h; omega
theorem nzF_no {l : List Int} {f i : Nat} (h : l.getD i 0 = 0) : nzF l (f + 1) i = nzF l f (i + 1) := by rw [nzF, if_pos h]
theorem nzF_yes {l : List Int} {f i : Nat} (h : ¬ l.getD i 0 = 0) (hf : 0 < f) : nzF l f i = i := by
  cases f with
  | zero => omega
  | succ f => rw [nzF, if_neg h]
/-- The row of pair i: its table, and 1 at its number. -/
def bsRow (p : Int) (na nb : Nat) (l : List Int) (n r i : Nat) : List Int := (tabL p na nb l i n ++ List.replicate r 0).set (n + i) 1
def bsStep (p : Int) (na nb : Nat) (l : List Int) (n r : Nat) (z : List (List Int) × List Int) (i : Nat) : List (List Int) × List Int :=
  if nzF (bsRed p z.1 z.2 (bsRow p na nb l n r i) z.1.length) n 0 = n then z else
    (z.1 ++ [svMul p (invV p ((bsRed p z.1 z.2 (bsRow p na nb l n r i) z.1.length).getD (nzF (bsRed p z.1 z.2 (bsRow p na nb l n r i) z.1.length) n 0) 0)) (bsRed p z.1 z.2 (bsRow p na nb l n r i) z.1.length) (bsRed p z.1 z.2 (bsRow p na nb l n r i) z.1.length).length], z.2 ++ [((nzF (bsRed p z.1 z.2 (bsRow p na nb l n r i) z.1.length) n 0 : Nat) : Int)])
def bsL (p : Int) (na nb : Nat) (l : List Int) (n r : Nat) : Nat → List (List Int) × List Int
  | 0 => ([], [])
  | i + 1 => bsStep p na nb l n r (bsL p na nb l n r i) i

def tabM (p : Int) (nb : Nat) (l : List Int) (a j : Nat) : Int := tabN p nb l j a
def ldF (l : List Int) (k : Nat) : Nat := (l.getD k 0).toNat
section
variable {p : Int} {na nb n r : Nat} {l : List Int}
theorem bsRow_length (i : Nat) : (bsRow p na nb l n r i).length = n + r := by simp [bsRow, tabL]
theorem bsRow_get {i : Nat} (hi : i < r) : ∀ a, a < n + r → (bsRow p na nb l n r i).getD a 0 = tabV (tabM p nb l) n i a := by
  intro a ha
  have h0 : (tabL p na nb l i n ++ List.replicate r 0).length = n + r := by simp [tabL]
  rw [bsRow, getD_set (by omega), getD_app, tabL_length, tabV]
  by_cases e : a < n
  · rw [if_neg (by omega), if_pos e, if_pos e, tabL_get e]; rfl
  · by_cases e2 : a = n + i
    · rw [if_pos e2, if_neg e, if_pos e2]
    · rw [if_neg e2, if_neg e, if_neg e, if_neg e2, List.getD_eq_getElem?_getD, List.getElem?_replicate]
      split <;> rfl
theorem bsRow_rng (hp : 2 ≤ p) (h : modL p l) {i : Nat} (hi : i < r) (a : Nat) : 0 ≤ (bsRow p na nb l n r i).getD a 0 ∧ (bsRow p na nb l n r i).getD a 0 < p := by
  by_cases ha : a < n + r
  · rw [bsRow_get hi a ha, tabV]
    split
    · exact tabN_rng hp h
    · split <;> omega
  · rw [getD_none (by rw [bsRow_length]; omega)]; omega
/-- Reduced rows. -/
theorem bsRed_inv (hp : 2 ≤ p) {M : Nat → Nat → Int} {i : Nat} {rows : List (List Int)} {leads row : List Int} (hB : Bas p M n r (Ef rows) (ldF leads) rows.length i) (ho : RkOk p (n + r) rows) (hr : row.length = n + r) (hg : ∀ j, 0 ≤ row.getD j 0 ∧ row.getD j 0 < p) :
    ∀ k, k ≤ rows.length → Red p (Ef rows) (ldF leads) (n + r) (fun a => row.getD a 0) (fun a => (bsRed p rows leads row k).getD a 0) k ∧ ∀ j, 0 ≤ (bsRed p rows leads row k).getD j 0 ∧ (bsRed p rows leads row k).getD j 0 < p
  | 0, _ => ⟨Red.zero fun l _ => hg l, hg⟩
  | k + 1, hk => by
    obtain ⟨h1, h2⟩ := bsRed_inv hp hB ho hr hg k (by omega)
    refine ⟨h1.step hB (by omega) hp fun a ha => ?_, rkRow_rng hp h2⟩
    have hl := bsRed_length p rows leads row k
    rw [bsRed, rkRow_get (by omega), if_pos (by omega), rkX_eq hp]; rfl
theorem RkOk.app {w : Nat} {R : List (List Int)} (h : RkOk p w R) {u : List Int} (hu : u.length = w) (hr : ∀ j, 0 ≤ u.getD j 0 ∧ u.getD j 0 < p) : RkOk p w (R ++ [u]) := by
  have key : ∀ i, i < (R ++ [u]).length → (i < R.length ∧ (R ++ [u]).getD i [] = R.getD i []) ∨ (R ++ [u]).getD i [] = u := by
    intro i hi
    rw [List.length_append, List.length_singleton] at hi
    by_cases e : i < R.length
    · left; exact ⟨e, by simp only [List.getD_eq_getElem?_getD]; rw [List.getElem?_append_left e]⟩
    · right
      have : i = R.length := by omega
      subst this
      simp [List.getD_eq_getElem?_getD]
  constructor
  · intro i hi
    rcases key i hi with ⟨h1, h2⟩ | h2
    · rw [h2]; exact h.len i h1
    · rw [h2]; exact hu
  · intro i j hi
    rcases key i hi with ⟨h1, h2⟩ | h2
    · rw [h2]; exact h.rng i j h1
    · rw [h2]; exact hr j
theorem getD_last {α : Type} {R : List α} {u d : α} : (R ++ [u]).getD R.length d = u := by simp [List.getD_eq_getElem?_getD]
theorem getD_init {α : Type} {R : List α} {u d : α} {k : Nat} (h : k < R.length) : (R ++ [u]).getD k d = R.getD k d := by
  simp only [List.getD_eq_getElem?_getD]; rw [List.getElem?_append_left h]
/-- What holds of the basis after i pairs. -/
structure BsI (p : Int) (nb : Nat) (l : List Int) (n r : Nat) (z : List (List Int) × List Int) (i : Nat) : Prop where
  bas : Bas p (tabM p nb l) n r (Ef z.1) (ldF z.2) z.1.length i
  ok : RkOk p (n + r) z.1
  len : z.2.length = z.1.length
  ld : ∀ k, k < z.2.length → 0 ≤ z.2.getD k 0 ∧ z.2.getD k 0 < n
  le : z.1.length ≤ i
theorem bsStep_inv (hP : isP p = true) (h : modL p l) {z : List (List Int) × List Int} {i : Nat} (hi : i < r) (hB : BsI p nb l n r z i) :
    BsI p nb l n r (bsStep p na nb l n r z i) (i + 1) ∧ (Dep p (tabM p nb l) n i ∧ (bsStep p na nb l n r z i).1.length = z.1.length ∨ ¬ Dep p (tabM p nb l) n i ∧ (bsStep p na nb l n r z i).1.length = z.1.length + 1) := by
  have hp : 2 ≤ p := by simp [isP] at hP; omega
  obtain ⟨rows, leads⟩ := z
  obtain ⟨b1, b2, b3, b4, b5⟩ := hB
  dsimp only at b1 b2 b3 b4 b5 ⊢
  have hl0 := bsRow_length (p := p) (na := na) (nb := nb) (l := l) (n := n) (r := r) i
  obtain ⟨h1, h2⟩ := bsRed_inv hp b1 b2 hl0 (bsRow_rng hp h hi) rows.length (Nat.le_refl _)
  have hlen := bsRed_length p rows leads (bsRow p na nb l n r i) rows.length
  have h1' : Red p (Ef rows) (ldF leads) (n + r) (tabV (tabM p nb l) n i) (fun a => (bsRed p rows leads (bsRow p na nb l n r i) rows.length).getD a 0) rows.length := by
    obtain ⟨⟨y, hy⟩, r2, rg⟩ := h1
    exact ⟨⟨y, fun a ha => by rw [← bsRow_get (na := na) hi a ha]; exact hy a ha⟩, r2, rg⟩
  unfold bsStep
  dsimp only
  generalize bsRed p rows leads (bsRow p na nb l n r i) rows.length = row at h1' h2 hlen
  rw [hl0] at hlen
  have hnb := nzF_ge (l := row) (f := n) (i := 0)
  by_cases e : nzF row n 0 = n
  · rw [if_pos e]
    have hz := nzF_z (l := row) (f := n) (i := 0) (by omega)
    obtain ⟨g1, g2⟩ := b1.dep hp hi h1' fun a ha => hz a (Nat.zero_le _) (by omega)
    exact ⟨⟨g2, b2, b3, b4, by dsimp only; omega⟩, .inl ⟨g1, rfl⟩⟩
  · rw [if_neg e]
    have hlt : nzF row n 0 < n := by omega
    have hnz := nzF_nz (l := row) (f := n) (i := 0) (by omega)
    generalize nzF row n 0 = at_ at hlt hnz
    have hrg := h2 at_
    obtain ⟨v1, v2, v3⟩ := invV_ok hP (a := row.getD at_ 0) (by omega)
    have hc : Cg p (row.getD at_ 0 * invV p (row.getD at_ 0)) 1 := by
      rw [Int.mul_comm]
      exact Cg.of_emod (by rw [v1]; exact (Int.emod_eq_of_lt (by omega) (by omega)).symm)
    obtain ⟨g1, g2⟩ := b1.indep hp hi h1' hlt hnz hc (V' := Ef (rows ++ [svMul p (invV p (row.getD at_ 0)) row row.length])) (ld' := ldF (leads ++ [((at_ : Nat) : Int)]))
      (fun k hk l hl => by rw [Ef, Ef, getD_init hk]) (fun k hk => by rw [ldF, ldF, getD_init (by omega)]) (by rw [ldF, ← b3, getD_last]; simp) (fun l hl => by
        rw [Ef, getD_last, svMul_get (by omega), if_pos (by omega), tmod_pos hp]
        exact Int.mul_nonneg (h2 l).1 (by omega))
    refine ⟨⟨by simpa using g2, b2.app (by rw [svMul_length]; exact hlen) (svMul_rng hp (by omega) h2), by simp [b3], fun k hk => ?_, by simp; omega⟩, .inr ⟨g1, by simp⟩⟩
    simp only [List.length_append, List.length_singleton] at hk
    dsimp only
    by_cases e2 : k < leads.length
    · rw [getD_init e2]; exact b4 k e2
    · have : k = leads.length := by omega
      subst this
      rw [getD_last]; omega
theorem bsL_inv (hP : isP p = true) (h : modL p l) : ∀ i, i ≤ r → BsI p nb l n r (bsL p na nb l n r i) i
  | 0, _ => ⟨Bas.zero, ⟨fun _ h => by simp [bsL] at h, fun _ _ h => by simp [bsL] at h⟩, rfl, fun k h => by simp [bsL] at h, Nat.le_refl _⟩
  | i + 1, hi => (bsStep_inv hP h (by omega) (bsL_inv hP h i (by omega))).1
theorem bsL_len (hP : isP p = true) (h : modL p l) {i : Nat} (hi : i < r) : Dep p (tabM p nb l) n i ∧ (bsL p na nb l n r (i + 1)).1.length = (bsL p na nb l n r i).1.length ∨ ¬ Dep p (tabM p nb l) n i ∧ (bsL p na nb l n r (i + 1)).1.length = (bsL p na nb l n r i).1.length + 1 :=
  (bsStep_inv hP h hi (bsL_inv hP h i (by omega))).2

/-- The rows of the equations: the tables' numbers, then the right sides. -/
def sysRow (p : Int) (nb : Nat) (l : List Int) (r : Nat) (W : Nat → List Int) (a : Nat) : List Int := (List.range r).map (fun j => tabN p nb l j a) ++ W a
def sysR (p : Int) (nb : Nat) (l : List Int) (r : Nat) (W : Nat → List Int) (t : Nat) : List (List Int) := (List.range t).map (sysRow p nb l r W)
theorem sysR_length (W : Nat → List Int) (t : Nat) : (sysR p nb l r W t).length = t := by simp [sysR]
theorem sysR_succ (W : Nat → List Int) (t : Nat) : sysR p nb l r W (t + 1) = sysR p nb l r W t ++ [sysRow p nb l r W t] := by simp [sysR, List.range_succ]
theorem sysR_get {W : Nat → List Int} {t a : Nat} (h : a < t) : (sysR p nb l r W t).getD a [] = sysRow p nb l r W a := by
  simp [sysR, List.getD_eq_getElem?_getD, h]
theorem sysR_ok (hp : 2 ≤ p) (h : modL p l) {W : Nat → List Int} {c t : Nat} (hW : ∀ a, a < t → (W a).length = c ∧ ∀ j, 0 ≤ (W a).getD j 0 ∧ (W a).getD j 0 < p) : RkOk p (r + c) (sysR p nb l r W t) := by
  constructor
  · intro i hi
    rw [sysR_length] at hi
    rw [sysR_get hi, sysRow, List.length_append, (hW i hi).1]; simp
  · intro i j hi
    rw [sysR_length] at hi
    rw [sysR_get hi, sysRow, getD_app]
    split
    · rename_i hj
      have hj' : j < r := by simpa using hj
      rw [show ((List.range r).map fun j => tabN p nb l j i).getD j 0 = tabN p nb l j i by simp [List.getD_eq_getElem?_getD, hj']]
      exact tabN_rng hp h
    · exact (hW i hi).2 _
theorem sysR_M {W : Nat → List Int} {t a j : Nat} (ha : a < t) (hj : j < r) : Ef (sysR p nb l r W t) a j = tabM p nb l a j := by
  rw [Ef, sysR_get ha, sysRow, getD_app, if_pos (by simpa using hj)]
  simp [List.getD_eq_getElem?_getD, hj, tabM]
theorem sysR_W {W : Nat → List Int} {t a c : Nat} (ha : a < t) : Ef (sysR p nb l r W t) a (r + c) = (W a).getD c 0 := by
  rw [Ef, sysR_get ha, sysRow, getD_app, if_neg (by simp)]
  simp
theorem Dep.ext {M M' : Nat → Nat → Int} {i : Nat} (h : ∀ a, a < n → ∀ j, j ≤ i → M a j = M' a j) : Dep p M n i ↔ Dep p M' n i := by
  have e : ∀ (x : Nat → Int) a, a < n → sumF (fun j => M a j * x j) (i + 1) = sumF (fun j => M' a j * x j) (i + 1) := fun x a ha => sumF_congr fun j hj => by rw [h a ha j (by omega)]
  constructor
  · rintro ⟨x, h1, h2⟩
    exact ⟨x, h1, fun a ha => by rw [← e x a ha]; exact h2 a ha⟩
  · rintro ⟨x, h1, h2⟩
    exact ⟨x, h1, fun a ha => by rw [e x a ha]; exact h2 a ha⟩
theorem sys_dep {W : Nat → List Int} {i : Nat} (hi : i < r) : Dep p (Ef (sysR p nb l r W n)) n i ↔ Dep p (tabM p nb l) n i :=
  Dep.ext fun a ha j hj => sysR_M ha (by omega)
/-- Both ranks. -/
theorem rank_eq (hP : isP p = true) (h : modL p l) {W : Nat → List Int} {c : Nat} (hW : ∀ a, a < n → (W a).length = c ∧ ∀ j, 0 ≤ (W a).getD j 0 ∧ (W a).getD j 0 < p) : (bsL p na nb l n r r).1.length = nnC (svL p (sysR p nb l r W n) r).2.1 r := by
  have hp : 2 ≤ p := by simp [isP] at hP; omega
  obtain ⟨s1, s2, s3, s4, s5⟩ := svL_inv (w := r + c) hP (sysR_ok (nb := nb) (l := l) hp h hW) r (by omega)
  rw [sysR_length] at s4 s5
  have key : ∀ i, i ≤ r → (bsL p na nb l n r i).1.length = nnC (svL p (sysR p nb l r W n) r).2.1 i := by
    intro i
    induction i with
    | zero => intro _; rfl
    | succ i ih =>
      intro hi
      have hd := (s4.dep hp s5 (by omega) i (by omega)).symm.trans (sys_dep (by omega))
      rw [atF] at hd
      rw [nnC, ← ih (by omega)]
      rcases s4.p1 i (by omega) with e | ⟨k, _, e⟩ <;> rw [atF] at e <;> rcases bsL_len (na := na) (nb := nb) (n := n) (r := r) hP h (show i < r by omega) with ⟨h1, h2⟩ | ⟨h1, h2⟩
      · rw [if_neg (by omega), h2]
      · exact absurd (hd.1 e) h1
      · have := hd.2 h1; omega
      · rw [if_pos (by omega), h2]
  exact key r (Nat.le_refl _)
end
end Go.Proofs.Ytcmmbnhdfkcpdaa
