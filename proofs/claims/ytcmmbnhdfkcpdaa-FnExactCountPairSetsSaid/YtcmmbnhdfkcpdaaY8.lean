/- Completed schemes: both eliminations complete alike. -/
import Derived.Test.YtcmmbnhdfkcpdaaY4
namespace Go.Proofs.Ytcmmbnhdfkcpdaa
open Go Go.Abs
set_option maxRecDepth 100000

set_option maxRecDepth 100000
set_option linter.unusedVariables false
attribute [-simp] List.getD_eq_getElem?_getD

/-- A row whose numbers from r on are 0. -/
def tailZ (row : List Int) (r : Nat) : Bool := (row.drop r).all fun m => m == 0
theorem tailZ_iff {row : List Int} {r : Nat} : tailZ row r = true ↔ ∀ j, row.getD (r + j) 0 = 0 := by
  have e : ∀ j, row.getD (r + j) 0 = (row.drop r).getD j 0 := fun j => by simp only [List.getD_eq_getElem?_getD, List.getElem?_drop]
  unfold tailZ
  rw [List.all_eq_true]
  constructor
  · intro h j
    rw [e]
    by_cases hj : j < (row.drop r).length
    · have := h _ (List.getElem_mem hj)
      rw [List.getD_eq_getElem?_getD, List.getElem?_eq_getElem hj]
      simpa using this
    · exact getD_none (by omega)
  · intro h m hm
    obtain ⟨j, hj, rfl⟩ := List.mem_iff_getElem.1 hm
    have := h j
    rw [e, List.getD_eq_getElem?_getD, List.getElem?_eq_getElem hj] at this
    simpa using this
/-- The equations that are left hold. -/
def okR (R : List (List Int)) (d r : Nat) : Bool := (List.range (R.length - d)).all fun i => tailZ (R.getD (d + i) []) r
theorem okR_iff {R : List (List Int)} {d r : Nat} : okR R d r = true ↔ ∀ k, d ≤ k → k < R.length → ∀ j, (R.getD k []).getD (r + j) 0 = 0 := by
  unfold okR
  rw [List.all_eq_true]
  constructor
  · intro h k h1 h2 j
    have := tailZ_iff.1 (h (k - d) (by simp; omega)) j
    rwa [show d + (k - d) = k from by omega] at this
  · intro h i hi
    simp only [List.mem_range] at hi
    exact tailZ_iff.2 fun j => h (d + i) (by omega) (by omega) j
/-- The right sides at one place of Z, and 0 for all pairs. -/
def rhsL (m k : Int) (nb n r z : Nat) : List Int := (List.range n).map (fun a => wantV m k ((a / nb : Nat) : Int) ((a % nb : Nat) : Int) ((z : Nat) : Int)) ++ List.replicate r 0
theorem rhsL_length (m k : Int) (nb n r z : Nat) : (rhsL m k nb n r z).length = n + r := by simp [rhsL]
def redL (p : Int) (na nb : Nat) (l : List Int) (n r : Nat) (m k : Int) (z : Nat) : List Int := bsRed p (bsL p na nb l n r r).1 (bsL p na nb l n r r).2 (rhsL m k nb n r z) (bsL p na nb l n r r).1.length
def okS1 (row : List Int) (n : Nat) : Bool := (List.range n).all fun a => row.getD a 0 == 0
theorem okS1_iff {row : List Int} {n : Nat} : okS1 row n = true ↔ ∀ a, a < n → row.getD a 0 = 0 := by
  unfold okS1
  rw [List.all_eq_true]
  exact ⟨fun h a ha => by simpa using h a (by simpa using ha), fun h a ha => by simpa using h a (by simpa using ha)⟩
def okS (p : Int) (na nb : Nat) (l : List Int) (n r : Nat) (m k : Int) (t : Nat) : Bool := (List.range t).all fun z => okS1 (redL p na nb l n r m k z) n
/-- The number of pair i at a place of Z. -/
def cofI (R : List (List Int)) (at_ : List Int) (r i z : Nat) : Int := if at_.getD i 0 = -1 then 0 else (R.getD (at_.getD i 0).toNat []).getD (r + z) 0
def cofS (p : Int) (row : List Int) (n i : Nat) : Int := ((-row.getD (n + i) 0).tmod p + p).tmod p
section
variable {p : Int} {na nb n r nc : Nat} {l : List Int} {m k : Int}
theorem Sol.ext {M M' : Nat → Nat → Int} {W W' x : Nat → Int} (hM : ∀ a, a < n → ∀ j, j < r → M a j = M' a j) (hW : ∀ a, a < n → W a = W' a) (h : Sol p M n r W x) : Sol p M' n r W' x := by
  refine ⟨fun a ha => ?_, fun j hj hd => h.dep j hj ((Dep.ext fun a ha i hi => hM a ha i (by omega)).2 hd), h.rng⟩
  have e : sumF (fun j => M' a j * x j) r = sumF (fun j => M a j * x j) r := sumF_congr fun j hj => by rw [hM a ha j hj]
  rw [← hW a ha, e]
  exact h.eqn a ha
theorem cofS_eq (hp : 2 ≤ p) (row : List Int) (n i : Nat) : cofS p row n i = (-row.getD (n + i) 0) % p := by
  have := rkX_eq (p := p) (f := 1) (x := 0) (y := row.getD (n + i) 0) hp
  rw [rkX, Int.one_mul, Int.zero_sub] at this
  exact this
theorem rhsL_get (z a : Nat) (ha : a < n + r) : (rhsL m k nb n r z).getD a 0 = rhsV (fun a => wantV m k ((a / nb : Nat) : Int) ((a % nb : Nat) : Int) ((z : Nat) : Int)) n a := by
  rw [rhsL, getD_app, rhsV]
  simp only [List.length_map, List.length_range]
  by_cases e : a < n
  · rw [if_pos e, if_pos e]; simp [List.getD_eq_getElem?_getD, e]
  · rw [if_neg e, if_neg e, List.getD_eq_getElem?_getD, List.getElem?_replicate]
    split <;> rfl
theorem rhsL_rng (hp : 2 ≤ p) (z j : Nat) : 0 ≤ (rhsL m k nb n r z).getD j 0 ∧ (rhsL m k nb n r z).getD j 0 < p := by
  by_cases h : j < n + r
  · rw [rhsL_get z j h, rhsV]
    split
    · have := wantV_rng m k ((j / nb : Nat) : Int) ((j % nb : Nat) : Int) ((z : Nat) : Int); omega
    · omega
  · rw [getD_none (by rw [rhsL_length]; omega)]; omega
theorem redL_inv (hP : isP p = true) (hmod : modL p l) (z : Nat) : Red p (Ef (bsL p na nb l n r r).1) (ldF (bsL p na nb l n r r).2) (n + r) (rhsV (fun a => wantV m k ((a / nb : Nat) : Int) ((a % nb : Nat) : Int) ((z : Nat) : Int)) n) (fun a => (redL p na nb l n r m k z).getD a 0) (bsL p na nb l n r r).1.length ∧ ∀ j, 0 ≤ (redL p na nb l n r m k z).getD j 0 ∧ (redL p na nb l n r m k z).getD j 0 < p := by
  have hp : 2 ≤ p := by simp [isP] at hP; omega
  have hB := bsL_inv (na := na) (nb := nb) (n := n) (r := r) hP hmod r (Nat.le_refl _)
  obtain ⟨⟨⟨y, hy⟩, r2, rg⟩, h2⟩ := bsRed_inv hp hB.bas hB.ok (rhsL_length m k nb n r z) (rhsL_rng hp z) (bsL p na nb l n r r).1.length (Nat.le_refl _)
  exact ⟨⟨⟨y, fun a ha => by rw [← rhsL_get z a ha]; exact hy a ha⟩, r2, rg⟩, h2⟩
/-- Both complete, or neither; and with the same numbers. -/
theorem comp_eq (hP : isP p = true) (hmod : modL p l) : okR (svL p (sysR p nb l r (wantL m k nb nc) n) r).1 (svL p (sysR p nb l r (wantL m k nb nc) n) r).2.2 r = okS p na nb l n r m k nc ∧
    (okS p na nb l n r m k nc = true → ∀ i, i < r → ∀ z, z < nc → cofI (svL p (sysR p nb l r (wantL m k nb nc) n) r).1 (svL p (sysR p nb l r (wantL m k nb nc) n) r).2.1 r i z = cofS p (redL p na nb l n r m k z) n i) := by
  have hp : 2 ≤ p := by simp [isP] at hP; omega
  have hW : ∀ a, a < n → (wantL m k nb nc a).length = nc ∧ ∀ j, 0 ≤ (wantL m k nb nc a).getD j 0 ∧ (wantL m k nb nc a).getD j 0 < p := fun a _ => ⟨wantL_length .., wantL_rng hp nb nc a⟩
  obtain ⟨s1, s2, s3, s4, s5⟩ := svL_inv (w := r + nc) hP (sysR_ok (nb := nb) (l := l) hp hmod hW) r (by omega)
  have hB := bsL_inv (na := na) (nb := nb) (n := n) (r := r) hP hmod r (Nat.le_refl _)
  have hM : ∀ a, a < n → ∀ j, j < r → Ef (sysR p nb l r (wantL m k nb nc) n) a j = tabM p nb l a j := fun a ha j hj => sysR_M ha hj
  have hWz : ∀ z, z < nc → ∀ a, a < n → Ef (sysR p nb l r (wantL m k nb nc) n) a (r + z) = wantV m k ((a / nb : Nat) : Int) ((a % nb : Nat) : Int) ((z : Nat) : Int) := fun z hz a ha => by rw [sysR_W ha, wantL_get hz]
  rw [sysR_length] at s2 s4 s5
  generalize svL p (sysR p nb l r (wantL m k nb nc) n) r = S at s1 s2 s3 s4 s5 ⊢
  obtain ⟨R', at_, d⟩ := S
  dsimp only at s1 s2 s3 s4 s5 ⊢
  -- ours at a place
  have solI : okR R' d r = true → ∀ z, z < nc → Sol p (tabM p nb l) n r (fun a => wantV m k ((a / nb : Nat) : Int) ((a % nb : Nat) : Int) ((z : Nat) : Int)) (fun j => if atF at_ j = -1 then 0 else Ef R' (atF at_ j).toNat (r + z)) := by
    intro h z hz
    have h0 := okR_iff.1 h
    exact Sol.ext hM (hWz z hz) (s4.sol (q := z) (w := r + nc) hp s5 (by omega) (fun q hq => s1.rng q _ (by omega)) fun q h1 h2 => h0 q h1 (by omega) z)
  have noI : ¬ okR R' d r = true → ∃ z, z < nc ∧ ∀ x, ¬ Sol p (tabM p nb l) n r (fun a => wantV m k ((a / nb : Nat) : Int) ((a % nb : Nat) : Int) ((z : Nat) : Int)) x := by
    intro h
    rw [okR_iff] at h
    have : ∃ q, d ≤ q ∧ q < R'.length ∧ ∃ j, (R'.getD q []).getD (r + j) 0 ≠ 0 := by
      apply Classical.byContradiction
      intro hno
      refine h fun q h1 h2 j => ?_
      apply Classical.byContradiction
      intro hne
      exact hno ⟨q, h1, h2, j, hne⟩
    obtain ⟨q, h1, h2, j, hne⟩ := this
    have hj : j < nc := by
      apply Classical.byContradiction
      intro hge
      exact hne (getD_none (by rw [s1.len q h2]; omega))
    refine ⟨j, hj, fun x hx => ?_⟩
    have hx' : Sol p (Ef (sysR p nb l r (wantL m k nb nc) n)) n r (fun a => Ef (sysR p nb l r (wantL m k nb nc) n) a (r + j)) x := Sol.ext (fun a ha i hi => (hM a ha i hi).symm) (fun a ha => (hWz j hj a ha).symm) hx
    exact s4.nosol (q := j) (k := q) (w := r + nc) hp s5 (by omega) (s1.rng q _ h2) h1 (by omega) hne x hx'
  have solS : ∀ z, okS1 (redL p na nb l n r m k z) n = true → Sol p (tabM p nb l) n r (fun a => wantV m k ((a / nb : Nat) : Int) ((a % nb : Nat) : Int) ((z : Nat) : Int)) (fun j => (-(redL p na nb l n r m k z).getD (n + j) 0) % p) := fun z h =>
    hB.bas.sol hp (redL_inv hP hmod z).1 (okS1_iff.1 h)
  have noS : ∀ z, ¬ okS1 (redL p na nb l n r m k z) n = true → ∀ x, ¬ Sol p (tabM p nb l) n r (fun a => wantV m k ((a / nb : Nat) : Int) ((a % nb : Nat) : Int) ((z : Nat) : Int)) x := by
    intro z h x
    rw [okS1_iff] at h
    have : ∃ a, a < n ∧ (redL p na nb l n r m k z).getD a 0 ≠ 0 := by
      apply Classical.byContradiction
      intro hno
      refine h fun a ha => ?_
      apply Classical.byContradiction
      intro hne
      exact hno ⟨a, ha, hne⟩
    obtain ⟨a, ha, hne⟩ := this
    exact hB.bas.nosol hp (redL_inv hP hmod z).1 ha hne x
  have okS_iff : okS p na nb l n r m k nc = true ↔ ∀ z, z < nc → okS1 (redL p na nb l n r m k z) n = true := by
    unfold okS
    rw [List.all_eq_true]
    exact ⟨fun h z hz => h z (by simpa using hz), fun h z hz => h z (by simpa using hz)⟩
  have hiff : okR R' d r = true ↔ okS p na nb l n r m k nc = true := by
    rw [okS_iff]
    constructor
    · intro h z hz
      apply Classical.byContradiction
      intro hno
      exact noS z hno _ (solI h z hz)
    · intro h
      apply Classical.byContradiction
      intro hno
      obtain ⟨z, hz, hx⟩ := noI hno
      exact hx _ (solS z (h z hz))
  refine ⟨Bool.eq_iff_iff.2 hiff, fun h i hi z hz => ?_⟩
  have := (solI (hiff.2 h) z hz).unique (isP_inv hP) (solS z (okS_iff.1 h z hz)) i hi
  rw [cofS_eq hp]
  exact this
end
theorem nnC_snoc {l : List Int} {x : Int} : ∀ {t : Nat}, t ≤ l.length → nnC (l ++ [x]) t = nnC l t
  | 0, _ => rfl
  | t + 1, h => by
    have ih := nnC_snoc (x := x) (l := l) (t := t) (by omega)
    have hg : (l ++ [x]).getD t 0 = l.getD t 0 := by rw [getD_app, if_pos (by omega)]
    rw [nnC, nnC, ih, hg]
/-- The pivots are as many as the rows that are used. -/
theorem svL_nn (p : Int) (R : List (List Int)) : ∀ c, (svL p R c).2.1.length = c ∧ nnC (svL p R c).2.1 c = (svL p R c).2.2
  | 0 => ⟨rfl, rfl⟩
  | c + 1 => by
    obtain ⟨h1, h2⟩ := svL_nn p R c
    have e : svL p R (c + 1) = svStep p (svL p R c) c := rfl
    rw [e]
    have hg : ∀ x : Int, ((svL p R c).2.1 ++ [x]).getD c 0 = x := fun x => by rw [getD_app, if_neg (by omega), h1, Nat.sub_self]; rfl
    unfold svStep
    split
    · refine ⟨by simp [h1], ?_⟩
      dsimp only
      rw [nnC, nnC_snoc (by omega), h2, hg, if_pos (by omega)]
    · refine ⟨by simp [h1], ?_⟩
      dsimp only
      rw [nnC, nnC_snoc (by omega), h2, hg, if_neg (by omega)]
end Go.Proofs.Ytcmmbnhdfkcpdaa
