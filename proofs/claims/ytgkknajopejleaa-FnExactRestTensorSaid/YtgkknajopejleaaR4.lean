/- Both rest tensors are the same. -/
import Derived.Test.YtgkknajopejleaaR2
namespace Go.Proofs.Ytgkknajopejleaa
open Go Go.Abs
set_option maxRecDepth 100000
set_option maxHeartbeats 8000000
set_option linter.unusedVariables false
attribute [-simp] List.getD_eq_getElem?_getD

abbrev Pl := Option (Nat × Nat)
def valI (W : Nat → List Int) : Pl → Int
  | none => 0
  | some q => (W q.1).getD q.2 0
def fkI (d t i : Nat) (o : List Pl) (k : Nat) : List Pl := (List.range k).foldl (fun o k => o.set ((i * d + t - i) * d + k) (some (t, k))) o
def fiI (d t i0 : Nat) (o : List Pl) (n : Nat) : List Pl := (List.range n).foldl (fun o j => fkI d t (i0 + j) o d) o
def ftI (d : Nat) (o : List Pl) (t : Nat) : List Pl := (List.range t).foldl (fun o t => fiI d t (t + 1 - d) o (min d (t + 1) - (t + 1 - d))) o
theorem foldl_map_eq {α β γ : Type} (v : α → β) {f : List β → γ → List β} {g : List α → γ → List α} (h : ∀ o x, f (o.map v) x = (g o x).map v) : ∀ (l : List γ) (o : List α), l.foldl f (o.map v) = (l.foldl g o).map v
  | [], _ => rfl
  | x :: l, o => by rw [List.foldl_cons, List.foldl_cons, h, foldl_map_eq v h l]
theorem fk_val (W : Nat → List Int) (d t i : Nat) (o : List Pl) (k : Nat) : fk d t i (W t) (o.map (valI W)) k = (fkI d t i o k).map (valI W) :=
  foldl_map_eq (valI W) (fun o k => by rw [List.map_set]; rfl) _ _
theorem fi_val (W : Nat → List Int) (d t i0 : Nat) (o : List Pl) (n : Nat) : fi d t i0 (W t) (o.map (valI W)) n = (fiI d t i0 o n).map (valI W) :=
  foldl_map_eq (valI W) (fun o j => fk_val W d t _ o d) _ _
theorem ft_val (p : Int) (l : List Int) (d : Nat) (o : List Pl) (t : Nat) : ft p l d (o.map (valI (rowR p l d))) t = (ftI d o t).map (valI (rowR p l d)) :=
  foldl_map_eq (valI (rowR p l d)) (fun o t => fi_val (rowR p l d) d t _ o _) _ _
def tenI (d : Nat) : List Pl := (List.range d).flatMap fun a => (List.range d).flatMap fun b => (List.range d).map fun e => some (a + b, e)
theorem tenI_val (W : Nat → List Int) (d : Nat) : tenUp (fun a b e => (W (a + b)).getD e 0) d d d 0 0 = (tenI d).map (valI W) := by
  simp [tenUp, tenI, List.map_flatMap, valI, Function.comp_def]
theorem restChk1 : ftI 1 (List.replicate 1 none) 1 = tenI 1 := by kernel_rfl
theorem restChk2 : ftI 2 (List.replicate 8 none) 3 = tenI 2 := by kernel_rfl
theorem restChk3 : ftI 3 (List.replicate 27 none) 5 = tenI 3 := by kernel_rfl
theorem restChk4 : ftI 4 (List.replicate 64 none) 7 = tenI 4 := by kernel_rfl
theorem rest_same {p : Int} {l : List Int} {d : Nat} (hp : 2 ≤ p ∧ p ≤ 5) (hl : numsOk p l = true) (hd : 1 ≤ d ∧ d ≤ 4) :
    tenUp (fun a b e => ((rowR p l d (a + b)).getD e 0).tmod p) d d d 0 0 = ft p l d (List.replicate (d * d * d) 0) (2 * d - 1) := by
  have e : (fun a b e => ((rowR p l d (a + b)).getD e 0).tmod p) = fun a b e => (rowR p l d (a + b)).getD e 0 := by
    funext a b e
    have := numsOk_get (rowR_ok (d := d) hp hl (a + b)).2 (by omega) e
    exact Int.tmod_eq_of_lt this.1 this.2
  have e2 : List.replicate (d * d * d) (0 : Int) = (List.replicate (d * d * d) (none : Pl)).map (valI (rowR p l d)) := by rw [List.map_replicate]; rfl
  rw [e, tenI_val, e2, ft_val]
  congr 1
  have : d = 1 ∨ d = 2 ∨ d = 3 ∨ d = 4 := by omega
  rcases this with rfl | rfl | rfl | rfl
  · exact restChk1.symm
  · exact restChk2.symm
  · exact restChk3.symm
  · exact restChk4.symm
end Go.Proofs.Ytgkknajopejleaa
