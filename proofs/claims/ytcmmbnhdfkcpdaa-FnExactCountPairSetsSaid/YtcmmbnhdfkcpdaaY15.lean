/- Completing pairs, both sides. -/
import Derived.Test.YtcmmbnhdfkcpdaaY13
namespace Go.Proofs.Ytcmmbnhdfkcpdaa
open Go Go.Abs
set_option maxRecDepth 100000

set_option maxRecDepth 100000
set_option maxHeartbeats 16000000
set_option linter.unusedVariables false
attribute [-simp] List.getD_eq_getElem?_getD
attribute [-go_sem] confV

theorem CpA.of {p : Int} {n m k r : Nat} {l : List Int} (h : prCode p n m k r l = 0) (hl : l.length = r * 18) (hb : byteL l) : CpA p n m k (n * m) (m * k) (n * k) r l := by
  obtain ⟨hP, hsn, hsm, hsk, hpr, h30⟩ := prCode_ok h
  exact ⟨hP, hsn, hsm, hsk, rfl, rfl, rfl, hpr, h30, hl, hb⟩
/-- Whether pairs can be completed, and with which forms. -/
def cpOk (p : Int) (n m k r : Nat) (l : List Int) : Bool := okS p (n * m) (m * k) l (n * m * (m * k)) r m k (n * k)
def cpF (p : Int) (n m k r : Nat) (l : List Int) : Nat → List Int := formS p m k (n * m) (m * k) (n * k) l r (n * m * (m * k))
theorem cp_ok_eq {p : Int} {n m k r : Nat} {l : List Int} (hP : isP p = true) (hmod : modL p l) : okR (solP p m k (m * k) (n * k) l r (n * m * (m * k))).1 (solP p m k (m * k) (n * k) l r (n * m * (m * k))).2.2 r = cpOk p n m k r l := (comp_eq (na := n * m) hP hmod).1
theorem cp_form_eq {p : Int} {n m k r : Nat} {l : List Int} (hP : isP p = true) (hmod : modL p l) (h : cpOk p n m k r l = true) :
    cmpP l (formI (solP p m k (m * k) (n * k) l r (n * m * (m * k))).1 (solP p m k (m * k) (n * k) l r (n * m * (m * k))).2.1 r (n * k)) r = cmpP l (cpF p n m k r l) r ∧ cmpN (formI (solP p m k (m * k) (n * k) l r (n * m * (m * k))).1 (solP p m k (m * k) (n * k) l r (n * m * (m * k))).2.1 r (n * k)) r = cmpN (cpF p n m k r l) r :=
  cmp_congr r fun i hi => cofL_congr fun z hz => (comp_eq (na := n * m) hP hmod).2 h i hi z hz
section
variable {c : Cell} {rs : List (Nat × AObj)} {r : Nat} {l : List Int}
theorem implCp_no {p : Int} {n m k : Nat} {cc : Cell} (A : CpA p n m k (n * m) (m * k) (n * k) r l) (hc : Sl 18 (u8s l) r c rs) (h : cpOk p n m k r l = false) :
    FSpec Try.prog 83 [.agg (tenC p n m k cc), .c c] (.tup [.agg (tenC 0 0 0 0 .nils), .c (.bool false)]) rs [] :=
  implComplete A hc (fun _ => ⟨rfl, rfl⟩) fun hy => by rw [cp_ok_eq A.P A.mod, h] at hy; cases hy
theorem implCp_yes {p : Int} {n m k : Nat} {cc : Cell} (A : CpA p n m k (n * m) (m * k) (n * k) r l) (hc : Sl 18 (u8s l) r c rs) (h : cpOk p n m k r l = true) (x : Nat) (hx : ∀ q ∈ rs, q.1 ≠ x) :
    FSpec Try.prog 83 [.agg (tenC p n m k cc), .c c] (.tup [.agg (tenC p n m k (.slice x 0 (cmpN (cpF p n m k r l) r) 27)), .c (.bool true)]) rs [(x, .live ⟨u8s (cmpP l (cpF p n m k r l) r), true⟩)] := by
  obtain ⟨h1, h2⟩ := cp_form_eq A.P A.mod h
  rw [← h1, ← h2]
  exact implComplete A hc (fun hn => by rw [cp_ok_eq A.P A.mod, h] at hn; cases hn) fun _ => ⟨x, hx, rfl, rfl⟩
theorem specCp_no {p : Int} {n m k : Nat} {cc : Cell} (A : CpA p n m k (n * m) (m * k) (n * k) r l) (hc : Sl 18 (u8s l) r c rs) (h : cpOk p n m k r l = false) :
    FSpec Try.prog 82 [.agg (tenC p n m k cc), .c c] (.tup [.agg (tenC 0 0 0 0 .nils), .c (.bool false)]) rs [] :=
  specComplete A hc (fun _ => ⟨rfl, rfl⟩) fun hy => by rw [show okS p (n * m) (m * k) l (n * m * (m * k)) r m k (n * k) = false from h] at hy; cases hy
theorem specCp_yes {p : Int} {n m k : Nat} {cc : Cell} (A : CpA p n m k (n * m) (m * k) (n * k) r l) (hc : Sl 18 (u8s l) r c rs) (h : cpOk p n m k r l = true) (x : Nat) (hx : ∀ q ∈ rs, q.1 ≠ x) :
    FSpec Try.prog 82 [.agg (tenC p n m k cc), .c c] (.tup [.agg (tenC p n m k (.slice x 0 (cmpN (cpF p n m k r l) r) 27)), .c (.bool true)]) rs [(x, .live ⟨u8s (cmpP l (cpF p n m k r l) r), true⟩)] :=
  specComplete A hc (fun hn => by rw [show okS p (n * m) (m * k) l (n * m * (m * k)) r m k (n * k) = true from h] at hn; cases hn) fun _ => ⟨x, hx, rfl, rfl⟩
end
end Go.Proofs.Ytcmmbnhdfkcpdaa
