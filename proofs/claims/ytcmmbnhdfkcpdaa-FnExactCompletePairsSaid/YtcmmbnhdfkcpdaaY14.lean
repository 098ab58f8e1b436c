/- CompletePairs, both sides. -/
import Derived.Test.YtcmmbnhdfkcpdaaY13
namespace Go.Proofs.Ytcmmbnhdfkcpdaa
open Go Go.Abs
set_option maxRecDepth 100000
/- loop.example/g01262/impl.CompletePairs -/
def c_impl_CompletePairs : SFn := ⟨(.seq (.ops [⟨some 10, .alloc 41, none⟩, ⟨some 11, .assign (.const (.int .i64 0)), none⟩])
 (.seq (.seq (.ops [⟨some 15, .move (.tmp 0), none⟩, ⟨some 16, .move (.tmp 1), none⟩, ⟨some 17, .move (.tmp 2), none⟩, ⟨some 18, .move (.tmp 3), none⟩, ⟨some 19, .move (.tmp 4), none⟩, ⟨some 20, .call ⟨.value (.func 78), #[.tmp 15, .tmp 16, .tmp 17, .tmp 18, .tmp 19], #[2, 2, 2, 2, 35]⟩, none⟩, ⟨some 12, .assign (.tmp 20), none⟩])
   (.seq (.ops [⟨some 21, .move (.tmp 12), none⟩, ⟨some 22, .binOp .neq 2 (.tmp 21) (.const (.int .i64 0)) 2, none⟩])
    (.cond (.tmp 22) (.seq (.ops [⟨some 23, .build 41 #[], none⟩, ⟨some 24, .move (.tmp 12), none⟩, ⟨none, .store 41 (.tmp 10) (.tmp 23), none⟩, ⟨some 11, .assign (.tmp 24), none⟩])
      .ret)
     .skip)))
  (.seq (.ops [⟨some 26, .move (.tmp 0), none⟩, ⟨some 27, .move (.tmp 1), none⟩, ⟨some 28, .move (.tmp 2), none⟩, ⟨some 29, .move (.tmp 3), none⟩, ⟨some 30, .build 41 #[(0, .tmp 26), (1, .tmp 27), (2, .tmp 28), (3, .tmp 29)], none⟩, ⟨some 31, .move (.tmp 4), none⟩, ⟨some 32, .call ⟨.value (.func 83), #[.tmp 30, .tmp 31], #[41, 35]⟩, none⟩, ⟨some 25, .move (.tmp 32), none⟩, ⟨some 33, .extract (.tmp 25) 0, none⟩, ⟨some 34, .extract (.tmp 25) 1, none⟩, ⟨some 13, .alloc 41, none⟩, ⟨none, .store 41 (.tmp 13) (.tmp 33), none⟩, ⟨some 14, .assign (.tmp 34), none⟩])
   (.seq (.seq (.ops [⟨some 35, .move (.tmp 14), none⟩, ⟨some 36, .unOp .not 4 (.tmp 35), none⟩])
     (.cond (.tmp 36) (.seq (.ops [⟨some 37, .build 41 #[], none⟩, ⟨none, .store 41 (.tmp 10) (.tmp 37), none⟩, ⟨some 11, .assign (.const (.int .i64 4)), none⟩])
       .ret)
      .skip))
    (.seq (.ops [⟨some 38, .load 41 (.tmp 13), none⟩, ⟨none, .store 41 (.tmp 10) (.tmp 38), none⟩, ⟨some 11, .assign (.const (.int .i64 0)), none⟩])
     .ret))))), [.cell 10 41, .tmp 11], 39⟩
theorem f_impl_CompletePairs : isFn Go.Proofs.Try.prog 22 = some c_impl_CompletePairs := by kernel_rfl

/- loop.example/g01262/spec.CompletePairs -/
def c_spec_CompletePairs : SFn := ⟨(.seq (.ops [⟨some 10, .alloc 41, none⟩, ⟨some 11, .assign (.const (.int .i64 0)), none⟩])
 (.seq (.seq (.ops [⟨some 15, .move (.tmp 0), none⟩, ⟨some 16, .move (.tmp 1), none⟩, ⟨some 17, .move (.tmp 2), none⟩, ⟨some 18, .move (.tmp 3), none⟩, ⟨some 19, .move (.tmp 4), none⟩, ⟨some 20, .call ⟨.value (.func 74), #[.tmp 15, .tmp 16, .tmp 17, .tmp 18, .tmp 19], #[2, 2, 2, 2, 35]⟩, none⟩, ⟨some 12, .assign (.tmp 20), none⟩])
   (.seq (.ops [⟨some 21, .move (.tmp 12), none⟩, ⟨some 22, .binOp .neq 2 (.tmp 21) (.const (.int .i64 0)) 2, none⟩])
    (.cond (.tmp 22) (.seq (.ops [⟨some 23, .build 41 #[], none⟩, ⟨some 24, .move (.tmp 12), none⟩, ⟨none, .store 41 (.tmp 10) (.tmp 23), none⟩, ⟨some 11, .assign (.tmp 24), none⟩])
      .ret)
     .skip)))
  (.seq (.ops [⟨some 26, .move (.tmp 0), none⟩, ⟨some 27, .move (.tmp 1), none⟩, ⟨some 28, .move (.tmp 2), none⟩, ⟨some 29, .move (.tmp 3), none⟩, ⟨some 30, .build 41 #[(0, .tmp 26), (1, .tmp 27), (2, .tmp 28), (3, .tmp 29)], none⟩, ⟨some 31, .move (.tmp 4), none⟩, ⟨some 32, .call ⟨.value (.func 82), #[.tmp 30, .tmp 31], #[41, 35]⟩, none⟩, ⟨some 25, .move (.tmp 32), none⟩, ⟨some 33, .extract (.tmp 25) 0, none⟩, ⟨some 34, .extract (.tmp 25) 1, none⟩, ⟨some 13, .alloc 41, none⟩, ⟨none, .store 41 (.tmp 13) (.tmp 33), none⟩, ⟨some 14, .assign (.tmp 34), none⟩])
   (.seq (.seq (.ops [⟨some 35, .move (.tmp 14), none⟩, ⟨some 36, .unOp .not 4 (.tmp 35), none⟩])
     (.cond (.tmp 36) (.seq (.ops [⟨some 37, .build 41 #[], none⟩, ⟨none, .store 41 (.tmp 10) (.tmp 37), none⟩, ⟨some 11, .assign (.const (.int .i64 4)), none⟩])
       .ret)
      .skip))
    (.seq (.ops [⟨some 38, .load 41 (.tmp 13), none⟩, ⟨none, .store 41 (.tmp 10) (.tmp 38), none⟩, ⟨some 11, .assign (.const (.int .i64 0)), none⟩])
     .ret))))), [.cell 10 41, .tmp 11], 39⟩
theorem f_spec_CompletePairs : isFn Go.Proofs.Try.prog 21 = some c_spec_CompletePairs := by kernel_rfl


set_option maxRecDepth 100000
set_option maxHeartbeats 16000000
set_option linter.unusedVariables false
attribute [-simp] List.getD_eq_getElem?_getD
attribute [-go_sem] confV

theorem CpA.of {p : Int} {n m k r : Nat} {l : List Int} (h : prCode p n m k r l = 0) (hl : l.length = r * 18) (hb : byteL l) : CpA p n m k (n * m) (m * k) (n * k) r l := by
  obtain ⟨hP, hsn, hsm, hsk, hpr, h30⟩ := prCode_ok h
  exact ⟨hP, hsn, hsm, hsk, rfl, rfl, rfl, hpr, h30, hl, hb⟩
/-- Whether pairs can be completed, and with which forms. -/
def cpOk (p : Int) (n m k r : Nat) (l : List Int) : Bool := okS p (n * m) (m * k) l (n * m * (m * k)) r m k (n * k)
def cpF (p : Int) (n m k r : Nat) (l : List Int) : Nat → List Int := formS p m k (n * m) (m * k) (n * k) l r (n * m * (m * k))
theorem cp_ok_eq {p : Int} {n m k r : Nat} {l : List Int} (hP : isP p = true) (hmod : modL p l) : okR (solP p m k (m * k) (n * k) l r (n * m * (m * k))).1 (solP p m k (m * k) (n * k) l r (n * m * (m * k))).2.2 r = cpOk p n m k r l := (comp_eq (na := n * m) hP hmod).1
theorem cp_form_eq {p : Int} {n m k r : Nat} {l : List Int} (hP : isP p = true) (hmod : modL p l) (h : cpOk p n m k r l = true) :
    cmpP l (formI (solP p m k (m * k) (n * k) l r (n * m * (m * k))).1 (solP p m k (m * k) (n * k) l r (n * m * (m * k))).2.1 r (n * k)) r = cmpP l (cpF p n m k r l) r ∧ cmpN (formI (solP p m k (m * k) (n * k) l r (n * m * (m * k))).1 (solP p m k (m * k) (n * k) l r (n * m * (m * k))).2.1 r (n * k)) r = cmpN (cpF p n m k r l) r :=
  cmp_congr r fun i hi => cofL_congr fun z hz => (comp_eq (na := n * m) hP hmod).2 h i hi z hz
section
variable {c : Cell} {rs : List (Nat × AObj)} {r : Nat} {l : List Int}
theorem implCp_no {p : Int} {n m k : Nat} {cc : Cell} (A : CpA p n m k (n * m) (m * k) (n * k) r l) (hc : Sl 18 (u8s l) r c rs) (hcc : ∀ N' : Nat, (∀ q ∈ rs, q.1 < N') → ltIds N' cc) (h : cpOk p n m k r l = false) :
    FSpec Try.prog 83 [.agg (tenC p n m k cc), .c c] (.tup [.agg (tenC 0 0 0 0 .nils), .c (.bool false)]) rs [] :=
  implComplete A hc hcc (fun _ => ⟨rfl, rfl⟩) fun hy => by rw [cp_ok_eq A.P A.mod, h] at hy; cases hy
theorem implCp_yes {p : Int} {n m k : Nat} {cc : Cell} (A : CpA p n m k (n * m) (m * k) (n * k) r l) (hc : Sl 18 (u8s l) r c rs) (hcc : ∀ N' : Nat, (∀ q ∈ rs, q.1 < N') → ltIds N' cc) (h : cpOk p n m k r l = true) (x : Nat) (hx : ∀ q ∈ rs, q.1 ≠ x) :
    FSpec Try.prog 83 [.agg (tenC p n m k cc), .c c] (.tup [.agg (tenC p n m k (.slice x 0 (cmpN (cpF p n m k r l) r) 27)), .c (.bool true)]) rs [(x, .live ⟨u8s (cmpP l (cpF p n m k r l) r), true⟩)] := by
  obtain ⟨h1, h2⟩ := cp_form_eq A.P A.mod h
  rw [← h1, ← h2]
  exact implComplete A hc hcc (fun hn => by rw [cp_ok_eq A.P A.mod, h] at hn; cases hn) fun _ => ⟨x, hx, rfl, rfl⟩
theorem specCp_no {p : Int} {n m k : Nat} {cc : Cell} (A : CpA p n m k (n * m) (m * k) (n * k) r l) (hc : Sl 18 (u8s l) r c rs) (hcc : ∀ N' : Nat, (∀ q ∈ rs, q.1 < N') → ltIds N' cc) (h : cpOk p n m k r l = false) :
    FSpec Try.prog 82 [.agg (tenC p n m k cc), .c c] (.tup [.agg (tenC 0 0 0 0 .nils), .c (.bool false)]) rs [] :=
  specComplete A hc hcc (fun _ => ⟨rfl, rfl⟩) fun hy => by rw [show okS p (n * m) (m * k) l (n * m * (m * k)) r m k (n * k) = false from h] at hy; cases hy
theorem specCp_yes {p : Int} {n m k : Nat} {cc : Cell} (A : CpA p n m k (n * m) (m * k) (n * k) r l) (hc : Sl 18 (u8s l) r c rs) (hcc : ∀ N' : Nat, (∀ q ∈ rs, q.1 < N') → ltIds N' cc) (h : cpOk p n m k r l = true) (x : Nat) (hx : ∀ q ∈ rs, q.1 ≠ x) :
    FSpec Try.prog 82 [.agg (tenC p n m k cc), .c c] (.tup [.agg (tenC p n m k (.slice x 0 (cmpN (cpF p n m k r l) r) 27)), .c (.bool true)]) rs [(x, .live ⟨u8s (cmpP l (cpF p n m k r l) r), true⟩)] :=
  specComplete A hc hcc (fun hn => by rw [show okS p (n * m) (m * k) l (n * m * (m * k)) r m k (n * k) = true from h] at hn; cases hn) fun _ => ⟨x, hx, rfl, rfl⟩
theorem nils_lt (N' : Nat) : ltIds N' .nils := fun i hi => by simp [Cell.ids] at hi
theorem implCP_err (p n m k : Int) (hc : Sl 18 (u8s l) r c rs) (hl : l.length = r * 18) (hn : r ≤ 1048576) (hb : byteL l) (h : prCode p n m k r l ≠ 0) :
    FSpec Try.prog 22 [.c (.int .i64 (p)), .c (.int .i64 (n)), .c (.int .i64 (m)), .c (.int .i64 (k)), .c c] (.tup [.agg (tenC 0 0 0 0 .nils), .c (.int .i64 (prCode p n m k r l))]) rs [] := by
  refine FSpec.of f_impl_CompletePairs (Nat.le_of_ble_eq_true rfl) fun G N hN hr hw => ?_
  simp only [c_impl_CompletePairs, List.length_cons, List.length_nil, List.replicate, List.cons_append, List.nil_append]
  repeat' (first | (with_reducible first | refine W1 ?_ | refine W2 ?_ | refine W3 ?_ | refine W4 mixed ?_ | refine W5 ?_ | refine W6 ?_ | refine W7 ?_ | refine W8 ?_ | refine W9 ?_ | refine V1 ?_ | refine V2 ?_ | refine V3 ?_ | refine V4 (by decide) ?_ | refine V5 ?_ | refine V6 ?_ | refine V7 ?_ | refine V8 ?_ | refine V9 ?_ | refine U1 ?_ | refine U2 ?_ | refine U3 ?_) | (with_reducible refine U4 ?_ ?_; next => first | omega | exact ⟨trivial, by omega⟩) | simp (maxSteps := 2000000) (discharger := first | omega | (simp (discharger := omega) only [Z1, Z2, Z3, Z4, Z5, Z6, Z7] <;> fail) | (simp (discharger := omega) only [Z3, Z8, Z2, Z4, Z1, Z7, Z5, Z6, Z9, Y1, Y2]; omega)) only [go_sem])
  refine call_ro (listCode_spec p n m k hc hl hn hb) (get_rd hr) ?_
  have y1 : (prCode p n m k r l != 0) = true := by simpa using h
  repeat' (first | (with_reducible first | refine W1 ?_ | refine W2 ?_ | refine W3 ?_ | refine W4 mixed ?_ | refine W5 ?_ | refine W6 ?_ | refine W7 ?_ | refine W8 ?_ | refine W9 ?_ | refine V1 ?_ | refine V2 ?_ | refine V3 ?_ | refine V4 (by decide) ?_ | refine V5 ?_ | refine V6 ?_ | refine V7 ?_ | refine V8 ?_ | refine V9 ?_ | refine U1 ?_ | refine U2 ?_ | refine U3 ?_) | (with_reducible refine U4 ?_ ?_; next => first | omega | exact ⟨trivial, by omega⟩) | ((with_reducible refine U5 _ rfl (fun hq => ?_) (fun hq => ?_)) <;> try (first | (cases hq; done) | exact absurd hq (by decide))) | ((with_reducible refine U6 (fun hq => ?_) (fun hq => ?_)) <;> try (first | (cases hq; done) | exact absurd hq (by decide))) | simp (maxSteps := 2000000) (discharger := first | omega | (simp (discharger := omega) only [Z1, Z2, Z3, Z4, Z5, Z6, Z7] <;> fail) | (simp (discharger := omega) only [Z3, Z8, Z2, Z4, Z1, Z7, Z5, Z6, Z9, Y1, Y2]; omega)) only [go_sem, y1])
  exact ret_none hN [.agg (tenC 0 0 0 0 .nils), .c (.int .i64 (prCode p n m k r l))] ⟨res_aggN (own := true) tyo_41 rfl rfl rfl rfl, rfl, trivial⟩ rfl rfl rfl (by simp)
theorem specCP_err (p n m k : Int) (hc : Sl 18 (u8s l) r c rs) (hl : l.length = r * 18) (hn : r ≤ 1048576) (hb : byteL l) (h : prCode p n m k r l ≠ 0) :
    FSpec Try.prog 21 [.c (.int .i64 (p)), .c (.int .i64 (n)), .c (.int .i64 (m)), .c (.int .i64 (k)), .c c] (.tup [.agg (tenC 0 0 0 0 .nils), .c (.int .i64 (prCode p n m k r l))]) rs [] := by
  refine FSpec.of f_spec_CompletePairs (Nat.le_of_ble_eq_true rfl) fun G N hN hr hw => ?_
  simp only [c_spec_CompletePairs, List.length_cons, List.length_nil, List.replicate, List.cons_append, List.nil_append]
  repeat' (first | (with_reducible first | refine W1 ?_ | refine W2 ?_ | refine W3 ?_ | refine W4 mixed ?_ | refine W5 ?_ | refine W6 ?_ | refine W7 ?_ | refine W8 ?_ | refine W9 ?_ | refine V1 ?_ | refine V2 ?_ | refine V3 ?_ | refine V4 (by decide) ?_ | refine V5 ?_ | refine V6 ?_ | refine V7 ?_ | refine V8 ?_ | refine V9 ?_ | refine U1 ?_ | refine U2 ?_ | refine U3 ?_) | (with_reducible refine U4 ?_ ?_; next => first | omega | exact ⟨trivial, by omega⟩) | simp (maxSteps := 2000000) (discharger := first | omega | (simp (discharger := omega) only [Z1, Z2, Z3, Z4, Z5, Z6, Z7] <;> fail) | (simp (discharger := omega) only [Z3, Z8, Z2, Z4, Z1, Z7, Z5, Z6, Z9, Y1, Y2]; omega)) only [go_sem])
  refine call_ro (l10Code_spec p n m k hc hl hn hb) (get_rd hr) ?_
  have y1 : (prCode p n m k r l != 0) = true := by simpa using h
  repeat' (first | (with_reducible first | refine W1 ?_ | refine W2 ?_ | refine W3 ?_ | refine W4 mixed ?_ | refine W5 ?_ | refine W6 ?_ | refine W7 ?_ | refine W8 ?_ | refine W9 ?_ | refine V1 ?_ | refine V2 ?_ | refine V3 ?_ | refine V4 (by decide) ?_ | refine V5 ?_ | refine V6 ?_ | refine V7 ?_ | refine V8 ?_ | refine V9 ?_ | refine U1 ?_ | refine U2 ?_ | refine U3 ?_) | (with_reducible refine U4 ?_ ?_; next => first | omega | exact ⟨trivial, by omega⟩) | ((with_reducible refine U5 _ rfl (fun hq => ?_) (fun hq => ?_)) <;> try (first | (cases hq; done) | exact absurd hq (by decide))) | ((with_reducible refine U6 (fun hq => ?_) (fun hq => ?_)) <;> try (first | (cases hq; done) | exact absurd hq (by decide))) | simp (maxSteps := 2000000) (discharger := first | omega | (simp (discharger := omega) only [Z1, Z2, Z3, Z4, Z5, Z6, Z7] <;> fail) | (simp (discharger := omega) only [Z3, Z8, Z2, Z4, Z1, Z7, Z5, Z6, Z9, Y1, Y2]; omega)) only [go_sem, y1])
  exact ret_none hN [.agg (tenC 0 0 0 0 .nils), .c (.int .i64 (prCode p n m k r l))] ⟨res_aggN (own := true) tyo_41 rfl rfl rfl rfl, rfl, trivial⟩ rfl rfl rfl (by simp)
theorem implCP_no {p : Int} {n m k : Nat} (hc : Sl 18 (u8s l) r c rs) (hl : l.length = r * 18) (hb : byteL l) (h : prCode p n m k r l = 0) (ho : cpOk p n m k r l = false) :
    FSpec Try.prog 22 [.c (.int .i64 (p)), .c (.int .i64 ((n : Nat) : Int)), .c (.int .i64 ((m : Nat) : Int)), .c (.int .i64 ((k : Nat) : Int)), .c c] (.tup [.agg (tenC 0 0 0 0 .nils), .c (.int .i64 (4))]) rs [] := by
  have A := CpA.of h hl hb
  have h30 := A.r30
  refine FSpec.of f_impl_CompletePairs (Nat.le_of_ble_eq_true rfl) fun G N hN hr hw => ?_
  simp only [c_impl_CompletePairs, List.length_cons, List.length_nil, List.replicate, List.cons_append, List.nil_append]
  repeat' (first | (with_reducible first | refine W1 ?_ | refine W2 ?_ | refine W3 ?_ | refine W4 mixed ?_ | refine W5 ?_ | refine W6 ?_ | refine W7 ?_ | refine W8 ?_ | refine W9 ?_ | refine V1 ?_ | refine V2 ?_ | refine V3 ?_ | refine V4 (by decide) ?_ | refine V5 ?_ | refine V6 ?_ | refine V7 ?_ | refine V8 ?_ | refine V9 ?_ | refine U1 ?_ | refine U2 ?_ | refine U3 ?_) | (with_reducible refine U4 ?_ ?_; next => first | omega | exact ⟨trivial, by omega⟩) | simp (maxSteps := 2000000) (discharger := first | omega | (simp (discharger := omega) only [Z1, Z2, Z3, Z4, Z5, Z6, Z7] <;> fail) | (simp (discharger := omega) only [Z3, Z8, Z2, Z4, Z1, Z7, Z5, Z6, Z9, Y1, Y2]; omega)) only [go_sem])
  refine call_ro (listCode_spec p n m k hc hl (by omega) hb) (get_rd hr) ?_
  rw [h]
  repeat' (first | (with_reducible first | refine W1 ?_ | refine W2 ?_ | refine W3 ?_ | refine W4 mixed ?_ | refine W5 ?_ | refine W6 ?_ | refine W7 ?_ | refine W8 ?_ | refine W9 ?_ | refine V1 ?_ | refine V2 ?_ | refine V3 ?_ | refine V4 (by decide) ?_ | refine V5 ?_ | refine V6 ?_ | refine V7 ?_ | refine V8 ?_ | refine V9 ?_ | refine U1 ?_ | refine U2 ?_ | refine U3 ?_) | (with_reducible refine U4 ?_ ?_; next => first | omega | exact ⟨trivial, by omega⟩) | ((with_reducible refine U5 _ rfl (fun hq => ?_) (fun hq => ?_)) <;> try (first | (cases hq; done) | exact absurd hq (by decide))) | ((with_reducible refine U6 (fun hq => ?_) (fun hq => ?_)) <;> try (first | (cases hq; done) | exact absurd hq (by decide))) | simp (maxSteps := 2000000) (discharger := first | omega | (simp (discharger := omega) only [Z1, Z2, Z3, Z4, Z5, Z6, Z7] <;> fail) | (simp (discharger := omega) only [Z3, Z8, Z2, Z4, Z1, Z7, Z5, Z6, Z9, Y1, Y2]; omega)) only [go_sem])
  refine call_ro (implCp_no A hc (fun N' _ => nils_lt N') ho) (get_rd hr) ?_
  repeat' (first | (with_reducible first | refine W1 ?_ | refine W2 ?_ | refine W3 ?_ | refine W4 mixed ?_ | refine W5 ?_ | refine W6 ?_ | refine W7 ?_ | refine W8 ?_ | refine W9 ?_ | refine V1 ?_ | refine V2 ?_ | refine V3 ?_ | refine V4 (by decide) ?_ | refine V5 ?_ | refine V6 ?_ | refine V7 ?_ | refine V8 ?_ | refine V9 ?_ | refine U1 ?_ | refine U2 ?_ | refine U3 ?_) | (with_reducible refine U4 ?_ ?_; next => first | omega | exact ⟨trivial, by omega⟩) | ((with_reducible refine U5 _ rfl (fun hq => ?_) (fun hq => ?_)) <;> try (first | (cases hq; done) | exact absurd hq (by decide))) | ((with_reducible refine U6 (fun hq => ?_) (fun hq => ?_)) <;> try (first | (cases hq; done) | exact absurd hq (by decide))) | simp (maxSteps := 2000000) (discharger := first | omega | (simp (discharger := omega) only [Z1, Z2, Z3, Z4, Z5, Z6, Z7] <;> fail) | (simp (discharger := omega) only [Z3, Z8, Z2, Z4, Z1, Z7, Z5, Z6, Z9, Y1, Y2]; omega)) only [go_sem])
  exact ret_none hN [.agg (tenC 0 0 0 0 .nils), .c (.int .i64 (4))] ⟨res_aggN (own := true) tyo_41 rfl rfl rfl rfl, rfl, trivial⟩ rfl rfl rfl (by simp)
theorem specCP_no {p : Int} {n m k : Nat} (hc : Sl 18 (u8s l) r c rs) (hl : l.length = r * 18) (hb : byteL l) (h : prCode p n m k r l = 0) (ho : cpOk p n m k r l = false) :
    FSpec Try.prog 21 [.c (.int .i64 (p)), .c (.int .i64 ((n : Nat) : Int)), .c (.int .i64 ((m : Nat) : Int)), .c (.int .i64 ((k : Nat) : Int)), .c c] (.tup [.agg (tenC 0 0 0 0 .nils), .c (.int .i64 (4))]) rs [] := by
  have A := CpA.of h hl hb
  have h30 := A.r30
  refine FSpec.of f_spec_CompletePairs (Nat.le_of_ble_eq_true rfl) fun G N hN hr hw => ?_
  simp only [c_spec_CompletePairs, List.length_cons, List.length_nil, List.replicate, List.cons_append, List.nil_append]
  repeat' (first | (with_reducible first | refine W1 ?_ | refine W2 ?_ | refine W3 ?_ | refine W4 mixed ?_ | refine W5 ?_ | refine W6 ?_ | refine W7 ?_ | refine W8 ?_ | refine W9 ?_ | refine V1 ?_ | refine V2 ?_ | refine V3 ?_ | refine V4 (by decide) ?_ | refine V5 ?_ | refine V6 ?_ | refine V7 ?_ | refine V8 ?_ | refine V9 ?_ | refine U1 ?_ | refine U2 ?_ | refine U3 ?_) | (with_reducible refine U4 ?_ ?_; next => first | omega | exact ⟨trivial, by omega⟩) | simp (maxSteps := 2000000) (discharger := first | omega | (simp (discharger := omega) only [Z1, Z2, Z3, Z4, Z5, Z6, Z7] <;> fail) | (simp (discharger := omega) only [Z3, Z8, Z2, Z4, Z1, Z7, Z5, Z6, Z9, Y1, Y2]; omega)) only [go_sem])
  refine call_ro (l10Code_spec p n m k hc hl (by omega) hb) (get_rd hr) ?_
  rw [h]
  repeat' (first | (with_reducible first | refine W1 ?_ | refine W2 ?_ | refine W3 ?_ | refine W4 mixed ?_ | refine W5 ?_ | refine W6 ?_ | refine W7 ?_ | refine W8 ?_ | refine W9 ?_ | refine V1 ?_ | refine V2 ?_ | refine V3 ?_ | refine V4 (by decide) ?_ | refine V5 ?_ | refine V6 ?_ | refine V7 ?_ | refine V8 ?_ | refine V9 ?_ | refine U1 ?_ | refine U2 ?_ | refine U3 ?_) | (with_reducible refine U4 ?_ ?_; next => first | omega | exact ⟨trivial, by omega⟩) | ((with_reducible refine U5 _ rfl (fun hq => ?_) (fun hq => ?_)) <;> try (first | (cases hq; done) | exact absurd hq (by decide))) | ((with_reducible refine U6 (fun hq => ?_) (fun hq => ?_)) <;> try (first | (cases hq; done) | exact absurd hq (by decide))) | simp (maxSteps := 2000000) (discharger := first | omega | (simp (discharger := omega) only [Z1, Z2, Z3, Z4, Z5, Z6, Z7] <;> fail) | (simp (discharger := omega) only [Z3, Z8, Z2, Z4, Z1, Z7, Z5, Z6, Z9, Y1, Y2]; omega)) only [go_sem])
  refine call_ro (specCp_no A hc (fun N' _ => nils_lt N') ho) (get_rd hr) ?_
  repeat' (first | (with_reducible first | refine W1 ?_ | refine W2 ?_ | refine W3 ?_ | refine W4 mixed ?_ | refine W5 ?_ | refine W6 ?_ | refine W7 ?_ | refine W8 ?_ | refine W9 ?_ | refine V1 ?_ | refine V2 ?_ | refine V3 ?_ | refine V4 (by decide) ?_ | refine V5 ?_ | refine V6 ?_ | refine V7 ?_ | refine V8 ?_ | refine V9 ?_ | refine U1 ?_ | refine U2 ?_ | refine U3 ?_) | (with_reducible refine U4 ?_ ?_; next => first | omega | exact ⟨trivial, by omega⟩) | ((with_reducible refine U5 _ rfl (fun hq => ?_) (fun hq => ?_)) <;> try (first | (cases hq; done) | exact absurd hq (by decide))) | ((with_reducible refine U6 (fun hq => ?_) (fun hq => ?_)) <;> try (first | (cases hq; done) | exact absurd hq (by decide))) | simp (maxSteps := 2000000) (discharger := first | omega | (simp (discharger := omega) only [Z1, Z2, Z3, Z4, Z5, Z6, Z7] <;> fail) | (simp (discharger := omega) only [Z3, Z8, Z2, Z4, Z1, Z7, Z5, Z6, Z9, Y1, Y2]; omega)) only [go_sem])
  exact ret_none hN [.agg (tenC 0 0 0 0 .nils), .c (.int .i64 (4))] ⟨res_aggN (own := true) tyo_41 rfl rfl rfl rfl, rfl, trivial⟩ rfl rfl rfl (by simp)
theorem implCP_ok {p : Int} {n m k : Nat} (hc : Sl 18 (u8s l) r c rs) (hl : l.length = r * 18) (hb : byteL l) (h : prCode p n m k r l = 0) (ho : cpOk p n m k r l = true) (x : Nat) (hx : ∀ q ∈ rs, q.1 ≠ x) :
    FSpec Try.prog 22 [.c (.int .i64 (p)), .c (.int .i64 ((n : Nat) : Int)), .c (.int .i64 ((m : Nat) : Int)), .c (.int .i64 ((k : Nat) : Int)), .c c] (.tup [.agg (tenC p n m k (.slice x 0 (cmpN (cpF p n m k r l) r) 27)), .c (.int .i64 (0))]) rs [(x, .live ⟨u8s (cmpP l (cpF p n m k r l) r), true⟩)] := by
  have A := CpA.of h hl hb
  have h30 := A.r30
  refine FSpec.of f_impl_CompletePairs (Nat.le_of_ble_eq_true rfl) fun G N hN hr hw => ?_
  simp only [c_impl_CompletePairs, List.length_cons, List.length_nil, List.replicate, List.cons_append, List.nil_append]
  have hfree := new_free (hw _ (List.mem_singleton.2 rfl)).2 hx
  repeat' (first | (with_reducible first | refine W1 ?_ | refine W2 ?_ | refine W3 ?_ | refine W4 mixed ?_ | refine W5 ?_ | refine W6 ?_ | refine W7 ?_ | refine W8 ?_ | refine W9 ?_ | refine V1 ?_ | refine V2 ?_ | refine V3 ?_ | refine V4 (by decide) ?_ | refine V5 ?_ | refine V6 ?_ | refine V7 ?_ | refine V8 ?_ | refine V9 ?_ | refine U1 ?_ | refine U2 ?_ | refine U3 ?_) | (with_reducible refine U4 ?_ ?_; next => first | omega | exact ⟨trivial, by omega⟩) | simp (maxSteps := 2000000) (discharger := first | omega | (simp (discharger := omega) only [Z1, Z2, Z3, Z4, Z5, Z6, Z7] <;> fail) | (simp (discharger := omega) only [Z3, Z8, Z2, Z4, Z1, Z7, Z5, Z6, Z9, Y1, Y2]; omega)) only [go_sem])
  refine call_ro (listCode_spec p n m k hc hl (by omega) hb) (get_rd hr) ?_
  rw [h]
  repeat' (first | (with_reducible first | refine W1 ?_ | refine W2 ?_ | refine W3 ?_ | refine W4 mixed ?_ | refine W5 ?_ | refine W6 ?_ | refine W7 ?_ | refine W8 ?_ | refine W9 ?_ | refine V1 ?_ | refine V2 ?_ | refine V3 ?_ | refine V4 (by decide) ?_ | refine V5 ?_ | refine V6 ?_ | refine V7 ?_ | refine V8 ?_ | refine V9 ?_ | refine U1 ?_ | refine U2 ?_ | refine U3 ?_) | (with_reducible refine U4 ?_ ?_; next => first | omega | exact ⟨trivial, by omega⟩) | ((with_reducible refine U5 _ rfl (fun hq => ?_) (fun hq => ?_)) <;> try (first | (cases hq; done) | exact absurd hq (by decide))) | ((with_reducible refine U6 (fun hq => ?_) (fun hq => ?_)) <;> try (first | (cases hq; done) | exact absurd hq (by decide))) | simp (maxSteps := 2000000) (discharger := first | omega | (simp (discharger := omega) only [Z1, Z2, Z3, Z4, Z5, Z6, Z7] <;> fail) | (simp (discharger := omega) only [Z3, Z8, Z2, Z4, Z1, Z7, Z5, Z6, Z9, Y1, Y2]; omega)) only [go_sem])
  refine call_new1 (fun y hy => implCp_yes A hc (fun N' _ => nils_lt N') ho y hy) (get_rd hr) nxt_free ?_
  repeat' (first | (with_reducible first | refine W1 ?_ | refine W2 ?_ | refine W3 ?_ | refine W4 mixed ?_ | refine W5 ?_ | refine W6 ?_ | refine W7 ?_ | refine W8 ?_ | refine W9 ?_ | refine V1 ?_ | refine V2 ?_ | refine V3 ?_ | refine V4 (by decide) ?_ | refine V5 ?_ | refine V6 ?_ | refine V7 ?_ | refine V8 ?_ | refine V9 ?_ | refine U1 ?_ | refine U2 ?_ | refine U3 ?_) | (with_reducible refine U4 ?_ ?_; next => first | omega | exact ⟨trivial, by omega⟩) | ((with_reducible refine U5 _ rfl (fun hq => ?_) (fun hq => ?_)) <;> try (first | (cases hq; done) | exact absurd hq (by decide))) | ((with_reducible refine U6 (fun hq => ?_) (fun hq => ?_)) <;> try (first | (cases hq; done) | exact absurd hq (by decide))) | simp (maxSteps := 2000000) (discharger := first | omega | (simp (discharger := omega) only [Z1, Z2, Z3, Z4, Z5, Z6, Z7] <;> fail) | (simp (discharger := omega) only [Z3, Z8, Z2, Z4, Z1, Z7, Z5, Z6, Z9, Y1, Y2]; omega)) only [go_sem])
  refine ret_obj hN x 1 _ [_, _] ⟨res_aggN (own := true) (cs := tenC p n m k (.slice (nid N 1) 0 (cmpN (cpF p n m k r l) r) 27)) tyo_41 rfl rfl rfl rfl, rfl, trivial⟩ hfree rfl (flat_u8s _) rfl ?_ ?_
  · simp [AV.idsT, AV.ids1, tenC, Cell.ids]
  · simp [resOf, renT, ren1, tenC, Cell.mapIds]; try rfl
theorem specCP_ok {p : Int} {n m k : Nat} (hc : Sl 18 (u8s l) r c rs) (hl : l.length = r * 18) (hb : byteL l) (h : prCode p n m k r l = 0) (ho : cpOk p n m k r l = true) (x : Nat) (hx : ∀ q ∈ rs, q.1 ≠ x) :
    FSpec Try.prog 21 [.c (.int .i64 (p)), .c (.int .i64 ((n : Nat) : Int)), .c (.int .i64 ((m : Nat) : Int)), .c (.int .i64 ((k : Nat) : Int)), .c c] (.tup [.agg (tenC p n m k (.slice x 0 (cmpN (cpF p n m k r l) r) 27)), .c (.int .i64 (0))]) rs [(x, .live ⟨u8s (cmpP l (cpF p n m k r l) r), true⟩)] := by
  have A := CpA.of h hl hb
  have h30 := A.r30
  refine FSpec.of f_spec_CompletePairs (Nat.le_of_ble_eq_true rfl) fun G N hN hr hw => ?_
  simp only [c_spec_CompletePairs, List.length_cons, List.length_nil, List.replicate, List.cons_append, List.nil_append]
  have hfree := new_free (hw _ (List.mem_singleton.2 rfl)).2 hx
  repeat' (first | (with_reducible first | refine W1 ?_ | refine W2 ?_ | refine W3 ?_ | refine W4 mixed ?_ | refine W5 ?_ | refine W6 ?_ | refine W7 ?_ | refine W8 ?_ | refine W9 ?_ | refine V1 ?_ | refine V2 ?_ | refine V3 ?_ | refine V4 (by decide) ?_ | refine V5 ?_ | refine V6 ?_ | refine V7 ?_ | refine V8 ?_ | refine V9 ?_ | refine U1 ?_ | refine U2 ?_ | refine U3 ?_) | (with_reducible refine U4 ?_ ?_; next => first | omega | exact ⟨trivial, by omega⟩) | simp (maxSteps := 2000000) (discharger := first | omega | (simp (discharger := omega) only [Z1, Z2, Z3, Z4, Z5, Z6, Z7] <;> fail) | (simp (discharger := omega) only [Z3, Z8, Z2, Z4, Z1, Z7, Z5, Z6, Z9, Y1, Y2]; omega)) only [go_sem])
  refine call_ro (l10Code_spec p n m k hc hl (by omega) hb) (get_rd hr) ?_
  rw [h]
  repeat' (first | (with_reducible first | refine W1 ?_ | refine W2 ?_ | refine W3 ?_ | refine W4 mixed ?_ | refine W5 ?_ | refine W6 ?_ | refine W7 ?_ | refine W8 ?_ | refine W9 ?_ | refine V1 ?_ | refine V2 ?_ | refine V3 ?_ | refine V4 (by decide) ?_ | refine V5 ?_ | refine V6 ?_ | refine V7 ?_ | refine V8 ?_ | refine V9 ?_ | refine U1 ?_ | refine U2 ?_ | refine U3 ?_) | (with_reducible refine U4 ?_ ?_; next => first | omega | exact ⟨trivial, by omega⟩) | ((with_reducible refine U5 _ rfl (fun hq => ?_) (fun hq => ?_)) <;> try (first | (cases hq; done) | exact absurd hq (by decide))) | ((with_reducible refine U6 (fun hq => ?_) (fun hq => ?_)) <;> try (first | (cases hq; done) | exact absurd hq (by decide))) | simp (maxSteps := 2000000) (discharger := first | omega | (simp (discharger := omega) only [Z1, Z2, Z3, Z4, Z5, Z6, Z7] <;> fail) | (simp (discharger := omega) only [Z3, Z8, Z2, Z4, Z1, Z7, Z5, Z6, Z9, Y1, Y2]; omega)) only [go_sem])
  refine call_new1 (fun y hy => specCp_yes A hc (fun N' _ => nils_lt N') ho y hy) (get_rd hr) nxt_free ?_
  repeat' (first | (with_reducible first | refine W1 ?_ | refine W2 ?_ | refine W3 ?_ | refine W4 mixed ?_ | refine W5 ?_ | refine W6 ?_ | refine W7 ?_ | refine W8 ?_ | refine W9 ?_ | refine V1 ?_ | refine V2 ?_ | refine V3 ?_ | refine V4 (by decide) ?_ | refine V5 ?_ | refine V6 ?_ | refine V7 ?_ | refine V8 ?_ | refine V9 ?_ | refine U1 ?_ | refine U2 ?_ | refine U3 ?_) | (with_reducible refine U4 ?_ ?_; next => first | omega | exact ⟨trivial, by omega⟩) | ((with_reducible refine U5 _ rfl (fun hq => ?_) (fun hq => ?_)) <;> try (first | (cases hq; done) | exact absurd hq (by decide))) | ((with_reducible refine U6 (fun hq => ?_) (fun hq => ?_)) <;> try (first | (cases hq; done) | exact absurd hq (by decide))) | simp (maxSteps := 2000000) (discharger := first | omega | (simp (discharger := omega) only [Z1, Z2, Z3, Z4, Z5, Z6, Z7] <;> fail) | (simp (discharger := omega) only [Z3, Z8, Z2, Z4, Z1, Z7, Z5, Z6, Z9, Y1, Y2]; omega)) only [go_sem])
  refine ret_obj hN x 1 _ [_, _] ⟨res_aggN (own := true) (cs := tenC p n m k (.slice (nid N 1) 0 (cmpN (cpF p n m k r l) r) 27)) tyo_41 rfl rfl rfl rfl, rfl, trivial⟩ hfree rfl (flat_u8s _) rfl ?_ ?_
  · simp [AV.idsT, AV.ids1, tenC, Cell.ids]
  · simp [resOf, renT, ren1, tenC, Cell.mapIds]; try rfl
end
end Go.Proofs.Ytcmmbnhdfkcpdaa
