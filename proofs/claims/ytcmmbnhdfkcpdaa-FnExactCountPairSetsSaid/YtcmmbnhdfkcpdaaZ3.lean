/- Sets of pairs that can be completed: the lower bound, plain laws, and the reference's walk. -/
import Derived.Test.YtcmmbnhdfkcpdaaY15
import Derived.Test.YtcmmbnhdfkcpdaaV3
namespace Go.Proofs.Ytcmmbnhdfkcpdaa
open Go Go.Abs
set_option maxRecDepth 100000
/- loop.example/g01262/spec.l10Sets -/
def c_spec_l10Sets : SFn := ⟨(.seq (.ops [⟨some 6, .box 41 (.tmp 0), none⟩, ⟨some 12, .assign (.const (.int .i64 0)), none⟩])
 (.seq (.seq (.ops [⟨some 18, .move (.tmp 4), none⟩, ⟨some 19, .binOp .eql 2 (.tmp 18) (.const (.int .i64 0)) 2, none⟩])
   (.cond (.tmp 19) (.seq (.seq (.ops [⟨some 21, .load 41 (.tmp 6), none⟩, ⟨some 22, .move (.tmp 2), none⟩, ⟨some 23, .call ⟨.value (.func 82), #[.tmp 21, .tmp 22], #[41, 35]⟩, none⟩, ⟨some 20, .move (.tmp 23), none⟩, ⟨some 24, .extract (.tmp 20) 0, none⟩, ⟨some 25, .extract (.tmp 20) 1, none⟩, ⟨some 13, .alloc 41, none⟩, ⟨none, .store 41 (.tmp 13) (.tmp 24), none⟩, ⟨some 14, .assign (.tmp 25), none⟩])
      (.seq (.ops [⟨some 26, .move (.tmp 14), none⟩])
       (.cond (.tmp 26) (.seq (.ops [⟨some 12, .assign (.const (.int .i64 1)), none⟩])
         .ret)
        .skip)))
     (.seq (.ops [⟨some 12, .assign (.const (.int .i64 0)), none⟩])
      .ret))
    .skip))
  (.seq (.ops [⟨some 15, .assign (.const (.int .i64 0)), none⟩])
   (.seq (.seq (.ops [⟨some 27, .move (.tmp 3), none⟩, ⟨some 16, .assign (.tmp 27), none⟩])
     (.block 0 (.loop (.seq (.seq (.ops [⟨some 28, .move (.tmp 16), none⟩, ⟨some 29, .move (.tmp 1), none⟩, ⟨some 30, .call ⟨.builtin .len, #[.tmp 29], #[35]⟩, none⟩, ⟨some 31, .binOp .lss 3 (.tmp 28) (.tmp 30) 3, none⟩, ⟨some 32, .move (.tmp 31), none⟩, ⟨some 33, .move (.tmp 5), some (32, true)⟩, ⟨some 34, .move (.tmp 33), some (32, true)⟩, ⟨some 35, .move (.tmp 15), some (34, true)⟩, ⟨some 36, .binOp .gtr 2 (.tmp 35) (.const (.int .i64 0)) 2, some (34, true)⟩, ⟨some 37, .pick (.tmp 34) (.tmp 36) (.const (.bool false)), some (32, true)⟩, ⟨some 38, .unOp .not 4 (.tmp 37), some (32, true)⟩, ⟨some 39, .pick (.tmp 32) (.tmp 38) (.const (.bool false)), none⟩])
         (.cond (.tmp 39) .skip
          (.exit 0)))
        (.seq (.block 1 (.seq (.opsD [⟨some 42, .buildSlice 35 0 #[], none⟩, ⟨some 43, .move (.tmp 2), none⟩, ⟨some 44, .call ⟨.builtin .append, #[.tmp 42, .tmp 43], #[35, 35]⟩, none⟩, ⟨some 45, .move (.tmp 1), none⟩, ⟨some 46, .move (.tmp 16), none⟩, ⟨some 47, .indexAddr 35 (.tmp 45) (.tmp 46), none⟩, ⟨some 48, .load 98 (.tmp 47), none⟩, ⟨some 49, .buildSlice 35 1 #[(0, .tmp 48)], none⟩, ⟨some 50, .call ⟨.builtin .append, #[.tmp 44, .tmp 49], #[35, 35]⟩, none⟩, ⟨some 17, .assign (.tmp 50), none⟩] [(0, 6), (0, 7), (2, 6), (2, 7)])
           (.ops [⟨some 51, .move (.tmp 15), none⟩, ⟨some 52, .load 41 (.tmp 6), none⟩, ⟨some 53, .move (.tmp 1), none⟩, ⟨some 54, .move (.tmp 17), none⟩, ⟨some 55, .move (.tmp 16), none⟩, ⟨some 56, .binOp .add 3 (.tmp 55) (.const (.int .i64 1)) 3, none⟩, ⟨some 57, .move (.tmp 4), none⟩, ⟨some 58, .binOp .sub 2 (.tmp 57) (.const (.int .i64 1)) 2, none⟩, ⟨some 59, .move (.tmp 5), none⟩, ⟨some 60, .call ⟨.value (.func 99), #[.tmp 52, .tmp 53, .tmp 54, .tmp 56, .tmp 58, .tmp 59], #[41, 35, 35, 3, 2, 4]⟩, none⟩, ⟨some 61, .binOp .add 2 (.tmp 51) (.tmp 60) 2, none⟩, ⟨some 15, .assign (.tmp 61), none⟩])))
         (.ops [⟨some 40, .move (.tmp 16), none⟩, ⟨some 41, .binOp .add 3 (.tmp 40) (.const (.int .i64 1)) 3, none⟩, ⟨some 16, .assign (.tmp 41), none⟩]))))))
    (.seq (.ops [⟨some 62, .move (.tmp 15), none⟩, ⟨some 12, .assign (.tmp 62), none⟩])
     .ret))))), [.tmp 12], 63⟩
theorem f_spec_l10Sets : isFn Go.Proofs.Try.prog 99 = some c_spec_l10Sets := by kernel_rfl


set_option maxRecDepth 100000
set_option maxHeartbeats 16000000
set_option linter.unusedVariables false
attribute [-simp] List.getD_eq_getElem?_getD
attribute [-go_sem] confV

/-- The sum over the places from i on, that ends at the first one if that is asked. -/
def lpV (f : Nat → Int) (one : Bool) : Nat → Nat → Int → Int
  | 0, _, s => s
  | c + 1, i, s => if (one && decide (s > 0)) = true then s else lpV f one c (i + 1) (s + f i)
def setsV (n m k q : Nat) (al : List Int) (one : Bool) : Nat → Nat → List Int → Nat → Int
  | 0, d, li, _ => if cpOk 2 n m k d li = true then 1 else 0
  | rest + 1, d, li, from_ => lpV (fun i => setsV n m k q al one rest (d + 1) (li ++ sub al (i * 18) 18) (i + 1)) one (q - from_) from_ 0
theorem lpV_rng {f : Nat → Int} {one : Bool} {B : Int} (hf : ∀ i, 0 ≤ f i ∧ f i ≤ B) : ∀ (c i : Nat) (s : Int), 0 ≤ s → s ≤ lpV f one c i s ∧ lpV f one c i s ≤ s + c * B
  | 0, i, s, h => by simp [lpV]
  | c + 1, i, s, h => by
    have hi := hf i
    have hcB : 0 ≤ (c : Int) * B := Int.mul_nonneg (by omega) (by omega)
    have e : ((c + 1 : Nat) : Int) * B = c * B + B := by rw [Int.natCast_add, Int.add_mul]; simp
    rw [e, lpV]
    split
    · omega
    · have := lpV_rng (one := one) hf c (i + 1) (s + f i) (by omega)
      omega
theorem setsV_rng (n m k : Nat) {q : Nat} (hq : q ≤ 64) (al : List Int) (one : Bool) : ∀ rest d li i, 0 ≤ setsV n m k q al one rest d li i ∧ setsV n m k q al one rest d li i ≤ (64 : Int) ^ rest
  | 0, d, li, i => by rw [setsV]; split <;> simp
  | rest + 1, d, li, i => by
    have h := lpV_rng (one := one) (B := (64 : Int) ^ rest) (f := fun i => setsV n m k q al one rest (d + 1) (li ++ sub al (i * 18) 18) (i + 1)) (fun i => setsV_rng n m k hq al one rest (d + 1) _ (i + 1)) (q - i) i 0 (by omega)
    have hB : (0 : Int) ≤ 64 ^ rest := Int.pow_nonneg (by omega)
    have h2 : ((q - i : Nat) : Int) * 64 ^ rest ≤ 64 * 64 ^ rest := Int.mul_le_mul_of_nonneg_right (by omega) hB
    rw [setsV, Int.pow_succ, Int.mul_comm]
    omega
/-- Pairs may be appended. -/
theorem pairsOk_snoc {p a b : Int} {d : Nat} {li v : List Int} (hl : li.length = d * 18) (hv : v.length = 18) (h1 : pairsOk p a b d li = true) (h2 : pairOk p a b v = true) : pairsOk p a b (d + 1) (li ++ v) = true := by
  rw [pairsOk, List.all_eq_true] at h1 ⊢
  intro t ht
  simp only [List.mem_range] at ht h1
  by_cases e : t < d
  · rw [sub, List.drop_append_of_le_length (by omega), List.take_append_of_le_length (by rw [List.length_drop]; omega)]
    exact h1 t e
  · have : t = d := by omega
    subst this
    rw [sub, ← hl, List.drop_left, List.take_of_length_le (by omega)]
    exact h2
theorem pairsOk_at {p a b : Int} {q i : Nat} {al : List Int} (h : pairsOk p a b q al = true) (hi : i < q) : pairOk p a b (sub al (i * 18) 18) = true := (List.all_eq_true.1 h) i (by simpa using hi)
/-- All pairs of sizes. -/
def allQ (n m k : Nat) : Nat := (2 ^ (n * m) - 1) * (2 ^ (m * k) - 1)
def allL (n m k : Nat) : List Int := pairsUp (formsL (n * m) (2 ^ (n * m) - 1)) (formsL (m * k) (2 ^ (m * k) - 1)) (2 ^ (m * k) - 1) (2 ^ (n * m) - 1) 0
theorem allL_length (n m k : Nat) : (allL n m k).length = allQ n m k * 18 := by rw [allL, pairsUp_length, allQ]; rfl
/-- The sizes of which this speaks. -/
inductive Small : Nat → Nat → Nat → Prop
  | a111 : Small 1 1 1
  | a112 : Small 1 1 2
  | a113 : Small 1 1 3
  | a121 : Small 1 2 1
  | a122 : Small 1 2 2
  | a131 : Small 1 3 1
  | a211 : Small 2 1 1
  | a212 : Small 2 1 2
  | a221 : Small 2 2 1
  | a311 : Small 3 1 1
theorem small_cases {n m k : Nat} (hn : 1 ≤ n ∧ n ≤ 3) (hm : 1 ≤ m ∧ m ≤ 3) (hk : 1 ≤ k ∧ k ≤ 3) (h : n * m * k ≤ 4) : Small n m k := by
  have e1 : n = 1 ∨ n = 2 ∨ n = 3 := by omega
  have e2 : m = 1 ∨ m = 2 ∨ m = 3 := by omega
  have e3 : k = 1 ∨ k = 2 ∨ k = 3 := by omega
  rcases e1 with rfl | rfl | rfl <;> rcases e2 with rfl | rfl | rfl <;> rcases e3 with rfl | rfl | rfl <;> first | constructor | omega
theorem allL_ok {n m k : Nat} (h : Small n m k) : pairsOk 2 ((n : Int) * m) ((m : Int) * k) (allQ n m k) (allL n m k) = true ∧ (allL n m k).all (fun z => decide (0 ≤ z) && decide (z ≤ 255)) = true := by
  cases h <;> exact ⟨by kernel_rfl, by kernel_rfl⟩
theorem CpA.mk2 {n m k d : Nat} {li : List Int} (hn : inSz n = true) (hm : inSz m = true) (hk : inSz k = true) (h1 : li.length = d * 18) (h2 : pairsOk 2 ((n : Int) * m) ((m : Int) * k) d li = true) (h3 : byteL li) (h4 : d ≤ 30) : CpA 2 n m k (n * m) (m * k) (n * k) d li := ⟨rfl, hn, hm, hk, rfl, rfl, rfl, h2, h4, h1, h3⟩
theorem l10Sets_spec {n m k q ka : Nat} {al : List Int} {cc : Cell} {one oa : Bool} (hn : inSz n = true) (hm : inSz m = true) (hk : inSz k = true) (hq : q ≤ 64) (hal : al.length = q * 18) (hall : pairsOk 2 ((n : Int) * m) ((m : Int) * k) q al = true) (hba : byteL al) :
    ∀ (rest d : Nat) (li : List Int) (i kl : Nat) (ol : Bool), rest ≤ 4 → d + rest ≤ 30 → i ≤ q → li.length = d * 18 → pairsOk 2 ((n : Int) * m) ((m : Int) * k) d li = true → byteL li →
    FSpec Try.prog 99 [.agg (tenC 2 n m k cc), .c (.slice ka 0 q 18), .c (.slice kl 0 d 18), .c (.int .i64 ((i : Nat) : Int)), .c (.int .i64 ((rest : Nat) : Int)), .c (.bool one)] (.c (.int .i64 (setsV n m k q al one rest d li i))) [(ka, ⟨u8s al, oa⟩), (kl, ⟨u8s li, ol⟩)] []
  | 0, d, li, i, kl, ol, hr4, hdr, hiq, hl, hpl, hbl => by
    have A := CpA.mk2 hn hm hk hl hpl hbl (by omega)
    refine FSpec.of f_spec_l10Sets (Nat.le_of_ble_eq_true rfl) fun G N hN hr hw => ?_
    simp only [c_spec_l10Sets, List.length_cons, List.length_nil, List.replicate, List.cons_append, List.nil_append]
    have ⟨g2, g3⟩ := hr _ (List.mem_cons_self ..)
    have ⟨g4, g5⟩ := hr _ (List.mem_cons_of_mem _ (List.mem_cons_self ..))
    dsimp only at g2 g3 g4 g5
    cases ho : cpOk 2 n m k d li with
    | false =>
      repeat' (first | (with_reducible first | refine W1 ?_ | refine W2 ?_ | refine W3 ?_ | refine W4 mixed ?_ | refine W5 ?_ | refine W6 ?_ | refine W7 ?_ | refine W8 ?_ | refine W9 ?_ | refine V1 ?_ | refine V2 ?_ | refine V3 ?_ | refine V4 (by decide) ?_ | refine V5 ?_ | refine V6 ?_ | refine V7 ?_ | refine V8 ?_ | refine V9 ?_ | refine U1 ?_ | refine U2 ?_ | refine U3 ?_) | (with_reducible refine U4 ?_ ?_; next => first | omega | exact ⟨trivial, by omega⟩) | ((with_reducible refine U5 _ rfl (fun hq => ?_) (fun hq => ?_)) <;> try (first | (cases hq; done) | exact absurd hq (by decide))) | ((with_reducible refine U6 (fun hq => ?_) (fun hq => ?_)) <;> try (first | (cases hq; done) | exact absurd hq (by decide))) | simp (maxSteps := 2000000) (discharger := first | omega | (simp (discharger := omega) only [Z1, Z2, Z3, Z4, Z5, Z6, Z7] <;> fail) | (simp (discharger := omega) only [Z3, Z8, Z2, Z4, Z1, Z7, Z5, Z6, Z9, Y1, Y2]; omega)) only [go_sem])
      refine call_ro (specCp_no A (Sl.mk kl ol (by rw [u8s_length]; exact hl)) ho) (by simp only [List.mem_singleton]; rintro p rfl; exact (get_old g5).trans g4) ?_
      repeat' (first | (with_reducible first | refine W1 ?_ | refine W2 ?_ | refine W3 ?_ | refine W4 mixed ?_ | refine W5 ?_ | refine W6 ?_ | refine W7 ?_ | refine W8 ?_ | refine W9 ?_ | refine V1 ?_ | refine V2 ?_ | refine V3 ?_ | refine V4 (by decide) ?_ | refine V5 ?_ | refine V6 ?_ | refine V7 ?_ | refine V8 ?_ | refine V9 ?_ | refine U1 ?_ | refine U2 ?_ | refine U3 ?_) | (with_reducible refine U4 ?_ ?_; next => first | omega | exact ⟨trivial, by omega⟩) | ((with_reducible refine U5 _ rfl (fun hq => ?_) (fun hq => ?_)) <;> try (first | (cases hq; done) | exact absurd hq (by decide))) | ((with_reducible refine U6 (fun hq => ?_) (fun hq => ?_)) <;> try (first | (cases hq; done) | exact absurd hq (by decide))) | simp (maxSteps := 2000000) (discharger := first | omega | (simp (discharger := omega) only [Z1, Z2, Z3, Z4, Z5, Z6, Z7] <;> fail) | (simp (discharger := omega) only [Z3, Z8, Z2, Z4, Z1, Z7, Z5, Z6, Z9, Y1, Y2]; omega)) only [go_sem])
      exact ret_eq hN rfl rfl (by rw [setsV, ho]; rfl)
    | true =>
      repeat' (first | (with_reducible first | refine W1 ?_ | refine W2 ?_ | refine W3 ?_ | refine W4 mixed ?_ | refine W5 ?_ | refine W6 ?_ | refine W7 ?_ | refine W8 ?_ | refine W9 ?_ | refine V1 ?_ | refine V2 ?_ | refine V3 ?_ | refine V4 (by decide) ?_ | refine V5 ?_ | refine V6 ?_ | refine V7 ?_ | refine V8 ?_ | refine V9 ?_ | refine U1 ?_ | refine U2 ?_ | refine U3 ?_) | (with_reducible refine U4 ?_ ?_; next => first | omega | exact ⟨trivial, by omega⟩) | ((with_reducible refine U5 _ rfl (fun hq => ?_) (fun hq => ?_)) <;> try (first | (cases hq; done) | exact absurd hq (by decide))) | ((with_reducible refine U6 (fun hq => ?_) (fun hq => ?_)) <;> try (first | (cases hq; done) | exact absurd hq (by decide))) | simp (maxSteps := 2000000) (discharger := first | omega | (simp (discharger := omega) only [Z1, Z2, Z3, Z4, Z5, Z6, Z7] <;> fail) | (simp (discharger := omega) only [Z3, Z8, Z2, Z4, Z1, Z7, Z5, Z6, Z9, Y1, Y2]; omega)) only [go_sem])
      refine call_new1 (fun y hy => specCp_yes A (Sl.mk kl ol (by rw [u8s_length]; exact hl)) ho y hy) (by simp only [List.mem_singleton]; rintro p rfl; exact (get_old g5).trans g4) nxt_free ?_
      repeat' (first | (with_reducible first | refine W1 ?_ | refine W2 ?_ | refine W3 ?_ | refine W4 mixed ?_ | refine W5 ?_ | refine W6 ?_ | refine W7 ?_ | refine W8 ?_ | refine W9 ?_ | refine V1 ?_ | refine V2 ?_ | refine V3 ?_ | refine V4 (by decide) ?_ | refine V5 ?_ | refine V6 ?_ | refine V7 ?_ | refine V8 ?_ | refine V9 ?_ | refine U1 ?_ | refine U2 ?_ | refine U3 ?_) | (with_reducible refine U4 ?_ ?_; next => first | omega | exact ⟨trivial, by omega⟩) | ((with_reducible refine U5 _ rfl (fun hq => ?_) (fun hq => ?_)) <;> try (first | (cases hq; done) | exact absurd hq (by decide))) | ((with_reducible refine U6 (fun hq => ?_) (fun hq => ?_)) <;> try (first | (cases hq; done) | exact absurd hq (by decide))) | simp (maxSteps := 2000000) (discharger := first | omega | (simp (discharger := omega) only [Z1, Z2, Z3, Z4, Z5, Z6, Z7] <;> fail) | (simp (discharger := omega) only [Z3, Z8, Z2, Z4, Z1, Z7, Z5, Z6, Z9, Y1, Y2]; omega)) only [go_sem])
      exact ret_eq hN rfl rfl (by rw [setsV, ho]; rfl)
  | rest + 1, d, li, i, kl, ol, hr4, hdr, hiq, hl, hpl, hbl => by
    have IH := l10Sets_spec (ka := ka) (cc := cc) (one := one) (oa := oa) hn hm hk hq hal hall hba rest
    have hB : ∀ j li', 0 ≤ setsV n m k q al one rest (d + 1) li' j ∧ setsV n m k q al one rest (d + 1) li' j ≤ 16777216 := fun j li' => by
      have h := setsV_rng n m k hq al one rest (d + 1) li' j
      have h3 : (64 : Int) ^ rest ≤ 64 ^ 4 := by
        have : rest = 0 ∨ rest = 1 ∨ rest = 2 ∨ rest = 3 := by omega
        rcases this with rfl | rfl | rfl | rfl <;> decide
      have h4 : (64 : Int) ^ 4 = 16777216 := by decide
      omega
    obtain ⟨f, hf⟩ : ∃ f : Nat → Int, (fun i => setsV n m k q al one rest (d + 1) (li ++ sub al (i * 18) 18) (i + 1)) = f := ⟨_, rfl⟩
    have hval : setsV n m k q al one (rest + 1) d li i = lpV f one (q - i) i 0 := by rw [setsV, hf]
    have hfj : ∀ j, setsV n m k q al one rest (d + 1) (li ++ sub al (j * 18) 18) (j + 1) = f j := fun j => by rw [← hf]
    have hfB : ∀ j, 0 ≤ f j ∧ f j ≤ 16777216 := fun j => by rw [← hf]; exact hB _ _
    rw [hval]
    clear hval hf hB
    refine FSpec.of f_spec_l10Sets (Nat.le_of_ble_eq_true rfl) fun G N hN hr hw => ?_
    simp only [c_spec_l10Sets, List.length_cons, List.length_nil, List.replicate, List.cons_append, List.nil_append]
    have ⟨g2, g3⟩ := hr _ (List.mem_cons_self ..)
    have ⟨g4, g5⟩ := hr _ (List.mem_cons_of_mem _ (List.mem_cons_self ..))
    dsimp only at g2 g3 g4 g5
    have x0 : ((((rest + 1 : Nat) : Int)) == 0) = false := by simp; omega
    repeat' (first | (with_reducible first | refine W1 ?_ | refine W2 ?_ | refine W3 ?_ | refine W4 mixed ?_ | refine W5 ?_ | refine W6 ?_ | refine W7 ?_ | refine W8 ?_ | refine W9 ?_ | refine V1 ?_ | refine V2 ?_ | refine V3 ?_ | refine V4 (by decide) ?_ | refine V5 ?_ | refine V6 ?_ | refine V7 ?_ | refine V8 ?_ | refine V9 ?_ | refine U1 ?_ | refine U2 ?_ | refine U3 ?_) | (with_reducible refine U4 ?_ ?_; next => first | omega | exact ⟨trivial, by omega⟩) | ((with_reducible refine U5 _ rfl (fun hq => ?_) (fun hq => ?_)) <;> try (first | (cases hq; done) | exact absurd hq (by decide))) | ((with_reducible refine U6 (fun hq => ?_) (fun hq => ?_)) <;> try (first | (cases hq; done) | exact absurd hq (by decide))) | simp (maxSteps := 2000000) (discharger := first | omega | (simp (discharger := omega) only [Z1, Z2, Z3, Z4, Z5, Z6, Z7] <;> fail) | (simp (discharger := omega) only [Z3, Z8, Z2, Z4, Z1, Z7, Z5, Z6, Z9, Y1, Y2]; omega)) only [go_sem, x0])
    refine swp_for (fun (z : Nat × Int × List Slot) => ([.any, .c (.slice ka 0 q 18), .c (.slice kl 0 d 18), .any, .c (.int .i64 ((rest + 1 : Nat) : Int)), .c (.bool one), .c (.ptr (nid N 0) 0)] ++ List.replicate 8 .any ++ [.c (.int .i64 (z.2.1)), .c (.int .i64 ((z.1 : Nat) : Int))] ++ List.replicate 46 .any)) (fun z => ⟨G, N, z.2.2⟩) (fun z => q - z.1) (fun z => i ≤ z.1 ∧ z.1 ≤ q ∧ 0 ≤ z.2.1 ∧ z.2.1 ≤ z.1 * 16777216 ∧ lpV f one (q - i) i 0 = lpV f one (q - z.1) z.1 z.2.1 ∧ gd z.2.2 0 = .live ⟨tenC 2 n m k cc, true⟩ ∧ 0 < z.2.2.length) (i, 0, _) ⟨Nat.le_refl _, hiq, by simp, by simp; omega, rfl, rfl, by simp⟩ rfl (by repeat' (first | exact trivial | exact .inl rfl | exact .inr rfl | refine ⟨?_, ?_⟩)) ?_
    rintro ⟨j, s, L⟩ ⟨hij, hjq, hs0, hsB, hlp, h0, h1⟩
    dsimp only at hij hjq hs0 hsB hlp h0 h1
    simp only [tenC] at h0
    simp only [List.replicate, List.cons_append, List.nil_append]
    by_cases hlt : j < q
    · have x1 : decide (((j : Nat) : Int) < ((q : Nat) : Int)) = true := decide_eq_true (by omega)
      by_cases hstop : (one && decide (s > 0)) = true
      · have hone : one = true := by simp at hstop; exact hstop.1
        have hs1 : s > 0 := by simp at hstop; exact hstop.2
        have x2 : decide (s > 0) = true := decide_eq_true hs1
        have x2' : decide (0 < s) = true := decide_eq_true hs1
        rw [show q - j = (q - (j + 1)) + 1 from by omega, lpV, if_pos hstop] at hlp
        rw [hlp]
        subst hone
        repeat' (first | (with_reducible first | refine W1 ?_ | refine W2 ?_ | refine W3 ?_ | refine W4 mixed ?_ | refine W5 ?_ | refine W6 ?_ | refine W7 ?_ | refine W8 ?_ | refine W9 ?_ | refine V1 ?_ | refine V2 ?_ | refine V3 ?_ | refine V4 (by decide) ?_ | refine V5 ?_ | refine V6 ?_ | refine V7 ?_ | refine V8 ?_ | refine V9 ?_ | refine U1 ?_ | refine U2 ?_ | refine U3 ?_) | (with_reducible refine U4 ?_ ?_; next => first | omega | exact ⟨trivial, by omega⟩) | ((with_reducible refine U5 _ rfl (fun hq => ?_) (fun hq => ?_)) <;> try (first | (cases hq; done) | exact absurd hq (by decide))) | ((with_reducible refine U6 (fun hq => ?_) (fun hq => ?_)) <;> try (first | (cases hq; done) | exact absurd hq (by decide))) | simp (maxSteps := 2000000) (discharger := first | omega | (simp (discharger := omega) only [Z1, Z2, Z3, Z4, Z5, Z6, Z7] <;> fail) | (simp (discharger := omega) only [Z3, Z8, Z2, Z4, Z1, Z7, Z5, Z6, Z9, Y1, Y2]; omega)) only [go_sem, x1, x2, x2'])
        exact ret_eq hN rfl rfl rfl
      · rw [show q - j = (q - (j + 1)) + 1 from by omega, lpV, if_neg hstop] at hlp
        have hgo : one = false ∨ (one = true ∧ ¬ s > 0) := by
          cases one
          · exact .inl rfl
          · right; refine ⟨rfl, fun h => hstop (by simp; exact h)⟩
        have hv : (sub al (j * 18) 18).length = 18 := sub_length (by omega)
        have hfj' := hfj j
        have hfB' := hfB j
        have hl2 : (li ++ sub al (j * 18) 18).length = (d + 1) * 18 := by rw [List.length_append, hl, hv]; omega
        have hp2 := pairsOk_snoc hl hv hpl (pairsOk_at hall hlt)
        have hb2 : byteL (li ++ sub al (j * 18) 18) := fun z hz => by
          rcases List.mem_append.1 hz with hz | hz
          · exact hbl z hz
          · exact hba.sub _ _ z hz
        have IHj := fun kl' => IH (d + 1) (li ++ sub al (j * 18) 18) (j + 1) kl' true (by omega) (by omega) (by omega) hl2 hp2 hb2
        rw [hfj'] at IHj
        clear hfj hfB IH hpl hp2 hb2 hfj'
        have nk : ∀ a, ka ≠ nid N a := fun a => by unfold nid; omega
        have nl : ∀ a, kl ≠ nid N a := fun a => by unfold nid; omega
        generalize hqd : sub al (j * 18) 18 = v at hv hl2 IHj
        have nk' : ∀ a, nid N a ≠ ka := fun a => (nk a).symm
        have nl' : ∀ a, nid N a ≠ kl := fun a => (nl a).symm
        have n1 : nid N L.length ≠ nid N (L.length + 1 + 1) := by unfold nid; omega
        have n2 : nid N (L.length + 1) ≠ nid N (L.length + 1 + 1) := by unfold nid; omega
        have n3 : nid N L.length ≠ nid N (L.length + 1) := by unfold nid; omega
        have n4 : nid N L.length ≠ nid N (L.length + 1 + 1 + 1) := by unfold nid; omega
        have n5 : nid N (L.length + 1) ≠ nid N (L.length + 1 + 1 + 1) := by unfold nid; omega
        have er : (((rest + 1 : Nat)) : Int) - 1 = ((rest : Nat) : Int) := by omega
        have ej : ((j : Nat) : Int) + 1 = ((j + 1 : Nat) : Int) := rfl
        rcases hgo with hone | ⟨hone, hs1⟩
        · subst hone
          repeat' (first | (with_reducible first | refine W1 ?_ | refine W2 ?_ | refine W3 ?_ | refine W4 mixed ?_ | refine W5 ?_ | refine W6 ?_ | refine W7 ?_ | refine W8 ?_ | refine W9 ?_ | refine V1 ?_ | refine V2 ?_ | refine V3 ?_ | refine V4 (by decide) ?_ | refine V5 ?_ | refine V6 ?_ | refine V7 ?_ | refine V8 ?_ | refine V9 ?_ | refine U1 ?_ | refine U2 ?_ | refine U3 ?_) | (with_reducible refine U4 ?_ ?_; next => first | omega | exact ⟨trivial, by omega⟩) | ((with_reducible refine U5 _ rfl (fun hq => ?_) (fun hq => ?_)) <;> try (first | (cases hq; done) | exact absurd hq (by decide))) | ((with_reducible refine U6 (fun hq => ?_) (fun hq => ?_)) <;> try (first | (cases hq; done) | exact absurd hq (by decide))) | simp (maxSteps := 2000000) (discharger := first | omega | (simp (discharger := omega) only [Z1, Z2, Z3, Z4, Z5, Z6, Z7] <;> fail) | (simp (discharger := omega) only [Z3, Z8, Z2, Z4, Z1, Z7, Z5, Z6, Z9, Y1, Y2]; omega)) only [go_sem, x1, g2, g4, hqd])
          refine must_intro (by simp [confV, apart, notIn, lk, nk, nl, nk', nl', n1, n2, n3, n4, n5]) ?_
          repeat' (first | (with_reducible first | refine W1 ?_ | refine W2 ?_ | refine W3 ?_ | refine W4 mixed ?_ | refine W5 ?_ | refine W6 ?_ | refine W7 ?_ | refine W8 ?_ | refine W9 ?_ | refine V1 ?_ | refine V2 ?_ | refine V3 ?_ | refine V4 (by decide) ?_ | refine V5 ?_ | refine V6 ?_ | refine V7 ?_ | refine V8 ?_ | refine V9 ?_ | refine U1 ?_ | refine U2 ?_ | refine U3 ?_) | (with_reducible refine U4 ?_ ?_; next => first | omega | exact ⟨trivial, by omega⟩) | simp (maxSteps := 2000000) (discharger := first | omega | (simp (discharger := omega) only [Z1, Z2, Z3, Z4, Z5, Z6, Z7] <;> fail) | (simp (discharger := omega) only [Z3, Z8, Z2, Z4, Z1, Z7, Z5, Z6, Z9, Y1, Y2]; omega)) only [go_sem, h0, er, ej])
          refine call_ro (IHj _) (by
            simp only [List.mem_cons, List.not_mem_nil, or_false]
            rintro p (rfl | rfl)
            · exact (get_old g3).trans g2
            · dsimp only; rw [get_new]; exact gd_setAt_same) ?_
          repeat' (first | (with_reducible first | refine W1 ?_ | refine W2 ?_ | refine W3 ?_ | refine W4 mixed ?_ | refine W5 ?_ | refine W6 ?_ | refine W7 ?_ | refine W8 ?_ | refine W9 ?_ | refine V1 ?_ | refine V2 ?_ | refine V3 ?_ | refine V4 (by decide) ?_ | refine V5 ?_ | refine V6 ?_ | refine V7 ?_ | refine V8 ?_ | refine V9 ?_ | refine U1 ?_ | refine U2 ?_ | refine U3 ?_) | (with_reducible refine U4 ?_ ?_; next => first | omega | exact ⟨trivial, by omega⟩) | simp (maxSteps := 2000000) (discharger := first | omega | (simp (discharger := omega) only [Z1, Z2, Z3, Z4, Z5, Z6, Z7] <;> fail) | (simp (discharger := omega) only [Z3, Z8, Z2, Z4, Z1, Z7, Z5, Z6, Z9, Y1, Y2]; omega)) only [go_sem])
          refine forK_same (j + 1, s + f j, _) (by dsimp only; omega) ⟨by dsimp only; omega, by dsimp only; omega, by dsimp only; omega, by dsimp only; omega, hlp, ?_, ?_⟩ rfl (by repeat' (first | exact trivial | exact .inl rfl | exact .inr rfl | refine ⟨?_, ?_⟩))
          · dsimp only
            repeat rw [gd_setAt_ne' (by omega)]
            exact h0
          · dsimp only; simp only [setAt_length]; omega
        · subst hone
          have x2 : decide (s > 0) = false := decide_eq_false hs1
          have x2' : decide (0 < s) = false := decide_eq_false hs1
          repeat' (first | (with_reducible first | refine W1 ?_ | refine W2 ?_ | refine W3 ?_ | refine W4 mixed ?_ | refine W5 ?_ | refine W6 ?_ | refine W7 ?_ | refine W8 ?_ | refine W9 ?_ | refine V1 ?_ | refine V2 ?_ | refine V3 ?_ | refine V4 (by decide) ?_ | refine V5 ?_ | refine V6 ?_ | refine V7 ?_ | refine V8 ?_ | refine V9 ?_ | refine U1 ?_ | refine U2 ?_ | refine U3 ?_) | (with_reducible refine U4 ?_ ?_; next => first | omega | exact ⟨trivial, by omega⟩) | ((with_reducible refine U5 _ rfl (fun hq => ?_) (fun hq => ?_)) <;> try (first | (cases hq; done) | exact absurd hq (by decide))) | ((with_reducible refine U6 (fun hq => ?_) (fun hq => ?_)) <;> try (first | (cases hq; done) | exact absurd hq (by decide))) | simp (maxSteps := 2000000) (discharger := first | omega | (simp (discharger := omega) only [Z1, Z2, Z3, Z4, Z5, Z6, Z7] <;> fail) | (simp (discharger := omega) only [Z3, Z8, Z2, Z4, Z1, Z7, Z5, Z6, Z9, Y1, Y2]; omega)) only [go_sem, x1, x2, x2', g2, g4, hqd])
          refine must_intro (by simp [confV, apart, notIn, lk, nk, nl, nk', nl', n1, n2, n3, n4, n5]) ?_
          repeat' (first | (with_reducible first | refine W1 ?_ | refine W2 ?_ | refine W3 ?_ | refine W4 mixed ?_ | refine W5 ?_ | refine W6 ?_ | refine W7 ?_ | refine W8 ?_ | refine W9 ?_ | refine V1 ?_ | refine V2 ?_ | refine V3 ?_ | refine V4 (by decide) ?_ | refine V5 ?_ | refine V6 ?_ | refine V7 ?_ | refine V8 ?_ | refine V9 ?_ | refine U1 ?_ | refine U2 ?_ | refine U3 ?_) | (with_reducible refine U4 ?_ ?_; next => first | omega | exact ⟨trivial, by omega⟩) | simp (maxSteps := 2000000) (discharger := first | omega | (simp (discharger := omega) only [Z1, Z2, Z3, Z4, Z5, Z6, Z7] <;> fail) | (simp (discharger := omega) only [Z3, Z8, Z2, Z4, Z1, Z7, Z5, Z6, Z9, Y1, Y2]; omega)) only [go_sem, h0, er, ej])
          refine call_ro (IHj _) (by
            simp only [List.mem_cons, List.not_mem_nil, or_false]
            rintro p (rfl | rfl)
            · exact (get_old g3).trans g2
            · dsimp only; rw [get_new]; exact gd_setAt_same) ?_
          repeat' (first | (with_reducible first | refine W1 ?_ | refine W2 ?_ | refine W3 ?_ | refine W4 mixed ?_ | refine W5 ?_ | refine W6 ?_ | refine W7 ?_ | refine W8 ?_ | refine W9 ?_ | refine V1 ?_ | refine V2 ?_ | refine V3 ?_ | refine V4 (by decide) ?_ | refine V5 ?_ | refine V6 ?_ | refine V7 ?_ | refine V8 ?_ | refine V9 ?_ | refine U1 ?_ | refine U2 ?_ | refine U3 ?_) | (with_reducible refine U4 ?_ ?_; next => first | omega | exact ⟨trivial, by omega⟩) | simp (maxSteps := 2000000) (discharger := first | omega | (simp (discharger := omega) only [Z1, Z2, Z3, Z4, Z5, Z6, Z7] <;> fail) | (simp (discharger := omega) only [Z3, Z8, Z2, Z4, Z1, Z7, Z5, Z6, Z9, Y1, Y2]; omega)) only [go_sem])
          refine forK_same (j + 1, s + f j, _) (by dsimp only; omega) ⟨by dsimp only; omega, by dsimp only; omega, by dsimp only; omega, by dsimp only; omega, hlp, ?_, ?_⟩ rfl (by repeat' (first | exact trivial | exact .inl rfl | exact .inr rfl | refine ⟨?_, ?_⟩))
          · dsimp only
            repeat rw [gd_setAt_ne' (by omega)]
            exact h0
          · dsimp only; simp only [setAt_length]; omega
    · have hje : j = q := by omega
      have x1 : decide (((j : Nat) : Int) < ((q : Nat) : Int)) = false := decide_eq_false (by omega)
      rw [hje, Nat.sub_self, lpV] at hlp
      rw [hlp]
      repeat' (first | (with_reducible first | refine W1 ?_ | refine W2 ?_ | refine W3 ?_ | refine W4 mixed ?_ | refine W5 ?_ | refine W6 ?_ | refine W7 ?_ | refine W8 ?_ | refine W9 ?_ | refine V1 ?_ | refine V2 ?_ | refine V3 ?_ | refine V4 (by decide) ?_ | refine V5 ?_ | refine V6 ?_ | refine V7 ?_ | refine V8 ?_ | refine V9 ?_ | refine U1 ?_ | refine U2 ?_ | refine U3 ?_) | (with_reducible refine U4 ?_ ?_; next => first | omega | exact ⟨trivial, by omega⟩) | ((with_reducible refine U5 _ rfl (fun hq => ?_) (fun hq => ?_)) <;> try (first | (cases hq; done) | exact absurd hq (by decide))) | ((with_reducible refine U6 (fun hq => ?_) (fun hq => ?_)) <;> try (first | (cases hq; done) | exact absurd hq (by decide))) | simp (maxSteps := 2000000) (discharger := first | omega | (simp (discharger := omega) only [Z1, Z2, Z3, Z4, Z5, Z6, Z7] <;> fail) | (simp (discharger := omega) only [Z3, Z8, Z2, Z4, Z1, Z7, Z5, Z6, Z9, Y1, Y2]; omega)) only [go_sem, x1])
      exact ret_eq hN rfl rfl rfl
theorem small_of {n m k : Int} (h : smallOk n m k = true) : ∃ a b c : Nat, n = a ∧ m = b ∧ k = c ∧ Small a b c := by
  simp only [smallOk, Bool.and_eq_true, decide_eq_true_eq] at h
  have b1 := inSz_rng h.1.1.1
  have b2 := inSz_rng h.1.1.2
  have b3 := inSz_rng h.1.2
  obtain ⟨a, rfl⟩ := Int.eq_ofNat_of_zero_le (show 0 ≤ n by omega)
  obtain ⟨b, rfl⟩ := Int.eq_ofNat_of_zero_le (show 0 ≤ m by omega)
  obtain ⟨c, rfl⟩ := Int.eq_ofNat_of_zero_le (show 0 ≤ k by omega)
  exact ⟨a, b, c, rfl, rfl, rfl, small_cases (by omega) (by omega) (by omega) (by exact_mod_cast h.2)⟩
theorem small_facts {n m k : Nat} (h : Small n m k) : smallOk n m k = true ∧ inSz n = true ∧ inSz m = true ∧ inSz k = true ∧ (1 ≤ n * m ∧ n * m ≤ 4) ∧ (1 ≤ m * k ∧ m * k ≤ 4) ∧ allQ n m k ≤ 64 ∧ n * m * k ≤ 4 := by
  cases h <;> decide
theorem all_spec {n m k : Nat} (h : Small n m k) (x : Nat) : FSpec Try.prog 98 [.c (.int .i64 ((n : Nat) : Int)), .c (.int .i64 ((m : Nat) : Int)), .c (.int .i64 ((k : Nat) : Int))] (.c (.slice x 0 (allQ n m k) 18)) [] [(x, .live ⟨u8s (allL n m k), true⟩)] := by
  obtain ⟨-, -, -, -, h1, h2, -⟩ := small_facts h
  exact l10All_spec n m k (n * m) (m * k) (2 ^ (n * m) - 1) (2 ^ (m * k) - 1) rfl rfl h1 h2 rfl rfl _ _ rfl rfl x
end Go.Proofs.Ytcmmbnhdfkcpdaa
