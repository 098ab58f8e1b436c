/- What the row needs, part 5 of 17: the texts Ty, H1, H2, M1, S1, RW, RG, K0, LA1, LA2, LA3, without what it does not use. -/
import Derived.Test.YtcfemdhlcjmlbaaProg
import Derived.Test.YtcfemdhlcjmlbaaLNa
import Derived.Test.YtcfemdhlcjmlbaaLNb
import Derived.Test.YtcfemdhlcjmlbaaLNc
import Derived.Test.YtcfemdhlcjmlbaaLNd
/- The types' table. -/
namespace Go.Proofs.Ytcfemdhlcjmlbaa
open Go.Abs
set_option maxRecDepth 100000
theorem tyo_2 : tyOf Go.Proofs.Try.prog 2 = some ⟨false, 1, 8, [.int .i64 0], .int .i64⟩ := by kernel_rfl
@[go_sem] theorem ty_2 (F : TyI → Prop) : withTy Go.Proofs.Try.prog 2 (.mk F) = F ⟨false, 1, 8, [.int .i64 0], .int .i64⟩ := withTy_eq tyo_2 F
theorem tyo_3 : tyOf Go.Proofs.Try.prog 3 = some ⟨false, 1, 8, [.int .i64 0], .int .i64⟩ := by kernel_rfl
@[go_sem] theorem ty_3 (F : TyI → Prop) : withTy Go.Proofs.Try.prog 3 (.mk F) = F ⟨false, 1, 8, [.int .i64 0], .int .i64⟩ := withTy_eq tyo_3 F
theorem tyo_5 : tyOf Go.Proofs.Try.prog 5 = some ⟨false, 1, 1, [.int .u8 0], .int .u8⟩ := by kernel_rfl
@[go_sem] theorem ty_5 (F : TyI → Prop) : withTy Go.Proofs.Try.prog 5 (.mk F) = F ⟨false, 1, 1, [.int .u8 0], .int .u8⟩ := withTy_eq tyo_5 F
theorem tyo_22 : tyOf Go.Proofs.Try.prog 22 = some ⟨false, 1, 24, [.nils], .slice 1 1 [.int .u8 0]⟩ := by kernel_rfl
@[go_sem] theorem ty_22 (F : TyI → Prop) : withTy Go.Proofs.Try.prog 22 (.mk F) = F ⟨false, 1, 24, [.nils], .slice 1 1 [.int .u8 0]⟩ := withTy_eq tyo_22 F
theorem tyo_31 : tyOf Go.Proofs.Try.prog 31 = some ⟨false, 1, 24, [.nils], .slice 18 18 (u8s (zeros 18))⟩ := by kernel_rfl
@[go_sem] theorem ty_31 (F : TyI → Prop) : withTy Go.Proofs.Try.prog 31 (.mk F) = F ⟨false, 1, 24, [.nils], .slice 18 18 (u8s (zeros 18))⟩ := withTy_eq tyo_31 F
theorem tyo_35 : tyOf Go.Proofs.Try.prog 35 = some ⟨false, 1, 8, [.int .u64 0], .int .u64⟩ := by kernel_rfl
@[go_sem] theorem ty_35 (F : TyI → Prop) : withTy Go.Proofs.Try.prog 35 (.mk F) = F ⟨false, 1, 8, [.int .u64 0], .int .u64⟩ := withTy_eq tyo_35 F
theorem tyo_36 : tyOf Go.Proofs.Try.prog 36 = some ⟨false, 1, 24, [.nils], .slice 1 8 [.int .i64 0]⟩ := by kernel_rfl
@[go_sem] theorem ty_36 (F : TyI → Prop) : withTy Go.Proofs.Try.prog 36 (.mk F) = F ⟨false, 1, 24, [.nils], .slice 1 8 [.int .i64 0]⟩ := withTy_eq tyo_36 F
theorem tyo_51 : tyOf Go.Proofs.Try.prog 51 = some ⟨false, 1, 24, [.nils], .slice 27 27 (u8s (zeros 27))⟩ := by kernel_rfl
@[go_sem] theorem ty_51 (F : TyI → Prop) : withTy Go.Proofs.Try.prog 51 (.mk F) = F ⟨false, 1, 24, [.nils], .slice 27 27 (u8s (zeros 27))⟩ := withTy_eq tyo_51 F
theorem tyo_53 : tyOf Go.Proofs.Try.prog 53 = some ⟨true, 5, 56, [.int .i64 0, .int .i64 0, .int .i64 0, .int .i64 0, .nils], .struct [(0, 1), (1, 1), (2, 1), (3, 1), (4, 1)]⟩ := by kernel_rfl
@[go_sem] theorem ty_53 (F : TyI → Prop) : withTy Go.Proofs.Try.prog 53 (.mk F) = F ⟨true, 5, 56, [.int .i64 0, .int .i64 0, .int .i64 0, .int .i64 0, .nils], .struct [(0, 1), (1, 1), (2, 1), (3, 1), (4, 1)]⟩ := withTy_eq tyo_53 F
theorem tyo_56 : tyOf Go.Proofs.Try.prog 56 = some ⟨false, 1, 24, [.nils], .slice 1 24 [.nils]⟩ := by kernel_rfl
@[go_sem] theorem ty_56 (F : TyI → Prop) : withTy Go.Proofs.Try.prog 56 (.mk F) = F ⟨false, 1, 24, [.nils], .slice 1 24 [.nils]⟩ := withTy_eq tyo_56 F
theorem tyo_119 : tyOf Go.Proofs.Try.prog 119 = some ⟨false, 1, 8, [.nilf], .other⟩ := by kernel_rfl
@[go_sem] theorem ty_119 (F : TyI → Prop) : withTy Go.Proofs.Try.prog 119 (.mk F) = F ⟨false, 1, 8, [.nilf], .other⟩ := withTy_eq tyo_119 F
theorem tyo_123 : tyOf Go.Proofs.Try.prog 123 = some ⟨true, 9, 9, u8s (zeros 9), .array 9 1 false⟩ := by kernel_rfl
@[go_sem] theorem ty_123 (F : TyI → Prop) : withTy Go.Proofs.Try.prog 123 (.mk F) = F ⟨true, 9, 9, u8s (zeros 9), .array 9 1 false⟩ := withTy_eq tyo_123 F
theorem tyo_125 : tyOf Go.Proofs.Try.prog 125 = some ⟨true, 18, 18, u8s (zeros 18), .struct [(0, 9), (9, 9)]⟩ := by kernel_rfl
@[go_sem] theorem ty_125 (F : TyI → Prop) : withTy Go.Proofs.Try.prog 125 (.mk F) = F ⟨true, 18, 18, u8s (zeros 18), .struct [(0, 9), (9, 9)]⟩ := withTy_eq tyo_125 F
theorem tyo_147 : tyOf Go.Proofs.Try.prog 147 = some ⟨true, 27, 27, u8s (zeros 27), .struct [(0, 9), (9, 9), (18, 9)]⟩ := by kernel_rfl
@[go_sem] theorem ty_147 (F : TyI → Prop) : withTy Go.Proofs.Try.prog 147 (.mk F) = F ⟨true, 27, 27, u8s (zeros 27), .struct [(0, 9), (9, 9), (18, 9)]⟩ := withTy_eq tyo_147 F
theorem tyo_153 : tyOf Go.Proofs.Try.prog 153 = some ⟨true, 3, 24, [.int .i64 0, .int .i64 0, .int .i64 0], .array 3 1 false⟩ := by kernel_rfl
@[go_sem] theorem ty_153 (F : TyI → Prop) : withTy Go.Proofs.Try.prog 153 (.mk F) = F ⟨true, 3, 24, [.int .i64 0, .int .i64 0, .int .i64 0], .array 3 1 false⟩ := withTy_eq tyo_153 F
theorem tyo_198 : tyOf Go.Proofs.Try.prog 198 = some ⟨false, 1, 24, [.nils], .slice 1 8 [.int .i64 0]⟩ := by kernel_rfl
@[go_sem] theorem ty_198 (F : TyI → Prop) : withTy Go.Proofs.Try.prog 198 (.mk F) = F ⟨false, 1, 24, [.nils], .slice 1 8 [.int .i64 0]⟩ := withTy_eq tyo_198 F
theorem tyo_210 : tyOf Go.Proofs.Try.prog 210 = some ⟨true, 3, 40, [.nils, .int .i64 0, .int .u64 0], .struct [(0, 1), (1, 1), (2, 1)]⟩ := by kernel_rfl
@[go_sem] theorem ty_210 (F : TyI → Prop) : withTy Go.Proofs.Try.prog 210 (.mk F) = F ⟨true, 3, 40, [.nils, .int .i64 0, .int .u64 0], .struct [(0, 1), (1, 1), (2, 1)]⟩ := withTy_eq tyo_210 F
theorem tyo_211 : tyOf Go.Proofs.Try.prog 211 = some ⟨false, 1, 24, [.nils], .slice 9 9 (u8s (zeros 9))⟩ := by kernel_rfl
@[go_sem] theorem ty_211 (F : TyI → Prop) : withTy Go.Proofs.Try.prog 211 (.mk F) = F ⟨false, 1, 24, [.nils], .slice 9 9 (u8s (zeros 9))⟩ := withTy_eq tyo_211 F
end Go.Proofs.Ytcfemdhlcjmlbaa
/- The laws' helpers for lists of numbers. -/
namespace Go.Proofs.Ytcfemdhlcjmlbaa
open Go Go.Abs
set_option maxRecDepth 100000

set_option maxRecDepth 100000
set_option maxHeartbeats 4000000
set_option linter.unusedVariables false
theorem mixed : Try.prog.follows .mixedOrders = true := by kernel_rfl

@[go_sem] def tenC (p i j k : Int) (c : Cell) : List Cell := [.int .i64 p, .int .i64 i, .int .i64 j, .int .i64 k, c]

end Go.Proofs.Ytcfemdhlcjmlbaa
/- Primes, sides, tensors told by a function. -/
namespace Go.Proofs.Ytcfemdhlcjmlbaa
open Go Go.Abs
set_option maxRecDepth 100000

/- loop.example/g01262/impl.isPrime -/

/- loop.example/g01262/spec.l01Prime -/
def c_spec_l01Prime : SFn := ⟨(.seq (.ops [⟨some 2, .assign (.const (.bool false)), none⟩])
 (.seq (.ops [⟨some 3, .move (.tmp 0), none⟩, ⟨some 4, .binOp .eql 2 (.tmp 3) (.const (.int .i64 2)) 2, none⟩, ⟨some 5, .move (.tmp 4), none⟩, ⟨some 6, .move (.tmp 0), some (5, false)⟩, ⟨some 7, .binOp .eql 2 (.tmp 6) (.const (.int .i64 3)) 2, some (5, false)⟩, ⟨some 8, .pick (.tmp 5) (.const (.bool true)) (.tmp 7), none⟩, ⟨some 9, .move (.tmp 8), none⟩, ⟨some 10, .move (.tmp 0), some (9, false)⟩, ⟨some 11, .binOp .eql 2 (.tmp 10) (.const (.int .i64 5)) 2, some (9, false)⟩, ⟨some 12, .pick (.tmp 9) (.const (.bool true)) (.tmp 11), none⟩, ⟨some 2, .assign (.tmp 12), none⟩])
  .ret)), [.tmp 2], 13⟩
theorem f_spec_l01Prime : isFn Go.Proofs.Try.prog 122 = some c_spec_l01Prime := by kernel_rfl


/- loop.example/g01262/spec.l01In -/
def c_spec_l01In : SFn := ⟨(.seq (.ops [⟨some 6, .assign (.const (.bool false)), none⟩])
 (.seq (.ops [⟨some 7, .move (.tmp 0), none⟩, ⟨some 8, .move (.tmp 1), none⟩, ⟨some 9, .binOp .geq 2 (.tmp 7) (.tmp 8) 2, none⟩, ⟨some 10, .move (.tmp 9), none⟩, ⟨some 11, .move (.tmp 0), some (10, true)⟩, ⟨some 12, .move (.tmp 2), some (10, true)⟩, ⟨some 13, .binOp .leq 2 (.tmp 11) (.tmp 12) 2, some (10, true)⟩, ⟨some 14, .pick (.tmp 10) (.tmp 13) (.const (.bool false)), none⟩, ⟨some 6, .assign (.tmp 14), none⟩])
  .ret)), [.tmp 6], 15⟩
theorem f_spec_l01In : isFn Go.Proofs.Try.prog 116 = some c_spec_l01In := by kernel_rfl


/- loop.example/g01262/impl.isSide -/

/- loop.example/g01262/impl.PolynomialTensor$1 -/
set_option maxRecDepth 100000
set_option maxHeartbeats 4000000
set_option linter.unusedVariables false
attribute [-simp] List.getD_eq_getElem?_getD

def isP (p : Int) : Bool := p == 2 || p == 3 || p == 5
theorem l01Prime_spec (p : Int) : FSpec Try.prog 122 [.c (.int .i64 p)] (.c (.bool (isP p))) [] [] := by
  refine FSpec.of f_spec_l01Prime (Nat.le_of_ble_eq_true rfl) fun G N hN hr hw => ?_
  simp only [c_spec_l01Prime, List.length_cons, List.length_nil, List.replicate, List.cons_append, List.nil_append]
  repeat' (first | (with_reducible first | refine W1 ?_ | refine W2 ?_ | refine W3 ?_ | refine W4 mixed ?_ | refine W5 ?_ | refine W6 ?_ | refine W7 ?_ | refine W8 ?_ | refine W9 ?_ | refine V1 ?_ | refine V2 ?_ | refine V3 ?_ | refine V4 (by decide) ?_ | refine V5 ?_ | refine V6 ?_ | refine V7 ?_ | refine V8 ?_ | refine V9 ?_ | refine U1 ?_ | refine U2 ?_ | refine U3 ?_) | (with_reducible refine U4 ?_ ?_; next => first | omega | exact ⟨trivial, by omega⟩) | ((with_reducible refine U5 _ rfl (fun hq => ?_) (fun hq => ?_)) <;> try (first | (cases hq; done) | exact absurd hq (by decide))) | ((with_reducible refine U6 (fun hq => ?_) (fun hq => ?_)) <;> try (first | (cases hq; done) | exact absurd hq (by decide))) | simp (maxSteps := 2000000) (discharger := first | omega | (simp (discharger := omega) only [Z1, Z2, Z3, Z4, Z5, Z6, Z7] <;> fail) | (simp (discharger := omega) only [Z3, Z8, Z2, Z4, Z1, Z7, Z5, Z6, Z9, Y1, Y2]; omega)) only [go_sem])
  all_goals exact ret_eq hN rfl rfl (by simp_all [isP])
theorem l01In_spec (n a b : Int) : FSpec Try.prog 116 [.c (.int .i64 n), .c (.int .i64 a), .c (.int .i64 b)] (.c (.bool (decide (a ≤ n) && decide (n ≤ b)))) [] [] := by
  refine FSpec.of f_spec_l01In (Nat.le_of_ble_eq_true rfl) fun G N hN hr hw => ?_
  simp only [c_spec_l01In, List.length_cons, List.length_nil, List.replicate, List.cons_append, List.nil_append]
  repeat' (first | (with_reducible first | refine W1 ?_ | refine W2 ?_ | refine W3 ?_ | refine W4 mixed ?_ | refine W5 ?_ | refine W6 ?_ | refine W7 ?_ | refine W8 ?_ | refine W9 ?_ | refine V1 ?_ | refine V2 ?_ | refine V3 ?_ | refine V4 (by decide) ?_ | refine V5 ?_ | refine V6 ?_ | refine V7 ?_ | refine V8 ?_ | refine V9 ?_ | refine U1 ?_ | refine U2 ?_ | refine U3 ?_) | (with_reducible refine U4 ?_ ?_; next => first | omega | exact ⟨trivial, by omega⟩) | ((with_reducible refine U5 _ rfl (fun hq => ?_) (fun hq => ?_)) <;> try (first | (cases hq; done) | exact absurd hq (by decide))) | ((with_reducible refine U6 (fun hq => ?_) (fun hq => ?_)) <;> try (first | (cases hq; done) | exact absurd hq (by decide))) | simp (maxSteps := 2000000) (discharger := first | omega | (simp (discharger := omega) only [Z1, Z2, Z3, Z4, Z5, Z6, Z7] <;> fail) | (simp (discharger := omega) only [Z3, Z8, Z2, Z4, Z1, Z7, Z5, Z6, Z9, Y1, Y2]; omega)) only [go_sem])
  all_goals exact ret_eq hN rfl rfl (by simp_all <;> omega)

end Go.Proofs.Ytcfemdhlcjmlbaa
/- Forms and products: copied, checked. -/
namespace Go.Proofs.Ytcfemdhlcjmlbaa
open Go Go.Abs
set_option maxRecDepth 100000

/- loop.example/g01262/impl.isForm -/
def c_impl_isForm : SFn := ⟨(.seq (.ops [⟨some 5, .box 123 (.tmp 2), none⟩, ⟨some 6, .assign (.const (.bool false)), none⟩])
 (.seq (.seq (.ops [⟨some 9, .load 123 (.tmp 5), none⟩, ⟨some 10, .move (.const (.int .i64 0)), none⟩])
   (.block 0 (.loop (.seq (.ops [⟨some 11, .binOp .lss 3 (.tmp 10) (.const (.int .i64 9)) 3, none⟩])
      (.seq (.cond (.tmp 11) .skip
        (.exit 0))
       (.seq (.block 1 (.seq (.ops [⟨some 12, .move (.tmp 10), none⟩, ⟨some 13, .index 123 (.tmp 9) (.tmp 10), none⟩, ⟨some 7, .assign (.tmp 12), none⟩, ⟨some 8, .assign (.tmp 13), none⟩])
          (.seq (.ops [⟨some 14, .move (.tmp 8), none⟩, ⟨some 15, .convert 5 2 (.tmp 14), none⟩, ⟨some 16, .move (.tmp 0), none⟩, ⟨some 17, .binOp .geq 2 (.tmp 15) (.tmp 16) 2, none⟩, ⟨some 18, .move (.tmp 17), none⟩, ⟨some 19, .move (.tmp 8), some (18, false)⟩, ⟨some 20, .binOp .neq 5 (.tmp 19) (.const (.int .u8 0)) 5, some (18, false)⟩, ⟨some 21, .move (.tmp 20), some (18, false)⟩, ⟨some 22, .move (.tmp 7), some (21, true)⟩, ⟨some 23, .move (.tmp 1), some (21, true)⟩, ⟨some 24, .binOp .geq 2 (.tmp 22) (.tmp 23) 2, some (21, true)⟩, ⟨some 25, .pick (.tmp 21) (.tmp 24) (.const (.bool false)), some (18, false)⟩, ⟨some 26, .pick (.tmp 18) (.const (.bool true)) (.tmp 25), none⟩])
           (.cond (.tmp 26) (.seq (.ops [⟨some 6, .assign (.const (.bool false)), none⟩])
             .ret)
            .skip))))
        (.ops [⟨some 27, .binOp .add 3 (.tmp 10) (.const (.int .i64 1)) 3, none⟩, ⟨some 10, .move (.tmp 27), none⟩])))))))
  (.seq (.ops [⟨some 6, .assign (.const (.bool true)), none⟩])
   .ret))), [.tmp 6], 28⟩
theorem f_impl_isForm : isFn Go.Proofs.Try.prog 244 = some c_impl_isForm := by kernel_rfl


/- loop.example/g01262/spec.l01Form -/

/- loop.example/g01262/spec.l01Zero -/
def c_spec_l01Zero : SFn := ⟨(.seq (.ops [⟨some 1, .box 123 (.tmp 0), none⟩, ⟨some 2, .assign (.const (.bool false)), none⟩])
 (.seq (.ops [⟨some 3, .load 123 (.tmp 1), none⟩, ⟨some 4, .build 123 #[], none⟩, ⟨some 5, .binOp .eql 123 (.tmp 3) (.tmp 4) 123, none⟩, ⟨some 2, .assign (.tmp 5), none⟩])
  .ret)), [.tmp 2], 6⟩
theorem f_spec_l01Zero : isFn Go.Proofs.Try.prog 233 = some c_spec_l01Zero := by kernel_rfl


/- loop.example/g01262/impl.hasZero -/
def c_impl_hasZero : SFn := ⟨(.seq (.ops [⟨some 1, .box 147 (.tmp 0), none⟩, ⟨some 2, .assign (.const (.bool false)), none⟩])
 (.seq (.ops [⟨some 3, .fieldAddr 147 (.tmp 1) 0, none⟩, ⟨some 4, .load 123 (.tmp 3), none⟩, ⟨some 5, .build 123 #[], none⟩, ⟨some 6, .binOp .eql 123 (.tmp 4) (.tmp 5) 123, none⟩, ⟨some 7, .move (.tmp 6), none⟩, ⟨some 8, .fieldAddr 147 (.tmp 1) 1, some (7, false)⟩, ⟨some 9, .load 123 (.tmp 8), some (7, false)⟩, ⟨some 10, .build 123 #[], some (7, false)⟩, ⟨some 11, .binOp .eql 123 (.tmp 9) (.tmp 10) 123, some (7, false)⟩, ⟨some 12, .pick (.tmp 7) (.const (.bool true)) (.tmp 11), none⟩, ⟨some 13, .move (.tmp 12), none⟩, ⟨some 14, .fieldAddr 147 (.tmp 1) 2, some (13, false)⟩, ⟨some 15, .load 123 (.tmp 14), some (13, false)⟩, ⟨some 16, .build 123 #[], some (13, false)⟩, ⟨some 17, .binOp .eql 123 (.tmp 15) (.tmp 16) 123, some (13, false)⟩, ⟨some 18, .pick (.tmp 13) (.const (.bool true)) (.tmp 17), none⟩, ⟨some 2, .assign (.tmp 18), none⟩])
  .ret)), [.tmp 2], 19⟩
theorem f_impl_hasZero : isFn Go.Proofs.Try.prog 239 = some c_impl_hasZero := by kernel_rfl


/- loop.example/g01262/impl.factors -/
set_option maxRecDepth 100000
set_option maxHeartbeats 4000000
set_option linter.unusedVariables false
attribute [-simp] List.getD_eq_getElem?_getD

@[go_sem] theorem eqArr94 : eqArr Try.prog 123 = true := by kernel_rfl
@[go_sem] theorem info94 : (Try.prog.info? 123).map (·.size) = some 9 := by kernel_rfl

/-- A form has numbers modulo p at its places, and 0 at all others. -/
def formOk (p a : Int) (f : List Int) : Bool := (List.range 9).all fun i => decide (f.getD i 0 < p) && (decide (f.getD i 0 = 0) || decide ((i : Int) < a))

theorem isForm_spec (p a : Int) {f : List Int} (hf : f.length = 9) (hb : byteL f) : FSpec Try.prog 244 [.c (.int .i64 p), .c (.int .i64 a), .agg (u8s f)] (.c (.bool (formOk p a f))) [] [] := by
  refine FSpec.of f_impl_isForm (Nat.le_of_ble_eq_true rfl) fun G N hN hr hw => ?_
  simp only [c_impl_isForm, List.length_cons, List.length_nil, List.replicate, List.cons_append, List.nil_append]
  repeat' (first | (with_reducible first | refine W1 ?_ | refine W2 ?_ | refine W3 ?_ | refine W4 mixed ?_ | refine W5 ?_ | refine W6 ?_ | refine W7 ?_ | refine W8 ?_ | refine W9 ?_ | refine V1 ?_ | refine V2 ?_ | refine V3 ?_ | refine V4 (by decide) ?_ | refine V5 ?_ | refine V6 ?_ | refine V7 ?_ | refine V8 ?_ | refine V9 ?_ | refine U1 ?_ | refine U2 ?_ | refine U3 ?_) | (with_reducible refine U4 ?_ ?_; next => first | omega | exact ⟨trivial, by omega⟩) | simp (maxSteps := 2000000) (discharger := first | omega | (simp (discharger := omega) only [Z1, Z2, Z3, Z4, Z5, Z6, Z7] <;> fail) | (simp (discharger := omega) only [Z3, Z8, Z2, Z4, Z1, Z7, Z5, Z6, Z9, Y1, Y2]; omega)) only [go_sem])
  refine swp_for (fun i : Nat => [.c (.int .i64 p), .c (.int .i64 a), .agg (u8s f), .any, .any, .any, .any, .any, .any, .agg (u8s f), .c (.int .i64 i)] ++ List.replicate 17 .any) (fun i => ⟨G, N, [.live ⟨u8s f, true⟩]⟩) (fun i => 9 - i) (fun i => i ≤ 9 ∧ (List.range i).all (fun i => decide (f.getD i 0 < p) && (decide (f.getD i 0 = 0) || decide ((i : Int) < a))) = true) 0 ⟨Nat.zero_le _, rfl⟩ rfl (by repeat' (first | exact trivial | exact .inl rfl | exact .inr rfl | refine ⟨?_, ?_⟩)) fun i hi => ?_
  simp only [List.replicate, List.cons_append, List.nil_append]
  repeat' (first | (with_reducible first | refine W1 ?_ | refine W2 ?_ | refine W3 ?_ | refine W4 mixed ?_ | refine W5 ?_ | refine W6 ?_ | refine W7 ?_ | refine W8 ?_ | refine W9 ?_ | refine V1 ?_ | refine V2 ?_ | refine V3 ?_ | refine V4 (by decide) ?_ | refine V5 ?_ | refine V6 ?_ | refine V7 ?_ | refine V8 ?_ | refine V9 ?_ | refine U1 ?_ | refine U2 ?_ | refine U3 ?_) | (with_reducible refine U4 ?_ ?_; next => first | omega | exact ⟨trivial, by omega⟩) | simp (maxSteps := 2000000) (discharger := first | omega | (simp (discharger := omega) only [Z1, Z2, Z3, Z4, Z5, Z6, Z7] <;> fail) | (simp (discharger := omega) only [Z3, Z8, Z2, Z4, Z1, Z7, Z5, Z6, Z9, Y1, Y2]; omega)) only [go_sem])
  refine swp_cond _ rfl (fun h => ?_) (fun h => ?_)
  · have hlt : i < 9 := by simp at h; omega
    have hbi := hb.get i
    have bad : (decide (f.getD i 0 < p) && (decide (f.getD i 0 = 0) || decide ((i : Int) < a))) = false → retS Try.prog [.tmp 6] G N (.c (.bool false)) [] = retS Try.prog [.tmp 6] G N (.c (.bool (formOk p a f))) [] := fun e => by
      rw [show formOk p a f = false from all_range_false hlt e]
    have good : (decide (f.getD i 0 < p) && (decide (f.getD i 0 = 0) || decide ((i : Int) < a))) = true → (List.range (i + 1)).all (fun i => decide (f.getD i 0 < p) && (decide (f.getD i 0 = 0) || decide ((i : Int) < a))) = true := fun e => by
      rw [all_range_succ, hi.2, e]; rfl
    repeat' (first | (with_reducible first | refine W1 ?_ | refine W2 ?_ | refine W3 ?_ | refine W4 mixed ?_ | refine W5 ?_ | refine W6 ?_ | refine W7 ?_ | refine W8 ?_ | refine W9 ?_ | refine V1 ?_ | refine V2 ?_ | refine V3 ?_ | refine V4 (by decide) ?_ | refine V5 ?_ | refine V6 ?_ | refine V7 ?_ | refine V8 ?_ | refine V9 ?_ | refine U1 ?_ | refine U2 ?_ | refine U3 ?_) | (with_reducible refine U4 ?_ ?_; next => first | omega | exact ⟨trivial, by omega⟩) | ((with_reducible refine U5 _ rfl (fun hq => ?_) (fun hq => ?_)) <;> try (first | (cases hq; done) | exact absurd hq (by decide))) | ((with_reducible refine U6 (fun hq => ?_) (fun hq => ?_)) <;> try (first | (cases hq; done) | exact absurd hq (by decide))) | simp (maxSteps := 2000000) (discharger := first | omega | (simp (discharger := omega) only [Z1, Z2, Z3, Z4, Z5, Z6, Z7] <;> fail) | (simp (discharger := omega) only [Z3, Z8, Z2, Z4, Z1, Z7, Z5, Z6, Z9, Y1, Y2]; omega)) only [go_sem])
    all_goals first
      | (rw [← bad (by simp_all <;> omega)]; exact ret_eq hN rfl rfl rfl)
      | exact forK_same (i + 1) (by omega) ⟨by omega, good (by simp_all <;> omega)⟩ rfl (by repeat' (first | exact trivial | exact .inl rfl | exact .inr rfl | refine ⟨?_, ?_⟩))
  · have hlt : i = 9 := by simp at h; omega
    subst hlt
    repeat' (first | (with_reducible first | refine W1 ?_ | refine W2 ?_ | refine W3 ?_ | refine W4 mixed ?_ | refine W5 ?_ | refine W6 ?_ | refine W7 ?_ | refine W8 ?_ | refine W9 ?_ | refine V1 ?_ | refine V2 ?_ | refine V3 ?_ | refine V4 (by decide) ?_ | refine V5 ?_ | refine V6 ?_ | refine V7 ?_ | refine V8 ?_ | refine V9 ?_ | refine U1 ?_ | refine U2 ?_ | refine U3 ?_) | (with_reducible refine U4 ?_ ?_; next => first | omega | exact ⟨trivial, by omega⟩) | simp (maxSteps := 2000000) (discharger := first | omega | (simp (discharger := omega) only [Z1, Z2, Z3, Z4, Z5, Z6, Z7] <;> fail) | (simp (discharger := omega) only [Z3, Z8, Z2, Z4, Z1, Z7, Z5, Z6, Z9, Y1, Y2]; omega)) only [go_sem])
    exact ret_eq hN rfl rfl (by rw [show formOk p a f = true from hi.2])

theorem l01Zero_spec {f : List Int} (hf : f.length = 9) : FSpec Try.prog 233 [.agg (u8s f)] (.c (.bool (decide (f = zeros 9)))) [] [] := by
  refine FSpec.of f_spec_l01Zero (Nat.le_of_ble_eq_true rfl) fun G N hN hr hw => ?_
  simp only [c_spec_l01Zero, List.length_cons, List.length_nil, List.replicate, List.cons_append, List.nil_append]
  repeat' (first | (with_reducible first | refine W1 ?_ | refine W2 ?_ | refine W3 ?_ | refine W4 mixed ?_ | refine W5 ?_ | refine W6 ?_ | refine W7 ?_ | refine W8 ?_ | refine W9 ?_ | refine V1 ?_ | refine V2 ?_ | refine V3 ?_ | refine V4 (by decide) ?_ | refine V5 ?_ | refine V6 ?_ | refine V7 ?_ | refine V8 ?_ | refine V9 ?_ | refine U1 ?_ | refine U2 ?_ | refine U3 ?_) | (with_reducible refine U4 ?_ ?_; next => first | omega | exact ⟨trivial, by omega⟩) | simp (maxSteps := 2000000) (discharger := first | omega | (simp (discharger := omega) only [Z1, Z2, Z3, Z4, Z5, Z6, Z7] <;> fail) | (simp (discharger := omega) only [Z3, Z8, Z2, Z4, Z1, Z7, Z5, Z6, Z9, Y1, Y2]; omega)) only [go_sem])
  exact ret_eq hN rfl rfl rfl

/-- A product with a form that is 0 everywhere. -/
def hasZ (l : List Int) : Bool := decide (sub l 0 9 = zeros 9) || decide (sub l 9 9 = zeros 9) || decide (sub l 18 9 = zeros 9)
theorem hasZero_spec {l : List Int} (hl : l.length = 27) : FSpec Try.prog 239 [.agg (u8s l)] (.c (.bool (hasZ l))) [] [] := by
  have h1 : (sub l 0 9).length = 9 := sub_length (by omega)
  have h2 : (sub l 9 9).length = 9 := sub_length (by omega)
  have h3 : (sub l 18 9).length = 9 := sub_length (by omega)
  refine FSpec.of f_impl_hasZero (Nat.le_of_ble_eq_true rfl) fun G N hN hr hw => ?_
  simp only [c_impl_hasZero, List.length_cons, List.length_nil, List.replicate, List.cons_append, List.nil_append]
  repeat' (first | (with_reducible first | refine W1 ?_ | refine W2 ?_ | refine W3 ?_ | refine W4 mixed ?_ | refine W5 ?_ | refine W6 ?_ | refine W7 ?_ | refine W8 ?_ | refine W9 ?_ | refine V1 ?_ | refine V2 ?_ | refine V3 ?_ | refine V4 (by decide) ?_ | refine V5 ?_ | refine V6 ?_ | refine V7 ?_ | refine V8 ?_ | refine V9 ?_ | refine U1 ?_ | refine U2 ?_ | refine U3 ?_) | (with_reducible refine U4 ?_ ?_; next => first | omega | exact ⟨trivial, by omega⟩) | ((with_reducible refine U5 _ rfl (fun hq => ?_) (fun hq => ?_)) <;> try (first | (cases hq; done) | exact absurd hq (by decide))) | ((with_reducible refine U6 (fun hq => ?_) (fun hq => ?_)) <;> try (first | (cases hq; done) | exact absurd hq (by decide))) | simp (maxSteps := 2000000) (discharger := first | omega | (simp (discharger := omega) only [Z1, Z2, Z3, Z4, Z5, Z6, Z7] <;> fail) | (simp (discharger := omega) only [Z3, Z8, Z2, Z4, Z1, Z7, Z5, Z6, Z9, Y1, Y2]; omega)) only [go_sem])
  all_goals exact ret_eq hN rfl rfl (by simp_all [hasZ])

end Go.Proofs.Ytcfemdhlcjmlbaa
/- Schemes: checked. -/
namespace Go.Proofs.Ytcfemdhlcjmlbaa
open Go Go.Abs
set_option maxRecDepth 100000

/- loop.example/g01262/spec.l01Sizes -/
def c_spec_l01Sizes : SFn := ⟨(.seq (.ops [⟨some 8, .assign (.const (.bool false)), none⟩])
 (.seq (.ops [⟨some 9, .move (.tmp 0), none⟩, ⟨some 10, .call ⟨.value (.func 122), #[.tmp 9], #[2]⟩, none⟩, ⟨some 11, .move (.tmp 10), none⟩, ⟨some 12, .move (.tmp 1), some (11, true)⟩, ⟨some 13, .call ⟨.value (.func 116), #[.tmp 12, .const (.int .i64 1), .const (.int .i64 3)], #[2, 2, 2]⟩, some (11, true)⟩, ⟨some 14, .pick (.tmp 11) (.tmp 13) (.const (.bool false)), none⟩, ⟨some 15, .move (.tmp 14), none⟩, ⟨some 16, .move (.tmp 2), some (15, true)⟩, ⟨some 17, .call ⟨.value (.func 116), #[.tmp 16, .const (.int .i64 1), .const (.int .i64 3)], #[2, 2, 2]⟩, some (15, true)⟩, ⟨some 18, .pick (.tmp 15) (.tmp 17) (.const (.bool false)), none⟩, ⟨some 19, .move (.tmp 18), none⟩, ⟨some 20, .move (.tmp 3), some (19, true)⟩, ⟨some 21, .call ⟨.value (.func 116), #[.tmp 20, .const (.int .i64 1), .const (.int .i64 3)], #[2, 2, 2]⟩, some (19, true)⟩, ⟨some 22, .pick (.tmp 19) (.tmp 21) (.const (.bool false)), none⟩, ⟨some 8, .assign (.tmp 22), none⟩])
  .ret)), [.tmp 8], 23⟩
theorem f_spec_l01Sizes : isFn Go.Proofs.Try.prog 137 = some c_spec_l01Sizes := by kernel_rfl


/- loop.example/g01262/impl.isSize -/
def c_impl_isSize : SFn := ⟨(.seq (.ops [⟨some 2, .assign (.const (.bool false)), none⟩])
 (.seq (.seq (.ops [⟨some 5, .move (.tmp 0), none⟩, ⟨some 6, .call ⟨.builtin .len, #[.tmp 5], #[36]⟩, none⟩, ⟨some 7, .move (.const (.int .i64 0)), none⟩])
   (.block 0 (.loop (.seq (.ops [⟨some 8, .binOp .lss 3 (.tmp 7) (.tmp 6) 3, none⟩])
      (.seq (.cond (.tmp 8) .skip
        (.exit 0))
       (.seq (.block 1 (.seq (.ops [⟨some 9, .indexAddr 36 (.tmp 5) (.tmp 7), none⟩, ⟨some 10, .load 2 (.tmp 9), none⟩, ⟨some 4, .assign (.tmp 10), none⟩])
          (.seq (.ops [⟨some 11, .move (.tmp 4), none⟩, ⟨some 12, .binOp .lss 2 (.tmp 11) (.const (.int .i64 1)) 2, none⟩, ⟨some 13, .move (.tmp 12), none⟩, ⟨some 14, .move (.tmp 4), some (13, false)⟩, ⟨some 15, .binOp .gtr 2 (.tmp 14) (.const (.int .i64 3)) 2, some (13, false)⟩, ⟨some 16, .pick (.tmp 13) (.const (.bool true)) (.tmp 15), none⟩])
           (.cond (.tmp 16) (.seq (.ops [⟨some 2, .assign (.const (.bool false)), none⟩])
             .ret)
            .skip))))
        (.ops [⟨some 17, .binOp .add 3 (.tmp 7) (.const (.int .i64 1)) 3, none⟩, ⟨some 7, .move (.tmp 17), none⟩])))))))
  (.seq (.ops [⟨some 2, .assign (.const (.bool true)), none⟩])
   .ret))), [.tmp 2], 18⟩
theorem f_impl_isSize : isFn Go.Proofs.Try.prog 131 = some c_impl_isSize := by kernel_rfl


/- loop.example/g01262/spec.l01Lengths -/
def c_spec_l01Lengths : SFn := ⟨(.seq (.ops [⟨some 1, .box 53 (.tmp 0), none⟩, ⟨some 2, .assign (.const (.int .i64 0)), none⟩, ⟨some 3, .assign (.const (.int .i64 0)), none⟩, ⟨some 4, .assign (.const (.int .i64 0)), none⟩])
 (.seq (.opsD [⟨some 5, .fieldAddr 53 (.tmp 1) 1, none⟩, ⟨some 6, .load 2 (.tmp 5), none⟩, ⟨some 7, .fieldAddr 53 (.tmp 1) 2, none⟩, ⟨some 8, .load 2 (.tmp 7), none⟩, ⟨some 9, .binOp .mul 2 (.tmp 6) (.tmp 8) 2, none⟩, ⟨some 10, .fieldAddr 53 (.tmp 1) 2, none⟩, ⟨some 11, .load 2 (.tmp 10), none⟩, ⟨some 12, .fieldAddr 53 (.tmp 1) 3, none⟩, ⟨some 13, .load 2 (.tmp 12), none⟩, ⟨some 14, .binOp .mul 2 (.tmp 11) (.tmp 13) 2, none⟩, ⟨some 15, .fieldAddr 53 (.tmp 1) 1, none⟩, ⟨some 16, .load 2 (.tmp 15), none⟩, ⟨some 17, .fieldAddr 53 (.tmp 1) 3, none⟩, ⟨some 18, .load 2 (.tmp 17), none⟩, ⟨some 19, .binOp .mul 2 (.tmp 16) (.tmp 18) 2, none⟩, ⟨some 2, .assign (.tmp 9), none⟩, ⟨some 3, .assign (.tmp 14), none⟩, ⟨some 4, .assign (.tmp 19), none⟩] [(1, 3), (1, 6), (1, 8), (1, 11), (1, 13), (3, 6), (3, 8), (3, 11), (3, 13), (6, 8), (6, 11), (6, 13), (8, 11), (8, 13), (11, 13)])
  .ret)), [.tmp 2, .tmp 3, .tmp 4], 20⟩
theorem f_spec_l01Lengths : isFn Go.Proofs.Try.prog 212 = some c_spec_l01Lengths := by kernel_rfl


/- loop.example/g01262/impl.placesOf -/
def c_impl_placesOf : SFn := ⟨(.seq (.ops [⟨some 1, .box 53 (.tmp 0), none⟩, ⟨some 2, .alloc 153, none⟩])
 (.seq (.ops [⟨some 3, .fieldAddr 53 (.tmp 1) 1, none⟩, ⟨some 4, .load 2 (.tmp 3), none⟩, ⟨some 5, .fieldAddr 53 (.tmp 1) 2, none⟩, ⟨some 6, .load 2 (.tmp 5), none⟩, ⟨some 7, .binOp .mul 2 (.tmp 4) (.tmp 6) 2, none⟩, ⟨some 8, .fieldAddr 53 (.tmp 1) 2, none⟩, ⟨some 9, .load 2 (.tmp 8), none⟩, ⟨some 10, .fieldAddr 53 (.tmp 1) 3, none⟩, ⟨some 11, .load 2 (.tmp 10), none⟩, ⟨some 12, .binOp .mul 2 (.tmp 9) (.tmp 11) 2, none⟩, ⟨some 13, .fieldAddr 53 (.tmp 1) 1, none⟩, ⟨some 14, .load 2 (.tmp 13), none⟩, ⟨some 15, .fieldAddr 53 (.tmp 1) 3, none⟩, ⟨some 16, .load 2 (.tmp 15), none⟩, ⟨some 17, .binOp .mul 2 (.tmp 14) (.tmp 16) 2, none⟩, ⟨some 18, .build 153 #[(0, .tmp 7), (1, .tmp 12), (2, .tmp 17)], none⟩, ⟨none, .store 153 (.tmp 2) (.tmp 18), none⟩])
  .ret)), [.cell 2 153], 19⟩
theorem f_impl_placesOf : isFn Go.Proofs.Try.prog 154 = some c_impl_placesOf := by kernel_rfl


/- loop.example/g01262/spec.l01Product -/

/- loop.example/g01262/spec.l01Is -/

/- loop.example/g01262/impl.IsScheme -/
set_option maxRecDepth 100000
set_option maxHeartbeats 4000000
set_option linter.unusedVariables false
attribute [-simp] List.getD_eq_getElem?_getD

def inSz (x : Int) : Bool := decide (1 ≤ x) && decide (x ≤ 3)
theorem inSz_rng {x : Int} (h : inSz x = true) : 1 ≤ x ∧ x ≤ 3 := by simpa [inSz] using h
theorem l01In3_spec (n : Int) : FSpec Try.prog 116 [.c (.int .i64 n), .c (.int .i64 1), .c (.int .i64 3)] (.c (.bool (inSz n))) [] [] := l01In_spec n 1 3
theorem l01Sizes_spec (p n m k : Int) : FSpec Try.prog 137 [.c (.int .i64 p), .c (.int .i64 n), .c (.int .i64 m), .c (.int .i64 k)] (.c (.bool (isP p && inSz n && inSz m && inSz k))) [] [] := by
  refine FSpec.of f_spec_l01Sizes (Nat.le_of_ble_eq_true rfl) fun G N hN hr hw => ?_
  simp only [c_spec_l01Sizes, List.length_cons, List.length_nil, List.replicate, List.cons_append, List.nil_append]
  repeat' (first | (with_reducible first | refine W1 ?_ | refine W2 ?_ | refine W3 ?_ | refine W4 mixed ?_ | refine W5 ?_ | refine W6 ?_ | refine W7 ?_ | refine W8 ?_ | refine W9 ?_ | refine V1 ?_ | refine V2 ?_ | refine V3 ?_ | refine V4 (by decide) ?_ | refine V5 ?_ | refine V6 ?_ | refine V7 ?_ | refine V8 ?_ | refine V9 ?_ | refine U1 ?_ | refine U2 ?_ | refine U3 ?_) | (with_reducible refine U4 ?_ ?_; next => first | omega | exact ⟨trivial, by omega⟩) | ((with_reducible refine U5 _ rfl (fun hq => ?_) (fun hq => ?_)) <;> try (first | (cases hq; done) | exact absurd hq (by decide))) | ((with_reducible refine U6 (fun hq => ?_) (fun hq => ?_)) <;> try (first | (cases hq; done) | exact absurd hq (by decide))) | with_reducible refine call_pure (l01Prime_spec _) ?_ | with_reducible refine call_pure (l01In3_spec _) ?_ | simp (maxSteps := 2000000) (discharger := first | omega | (simp (discharger := omega) only [Z1, Z2, Z3, Z4, Z5, Z6, Z7] <;> fail) | (simp (discharger := omega) only [Z3, Z8, Z2, Z4, Z1, Z7, Z5, Z6, Z9, Y1, Y2]; omega)) only [go_sem])
  all_goals exact ret_eq hN rfl rfl (by simp_all)

theorem isSize_spec {c : Cell} {rs : List (Nat × AObj)} {l : List Int} (hc : Sl 1 (i64s l) l.length c rs) (hl : l.length ≤ 1099511627776) : FSpec Try.prog 131 [.c c] (.c (.bool (l.all inSz))) rs [] := by
  refine FSpec.of f_impl_isSize (Nat.le_of_ble_eq_true rfl) fun G N hN hr hw => ?_
  simp only [c_impl_isSize, List.length_cons, List.length_nil, List.replicate, List.cons_append, List.nil_append]
  repeat' (first | (with_reducible first | refine W1 ?_ | refine W2 ?_ | refine W3 ?_ | refine W4 mixed ?_ | refine W5 ?_ | refine W6 ?_ | refine W7 ?_ | refine W8 ?_ | refine W9 ?_ | refine V1 ?_ | refine V2 ?_ | refine V3 ?_ | refine V4 (by decide) ?_ | refine V5 ?_ | refine V6 ?_ | refine V7 ?_ | refine V8 ?_ | refine V9 ?_ | refine U1 ?_ | refine U2 ?_ | refine U3 ?_) | (with_reducible refine U4 ?_ ?_; next => first | omega | exact ⟨trivial, by omega⟩) | simp (maxSteps := 2000000) (discharger := first | omega | (simp (discharger := omega) only [Z1, Z2, Z3, Z4, Z5, Z6, Z7] <;> fail) | (simp (discharger := omega) only [Z3, Z8, Z2, Z4, Z1, Z7, Z5, Z6, Z9, Y1, Y2]; omega)) only [go_sem, hc.len (P := Try.prog)])
  refine swp_for (fun i : Nat => [.c c, .any, .any, .any, .any, .c c, .c (.int .i64 l.length), .c (.int .i64 i)] ++ List.replicate 10 .any) (fun i => ⟨G, N, []⟩) (fun i => l.length - i) (fun i => i ≤ l.length ∧ (l.take i).all inSz = true) 0 ⟨Nat.zero_le _, rfl⟩ rfl (by repeat' (first | exact trivial | exact .inl rfl | exact .inr rfl | refine ⟨?_, ?_⟩)) fun i hi => ?_
  simp only [List.replicate, List.cons_append, List.nil_append]
  repeat' (first | (with_reducible first | refine W1 ?_ | refine W2 ?_ | refine W3 ?_ | refine W4 mixed ?_ | refine W5 ?_ | refine W6 ?_ | refine W7 ?_ | refine W8 ?_ | refine W9 ?_ | refine V1 ?_ | refine V2 ?_ | refine V3 ?_ | refine V4 (by decide) ?_ | refine V5 ?_ | refine V6 ?_ | refine V7 ?_ | refine V8 ?_ | refine V9 ?_ | refine U1 ?_ | refine U2 ?_ | refine U3 ?_) | (with_reducible refine U4 ?_ ?_; next => first | omega | exact ⟨trivial, by omega⟩) | simp (maxSteps := 2000000) (discharger := first | omega | (simp (discharger := omega) only [Z1, Z2, Z3, Z4, Z5, Z6, Z7] <;> fail) | (simp (discharger := omega) only [Z3, Z8, Z2, Z4, Z1, Z7, Z5, Z6, Z9, Y1, Y2]; omega)) only [go_sem])
  refine swp_cond _ rfl (fun h => ?_) (fun h => ?_)
  · have hlt : i < l.length := by simpa using h
    obtain ⟨k0, own, rfl, rfl, _⟩ := hc.some hlt
    have ⟨h2, h3⟩ := hr _ (List.mem_singleton.2 rfl)
    dsimp only at h2 h3
    have hmem : l.getD i 0 ∈ l := by rw [List.getD_eq_getElem?_getD, List.getElem?_eq_getElem hlt]; exact List.getElem_mem hlt
    have no : inSz (l.getD i 0) = false → retS Try.prog [.tmp 2] G N (.c (.bool false)) [] = retS Try.prog [.tmp 2] G N (.c (.bool (l.all inSz))) [] := fun e => by
      rw [show l.all inSz = false from by rw [List.all_eq_false]; exact ⟨_, hmem, by simp [e]⟩]
    repeat' (first | (with_reducible first | refine W1 ?_ | refine W2 ?_ | refine W3 ?_ | refine W4 mixed ?_ | refine W5 ?_ | refine W6 ?_ | refine W7 ?_ | refine W8 ?_ | refine W9 ?_ | refine V1 ?_ | refine V2 ?_ | refine V3 ?_ | refine V4 (by decide) ?_ | refine V5 ?_ | refine V6 ?_ | refine V7 ?_ | refine V8 ?_ | refine V9 ?_ | refine U1 ?_ | refine U2 ?_ | refine U3 ?_) | (with_reducible refine U4 ?_ ?_; next => first | omega | exact ⟨trivial, by omega⟩) | ((with_reducible refine U5 _ rfl (fun hq => ?_) (fun hq => ?_)) <;> try (first | (cases hq; done) | exact absurd hq (by decide))) | ((with_reducible refine U6 (fun hq => ?_) (fun hq => ?_)) <;> try (first | (cases hq; done) | exact absurd hq (by decide))) | simp (maxSteps := 2000000) (discharger := first | omega | (simp (discharger := omega) only [Z1, Z2, Z3, Z4, Z5, Z6, Z7] <;> fail) | (simp (discharger := omega) only [Z3, Z8, Z2, Z4, Z1, Z7, Z5, Z6, Z9, Y1, Y2]; omega)) only [go_sem, h2])
    · rw [← no (by simp [inSz]; simp at hq; omega)]
      exact ret_eq hN rfl rfl rfl
    · rename_i h1
      refine forK_same (i + 1) (by omega) ⟨by omega, ?_⟩ rfl (by repeat' (first | exact trivial | exact .inl rfl | exact .inr rfl | refine ⟨?_, ?_⟩))
      have hin : inSz (l.getD i 0) = true := by simp [inSz]; simp at h1 hq; omega
      rw [List.take_succ_eq_append_getElem hlt, List.all_append, hi.2]
      simp [List.getD_eq_getElem?_getD, hlt] at hin
      simp [hin]
    · rw [← no (by rename_i h1; simp [inSz]; simp at h1; omega)]
      exact ret_eq hN rfl rfl rfl
  · have hlt : i = l.length := by have : ¬ i < l.length := by simpa using h
                                  omega
    subst hlt
    repeat' (first | (with_reducible first | refine W1 ?_ | refine W2 ?_ | refine W3 ?_ | refine W4 mixed ?_ | refine W5 ?_ | refine W6 ?_ | refine W7 ?_ | refine W8 ?_ | refine W9 ?_ | refine V1 ?_ | refine V2 ?_ | refine V3 ?_ | refine V4 (by decide) ?_ | refine V5 ?_ | refine V6 ?_ | refine V7 ?_ | refine V8 ?_ | refine V9 ?_ | refine U1 ?_ | refine U2 ?_ | refine U3 ?_) | (with_reducible refine U4 ?_ ?_; next => first | omega | exact ⟨trivial, by omega⟩) | simp (maxSteps := 2000000) (discharger := first | omega | (simp (discharger := omega) only [Z1, Z2, Z3, Z4, Z5, Z6, Z7] <;> fail) | (simp (discharger := omega) only [Z3, Z8, Z2, Z4, Z1, Z7, Z5, Z6, Z9, Y1, Y2]; omega)) only [go_sem])
    have := hi.2
    rw [List.take_length] at this
    exact ret_eq hN rfl rfl (by rw [this])


theorem sz_mul {n m : Int} (hn : inSz n = true) (hm : inSz m = true) : 1 ≤ n * m ∧ n * m ≤ 9 := by
  have hn := inSz_rng hn
  have hm := inSz_rng hm
  have h1 : 1 ≤ n * m := by have := Int.mul_le_mul hn.1 hm.1 (by omega) (by omega); omega
  have h2 : n * m ≤ 9 := by have := Int.mul_le_mul hn.2 hm.2 (by omega) (by omega); omega
  exact ⟨h1, h2⟩

theorem l01Lengths_spec (p n m k : Int) (c : Cell) (hn : inSz n = true) (hm : inSz m = true) (hk : inSz k = true) : FSpec Try.prog 212 [.agg (tenC p n m k c)] (.tup [.c (.int .i64 (n * m)), .c (.int .i64 (m * k)), .c (.int .i64 (n * k))]) [] [] := by
  have h1 := sz_mul hn hm
  have h2 := sz_mul hm hk
  have h3 := sz_mul hn hk
  refine FSpec.of f_spec_l01Lengths (Nat.le_of_ble_eq_true rfl) fun G N hN hr hw => ?_
  simp only [c_spec_l01Lengths, List.length_cons, List.length_nil, List.replicate, List.cons_append, List.nil_append]
  simp only [tenC]
  repeat' (first | (with_reducible first | refine W1 ?_ | refine W2 ?_ | refine W3 ?_ | refine W4 mixed ?_ | refine W5 ?_ | refine W6 ?_ | refine W7 ?_ | refine W8 ?_ | refine W9 ?_ | refine V1 ?_ | refine V2 ?_ | refine V3 ?_ | refine V4 (by decide) ?_ | refine V5 ?_ | refine V6 ?_ | refine V7 ?_ | refine V8 ?_ | refine V9 ?_ | refine U1 ?_ | refine U2 ?_ | refine U3 ?_) | (with_reducible refine U4 ?_ ?_; next => first | omega | exact ⟨trivial, by omega⟩) | simp (maxSteps := 2000000) (discharger := first | omega | (simp (discharger := omega) only [Z1, Z2, Z3, Z4, Z5, Z6, Z7] <;> fail) | (simp (discharger := omega) only [Z3, Z8, Z2, Z4, Z1, Z7, Z5, Z6, Z9, Y1, Y2]; omega)) only [go_sem])
  refine must_intro (by simp [confV, apart, notIn, lk, nid]) ?_
  repeat' (first | (with_reducible first | refine W1 ?_ | refine W2 ?_ | refine W3 ?_ | refine W4 mixed ?_ | refine W5 ?_ | refine W6 ?_ | refine W7 ?_ | refine W8 ?_ | refine W9 ?_ | refine V1 ?_ | refine V2 ?_ | refine V3 ?_ | refine V4 (by decide) ?_ | refine V5 ?_ | refine V6 ?_ | refine V7 ?_ | refine V8 ?_ | refine V9 ?_ | refine U1 ?_ | refine U2 ?_ | refine U3 ?_) | (with_reducible refine U4 ?_ ?_; next => first | omega | exact ⟨trivial, by omega⟩) | simp (maxSteps := 2000000) (discharger := first | omega | (simp (discharger := omega) only [Z1, Z2, Z3, Z4, Z5, Z6, Z7] <;> fail) | (simp (discharger := omega) only [Z3, Z8, Z2, Z4, Z1, Z7, Z5, Z6, Z9, Y1, Y2]; omega)) only [go_sem])
  exact ret_none hN [.c (.int .i64 (n * m)), .c (.int .i64 (m * k)), .c (.int .i64 (n * k))] ⟨rfl, rfl, rfl, trivial⟩ rfl rfl rfl (by simp)

theorem placesOf_spec (p n m k : Int) (c : Cell) (hn : inSz n = true) (hm : inSz m = true) (hk : inSz k = true) : FSpec Try.prog 154 [.agg (tenC p n m k c)] (.agg [.int .i64 (n * m), .int .i64 (m * k), .int .i64 (n * k)]) [] [] := by
  have h1 := sz_mul hn hm
  have h2 := sz_mul hm hk
  have h3 := sz_mul hn hk
  refine FSpec.of f_impl_placesOf (Nat.le_of_ble_eq_true rfl) fun G N hN hr hw => ?_
  simp only [c_impl_placesOf, List.length_cons, List.length_nil, List.replicate, List.cons_append, List.nil_append]
  simp only [tenC]
  repeat' (first | (with_reducible first | refine W1 ?_ | refine W2 ?_ | refine W3 ?_ | refine W4 mixed ?_ | refine W5 ?_ | refine W6 ?_ | refine W7 ?_ | refine W8 ?_ | refine W9 ?_ | refine V1 ?_ | refine V2 ?_ | refine V3 ?_ | refine V4 (by decide) ?_ | refine V5 ?_ | refine V6 ?_ | refine V7 ?_ | refine V8 ?_ | refine V9 ?_ | refine U1 ?_ | refine U2 ?_ | refine U3 ?_) | (with_reducible refine U4 ?_ ?_; next => first | omega | exact ⟨trivial, by omega⟩) | simp (maxSteps := 2000000) (discharger := first | omega | (simp (discharger := omega) only [Z1, Z2, Z3, Z4, Z5, Z6, Z7] <;> fail) | (simp (discharger := omega) only [Z3, Z8, Z2, Z4, Z1, Z7, Z5, Z6, Z9, Y1, Y2]; omega)) only [go_sem])
  refine ret_flat (cs := [.int .i64 (n * m), .int .i64 (m * k), .int .i64 (n * k)]) hN ?_ (flat_i64s [n * m, m * k, n * k]) rfl
  exact res_aggN (own := true) tyo_153 rfl rfl rfl rfl

end Go.Proofs.Ytcfemdhlcjmlbaa
/- Rows as new objects, handed out and taken over; rows written in place. -/
namespace Go.Abs
set_option linter.unusedVariables false
def rowsW : List Nat → List (List Int) → List (Nat × Slot)
  | y :: ys, r :: R => (y, .live ⟨i64s r, true⟩) :: rowsW ys R
  | _, _ => []
def rowsR : List Nat → List (List Int) → List (Nat × AObj)
  | y :: ys, r :: R => (y, ⟨i64s r, true⟩) :: rowsR ys R
  | _, _ => []
def rowsN : List Nat → List Nat → List (List Int) → List (Nat × Nat × List Cell)
  | y :: ys, j :: js, r :: R => (y, j, i64s r) :: rowsN ys js R
  | _, _, _ => []
theorem rowsN_W : ∀ {ys js : List Nat} {R : List (List Int)}, ys.length = js.length → newsW (rowsN ys js R) = rowsW ys R
  | [], [], R, _ => by cases R <;> rfl
  | y :: ys, j :: js, [], _ => rfl
  | y :: ys, j :: js, r :: R, h => by
    have := rowsN_W (ys := ys) (js := js) (R := R) (by simpa using h)
    simp only [newsW] at this
    simp [rowsN, rowsW, newsW, this]
  | [], _ :: _, _, h => by simp at h
  | _ :: _, [], _, h => by simp at h
theorem rowsN_1 : ∀ {ys js : List Nat} {R : List (List Int)}, ys.length = R.length → js.length = R.length → (rowsN ys js R).map (·.1) = ys ∧ (rowsN ys js R).map (·.2.1) = js
  | [], [], [], _, _ => ⟨rfl, rfl⟩
  | y :: ys, j :: js, r :: R, h, h' => by
    have := rowsN_1 (ys := ys) (js := js) (R := R) (by simpa using h) (by simpa using h')
    simp [rowsN, this]
  | [], _ :: _, _, h, h' => by simp at h h'; omega
  | _ :: _, [], _, h, h' => by simp at h h'; omega
  | [], [], _ :: _, h, _ => by simp at h
  | _ :: _, _ :: _, [], h, _ => by simp at h
theorem rowsN_mem : ∀ {ys js : List Nat} {R : List (List Int)}, ys.length = R.length → js.length = R.length → ∀ e ∈ rowsN ys js R, ∃ i, i < R.length ∧ e = (ys.getD i 0, js.getD i 0, i64s (R.getD i []))
  | [], [], [], _, _, e, he => by simp [rowsN] at he
  | y :: ys, j :: js, r :: R, h, h', e, he => by
    simp only [rowsN, List.mem_cons] at he
    rcases he with rfl | he
    · exact ⟨0, by simp, rfl⟩
    · obtain ⟨i, h1, h2⟩ := rowsN_mem (ys := ys) (js := js) (R := R) (by simpa using h) (by simpa using h') e he
      exact ⟨i + 1, by simpa using h1, by simpa using h2⟩
  | [], _ :: _, _, h, h', _, _ => by simp at h h'; omega
  | _ :: _, [], _, h, h', _, _ => by simp at h h'; omega
  | [], [], _ :: _, h, _, _, _ => by simp at h
  | _ :: _, _ :: _, [], h, _, _, _ => by simp at h
theorem rowsN_get : ∀ {ys js : List Nat} {R : List (List Int)}, ys.length = R.length → js.length = R.length → ∀ i, i < R.length → (ys.getD i 0, js.getD i 0, i64s (R.getD i [])) ∈ rowsN ys js R
  | [], [], [], _, _, i, hi => by simp at hi
  | y :: ys, j :: js, r :: R, h, h', 0, hi => by simp [rowsN]
  | y :: ys, j :: js, r :: R, h, h', i + 1, hi => by
    have := rowsN_get (ys := ys) (js := js) (R := R) (by simpa using h) (by simpa using h') i (by simpa using hi)
    simpa [rowsN] using .inr this
  | [], _ :: _, _, h, h', _, _ => by simp at h h'; omega
  | _ :: _, [], _, h, h', _, _ => by simp at h h'; omega
  | [], [], _ :: _, h, _, _, _ => by simp at h
  | _ :: _, _ :: _, [], h, _, _, _ => by simp at h
theorem rowsW_mem : ∀ {ys : List Nat} {R : List (List Int)}, ys.length = R.length → ∀ e ∈ rowsW ys R, ∃ i, i < R.length ∧ e = (ys.getD i 0, .live ⟨i64s (R.getD i []), true⟩)
  | [], [], _, e, he => by simp [rowsW] at he
  | y :: ys, r :: R, h, e, he => by
    simp only [rowsW, List.mem_cons] at he
    rcases he with rfl | he
    · exact ⟨0, by simp, rfl⟩
    · obtain ⟨i, h1, h2⟩ := rowsW_mem (ys := ys) (R := R) (by simpa using h) e he
      exact ⟨i + 1, by simpa using h1, by simpa using h2⟩
  | [], _ :: _, h, _, _ => by simp at h
  | _ :: _, [], h, _, _ => by simp at h
theorem rowsR_mem : ∀ {ys : List Nat} {R : List (List Int)}, ys.length = R.length → ∀ e ∈ rowsR ys R, ∃ i, i < R.length ∧ e = (ys.getD i 0, ⟨i64s (R.getD i []), true⟩)
  | [], [], _, e, he => by simp [rowsR] at he
  | y :: ys, r :: R, h, e, he => by
    simp only [rowsR, List.mem_cons] at he
    rcases he with rfl | he
    · exact ⟨0, by simp, rfl⟩
    · obtain ⟨i, h1, h2⟩ := rowsR_mem (ys := ys) (R := R) (by simpa using h) e he
      exact ⟨i + 1, by simpa using h1, by simpa using h2⟩
  | [], _ :: _, h, _, _ => by simp at h
  | _ :: _, [], h, _, _ => by simp at h
theorem rowsR_get : ∀ {ys : List Nat} {R : List (List Int)}, ys.length = R.length → ∀ i, i < R.length → (ys.getD i 0, (⟨i64s (R.getD i []), true⟩ : AObj)) ∈ rowsR ys R
  | [], [], _, i, hi => by simp at hi
  | y :: ys, r :: R, h, 0, hi => by simp [rowsR]
  | y :: ys, r :: R, h, i + 1, hi => by
    have := rowsR_get (ys := ys) (R := R) (by simpa using h) i (by simpa using hi)
    simpa [rowsR] using .inr this
  | [], _ :: _, h, _, _ => by simp at h
  | _ :: _, [], h, _, _ => by simp at h
theorem rowC_eq {ys : List Nat} {w : Nat} {σ : Nat → Nat} {N : Nat} {js : List Nat} (hl : ys.length = js.length) (h : ∀ i, i < js.length → σ (ys.getD i 0) = nid N (js.getD i 0)) : (rowC ys w).map (Cell.mapIds σ) = rowN N js w := by
  apply List.ext_getElem?
  intro i
  by_cases hi : i < js.length
  · have h1 := h i hi
    have hi' : i < ys.length := by omega
    simp only [List.getD_eq_getElem?_getD, List.getElem?_eq_getElem hi, List.getElem?_eq_getElem hi', Option.getD_some] at h1
    simp [rowC, rowN, List.getElem?_eq_getElem hi, List.getElem?_eq_getElem hi', Cell.mapIds, h1]
  · rw [List.getElem?_eq_none (by simp [rowC]; omega), List.getElem?_eq_none (by simp [rowN]; omega)]
theorem renT_congr {σ τ : Nat → Nat} {v : AV} (h : ∀ i ∈ v.idsT, σ i = τ i) : renT σ v = renT τ v := by
  have c1 : ∀ c : Cell, (∀ i ∈ c.ids, σ i = τ i) → c.mapIds σ = c.mapIds τ := by
    intro c hc
    cases c <;> simp_all [Cell.mapIds, Cell.ids]
    exact hc
  have a1 : ∀ v : AV, (∀ i ∈ v.ids1, σ i = τ i) → ren1 σ v = ren1 τ v := by
    intro v hv
    cases v with
    | c x => exact congrArg AV.c (c1 x hv)
    | agg cs => exact congrArg AV.agg (List.map_congr_left fun c hc => c1 c fun i hi => hv i (List.mem_flatMap.2 ⟨c, hc, hi⟩))
    | tup vs => rfl
    | any => rfl
  cases v with
  | tup vs => exact congrArg AV.tup (List.map_congr_left fun u hu => a1 u fun i hi => h i (List.mem_flatMap.2 ⟨u, hu, hi⟩))
  | c x => exact a1 (.c x) h
  | agg cs => exact a1 (.agg cs) h
  | any => rfl
theorem flat64 (l : List Int) : Abs.flat (i64s l) := by
  intro c hc
  obtain ⟨z, _, rfl⟩ := List.mem_map.1 hc
  rfl
section
variable {P : Program} {G : Heap} {N : Nat} {L : List Slot} {T : List AV}
theorem ret_rows (hN : ∀ k, N ≤ k → G k = .free) (x jx : Nat) (ys js : List Nat) (w : Nat) (R : List (List Int)) (hnd : (x :: ys).Nodup) (hx0 : G x = .free) (hy0 : ∀ y ∈ ys, G y = .free) (hyl : ys.length = R.length) (hx : gd L jx = .live ⟨rowN N js w, true⟩) (hR : Rows L js R) (hj : jx ∉ js)
    {rs : List ResultVar} {val : AV} (vs : List AV) (hr : resAll P T ⟨G, N, L⟩ rs vs) (hp : plainT val = true) (hi : ∀ i ∈ val.idsT, i = x) (he : resOf vs = renT (fun k => if k = x then nid N jx else k) val) : retS P rs G N val ((x, .live ⟨rowC ys w, true⟩) :: rowsW ys R) .ret T ⟨G, N, L⟩ := by
  have hjl := hR.len
  obtain ⟨e1, e2⟩ := rowsN_1 hyl hjl
  have hW := rowsN_W (R := R) (hyl.trans hjl.symm)
  let ns : List (Nat × Nat × List Cell) := (x, jx, rowC ys w) :: rowsN ys js R
  have hns : newsW ns = (x, .live ⟨rowC ys w, true⟩) :: rowsW ys R := by rw [← hW]; rfl
  have n1 : ns.map (·.1) = x :: ys := by simp [ns, e1]
  have n2 : ns.map (·.2.1) = jx :: js := by simp [ns, e2]
  have hat : ∀ i, i < R.length → nameOf N ns (ys.getD i 0) = nid N (js.getD i 0) := fun i hi =>
    (putsG_new_at (N := N) (fun _ => .free) (by rw [n1]; exact hnd) _ (List.mem_cons_of_mem _ (rowsN_get hyl hjl i hi))).2
  rw [← hns]
  refine ret_news hN ns (by rw [n1]; exact hnd) (by rw [n2]; exact List.nodup_cons.2 ⟨hj, hR.nd⟩) (fun e he => ?_) (fun e he => ?_) (fun e he c hc i hi' => ?_) vs hr ?_
  · rcases List.mem_cons.1 he with rfl | he
    · exact hx0
    · obtain ⟨i, h1, rfl⟩ := rowsN_mem hyl hjl e he
      exact hy0 _ (getD_mem (by omega))
  · rcases List.mem_cons.1 he with rfl | he
    · rw [hx, rowC_eq (hyl.trans hjl.symm) fun i hi => hat i (by omega)]
    · obtain ⟨i, h1, rfl⟩ := rowsN_mem hyl hjl e he
      rw [map_flat (flat64 _)]
      exact hR.at_ i h1
  · rw [n1]
    rcases List.mem_cons.1 he with rfl | he
    · simp only [rowC, List.mem_map] at hc
      obtain ⟨y, hy, rfl⟩ := hc
      simp only [Cell.ids, List.mem_singleton] at hi'
      subst hi'
      exact List.mem_cons_of_mem _ hy
    · obtain ⟨t, h1, rfl⟩ := rowsN_mem hyl hjl e he
      rw [flat64 _ c hc] at hi'
      cases hi'
  · rw [he, ← renT_congr (σ := nameOf N ns) fun i hh => by rw [hi i hh]; simp [ns, nameOf]]
    exact Named.of hp fun i hh => by rw [n1, hi i hh]; exact List.mem_cons_self

/-- Rows put at slots of one's own. -/
theorem puts_rows : ∀ {js : List Nat} {R : List (List Int)} {L : List Slot}, js.length = R.length → js.Nodup → ∃ L', (⟨G, N, L⟩ : AHeap).puts (rowsW (js.map (nid N)) R) = ⟨G, N, L'⟩ ∧ L.length ≤ L'.length ∧ (∀ m, L.length ≤ m → (∀ j ∈ js, j < m) → L'.length ≤ m) ∧ Rows L' js R ∧ ∀ j, j ∉ js → gd L' j = gd L j
  | [], [], L, _, _ => ⟨L, rfl, Nat.le_refl _, fun m h _ => h, Rows.nil, fun _ _ => rfl⟩
  | j :: js, r :: R, L, hl, hnd => by
    have hnd' := List.nodup_cons.1 hnd
    obtain ⟨L', h1, h2, h3, h4, h5⟩ := puts_rows (js := js) (R := R) (L := setAt L j (.live ⟨i64s r, true⟩)) (by simpa using hl) hnd'.2
    have hj : gd L' j = .live ⟨i64s r, true⟩ := by rw [h5 j hnd'.1, gd_setAt_same]
    rw [setAt_length] at h2 h3
    refine ⟨L', ?_, by omega, fun m hm hjs => h3 m ?_ fun i hi => hjs i (List.mem_cons_of_mem _ hi), ?_, fun i hi => ?_⟩
    · rw [List.map_cons, rowsW, puts_cons, put_new]; exact h1
    · have := hjs j List.mem_cons_self; omega
    · have hlen := h4.len
      refine ⟨by simpa using hl, hnd, fun i hi => ?_, fun i hi => ?_⟩
      · rcases List.mem_cons.1 hi with rfl | hi
        · omega
        · exact h4.lt i hi
      · cases i with
        | zero => exact hj
        | succ i => exact h4.at_ i (by simpa using hi)
    · simp only [List.mem_cons, not_or] at hi
      rw [h5 i hi.2, gd_setAt_ne' hi.1]
  | [], _ :: _, _, h, _ => by simp at h
  | _ :: _, [], _, h, _ => by simp at h
theorem rowN_rowC (js : List Nat) (w : Nat) : rowC (js.map (nid N)) w = rowN N js w := by simp [rowC, rowN]
theorem puts_rowsX {js : List Nat} {R : List (List Int)} {jx w : Nat} (hl : js.length = R.length) (hnd : (jx :: js).Nodup) : ∃ L', (⟨G, N, L⟩ : AHeap).puts ((nid N jx, .live ⟨rowC (js.map (nid N)) w, true⟩) :: rowsW (js.map (nid N)) R) = ⟨G, N, L'⟩ ∧ L.length ≤ L'.length ∧ (∀ m, L.length ≤ m → (∀ j ∈ jx :: js, j < m) → L'.length ≤ m) ∧ gd L' jx = .live ⟨rowN N js w, true⟩ ∧ Rows L' js R ∧ ∀ j, j ∉ jx :: js → gd L' j = gd L j := by
  have hnd' := List.nodup_cons.1 hnd
  obtain ⟨L', h1, h2, h3, h4, h5⟩ := puts_rows (G := G) (N := N) (L := setAt L jx (.live ⟨rowN N js w, true⟩)) hl hnd'.2
  rw [setAt_length] at h2 h3
  refine ⟨L', ?_, by omega, fun m hm hjs => h3 m ?_ fun i hi => hjs i (List.mem_cons_of_mem _ hi), by rw [h5 _ hnd'.1, gd_setAt_same], h4, fun i hi => ?_⟩
  · rw [rowN_rowC, puts_cons, put_new]; exact h1
  · have := hjs jx List.mem_cons_self; omega
  · simp only [List.mem_cons, not_or] at hi
    rw [h5 i hi.2, gd_setAt_ne' hi.1]
/-- The next places. -/
def nextJ (L : List Slot) (n : Nat) : List Nat := (List.range n).map (L.length + 1 + ·)
theorem nextJ_len (L : List Slot) (n : Nat) : (nextJ L n).length = n := by simp [nextJ]
theorem nextJ_mem {L : List Slot} {n j : Nat} (h : j ∈ nextJ L n) : L.length < j ∧ j < L.length + 1 + n := by
  simp only [nextJ, List.mem_map, List.mem_range] at h; obtain ⟨i, h1, rfl⟩ := h; omega
theorem nextJ_get {L : List Slot} {n i : Nat} (h : i < n) : (nextJ L n).getD i 0 = L.length + 1 + i := by simp [nextJ, List.getD_eq_getElem?_getD, h]
theorem nextJ_nd (L : List Slot) (n : Nat) : (L.length :: nextJ L n).Nodup := by
  refine List.nodup_cons.2 ⟨fun h => by have := nextJ_mem h; omega, ?_⟩
  rw [List.nodup_iff_pairwise_ne, nextJ, List.pairwise_map]
  exact (List.nodup_iff_pairwise_ne.1 List.nodup_range).imp fun h => by omega
end
end Go.Abs
/- What a body leaves, in general: old objects written, dropped, new ones handed out. -/
namespace Go.Abs
set_option linter.unusedVariables false
/-! Parts of slices -/
section
variable {P : Program} {h : AHeap} {K : Kont} {t : TypeId} {k off len es : Nat} {kl kh : IntKind} {l r : Int}
theorem sliceE_of {lo hi : Option AV} (hlo : lo.getD (.c (.int .i64 0)) = .c (.int kl l)) (hhi : hi.getD (.c (.int .i64 len)) = .c (.int kh r)) : vSlice P t (.c (.slice k off len es)) lo hi none h (.mk K) = withTy P t (.mk fun ti => asSlice ti.kind (.mk fun es' eb ez => must (es = es' ∧ 0 ≤ l ∧ l ≤ r ∧ r ≤ len) (.mk (K (.c (.slice k (off + l.toNat * es) (r - l).toNat es)) [] [])))) := by
  apply propext; constructor
  · rintro ⟨ti, h1, h2⟩
    refine ⟨ti, h1, ?_⟩
    split at h2
    · rename_i es' eb ez k' off' len' es2 hk hx hm
      cases hx
      obtain ⟨rfl, kl', kh', l', r', a1, a2, a3, a4, a5, a6⟩ := h2
      rw [hlo] at a1; cases a1
      rw [hhi] at a2; cases a2
      exact ⟨es, eb, ez, hk, ⟨rfl, a3, a4, a5⟩, a6⟩
    all_goals first | (rename_i hx _; cases hx; done) | (rename_i hm; cases hm; done) | (rename_i _ hm; cases hm; done) | exact h2.elim
  · rintro ⟨ti, h1, es', eb, ez, hk, ⟨rfl, a3, a4, a5⟩, a6⟩
    refine ⟨ti, h1, ?_⟩
    rw [hk]
    exact ⟨rfl, kl, kh, l, r, hlo, hhi, a3, a4, a5, a6⟩
@[go_sem] theorem vSlice_lh : vSlice P t (.c (.slice k off len es)) (some (.c (.int kl l))) (some (.c (.int kh r))) none h (.mk K) = withTy P t (.mk fun ti => asSlice ti.kind (.mk fun es' eb ez => must (es = es' ∧ 0 ≤ l ∧ l ≤ r ∧ r ≤ len) (.mk (K (.c (.slice k (off + l.toNat * es) (r - l).toNat es)) [] [])))) := sliceE_of rfl rfl
@[go_sem] theorem vSlice_l : vSlice P t (.c (.slice k off len es)) (some (.c (.int kl l))) none none h (.mk K) = withTy P t (.mk fun ti => asSlice ti.kind (.mk fun es' eb ez => must (es = es' ∧ 0 ≤ l ∧ l ≤ len ∧ (len : Int) ≤ len) (.mk (K (.c (.slice k (off + l.toNat * es) ((len : Int) - l).toNat es)) [] [])))) := sliceE_of (l := l) (r := len) rfl rfl
@[go_sem] theorem vSlice_h : vSlice P t (.c (.slice k off len es)) none (some (.c (.int kh r))) none h (.mk K) = withTy P t (.mk fun ti => asSlice ti.kind (.mk fun es' eb ez => must (es = es' ∧ (0 : Int) ≤ 0 ∧ 0 ≤ r ∧ r ≤ len) (.mk (K (.c (.slice k (off + Int.toNat 0 * es) (r - 0).toNat es)) [] [])))) := sliceE_of (l := 0) (r := r) rfl rfl
end
attribute [go_sem] Option.map_some Option.map_none Int.toNat_natCast Int.toNat_sub Int.sub_zero Nat.zero_mul Nat.add_zero Nat.zero_add
theorem putsG_app (G : Heap) (ws vs : List (Nat × Slot)) : putsG G (ws ++ vs) = putsG (putsG G ws) vs := List.foldl_append
section
variable {P : Program} {G : Heap} {N : Nat} {L : List Slot} {T : List AV}
/-- Old objects that a body may name and keep. -/
def OldOk (G : Heap) (N : Nat) (ws : List (Nat × Slot)) : Prop := ∀ p ∈ ws, p.1 < N ∧ G p.1 ≠ .free ∧ p.2 ≠ .free ∧ ∀ o, p.2 = .live o → ∀ c ∈ o.cells, ∀ i ∈ c.ids, i < N ∧ G i ≠ .free
theorem Final.gen (hN : ∀ k, N ≤ k → G k = .free) (ws : List (Nat × Slot)) (hw : OldOk G N ws) (ns : List (Nat × Nat × List Cell)) (hnd : (ns.map (·.1)).Nodup) (hjd : (ns.map (·.2.1)).Nodup) (hfree : ∀ x ∈ ns, G x.1 = .free)
    (hL : ∀ x ∈ ns, gd L x.2.1 = .live ⟨x.2.2.map (Cell.mapIds (nameOf N ns)), true⟩) (hids : ∀ x ∈ ns, ∀ c ∈ x.2.2, ∀ i ∈ c.ids, i ∈ ns.map (·.1) ∨ G i ≠ .free)
    {val r : AV} (hv : Named (nameOf N ns) (fun i => i ∈ ns.map (·.1) ∨ G i ≠ .free) val r) : Final G N ⟨putsG G ws, N, L⟩ r val (ws ++ newsW ns) (nameOf N ns) := by
  have e0 := putsG_app G ws (newsW ns)
  have oldlt : ∀ k, G k ≠ .free → k < N := by
    intro k hk
    rcases Nat.lt_or_ge k N with h | h
    · exact h
    · exact absurd (hN k h) hk
  have wcase : ∀ k, putsG G ws k = G k ∨ ∃ p ∈ ws, p.1 = k ∧ putsG G ws k = p.2 := fun k => putsG_cases ws G k
  have wnf : ∀ k, G k ≠ .free → putsG G ws k ≠ .free := by
    intro k hk
    rcases wcase k with h | ⟨p, h1, h2, h3⟩
    · rw [h]; exact hk
    · rw [h3]; exact (hw p h1).2.2.1
  have wout : ∀ k, putsG G ws k ≠ .free → k < N := by
    intro k hk
    rcases wcase k with h | ⟨p, h1, h2, h3⟩
    · exact oldlt k (by rw [← h]; exact hk)
    · rw [← h2]; exact (hw p h1).1
  have wold : ∀ k, putsG G ws k ≠ .free → G k ≠ .free := by
    intro k hk
    rcases wcase k with h | ⟨p, h1, h2, h3⟩
    · rw [← h]; exact hk
    · rw [← h2]; exact (hw p h1).2.1
  have old : ∀ k, G k ≠ .free → ∀ x ∈ ns, x.1 ≠ k := fun k hk x hx e => hk (by rw [← e]; exact hfree x hx)
  have cases' : ∀ k, (∃ x ∈ ns, x.1 = k) ∨ ∀ x ∈ ns, x.1 ≠ k := by
    intro k
    by_cases h : ∃ x ∈ ns, x.1 = k
    · exact .inl h
    · exact .inr fun x hx e => h ⟨x, hx, e⟩
  have hnf : ∀ i, i ∈ ns.map (·.1) ∨ G i ≠ .free → putsG G (ws ++ newsW ns) i ≠ .free := by
    intro i hi
    rw [e0]
    rcases cases' i with ⟨x, hx, rfl⟩ | hout
    · rw [(putsG_new_at (N := N) (putsG G ws) hnd x hx).1]; simp
    · rw [putsG_news (G := G) ns _ hout]
      rcases hi with hi | hi
      · obtain ⟨x, hx, e⟩ := List.mem_map.1 hi
        exact absurd e (hout x hx)
      · exact wnf i hi
  have sameN : ∀ i, G i ≠ .free → nameOf N ns i = i := fun i hi => nameOf_out (old i hi)
  refine ⟨fun k hk => sameN k hk, fun k o hk => ?_, fun k hk => hnf k (.inr hk), fun k k' o o' hk hk' _ _ hne => ?_, ?_⟩
  · rw [e0] at hk
    rcases cases' k with ⟨x, hx, rfl⟩ | hout
    · obtain ⟨h1, h2⟩ := putsG_new_at (N := N) (putsG G ws) hnd x hx
      rw [h1] at hk
      cases hk
      right
      rw [h2, get_new]
      exact ⟨hL x hx, fun c hc i hi _ => hnf i (hids x hx c hc i hi)⟩
    · rw [putsG_news (G := G) ns _ hout] at hk
      have hlt : k < N := wout k (by rw [hk]; simp)
      rcases wcase k with h | ⟨p, h1, h2, h3⟩
      · left
        exact ⟨by rw [← h]; exact hk, by rw [get_old hlt]; exact hk⟩
      · right
        have hgk : G k ≠ .free := by rw [← h2]; exact (hw p h1).2.1
        have hids' := (hw p h1).2.2.2 o (by rw [← h3]; exact hk)
        rw [sameN k hgk, get_old hlt, hk]
        refine ⟨?_, fun c hc i hi _ => hnf i (.inr (hids' c hc i hi).2)⟩
        congr 1
        cases o
        congr 1
        refine ((List.map_id _).symm.trans (List.map_congr_left fun c hc => ?_))
        exact (mapIds_same fun i hi => sameN i (hids' c hc i hi).2).symm
  · rw [e0] at hk hk'
    rcases cases' k with ⟨x, hx, rfl⟩ | hout <;> rcases cases' k' with ⟨x', hx', rfl⟩ | hout'
    · rw [(putsG_new_at (N := N) (putsG G ws) hnd x hx).2, (putsG_new_at (N := N) (putsG G ws) hnd x' hx').2]
      intro e
      have e' : x.2.1 = x'.2.1 := by unfold nid at e; omega
      have : ∀ {ns : List (Nat × Nat × List Cell)}, (ns.map (·.2.1)).Nodup → ∀ x ∈ ns, ∀ y ∈ ns, x.2.1 = y.2.1 → x = y := by
        intro ns
        induction ns with
        | nil => intro _ x hx; cases hx
        | cons z ns ih =>
          intro hd x hx y hy e
          simp only [List.map_cons, List.nodup_cons] at hd
          have m : ∀ {w : Nat × Nat × List Cell}, w ∈ ns → w.2.1 ≠ z.2.1 := fun hw e => hd.1 (by rw [← e]; exact List.mem_map_of_mem (f := fun x : Nat × Nat × List Cell => x.2.1) hw)
          rcases List.mem_cons.1 hx with hx1 | hx1 <;> rcases List.mem_cons.1 hy with hy1 | hy1
          · rw [hx1, hy1]
          · exact absurd (by rw [← e, hx1]) (m hy1)
          · exact absurd (by rw [e, hy1]) (m hx1)
          · exact ih hd.2 x hx1 y hy1 e
      exact hne (by rw [this hjd x hx x' hx' e'])
    · rw [putsG_news (G := G) ns _ hout'] at hk'
      have hlt := wout k' (by rw [hk']; simp)
      rw [(putsG_new_at (N := N) (putsG G ws) hnd x hx).2, nameOf_out hout']
      unfold nid; omega
    · rw [putsG_news (G := G) ns _ hout] at hk
      have hlt := wout k (by rw [hk]; simp)
      rw [(putsG_new_at (N := N) (putsG G ws) hnd x' hx').2, nameOf_out hout]
      unfold nid; omega
    · rw [nameOf_out hout, nameOf_out hout']; exact hne
  · have key : ∀ {x y : AV}, Named (nameOf N ns) (fun i => i ∈ ns.map (·.1) ∨ G i ≠ .free) x y → Named (nameOf N ns) (fun i => (⟨putsG G ws, N, L⟩ : AHeap).get (nameOf N ns i) ≠ .free → putsG G (ws ++ newsW ns) i ≠ .free) x y := by
      intro x y h
      induction h with
      | c hok => exact .c fun i hi _ => hnf i (hok i hi)
      | agg hok => exact .agg fun c hc i hi _ => hnf i (hok c hc i hi)
      | tup hl _ ih => exact .tup hl ih
      | any => exact .any
    exact key hv
/-- Old objects written or dropped, and one new object of plain cells handed out. -/
theorem ret_mix1 (hN : ∀ k, N ≤ k → G k = .free) (ws : List (Nat × Slot)) (hw : OldOk G N ws) (n j : Nat) (cs : List Cell) {rs : List ResultVar} {val : AV} (vs : List AV) (hr : resAll P T ⟨putsG G ws, N, L⟩ rs vs) (hn : G n = .free) (hL : gd L j = .live ⟨cs, true⟩) (hc : Abs.flat cs)
    (hp : plainT val = true) (hi : ∀ i ∈ val.idsT, i = n ∨ G i ≠ .free) (he : resOf vs = renT (fun k => if k = n then nid N j else k) val) : retS P rs G N val (ws ++ [(n, .live ⟨cs, true⟩)]) .ret T ⟨putsG G ws, N, L⟩ := by
  refine ⟨vs, nameOf N [(n, j, cs)], hr, Final.gen hN ws hw [(n, j, cs)] (by simp) (by simp) (by simpa using hn) (by simp only [List.mem_singleton]; rintro x rfl; rw [map_flat hc]; exact hL)
    (by simp only [List.mem_singleton]; rintro x rfl c hcc i hi; rw [hc c hcc] at hi; cases hi) ?_⟩
  rw [he]
  exact Named.of hp fun i hh => by simpa using hi i hh
/-- Old objects written or dropped. -/
theorem ret_mix0 (hN : ∀ k, N ≤ k → G k = .free) (ws : List (Nat × Slot)) (hw : OldOk G N ws) {rs : List ResultVar} {val : AV} (vs : List AV) (hr : resAll P T ⟨putsG G ws, N, L⟩ rs vs)
    (hp : plainT val = true) (hi : ∀ i ∈ val.idsT, G i ≠ .free) (he : resOf vs = renT id val) : retS P rs G N val ws .ret T ⟨putsG G ws, N, L⟩ := by
  refine ⟨vs, id, hr, ?_⟩
  have h := Final.gen (L := L) (r := resOf vs) (val := val) hN ws hw [] (by simp) (by simp) (by simp) (by simp) (by simp) (by
    rw [he, show (nameOf N [] : Nat → Nat) = id from funext fun k => rfl]
    exact Named.of hp fun i hh => .inr (hi i hh))
  rw [show (nameOf N [] : Nat → Nat) = id from funext fun k => rfl] at h
  simpa [newsW] using h
/-- One old object written. -/
theorem ret_upd0 (hN : ∀ k, N ≤ k → G k = .free) {k : Nat} {cs : List Cell} {own : Bool} (hk : k < N) (hg : G k ≠ .free) (hc : Abs.flat cs) {rs : List ResultVar} {val : AV} (vs : List AV) (hr : resAll P T ⟨upd G k (.live ⟨cs, own⟩), N, L⟩ rs vs)
    (hp : plainT val = true) (hi : ∀ i ∈ val.idsT, G i ≠ .free) (he : resOf vs = renT id val) : retS P rs G N val [(k, .live ⟨cs, own⟩)] .ret T ⟨upd G k (.live ⟨cs, own⟩), N, L⟩ :=
  ret_mix0 hN [(k, .live ⟨cs, own⟩)] (by
    simp only [OldOk, List.mem_singleton]
    rintro p rfl
    exact ⟨hk, hg, by simp, fun o ho c hcc i hi => by cases ho; rw [hc c hcc] at hi; cases hi⟩) vs hr hp hi he
theorem oldOk_flat {k : Nat} {cs : List Cell} {own : Bool} (hk : k < N) (hg : G k ≠ .free) (hc : Abs.flat cs) : OldOk G N [(k, .live ⟨cs, own⟩)] := by
  simp only [OldOk, List.mem_singleton]
  rintro p rfl
  exact ⟨hk, hg, by simp, fun o ho c hcc i hi => by cases ho; rw [hc c hcc] at hi; cases hi⟩
end
end Go.Abs
/- Ranks: plain laws. -/
namespace Go.Proofs.Ytcfemdhlcjmlbaa
open Go Go.Abs
set_option maxRecDepth 100000

set_option maxRecDepth 100000
set_option linter.unusedVariables false
attribute [-simp] List.getD_eq_getElem?_getD
attribute [-go_sem] confV

/-- The inverse of a number modulo p. -/
def invV (p a : Int) : Int := if (1 * a).tmod p = 1 then 1 else if (2 * a).tmod p = 1 then 2 else if (3 * a).tmod p = 1 then 3 else 4
/-- The first row from i on with a number in the column c. -/
def rkF (R : List (List Int)) (c : Nat) : Nat → Nat → Nat
  | 0, i => i
  | f + 1, i => if (R.getD i []).getD c 0 = 0 then rkF R c f (i + 1) else i
theorem rkF_ge {R : List (List Int)} {c : Nat} : ∀ {f i : Nat}, i ≤ rkF R c f i ∧ rkF R c f i ≤ i + f
  | 0, i => ⟨Nat.le_refl _, Nat.le_refl _⟩
  | f + 1, i => by
    rw [rkF]
    split
    · have := rkF_ge (R := R) (c := c) (f := f) (i := i + 1); omega
    · omega
theorem rkF_nz {R : List (List Int)} {c : Nat} : ∀ {f i : Nat}, rkF R c f i < i + f → (R.getD (rkF R c f i) []).getD c 0 ≠ 0
  | 0, i, h => by rw [rkF] at h; omega
  | f + 1, i, h => by
    rw [rkF] at h ⊢
    split
    · rename_i h0
      rw [if_pos h0] at h
      exact rkF_nz (by omega)
    · rename_i h0; exact h0
theorem rkF_no {R : List (List Int)} {c f i : Nat} (h : (R.getD i []).getD c 0 = 0) : rkF R c (f + 1) i = rkF R c f (i + 1) := by rw [rkF, if_pos h]
theorem rkF_yes {R : List (List Int)} {c f i : Nat} (h : ¬ (R.getD i []).getD c 0 = 0) (hf : 0 < f) : rkF R c f i = i := by
  cases f with
  | zero => omega
  | succ f => rw [rkF, if_neg h]
/-- A number of a row less a multiple of the pivot's. -/
def rkX (p f x y : Int) : Int := ((x - f * y).tmod p + p).tmod p
def rkRow (p f : Int) (u v : List Int) (t : Nat) : List Int := (List.range u.length).map fun j => if j < t then rkX p f (u.getD j 0) (v.getD j 0) else u.getD j 0
theorem rkRow_length (p f : Int) (u v : List Int) (t : Nat) : (rkRow p f u v t).length = u.length := by simp [rkRow]
theorem rkRow_get {p f : Int} {u v : List Int} {t j : Nat} (h : j < u.length) : (rkRow p f u v t).getD j 0 = if j < t then rkX p f (u.getD j 0) (v.getD j 0) else u.getD j 0 := by
  simp [rkRow, List.getD_eq_getElem?_getD, h]
theorem list_ext_getD {a b : List Int} (hl : a.length = b.length) (h : ∀ j, j < a.length → a.getD j 0 = b.getD j 0) : a = b := by
  refine List.ext_getElem hl fun j h1 h2 => ?_
  have := h j h1
  rwa [List.getD_eq_getElem?_getD, List.getD_eq_getElem?_getD, List.getElem?_eq_getElem h1, List.getElem?_eq_getElem h2] at this
/-- Factor by which the pivot's row is taken from a row. -/
def rkK (p inv : Int) (R : List (List Int)) (c i : Nat) : Int := ((R.getD i []).getD c 0 * inv).tmod p
def rkEl (p inv : Int) (R : List (List Int)) (r c : Nat) : Nat → List (List Int)
  | 0 => R
  | t + 1 => (rkEl p inv R r c t).set (r + 1 + t) (rkRow p (rkK p inv (rkEl p inv R r c t) c (r + 1 + t)) ((rkEl p inv R r c t).getD (r + 1 + t) []) ((rkEl p inv R r c t).getD r []) ((rkEl p inv R r c t).getD (r + 1 + t) []).length)
theorem rkEl_length (p inv : Int) (R : List (List Int)) (r c : Nat) : ∀ t, (rkEl p inv R r c t).length = R.length
  | 0 => rfl
  | t + 1 => by rw [rkEl, List.length_set]; exact rkEl_length p inv R r c t
def rkAt (R : List (List Int)) (r c : Nat) : Nat := rkF R c (R.length - r) r
/-- Rows modulo p, all of one length. -/
structure RkOk (p : Int) (w : Nat) (R : List (List Int)) : Prop where
  len : ∀ i, i < R.length → (R.getD i []).length = w
  rng : ∀ i j, i < R.length → 0 ≤ (R.getD i []).getD j 0 ∧ (R.getD i []).getD j 0 < p
theorem rkX_rng {p f x y : Int} (hp : 2 ≤ p) : 0 ≤ rkX p f x y ∧ rkX p f x y < p := by
  unfold rkX
  have h1 := Int.tmod_lt_of_pos (x - f * y) (show 0 < p by omega)
  have h2 : -p < (x - f * y).tmod p := by
    have := Int.lt_tmod_of_pos (x - f * y) (show 0 < p by omega)
    omega
  exact ⟨Int.tmod_nonneg _ (by omega), Int.tmod_lt_of_pos _ (by omega)⟩
section
variable {p : Int} {w : Nat} {R : List (List Int)}
theorem RkOk.set (h : RkOk p w R) {i : Nat} (hi : i < R.length) {r : List Int} (hl : r.length = w) (hr : ∀ j, 0 ≤ r.getD j 0 ∧ r.getD j 0 < p) : RkOk p w (R.set i r) := by
  constructor
  · intro t ht
    rw [List.length_set] at ht
    rw [getD_set hi]
    split
    · exact hl
    · exact h.len t ht
  · intro t j ht
    rw [List.length_set] at ht
    rw [getD_set hi]
    split
    · exact hr j
    · exact h.rng t j ht
theorem RkOk.swap (h : RkOk p w R) {a b : Nat} (ha : a < R.length) (hb : b < R.length) : RkOk p w (swapL R a b []) :=
  (h.set ha (h.len b hb) fun j => h.rng b j hb).set (by rw [List.length_set]; exact hb) (h.len a ha) fun j => h.rng a j ha
theorem rkRow_rng (hp : 2 ≤ p) {f : Int} {u v : List Int} {t : Nat} (hu : ∀ j, 0 ≤ u.getD j 0 ∧ u.getD j 0 < p) (j : Nat) : 0 ≤ (rkRow p f u v t).getD j 0 ∧ (rkRow p f u v t).getD j 0 < p := by
  by_cases hj : j < u.length
  · rw [rkRow_get hj]
    split
    · exact rkX_rng hp
    · exact hu j
  · rw [List.getD_eq_getElem?_getD, List.getElem?_eq_none (by rw [rkRow_length]; omega)]
    simp; omega
theorem RkOk.el (hp : 2 ≤ p) (inv : Int) (h : RkOk p w R) {r c : Nat} : ∀ t, r + 1 + t ≤ R.length → RkOk p w (rkEl p inv R r c t)
  | 0, _ => h
  | t + 1, ht => by
    have ih := RkOk.el hp inv h (r := r) (c := c) t (by omega)
    have hl := rkEl_length p inv R r c t
    rw [rkEl]
    exact ih.set (by omega) (by rw [rkRow_length]; exact ih.len _ (by omega)) (rkRow_rng hp fun j => ih.rng _ j (by omega))
end
end Go.Proofs.Ytcfemdhlcjmlbaa
/- Sums modulo a prime; which columns depend on those before; solutions are unique. -/
namespace Go.Proofs.Ytcfemdhlcjmlbaa
open Go Go.Abs
set_option maxRecDepth 100000

set_option maxRecDepth 100000
set_option linter.unusedVariables false

def sumF (f : Nat → Int) : Nat → Int
  | 0 => 0
  | n + 1 => sumF f n + f n
theorem sumF_congr {f g : Nat → Int} : ∀ {n : Nat}, (∀ j, j < n → f j = g j) → sumF f n = sumF g n
  | 0, _ => rfl
  | n + 1, h => by rw [sumF, sumF, sumF_congr fun j hj => h j (by omega), h n (by omega)]
theorem sumF_zero {f : Nat → Int} : ∀ {n : Nat}, (∀ j, j < n → f j = 0) → sumF f n = 0
  | 0, _ => rfl
  | n + 1, h => by rw [sumF, sumF_zero fun j hj => h j (by omega), h n (by omega)]; rfl
theorem sumF_add (f g : Nat → Int) : ∀ n : Nat, sumF (fun j => f j + g j) n = sumF f n + sumF g n
  | 0 => rfl
  | n + 1 => by simp only [sumF, sumF_add f g n]; omega
theorem sumF_mul (k : Int) (f : Nat → Int) : ∀ n : Nat, sumF (fun j => k * f j) n = k * sumF f n
  | 0 => by simp [sumF]
  | n + 1 => by simp only [sumF, sumF_mul k f n, Int.mul_add]
theorem sumF_ext {f : Nat → Int} {n m : Nat} (h : n ≤ m) (hz : ∀ j, n ≤ j → j < m → f j = 0) : sumF f m = sumF f n := by
  induction m with
  | zero => rw [show n = 0 by omega]
  | succ m ih =>
    by_cases e : n = m + 1
    · rw [e]
    · rw [sumF, ih (by omega) (fun j h1 h2 => hz j h1 (by omega)), hz m (by omega) (by omega)]; omega
theorem sumF_one {f : Nat → Int} {n i : Nat} (hi : i < n) (hz : ∀ j, j < n → j ≠ i → f j = 0) : sumF f n = f i := by
  rw [sumF_ext (n := i + 1) hi fun j h1 h2 => hz j h2 (by omega), sumF, sumF_zero fun j hj => hz j (by omega) (by omega)]; omega
theorem sumF_dvd {p : Int} {f : Nat → Int} : ∀ {n : Nat}, (∀ j, j < n → p ∣ f j) → p ∣ sumF f n
  | 0, _ => Int.dvd_zero p
  | n + 1, h => Int.dvd_add (sumF_dvd fun j hj => h j (by omega)) (h n (by omega))
theorem sumF_swap (f : Nat → Nat → Int) (m : Nat) : ∀ n : Nat, sumF (fun i => sumF (f i) m) n = sumF (fun j => sumF (fun i => f i j) n) m
  | 0 => (sumF_zero fun _ _ => rfl).symm
  | n + 1 => by simp only [sumF, sumF_swap f m n, sumF_add]

/-- Equal modulo p. -/
def Cg (p a b : Int) : Prop := p ∣ a - b
section
variable {p a b c d : Int}
theorem Cg.rfl' : Cg p a a := by simp [Cg, Int.sub_self]
theorem Cg.of (h : a = b) : Cg p a b := h ▸ Cg.rfl'
theorem Cg.symm (h : Cg p a b) : Cg p b a := by have := Int.dvd_neg.2 h; rwa [Int.neg_sub] at this
theorem Cg.trans (h : Cg p a b) (h' : Cg p b c) : Cg p a c := by have := Int.dvd_add h h'; rwa [show a - b + (b - c) = a - c by omega] at this
theorem Cg.add (h : Cg p a b) (h' : Cg p c d) : Cg p (a + c) (b + d) := by have := Int.dvd_add h h'; rwa [show a - b + (c - d) = a + c - (b + d) by omega] at this
theorem Cg.sub (h : Cg p a b) (h' : Cg p c d) : Cg p (a - c) (b - d) := by have := Int.dvd_sub h h'; rwa [show a - b - (c - d) = a - c - (b - d) by omega] at this
theorem Cg.mul (h : Cg p a b) (h' : Cg p c d) : Cg p (a * c) (b * d) := by
  have h1 : p ∣ (a - b) * c := Int.dvd_trans h (Int.dvd_mul_right _ _)
  have h2 : p ∣ b * (c - d) := Int.dvd_trans h' (Int.dvd_mul_left _ _)
  have := Int.dvd_add h1 h2
  rwa [Int.sub_mul, Int.mul_sub, show a * c - b * c + (b * c - b * d) = a * c - b * d by omega] at this
theorem Cg.mulL (k : Int) (h : Cg p a b) : Cg p (k * a) (k * b) := Cg.rfl'.mul h
theorem Cg.emod : Cg p (a % p) a := by
  unfold Cg
  rw [Int.emod_def, show a - p * (a / p) - a = -(p * (a / p)) by omega]
  exact Int.dvd_neg.2 (Int.dvd_mul_right _ _)
theorem Cg.zero_iff : Cg p a 0 ↔ p ∣ a := by simp [Cg]
theorem Cg.dvd_iff (h : Cg p a b) : p ∣ a ↔ p ∣ b := by rw [← Cg.zero_iff, ← Cg.zero_iff]; exact ⟨h.symm.trans, h.trans⟩
theorem Cg.emod_eq (h : Cg p a b) : a % p = b % p := Int.emod_eq_emod_iff_emod_sub_eq_zero.2 (Int.emod_eq_zero_of_dvd h)
theorem Cg.of_emod (h : a % p = b % p) : Cg p a b := Int.dvd_of_emod_eq_zero (Int.emod_eq_emod_iff_emod_sub_eq_zero.1 h)
theorem Cg.eq (h : Cg p a b) (ha : 0 ≤ a ∧ a < p) (hb : 0 ≤ b ∧ b < p) : a = b := by
  have := h.emod_eq
  rwa [Int.emod_eq_of_lt ha.1 ha.2, Int.emod_eq_of_lt hb.1 hb.2] at this
end
theorem sumF_cg {p : Int} {f g : Nat → Int} : ∀ {n : Nat}, (∀ j, j < n → Cg p (f j) (g j)) → Cg p (sumF f n) (sumF g n)
  | 0, _ => Cg.rfl'
  | n + 1, h => (sumF_cg fun j hj => h j (by omega)).add (h n (by omega))
/-- Each number that p does not divide has an inverse. -/
def HasInv (p : Int) : Prop := ∀ x : Int, ¬ p ∣ x → ∃ y, Cg p (y * x) 1
theorem isP_inv {p : Int} (h : isP p = true) : HasInv p := by
  intro x hx
  have h0 : x % p ≠ 0 := fun e => hx (Int.dvd_of_emod_eq_zero e)
  have hc : Cg p x (x % p) := Cg.emod.symm
  have fin : ∀ y : Int, (y * (x % p)) % p = 1 % p → ∃ y, Cg p (y * x) 1 := fun y hy => ⟨y, (hc.mulL y).trans (Cg.of_emod hy)⟩
  have hp : p = 2 ∨ p = 3 ∨ p = 5 := by simp [isP] at h; omega
  rcases hp with rfl | rfl | rfl
  · have : x % 2 = 1 := by omega
    exact fin 1 (by rw [this]; decide)
  · have : x % 3 = 1 ∨ x % 3 = 2 := by omega
    rcases this with e | e
    · exact fin 1 (by rw [e]; decide)
    · exact fin 2 (by rw [e]; decide)
  · have : x % 5 = 1 ∨ x % 5 = 2 ∨ x % 5 = 3 ∨ x % 5 = 4 := by omega
    rcases this with e | e | e | e
    · exact fin 1 (by rw [e]; decide)
    · exact fin 3 (by rw [e]; decide)
    · exact fin 2 (by rw [e]; decide)
    · exact fin 4 (by rw [e]; decide)

/-- A column is a sum of multiples of those before it. -/
def Dep (p : Int) (M : Nat → Nat → Int) (n i : Nat) : Prop := ∃ x : Nat → Int, x i = 1 ∧ ∀ a, a < n → p ∣ sumF (fun j => M a j * x j) (i + 1)
/-- A solution in which the columns that depend on others are not used. -/
structure Sol (p : Int) (M : Nat → Nat → Int) (n r : Nat) (W : Nat → Int) (x : Nat → Int) : Prop where
  eqn : ∀ a, a < n → Cg p (sumF (fun j => M a j * x j) r) (W a)
  dep : ∀ j, j < r → Dep p M n j → x j = 0
  rng : ∀ j, j < r → 0 ≤ x j ∧ x j < p
theorem Sol.unique {p : Int} {M : Nat → Nat → Int} {n r : Nat} {W x y : Nat → Int} (hp : HasInv p) (hx : Sol p M n r W x) (hy : Sol p M n r W y) : ∀ j, j < r → x j = y j := by
  have key : ∀ d m : Nat, m + d = r → ∀ j, m ≤ j → j < r → x j = y j := by
    intro d
    induction d with
    | zero => intro m hm j h1 h2; omega
    | succ d ih =>
      intro m hm j h1 h2
      have rest := ih (m + 1) (by omega)
      by_cases e : j = m
      · subst e
        apply Classical.byContradiction
        intro hne
        have hnd : ¬ p ∣ x j - y j := fun hd => hne (Cg.eq hd (hx.rng j h2) (hy.rng j h2))
        obtain ⟨v, hv⟩ := hp _ hnd
        have hD : Dep p M n j := by
          refine ⟨fun i => if i = j then 1 else v * (x i - y i), by simp, fun a ha => ?_⟩
          have h3 : Cg p (sumF (fun i => M a i * x i) r - sumF (fun i => M a i * y i) r) 0 := by
            have := (hx.eqn a ha).sub (hy.eqn a ha)
            rwa [Int.sub_self] at this
          have h4 : sumF (fun i => M a i * x i) r - sumF (fun i => M a i * y i) r = sumF (fun i => M a i * (x i - y i)) (j + 1) := by
            rw [← sumF_ext (f := fun i => M a i * (x i - y i)) (n := j + 1) (m := r) (by omega) fun i h5 h6 => by simp only [rest i (by omega) h6, Int.sub_self, Int.mul_zero]]
            have h7 := sumF_add (fun i => M a i * (x i - y i)) (fun i => M a i * y i) r
            have h8 : sumF (fun i => M a i * (x i - y i) + M a i * y i) r = sumF (fun i => M a i * x i) r := sumF_congr fun i _ => by rw [Int.mul_sub]; omega
            omega
          rw [h4] at h3
          have h5 := h3.mulL v
          rw [Int.mul_zero, ← sumF_mul] at h5
          refine Cg.zero_iff.1 (Cg.trans (sumF_cg fun i hi => ?_) h5)
          by_cases e : i = j
          · subst e
            simp only [if_true]
            have := (hv.mulL (M a i)).symm
            rwa [show M a i * (v * (x i - y i)) = v * (M a i * (x i - y i)) by rw [Int.mul_left_comm]] at this
          · simp only [e, if_false]
            exact Cg.of (Int.mul_left_comm _ _ _)
        exact hne ((hx.dep j h2 hD).trans (hy.dep j h2 hD).symm)
      · exact rest j (by omega) h2
  exact fun j hj => key r 0 (by omega) j (Nat.zero_le _) hj
end Go.Proofs.Ytcfemdhlcjmlbaa
/- Elimination by the first columns: what it keeps, and what it tells. -/
namespace Go.Proofs.Ytcfemdhlcjmlbaa
open Go Go.Abs
set_option maxRecDepth 100000

set_option maxRecDepth 100000
set_option linter.unusedVariables false

def Ker (p : Int) (E : Nat → Nat → Int) (n w : Nat) (x : Nat → Int) : Prop := ∀ k, k < n → p ∣ sumF (fun j => E k j * x j) w
def KEq (p : Int) (n w : Nat) (A B : Nat → Nat → Int) : Prop := ∀ x, Ker p A n w x ↔ Ker p B n w x
theorem KEq.rfl' {p : Int} {n w : Nat} {A : Nat → Nat → Int} : KEq p n w A A := fun _ => Iff.rfl
theorem KEq.trans {p : Int} {n w : Nat} {A B C : Nat → Nat → Int} (h : KEq p n w A B) (h' : KEq p n w B C) : KEq p n w A C := fun x => (h x).trans (h' x)
def swI (a b k : Nat) : Nat := if k = b then a else if k = a then b else k
theorem KEq.elim {p : Int} {n w d i0 : Nat} {A B : Nat → Nat → Int} {u v : Int} {ck : Nat → Int} (hd : d < n) (hi : i0 < n) (huv : Cg p (v * u) 1) (hB : ∀ l, l < w → Cg p (B d l) (u * A i0 l))
    (hk : ∀ k, k < n → k ≠ d → ∀ l, l < w → Cg p (B k l) (A (swI d i0 k) l + ck k * B d l)) : KEq p n w A B := by
  intro x
  have e1 : Cg p (sumF (fun j => B d j * x j) w) (u * sumF (fun j => A i0 j * x j) w) := by
    rw [← sumF_mul]
    refine sumF_cg fun j hj => ?_
    rw [← Int.mul_assoc]
    exact (hB j hj).mul Cg.rfl'
  have e2 : ∀ k, k < n → k ≠ d → Cg p (sumF (fun j => B k j * x j) w) (sumF (fun j => A (swI d i0 k) j * x j) w + ck k * sumF (fun j => B d j * x j) w) := by
    intro k hkn hkd
    rw [← sumF_mul, ← sumF_add]
    refine sumF_cg fun j hj => ?_
    rw [← Int.mul_assoc, ← Int.add_mul]
    exact (hk k hkn hkd j hj).mul Cg.rfl'
  constructor
  · intro h k hkn
    have h0 : p ∣ sumF (fun j => B d j * x j) w := e1.dvd_iff.2 (Int.dvd_trans (h i0 hi) (Int.dvd_mul_left _ _))
    by_cases e : k = d
    · subst e; exact h0
    · refine (e2 k hkn e).dvd_iff.2 (Int.dvd_add (h _ ?_) (Int.dvd_trans h0 (Int.dvd_mul_left _ _)))
      unfold swI; split
      · exact hd
      · exact hkn
  · intro h k hkn
    have h0 := h d hd
    have hi0 : p ∣ sumF (fun j => A i0 j * x j) w := by
      have h1 : p ∣ u * sumF (fun j => A i0 j * x j) w := e1.dvd_iff.1 h0
      have h2 : p ∣ v * (u * sumF (fun j => A i0 j * x j) w) := Int.dvd_trans h1 (Int.dvd_mul_left _ _)
      rw [← Int.mul_assoc] at h2
      have h3 : Cg p (v * u * sumF (fun j => A i0 j * x j) w) (1 * sumF (fun j => A i0 j * x j) w) := huv.mul Cg.rfl'
      rw [Int.one_mul] at h3
      exact h3.dvd_iff.1 h2
    have other : ∀ q, q < n → q ≠ d → p ∣ sumF (fun j => A (swI d i0 q) j * x j) w := by
      intro q hq hqd
      have h1 : p ∣ sumF (fun j => A (swI d i0 q) j * x j) w + ck q * sumF (fun j => B d j * x j) w := (e2 q hq hqd).dvd_iff.1 (h q hq)
      have h2 := Int.dvd_sub h1 (Int.dvd_trans h0 (Int.dvd_mul_left (ck q) (sumF (fun j => B d j * x j) w)))
      rwa [Int.add_sub_cancel] at h2
    by_cases e : k = i0
    · subst e; exact hi0
    · by_cases e' : k = d
      · have := other i0 hi (fun e2 => e (e'.trans e2.symm))
        rwa [show swI d i0 i0 = d by simp [swI], ← e'] at this
      · have := other k hkn e'
        rwa [show swI d i0 k = k by simp [swI, e, e']] at this

/-- Columns before c are eliminated. -/
structure Piv (E : Nat → Nat → Int) (at_ : Nat → Int) (n c done : Nat) : Prop where
  p1 : ∀ c', c' < c → at_ c' = -1 ∨ ∃ i : Nat, i < done ∧ at_ c' = i
  p2 : ∀ c', c' < c → ∀ i : Nat, at_ c' = i → E i c' = 1 ∧ ∀ k, k < n → k ≠ i → E k c' = 0
  p3 : ∀ c', c' < c → at_ c' = -1 → ∀ k : Nat, k < n → (∀ j, j < c' → at_ j ≠ k) → E k c' = 0
  p4 : ∀ c1 c2 (i : Nat), c1 < c2 → c2 < c → at_ c1 = i → at_ c2 ≠ i
  p5 : ∀ i : Nat, i < done → ∃ c', c' < c ∧ at_ c' = i
  p6 : done ≤ n
theorem Piv.zero {E : Nat → Nat → Int} {at_ : Nat → Int} {n : Nat} : Piv E at_ n 0 0 := ⟨fun _ h => by omega, fun _ h => by omega, fun _ h => by omega, fun _ _ _ _ h => by omega, fun _ h => by omega, Nat.zero_le _⟩
theorem Piv.lt {E : Nat → Nat → Int} {at_ : Nat → Int} {n c done : Nat} (h : Piv E at_ n c done) {c' i : Nat} (hc : c' < c) (e : at_ c' = i) : i < done := by
  rcases h.p1 c' hc with h1 | ⟨j, h1, h2⟩ <;> omega
theorem Piv.none {E : Nat → Nat → Int} {at_ at' : Nat → Int} {n c done : Nat} (h : Piv E at_ n c done) (hs : ∀ j, j < c → at' j = at_ j) (hc : at' c = -1) (hz : ∀ k, done ≤ k → k < n → E k c = 0) : Piv E at' n (c + 1) done := by
  have old : ∀ c', c' < c + 1 → c' ≠ c → c' < c := fun c' h1 h2 => by omega
  refine ⟨fun c' h1 => ?_, fun c' h1 i e => ?_, fun c' h1 e k hk hno => ?_, fun c1 c2 i h1 h2 e1 e2 => ?_, fun i hi => ?_, h.p6⟩
  · by_cases e : c' = c
    · rw [e]; exact .inl hc
    · rw [hs _ (old _ h1 e)]; exact h.p1 _ (old _ h1 e)
  · by_cases e' : c' = c
    · subst e'; omega
    · rw [hs _ (old _ h1 e')] at e; exact h.p2 _ (old _ h1 e') i e
  · by_cases e' : c' = c
    · subst e'
      refine hz k (Nat.le_of_not_lt fun hlt => ?_) hk
      obtain ⟨j, hj, e3⟩ := h.p5 k hlt
      exact hno j hj (by rw [hs j hj, e3])
    · rw [hs _ (old _ h1 e')] at e
      exact h.p3 _ (old _ h1 e') e k hk fun j hj => by rw [← hs j (by omega)]; exact hno j hj
  · by_cases e' : c2 = c
    · subst e'; omega
    · rw [hs _ (by omega)] at e1 e2
      exact h.p4 c1 c2 i h1 (by omega) e1 e2
  · obtain ⟨c', h1, h2⟩ := h.p5 i hi
    exact ⟨c', by omega, by rw [hs _ h1]; exact h2⟩
theorem Piv.some {p : Int} {E E' : Nat → Nat → Int} {at_ at' : Nat → Int} {n w c done i0 : Nat} {u : Int} (h : Piv E at_ n c done) (hs : ∀ j, j < c → at' j = at_ j) (hc : at' c = done) (hi : done ≤ i0) (hi' : i0 < n) (hcw : c < w) (hp : 2 ≤ p)
    (rng : ∀ k, k < n → ∀ l, l < w → 0 ≤ E k l ∧ E k l < p) (h1 : E' done c = 1) (hd : ∀ l, l < w → E' done l = (E i0 l * u) % p)
    (hk : ∀ k, k < n → k ≠ done → ∀ l, l < w → E' k l = (E (swI done i0 k) l + (p - E (swI done i0 k) c) * E' done l) % p) : Piv E' at' n (c + 1) (done + 1) := by
  have old : ∀ c', c' < c + 1 → c' ≠ c → c' < c := fun c' h1 h2 => by omega
  have swlt : ∀ k, k < n → swI done i0 k < n := fun k hk => by unfold swI; split; omega; split; exact hi'; exact hk
  have swge : ∀ k, done ≤ k → done ≤ swI done i0 k := fun k hk => by unfold swI; split; omega; split; exact hi; exact hk
  have swid : ∀ k, k < done → swI done i0 k = k := fun k hk => by unfold swI; rw [if_neg (by omega), if_neg (by omega)]
  -- a column in which the row of the pivot is 0 stays, but for the change of rows
  have keep : ∀ c', c' < c → E i0 c' = 0 → E' done c' = 0 ∧ ∀ k, k < n → k ≠ done → E' k c' = E (swI done i0 k) c' := by
    intro c' hc' hz
    have z : E' done c' = 0 := by rw [hd c' (by omega), hz, Int.zero_mul]; exact Int.zero_emod p
    refine ⟨z, fun k hkn hkd => ?_⟩
    rw [hk k hkn hkd c' (by omega), z, Int.mul_zero, Int.add_zero]
    have := rng _ (swlt k hkn) c' (by omega)
    exact Int.emod_eq_of_lt this.1 this.2
  have z0 : ∀ c', c' < c → E i0 c' = 0 := by
    intro c' hc'
    rcases h.p1 c' hc' with e | ⟨i, h2, e⟩
    · exact h.p3 c' hc' e i0 hi' fun j hj e2 => by have := h.lt (show j < c by omega) e2; omega
    · exact (h.p2 c' hc' i e).2 i0 hi' (by omega)
  refine ⟨fun c' h2 => ?_, fun c' h2 i e => ?_, fun c' h2 e k hkn hno => ?_, fun c1 c2 i h2 h3 e1 e2 => ?_, fun i hi2 => ?_, by omega⟩
  · by_cases e : c' = c
    · rw [e]; exact .inr ⟨done, by omega, hc⟩
    · rw [hs _ (old _ h2 e)]
      rcases h.p1 _ (old _ h2 e) with h3 | ⟨i, h3, h4⟩
      · exact .inl h3
      · exact .inr ⟨i, by omega, h4⟩
  · by_cases e' : c' = c
    · subst e'
      have : i = done := by omega
      subst this
      refine ⟨h1, fun k hkn hkd => ?_⟩
      rw [hk k hkn hkd c' hcw, h1, Int.mul_one, show E (swI i i0 k) c' + (p - E (swI i i0 k) c') = p by omega]
      exact Int.emod_self
    · have hc' := old _ h2 e'
      rw [hs _ hc'] at e
      have hlt := h.lt hc' e
      obtain ⟨k1, k2⟩ := keep c' hc' (z0 c' hc')
      obtain ⟨g1, g2⟩ := h.p2 c' hc' i e
      refine ⟨by rw [k2 i (by omega) (by omega), swid i hlt]; exact g1, fun k hkn hki => ?_⟩
      by_cases e3 : k = done
      · rw [e3]; exact k1
      · rw [k2 k hkn e3]
        refine g2 _ (swlt k hkn) fun e4 => ?_
        by_cases h5 : k < done
        · rw [swid k h5] at e4; exact hki e4
        · have := swge k (by omega); omega
  · by_cases e' : c' = c
    · subst e'; omega
    · have hc' := old _ h2 e'
      rw [hs _ hc'] at e
      have hno' : ∀ j, j < c' → at_ j ≠ k := fun j hj => by rw [← hs j (by omega)]; exact hno j hj
      obtain ⟨k1, k2⟩ := keep c' hc' (z0 c' hc')
      by_cases e3 : k = done
      · rw [e3]; exact k1
      · rw [k2 k hkn e3]
        refine h.p3 c' hc' e _ (swlt k hkn) fun j hj e4 => ?_
        by_cases h5 : k < done
        · rw [swid k h5] at e4; exact hno' j hj e4
        · have h6 := swge k (by omega)
          have h7 := h.lt (show j < c by omega) e4
          omega
  · by_cases e' : c2 = c
    · subst e'
      rw [hs _ h2] at e1
      have := h.lt h2 e1
      omega
    · rw [hs _ (by omega)] at e1 e2
      exact h.p4 c1 c2 i h2 (by omega) e1 e2
  · by_cases e : i = done
    · exact ⟨c, by omega, by rw [e]; exact hc⟩
    · obtain ⟨c', h3, h4⟩ := h.p5 i (by omega)
      exact ⟨c', by omega, by rw [hs _ h3]; exact h4⟩

section
variable {p : Int} {E E0 : Nat → Nat → Int} {at_ : Nat → Int} {n w r done : Nat}
theorem Piv.dep (h : Piv E at_ n r done) (hp : 2 ≤ p) (hk : KEq p n w E0 E) (hrw : r ≤ w) (j : Nat) (hj : j < r) : Dep p E0 n j ↔ at_ j = -1 := by
  have wide : ∀ x : Nat → Int, ∀ F : Nat → Nat → Int, (∀ a, a < n → p ∣ sumF (fun i => F a i * x i) (j + 1)) ↔ Ker p F n w (fun i => if i ≤ j then x i else 0) := by
    intro x F
    have e : ∀ a, sumF (fun i => F a i * (if i ≤ j then x i else 0)) w = sumF (fun i => F a i * x i) (j + 1) := by
      intro a
      rw [sumF_ext (n := j + 1) (by omega) fun i h1 h2 => by rw [if_neg (by omega), Int.mul_zero]]
      exact sumF_congr fun i hi => by rw [if_pos (by omega)]
    exact ⟨fun h a ha => by rw [e]; exact h a ha, fun h a ha => by rw [← e]; exact h a ha⟩
  constructor
  · rintro ⟨x, hx, hd⟩
    have h1 := (wide x E).2 ((hk _).1 ((wide x E0).1 hd))
    rcases h.p1 j hj with e | ⟨i, hi, e⟩
    · exact e
    · exfalso
      have hin : i < n := by have := h.p6; omega
      have h2 := h1 i hin
      rw [sumF, sumF_zero fun b hb => ?_, (h.p2 j hj i e).1, hx] at h2
      · have := Int.le_of_dvd (by decide) h2
        omega
      · have hbr : b < r := by omega
        rcases h.p1 b hbr with e2 | ⟨i2, hi2, e2⟩
        · rw [h.p3 b hbr e2 i hin fun q hq e3 => h.p4 q j i (by omega) hj e3 e, Int.zero_mul]
        · have : i ≠ i2 := fun e3 => by subst e3; exact h.p4 b j i hb hj e2 e
          rw [(h.p2 b hbr i2 e2).2 i hin this, Int.zero_mul]
  · intro e
    let x : Nat → Int := fun b => if b = j then 1 else if at_ b = -1 then 0 else - E (at_ b).toNat j
    refine ⟨x, by simp [x], (wide x E0).2 ((hk _).2 ((wide x E).1 fun k hkn => ?_))⟩
    refine Cg.zero_iff.1 (Cg.of ?_)
    have hxj : x j = 1 := by simp [x]
    have hxb : ∀ b, b < j → x b = if at_ b = -1 then 0 else - E (at_ b).toNat j := fun b hb => by simp only [x]; rw [if_neg (by omega)]
    rw [sumF, hxj, Int.mul_one]
    by_cases hpv : ∃ b, b < j ∧ at_ b = k
    · obtain ⟨b, hb, e2⟩ := hpv
      rw [sumF_one (i := b) hb fun q hq hqb => ?_, hxb b hb, if_neg (by omega), e2, (h.p2 b (by omega) k e2).1]
      · simp; omega
      · rw [hxb q hq]
        rcases h.p1 q (by omega) with e3 | ⟨i3, hi3, e3⟩
        · rw [if_pos e3, Int.mul_zero]
        · have : k ≠ i3 := fun e4 => by
            subst e4
            rcases Nat.lt_or_ge q b with h5 | h5
            · exact h.p4 q b k h5 (by omega) e3 e2
            · exact h.p4 b q k (by omega) (by omega) e2 e3
          rw [(h.p2 q (by omega) i3 e3).2 k hkn this, Int.zero_mul]
    · rw [h.p3 j hj e k hkn fun b hb e2 => hpv ⟨b, hb, e2⟩, sumF_zero fun b hb => ?_]
      · rfl
      · rw [hxb b hb]
        rcases h.p1 b (by omega) with e3 | ⟨i3, hi3, e3⟩
        · rw [if_pos e3, Int.mul_zero]
        · rw [(h.p2 b (by omega) i3 e3).2 k hkn fun e4 => hpv ⟨b, hb, by rw [e4]; exact e3⟩, Int.zero_mul]

/-- Ker of a solution's vector. -/
def solV (x : Nat → Int) (r q : Nat) (j : Nat) : Int := if j < r then x j else if j = r + q then -1 else 0
theorem solV_sum (F : Nat → Nat → Int) (x : Nat → Int) {q a : Nat} (hq : r + q < w) : sumF (fun j => F a j * solV x r q j) w = sumF (fun j => F a j * x j) r - F a (r + q) := by
  have h1 : sumF (fun j => F a j * solV x r q j) w = sumF (fun j => F a j * solV x r q j) (r + q + 1) := sumF_ext (by omega) fun j h1 h2 => by rw [solV, if_neg (by omega), if_neg (by omega), Int.mul_zero]
  have h2 : sumF (fun j => F a j * solV x r q j) (r + q) = sumF (fun j => F a j * solV x r q j) r := sumF_ext (by omega) fun j h1 h2 => by rw [solV, if_neg (by omega), if_neg (by omega), Int.mul_zero]
  rw [h1, sumF, h2, sumF_congr (f := fun j => F a j * solV x r q j) (g := fun j => F a j * x j) fun j hj => by rw [solV, if_pos hj], solV, if_neg (by omega), if_pos rfl]
  omega
theorem Piv.sol_iff (hk : KEq p n w E0 E) {q : Nat} (hq : r + q < w) (x : Nat → Int) : (∀ a, a < n → Cg p (sumF (fun j => E0 a j * x j) r) (E0 a (r + q))) ↔ ∀ a, a < n → Cg p (sumF (fun j => E a j * x j) r) (E a (r + q)) := by
  have h := hk (solV x r q)
  unfold Ker at h
  simp only [solV_sum _ x hq] at h
  exact h
theorem Piv.sol (h : Piv E at_ n r done) (hp : 2 ≤ p) (hk : KEq p n w E0 E) {q : Nat} (hq : r + q < w) (rng : ∀ k, k < n → 0 ≤ E k (r + q) ∧ E k (r + q) < p) (hz : ∀ k, done ≤ k → k < n → E k (r + q) = 0) :
    Sol p E0 n r (fun a => E0 a (r + q)) (fun j => if at_ j = -1 then 0 else E (at_ j).toNat (r + q)) := by
  refine ⟨(Piv.sol_iff hk hq _).2 fun k hkn => ?_, fun j hj hd => if_pos ((h.dep hp hk (by omega) j hj).1 hd), fun j hj => ?_⟩
  · refine Cg.of ?_
    by_cases hkd : k < done
    · obtain ⟨b, hb, e2⟩ := h.p5 k hkd
      rw [sumF_one (i := b) hb fun c hc hcb => ?_, if_neg (by omega), e2, (h.p2 b hb k e2).1]
      · simp
      · rcases h.p1 c hc with e3 | ⟨i3, hi3, e3⟩
        · rw [if_pos e3, Int.mul_zero]
        · have : k ≠ i3 := fun e4 => by
            subst e4
            rcases Nat.lt_or_ge c b with h5 | h5
            · exact h.p4 c b k h5 (by omega) e3 e2
            · exact h.p4 b c k (by omega) (by omega) e2 e3
          rw [(h.p2 c hc i3 e3).2 k hkn this, Int.zero_mul]
    · rw [hz k (by omega) hkn]
      refine sumF_zero fun c hc => ?_
      rcases h.p1 c hc with e3 | ⟨i3, hi3, e3⟩
      · rw [if_pos e3, Int.mul_zero]
      · rw [(h.p2 c hc i3 e3).2 k hkn (by omega), Int.zero_mul]
  · rcases h.p1 j hj with e3 | ⟨i3, hi3, e3⟩
    · rw [if_pos e3]; omega
    · rw [if_neg (by omega), e3]
      exact rng _ (by have := h.p6; simp; omega)
theorem Piv.nosol (h : Piv E at_ n r done) (hp : 2 ≤ p) (hk : KEq p n w E0 E) {q k : Nat} (hq : r + q < w) (rng : 0 ≤ E k (r + q) ∧ E k (r + q) < p) (hkd : done ≤ k) (hkn : k < n) (hne : E k (r + q) ≠ 0) (x : Nat → Int) : ¬ Sol p E0 n r (fun a => E0 a (r + q)) x := by
  intro hs
  have h1 := (Piv.sol_iff hk hq x).1 hs.eqn k hkn
  rw [sumF_zero fun c hc => ?_] at h1
  · exact hne (h1.eq (by omega) rng).symm
  · have hd := hs.dep c hc
    rcases h.p1 c hc with e3 | ⟨i3, hi3, e3⟩
    · rw [hd ((h.dep hp hk (by omega) c hc).2 e3), Int.mul_zero]
    · rw [(h.p2 c hc i3 e3).2 k hkn (by omega), Int.zero_mul]
end
end Go.Proofs.Ytcfemdhlcjmlbaa
/- A basis of rows, built one after the other: what it tells. -/
namespace Go.Proofs.Ytcfemdhlcjmlbaa
open Go Go.Abs
set_option maxRecDepth 100000

set_option maxRecDepth 100000
set_option linter.unusedVariables false

def Span (p : Int) (V : Nat → Nat → Int) (m n : Nat) (u : Nat → Int) : Prop := ∃ y : Nat → Int, ∀ a, a < n → Cg p (u a) (sumF (fun k => y k * V k a) m)
section
variable {p : Int} {V : Nat → Nat → Int} {m n : Nat} {u v : Nat → Int}
theorem Span.cg (h : Span p V m n u) (e : ∀ a, a < n → Cg p (v a) (u a)) : Span p V m n v := let ⟨y, hy⟩ := h; ⟨y, fun a ha => (e a ha).trans (hy a ha)⟩
theorem Span.zero : Span p V m n fun _ => 0 := ⟨fun _ => 0, fun a _ => Cg.of (sumF_zero fun _ _ => Int.zero_mul _).symm⟩
theorem Span.add (h : Span p V m n u) (h' : Span p V m n v) : Span p V m n fun a => u a + v a := by
  obtain ⟨y, hy⟩ := h
  obtain ⟨z, hz⟩ := h'
  refine ⟨fun k => y k + z k, fun a ha => ((hy a ha).add (hz a ha)).trans (Cg.of ?_)⟩
  rw [← sumF_add]
  exact sumF_congr fun k _ => (Int.add_mul _ _ _).symm
theorem Span.smul (c : Int) (h : Span p V m n u) : Span p V m n fun a => c * u a := by
  obtain ⟨y, hy⟩ := h
  refine ⟨fun k => c * y k, fun a ha => ((hy a ha).mulL c).trans (Cg.of ?_)⟩
  rw [← sumF_mul]
  exact sumF_congr fun k _ => (Int.mul_assoc _ _ _).symm
theorem Span.sum {f : Nat → Nat → Int} : ∀ {r : Nat}, (∀ j, j < r → Span p V m n (f j)) → Span p V m n fun a => sumF (fun j => f j a) r
  | 0, _ => Span.zero
  | r + 1, h => (Span.sum fun j hj => h j (by omega)).add (h r (by omega))
theorem Span.row {k : Nat} (hk : k < m) : Span p V m n (V k) := by
  refine ⟨fun i => if i = k then 1 else 0, fun a ha => Cg.of ?_⟩
  rw [sumF_one hk fun j _ hne => by simp [hne]]
  simp
theorem Span.succ {V' : Nat → Nat → Int} (hV : ∀ k, k < m → ∀ a, a < n → V' k a = V k a) (h : Span p V m n u) : Span p V' (m + 1) n u := by
  obtain ⟨y, hy⟩ := h
  refine ⟨fun k => if k < m then y k else 0, fun a ha => (hy a ha).trans (Cg.of ?_)⟩
  rw [sumF]; dsimp only; rw [if_neg (Nat.lt_irrefl _), Int.zero_mul, Int.add_zero]
  exact sumF_congr fun k hk => by rw [if_pos hk, hV k hk a ha]
end

structure Bas (p : Int) (M : Nat → Nat → Int) (n r : Nat) (V : Nat → Nat → Int) (ld : Nat → Nat) (m i : Nat) : Prop where
  b1 : ∀ k, k < m → ∀ a, a < n → Cg p (V k a) (sumF (fun j => M a j * V k (n + j)) r)
  b2 : ∀ k, k < m → ∀ j, j < r → (i ≤ j ∨ Dep p M n j) → V k (n + j) = 0
  b3 : ∀ k, k < m → ld k < n ∧ V k (ld k) = 1 ∧ ∀ k', k' < k → V k (ld k') = 0
  b4 : ∀ j, j < i → Span p V m n fun a => M a j
theorem Bas.zero {p : Int} {M V : Nat → Nat → Int} {ld : Nat → Nat} {n r : Nat} : Bas p M n r V ld 0 0 := ⟨fun _ h => by omega, fun _ h => by omega, fun _ h => by omega, fun _ h => by omega⟩
/-- A row from which the first rows of the basis have been taken. -/
structure Red (p : Int) (V : Nat → Nat → Int) (ld : Nat → Nat) (s : Nat) (w0 w : Nat → Int) (k : Nat) : Prop where
  r1 : ∃ y : Nat → Int, ∀ l, l < s → Cg p (w0 l) (w l + sumF (fun t => y t * V t l) k)
  r2 : ∀ t, t < k → w (ld t) = 0
  rng : ∀ l, l < s → 0 ≤ w l ∧ w l < p
theorem Red.zero {p : Int} {V : Nat → Nat → Int} {ld : Nat → Nat} {s : Nat} {w : Nat → Int} (h : ∀ l, l < s → 0 ≤ w l ∧ w l < p) : Red p V ld s w w 0 := ⟨⟨fun _ => 0, fun l _ => Cg.of (by simp [sumF])⟩, fun _ h => by omega, h⟩
section
variable {p : Int} {M V : Nat → Nat → Int} {ld : Nat → Nat} {n r m i : Nat}
theorem Red.step {w0 w w' : Nat → Int} {k : Nat} (hB : Bas p M n r V ld m i) (h : Red p V ld (n + r) w0 w k) (hk : k < m) (hp : 2 ≤ p) (hw : ∀ l, l < n + r → w' l = (w l - w (ld k) * V k l) % p) : Red p V ld (n + r) w0 w' (k + 1) := by
  obtain ⟨y, hy⟩ := h.r1
  have b3 := hB.b3 k hk
  refine ⟨⟨fun t => if t < k then y t else w (ld k), fun l hl => (hy l hl).trans ?_⟩, fun t ht => ?_, fun l hl => ?_⟩
  · rw [sumF]; dsimp only; rw [if_neg (Nat.lt_irrefl _), sumF_congr (f := fun t => (if t < k then y t else w (ld k)) * V t l) (g := fun t => y t * V t l) fun t ht => by rw [if_pos ht]]
    have h1 : Cg p (w' l) (w l - w (ld k) * V k l) := by rw [hw l hl]; exact Cg.emod
    have h2 := h1.symm.add (Cg.rfl' (p := p) (a := sumF (fun t => y t * V t l) k + w (ld k) * V k l))
    rwa [show w l - w (ld k) * V k l + (sumF (fun t => y t * V t l) k + w (ld k) * V k l) = w l + sumF (fun t => y t * V t l) k by omega] at h2
  · by_cases e : t = k
    · subst e
      rw [hw _ (by omega), b3.2.1, Int.mul_one, Int.sub_self]; exact Int.zero_emod p
    · have h3 := hB.b3 t (by omega)
      rw [hw _ (by omega), h.r2 t (by omega), b3.2.2 t (by omega), Int.mul_zero, Int.sub_self]; exact Int.zero_emod p
  · rw [hw l hl]
    exact ⟨Int.emod_nonneg _ (by omega), Int.emod_lt_of_pos _ (by omega)⟩

theorem Bas.span_zero (hB : Bas p M n r V ld m i) {u : Nat → Int} (h : Span p V m n u) (hz : ∀ t, t < m → p ∣ u (ld t)) : ∀ a, a < n → p ∣ u a := by
  obtain ⟨y, hy⟩ := h
  have key : ∀ t, t < m → p ∣ y t := by
    intro t
    induction t using Nat.strongRecOn with
    | ind t ih =>
      intro ht
      obtain ⟨h1, h2, h3⟩ := hB.b3 t ht
      have h4 : p ∣ sumF (fun k => y k * V k (ld t)) m := (hy _ h1).dvd_iff.1 (hz t ht)
      rw [sumF_ext (n := t + 1) (by omega) fun k h5 h6 => by rw [(hB.b3 k h6).2.2 t (by omega), Int.mul_zero], sumF, h2, Int.mul_one] at h4
      have h5 : p ∣ sumF (fun k => y k * V k (ld t)) t := sumF_dvd fun k hk => Int.dvd_trans (ih k hk (by omega)) (Int.dvd_mul_right _ _)
      have := Int.dvd_sub h4 h5
      rwa [show sumF (fun k => y k * V k (ld t)) t + y t - sumF (fun k => y k * V k (ld t)) t = y t by omega] at this
  exact fun a ha => (hy a ha).dvd_iff.2 (sumF_dvd fun k hk => Int.dvd_trans (key k hk) (Int.dvd_mul_right _ _))

/-- The tables' sum that a reduced row is. -/
theorem Bas.red_sum (hB : Bas p M n r V ld m i) {w0 w : Nat → Int} (h : Red p V ld (n + r) w0 w m) {a : Nat} (ha : a < n) : Cg p (w a - sumF (fun j => M a j * w (n + j)) r) (w0 a - sumF (fun j => M a j * w0 (n + j)) r) := by
  obtain ⟨y, hy⟩ := h.r1
  have h1 := hy a (by omega)
  have h2 : Cg p (sumF (fun j => M a j * w0 (n + j)) r) (sumF (fun j => M a j * w (n + j)) r + sumF (fun t => y t * V t a) m) := by
    refine (sumF_cg fun j hj => (hy (n + j) (by omega)).mulL (M a j)).trans ?_
    rw [sumF_congr fun j hj => Int.mul_add _ _ _, sumF_add]
    refine Cg.rfl'.add ?_
    have e1 : sumF (fun j => M a j * sumF (fun t => y t * V t (n + j)) m) r = sumF (fun t => y t * sumF (fun j => M a j * V t (n + j)) r) m := by
      rw [sumF_congr (g := fun j => sumF (fun t => M a j * (y t * V t (n + j))) m) fun j hj => (sumF_mul _ _ _).symm, sumF_swap]
      refine sumF_congr fun t ht => ?_
      rw [← sumF_mul]
      exact sumF_congr fun j hj => Int.mul_left_comm _ _ _
    rw [e1]
    exact sumF_cg fun t ht => ((hB.b1 t ht a ha).symm).mulL _
  have h3 := h1.sub h2
  have h4 := h3.symm
  rwa [show w a + sumF (fun t => y t * V t a) m - (sumF (fun j => M a j * w (n + j)) r + sumF (fun t => y t * V t a) m) = w a - sumF (fun j => M a j * w (n + j)) r by omega] at h4
theorem Bas.red_span (hB : Bas p M n r V ld m i) {w0 w : Nat → Int} (h : Red p V ld (n + r) w0 w m) (h0 : Span p V m n w0) : Span p V m n w := by
  obtain ⟨y, hy⟩ := h.r1
  have h1 : Span p V m n fun a => sumF (fun t => y t * V t a) m := ⟨y, fun a _ => Cg.rfl'⟩
  refine (h0.add (h1.smul (-1))).cg fun a ha => ?_
  have h2 := (hy a (by omega)).sub (Cg.rfl' (p := p) (a := sumF (fun t => y t * V t a) m))
  rw [Int.add_sub_cancel] at h2
  have e : w0 a + -1 * sumF (fun t => y t * V t a) m = w0 a - sumF (fun t => y t * V t a) m := by omega
  rw [e]
  exact h2.symm
theorem Bas.red_free (hB : Bas p M n r V ld m i) (hp : 2 ≤ p) {w0 w : Nat → Int} (h : Red p V ld (n + r) w0 w m) {j : Nat} (hj : j < r) (hd : i ≤ j ∨ Dep p M n j) : Cg p (w (n + j)) (w0 (n + j)) := by
  obtain ⟨y, hy⟩ := h.r1
  have h1 := hy (n + j) (by omega)
  rw [sumF_zero fun t ht => by rw [hB.b2 t ht j hj hd, Int.mul_zero], Int.add_zero] at h1
  exact h1.symm

/-- The row of a pair: its table, and 1 at its number. -/
def tabV (M : Nat → Nat → Int) (n i : Nat) (l : Nat) : Int := if l < n then M l i else if l = n + i then 1 else 0
theorem tabV_lo {a : Nat} (ha : a < n) : tabV M n i a = M a i := if_pos ha
theorem tabV_hi (j : Nat) : tabV M n i (n + j) = if j = i then 1 else 0 := by
  rw [tabV, if_neg (by omega)]
  by_cases e : j = i
  · rw [if_pos (by omega), if_pos e]
  · rw [if_neg (by omega), if_neg e]
theorem tab_sum (hi : i < r) {a : Nat} (ha : a < n) : tabV M n i a - sumF (fun j => M a j * tabV M n i (n + j)) r = 0 := by
  rw [tabV_lo ha, sumF_one hi fun j hj hne => by rw [tabV_hi, if_neg hne, Int.mul_zero], tabV_hi, if_pos rfl]; omega

theorem Bas.dep (hB : Bas p M n r V ld m i) (hp : 2 ≤ p) (hi : i < r) {w : Nat → Int} (h : Red p V ld (n + r) (tabV M n i) w m) (hz : ∀ a, a < n → w a = 0) : Dep p M n i ∧ Bas p M n r V ld m (i + 1) := by
  have hd : Dep p M n i := by
    refine ⟨fun j => w (n + j), ?_, fun a ha => ?_⟩
    · have h1 := hB.red_free hp h hi (.inl (Nat.le_refl _))
      rw [tabV_hi, if_pos rfl] at h1
      exact h1.eq (h.rng _ (by omega)) (by omega)
    · have h1 := hB.red_sum h ha
      rw [tab_sum hi ha, hz a ha] at h1
      have h2 : p ∣ sumF (fun j => M a j * w (n + j)) r := by
        have := Int.dvd_neg.2 (Cg.zero_iff.1 h1)
        rwa [show -(0 - sumF (fun j => M a j * w (n + j)) r) = sumF (fun j => M a j * w (n + j)) r by omega] at this
      rwa [sumF_ext (n := i + 1) (by omega) fun j h1 h2 => ?_] at h2
      have h3 := hB.red_free hp h h2 (.inl (by omega))
      rw [tabV_hi, if_neg (by omega)] at h3
      rw [h3.eq (h.rng _ (by omega)) (by omega), Int.mul_zero]
  refine ⟨hd, hB.b1, fun k hk j hj hh => hB.b2 k hk j hj (hh.imp (by omega) id), hB.b3, fun j hj => ?_⟩
  by_cases e : j = i
  · subst e
    obtain ⟨y, hy⟩ := h.r1
    refine ⟨y, fun a ha => ?_⟩
    have := hy a (by omega)
    rwa [tabV_lo ha, hz a ha, Int.zero_add] at this
  · exact hB.b4 j (by omega)
theorem Bas.indep (hB : Bas p M n r V ld m i) (hp : 2 ≤ p) (hi : i < r) {w : Nat → Int} (h : Red p V ld (n + r) (tabV M n i) w m) {at_ : Nat} (hat : at_ < n) (hne : w at_ ≠ 0) {c : Int} (hc : Cg p (w at_ * c) 1) {V' : Nat → Nat → Int} {ld' : Nat → Nat}
    (hV : ∀ k, k < m → ∀ l, l < n + r → V' k l = V k l) (hl : ∀ k, k < m → ld' k = ld k) (hlm : ld' m = at_) (hVm : ∀ l, l < n + r → V' m l = w l * c % p) : ¬ Dep p M n i ∧ Bas p M n r V' ld' (m + 1) (i + 1) := by
  have hnd : ¬ Dep p M n i := by
    rintro ⟨x, hx, hs⟩
    have h1 : Span p V m n fun a => M a i := by
      have h2 : Span p V m n fun a => sumF (fun j => x j * M a j) i := Span.sum fun j hj => (hB.b4 j hj).smul (x j)
      refine (h2.smul (-1)).cg fun a ha => ?_
      have h3 := hs a ha
      rw [sumF, hx, Int.mul_one] at h3
      rw [sumF_congr (g := fun j => M a j * x j) fun j hj => Int.mul_comm _ _]
      unfold Cg
      rwa [show M a i - -1 * sumF (fun j => M a j * x j) i = sumF (fun j => M a j * x j) i + M a i by omega]
    have h2 : Span p V m n (tabV M n i) := h1.cg fun a ha => Cg.of (tabV_lo ha)
    have h3 := hB.span_zero (hB.red_span h h2) (fun t ht => by rw [h.r2 t ht]; exact Int.dvd_zero p) at_ hat
    have h4 := h.rng at_ (by omega)
    have := Int.le_of_dvd (by omega) h3
    omega
  have hw : ∀ l, l < n + r → w l = 0 → V' m l = 0 := fun l h1 h2 => by rw [hVm l h1, h2, Int.zero_mul]; exact Int.zero_emod p
  refine ⟨hnd, fun k hk a ha => ?_, fun k hk j hj hh => ?_, fun k hk => ?_, fun j hj => ?_⟩
  · by_cases e : k = m
    · subst e
      have h1 := hB.red_sum h ha
      rw [tab_sum hi ha] at h1
      have h2 : Cg p (w a) (sumF (fun j => M a j * w (n + j)) r) := by unfold Cg; exact Cg.zero_iff.1 h1
      rw [hVm a (by omega)]
      refine Cg.emod.trans ((h2.mul (Cg.rfl' (a := c))).trans ?_)
      rw [Int.mul_comm, ← sumF_mul]
      refine sumF_cg fun j hj => ?_
      rw [Int.mul_left_comm]
      refine Cg.mulL _ ?_
      rw [hVm _ (by omega), Int.mul_comm]
      exact Cg.emod.symm
    · rw [hV k (by omega) a (by omega), sumF_congr (g := fun j => M a j * V k (n + j)) fun j hj => by rw [hV k (by omega) _ (by omega)]]
      exact hB.b1 k (by omega) a ha
  · by_cases e : k = m
    · subst e
      refine hw _ (by omega) ?_
      have h2 : j ≠ i := by rintro rfl; rcases hh with h3 | h3; omega; exact hnd h3
      have h1 := hB.red_free hp h hj (hh.imp (by omega) id)
      rw [tabV_hi, if_neg h2] at h1
      exact h1.eq (h.rng _ (by omega)) (by omega)
    · rw [hV k (by omega) _ (by omega)]
      exact hB.b2 k (by omega) j hj (hh.imp (by omega) id)
  · by_cases e : k = m
    · subst e
      rw [hlm]
      refine ⟨hat, ?_, fun k' hk' => ?_⟩
      · rw [hVm at_ (by omega)]
        exact Cg.eq (Cg.emod.trans hc) ⟨Int.emod_nonneg _ (by omega), Int.emod_lt_of_pos _ (by omega)⟩ (by omega)
      · have := (hB.b3 k' hk').1
        rw [hl k' hk']
        exact hw _ (by omega) (h.r2 k' hk')
    · have h1 := hB.b3 k (by omega)
      rw [hl k (by omega), hV k (by omega) _ (by omega)]
      refine ⟨h1.1, h1.2.1, fun k' hk' => ?_⟩
      have h2 := hB.b3 k' (by omega)
      rw [hl k' (by omega), hV k (by omega) _ (by omega)]
      exact h1.2.2 k' hk'
  · by_cases e : j = i
    · subst e
      obtain ⟨y, hy⟩ := h.r1
      refine ⟨fun k => if k < m then y k else w at_, fun a ha => ?_⟩
      have h1 := hy a (by omega)
      rw [tabV_lo ha] at h1
      refine h1.trans ?_
      rw [sumF]; dsimp only; rw [if_neg (Nat.lt_irrefl _), sumF_congr (f := fun k => (if k < m then y k else w at_) * V' k a) (g := fun k => y k * V k a) fun k hk => by rw [if_pos hk, hV k hk a (by omega)], Int.add_comm]
      refine Cg.rfl'.add ?_
      rw [hVm a (by omega)]
      have h2 : Cg p (w at_ * (w a * c % p)) (w at_ * (w a * c)) := Cg.emod.mulL _
      refine Cg.symm (h2.trans ?_)
      have h3 : Cg p (w a * (w at_ * c)) (w a * 1) := hc.mulL _
      rw [Int.mul_one] at h3
      rwa [Int.mul_left_comm]
    · exact (hB.b4 j (by omega)).succ fun k hk a ha => hV k hk a (by omega)

/-- Right sides, and 0 for all pairs. -/
def rhsV (W : Nat → Int) (n : Nat) (l : Nat) : Int := if l < n then W l else 0
theorem rhs_sum {W : Nat → Int} {a : Nat} (ha : a < n) : rhsV W n a - sumF (fun j => M a j * rhsV W n (n + j)) r = W a := by
  rw [rhsV, if_pos ha, sumF_zero fun j _ => by rw [rhsV, if_neg (by omega), Int.mul_zero]]; omega
theorem Bas.sol (hB : Bas p M n r V ld m r) (hp : 2 ≤ p) {W w : Nat → Int} (h : Red p V ld (n + r) (rhsV W n) w m) (hz : ∀ a, a < n → w a = 0) : Sol p M n r W fun j => (- w (n + j)) % p := by
  refine ⟨fun a ha => ?_, fun j hj hd => ?_, fun j hj => ⟨Int.emod_nonneg _ (by omega), Int.emod_lt_of_pos _ (by omega)⟩⟩
  · have h1 := hB.red_sum h ha
    rw [rhs_sum ha, hz a ha] at h1
    refine Cg.trans ?_ h1
    rw [Int.zero_sub, show -sumF (fun j => M a j * w (n + j)) r = -1 * sumF (fun j => M a j * w (n + j)) r by omega, ← sumF_mul]
    refine sumF_cg fun j hj => ?_
    refine (Cg.emod.mulL _).trans (Cg.of ?_)
    rw [Int.mul_neg]; omega
  · have h1 := hB.red_free hp h hj (.inr hd)
    rw [rhsV, if_neg (by omega)] at h1
    rw [h1.eq (h.rng _ (by omega)) (by omega)]
    exact Int.zero_emod p
theorem Bas.nosol (hB : Bas p M n r V ld m r) (hp : 2 ≤ p) {W w : Nat → Int} (h : Red p V ld (n + r) (rhsV W n) w m) {a : Nat} (ha : a < n) (hne : w a ≠ 0) (x : Nat → Int) : ¬ Sol p M n r W x := by
  intro hs
  have h1 : Span p V m n fun a => sumF (fun j => x j * M a j) r := Span.sum fun j hj => (hB.b4 j hj).smul (x j)
  have h2 : Span p V m n (rhsV W n) := h1.cg fun a ha => by
    rw [rhsV, if_pos ha, sumF_congr (g := fun j => M a j * x j) fun j hj => Int.mul_comm _ _]
    exact (hs.eqn a ha).symm
  have h3 := hB.span_zero (hB.red_span h h2) (fun t ht => by rw [h.r2 t ht]; exact Int.dvd_zero p) a ha
  have h4 := h.rng a (by omega)
  have := Int.le_of_dvd (by omega) h3
  omega
end
end Go.Proofs.Ytcfemdhlcjmlbaa
