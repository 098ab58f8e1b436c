/- The types' table. -/
import Derived.Test.YtkalaahmbdimfaaAd
import Derived.Test.YtkalaahmbdimfaaProg
namespace Go.Proofs.Ytkalaahmbdimfaa
open Go.Abs
set_option maxRecDepth 100000
theorem tyo_1 : tyOf Go.Proofs.Try.prog 1 = some ⟨false, 1, 8, [.nilf], .other⟩ := by kernel_rfl
@[go_sem] theorem ty_1 (F : TyI → Prop) : withTy Go.Proofs.Try.prog 1 (.mk F) = F ⟨false, 1, 8, [.nilf], .other⟩ := withTy_eq tyo_1 F
theorem tyo_2 : tyOf Go.Proofs.Try.prog 2 = some ⟨false, 1, 8, [.int .i64 0], .int .i64⟩ := by kernel_rfl
@[go_sem] theorem ty_2 (F : TyI → Prop) : withTy Go.Proofs.Try.prog 2 (.mk F) = F ⟨false, 1, 8, [.int .i64 0], .int .i64⟩ := withTy_eq tyo_2 F
theorem tyo_3 : tyOf Go.Proofs.Try.prog 3 = some ⟨false, 1, 8, [.int .i64 0], .int .i64⟩ := by kernel_rfl
@[go_sem] theorem ty_3 (F : TyI → Prop) : withTy Go.Proofs.Try.prog 3 (.mk F) = F ⟨false, 1, 8, [.int .i64 0], .int .i64⟩ := withTy_eq tyo_3 F
theorem tyo_4 : tyOf Go.Proofs.Try.prog 4 = some ⟨false, 1, 1, [.bool false], .other⟩ := by kernel_rfl
@[go_sem] theorem ty_4 (F : TyI → Prop) : withTy Go.Proofs.Try.prog 4 (.mk F) = F ⟨false, 1, 1, [.bool false], .other⟩ := withTy_eq tyo_4 F
theorem tyo_5 : tyOf Go.Proofs.Try.prog 5 = some ⟨false, 1, 1, [.int .u8 0], .int .u8⟩ := by kernel_rfl
@[go_sem] theorem ty_5 (F : TyI → Prop) : withTy Go.Proofs.Try.prog 5 (.mk F) = F ⟨false, 1, 1, [.int .u8 0], .int .u8⟩ := withTy_eq tyo_5 F
theorem tyo_6 : tyOf Go.Proofs.Try.prog 6 = some ⟨false, 1, 1, [.int .u8 0], .int .u8⟩ := by kernel_rfl
@[go_sem] theorem ty_6 (F : TyI → Prop) : withTy Go.Proofs.Try.prog 6 (.mk F) = F ⟨false, 1, 1, [.int .u8 0], .int .u8⟩ := withTy_eq tyo_6 F
theorem tyo_7 : tyOf Go.Proofs.Try.prog 7 = some ⟨true, 4, 24, [.int .i64 0, .int .i64 0, .bool false, .int .u8 0], .struct [(0, 1), (1, 1), (2, 1), (3, 1)]⟩ := by kernel_rfl
@[go_sem] theorem ty_7 (F : TyI → Prop) : withTy Go.Proofs.Try.prog 7 (.mk F) = F ⟨true, 4, 24, [.int .i64 0, .int .i64 0, .bool false, .int .u8 0], .struct [(0, 1), (1, 1), (2, 1), (3, 1)]⟩ := withTy_eq tyo_7 F
theorem tyo_8 : tyOf Go.Proofs.Try.prog 8 = some ⟨true, 4, 24, [.int .i64 0, .int .i64 0, .bool false, .int .u8 0], .struct [(0, 1), (1, 1), (2, 1), (3, 1)]⟩ := by kernel_rfl
@[go_sem] theorem ty_8 (F : TyI → Prop) : withTy Go.Proofs.Try.prog 8 (.mk F) = F ⟨true, 4, 24, [.int .i64 0, .int .i64 0, .bool false, .int .u8 0], .struct [(0, 1), (1, 1), (2, 1), (3, 1)]⟩ := withTy_eq tyo_8 F
theorem tyo_9 : tyOf Go.Proofs.Try.prog 9 = some ⟨false, 1, 16, [.str { data := { toList := [] } }], .str⟩ := by kernel_rfl
@[go_sem] theorem ty_9 (F : TyI → Prop) : withTy Go.Proofs.Try.prog 9 (.mk F) = F ⟨false, 1, 16, [.str { data := { toList := [] } }], .str⟩ := withTy_eq tyo_9 F
theorem tyo_10 : tyOf Go.Proofs.Try.prog 10 = some ⟨false, 1, 16, [.str { data := { toList := [] } }], .str⟩ := by kernel_rfl
@[go_sem] theorem ty_10 (F : TyI → Prop) : withTy Go.Proofs.Try.prog 10 (.mk F) = F ⟨false, 1, 16, [.str { data := { toList := [] } }], .str⟩ := withTy_eq tyo_10 F
theorem tyo_11 : tyOf Go.Proofs.Try.prog 11 = some ⟨false, 1, 16, [.str { data := { toList := [] } }], .str⟩ := by kernel_rfl
@[go_sem] theorem ty_11 (F : TyI → Prop) : withTy Go.Proofs.Try.prog 11 (.mk F) = F ⟨false, 1, 16, [.str { data := { toList := [] } }], .str⟩ := withTy_eq tyo_11 F
theorem tyo_12 : tyOf Go.Proofs.Try.prog 12 = some ⟨false, 1, 8, [.int .u64 0], .int .u64⟩ := by kernel_rfl
@[go_sem] theorem ty_12 (F : TyI → Prop) : withTy Go.Proofs.Try.prog 12 (.mk F) = F ⟨false, 1, 8, [.int .u64 0], .int .u64⟩ := withTy_eq tyo_12 F
theorem tyo_13 : tyOf Go.Proofs.Try.prog 13 = some ⟨true, 2, 24, [.str { data := { toList := [] } }, .int .u64 0], .struct [(0, 1), (1, 1)]⟩ := by kernel_rfl
@[go_sem] theorem ty_13 (F : TyI → Prop) : withTy Go.Proofs.Try.prog 13 (.mk F) = F ⟨true, 2, 24, [.str { data := { toList := [] } }, .int .u64 0], .struct [(0, 1), (1, 1)]⟩ := withTy_eq tyo_13 F
theorem tyo_14 : tyOf Go.Proofs.Try.prog 14 = some ⟨true, 2, 24, [.str { data := { toList := [] } }, .int .u64 0], .struct [(0, 1), (1, 1)]⟩ := by kernel_rfl
@[go_sem] theorem ty_14 (F : TyI → Prop) : withTy Go.Proofs.Try.prog 14 (.mk F) = F ⟨true, 2, 24, [.str { data := { toList := [] } }, .int .u64 0], .struct [(0, 1), (1, 1)]⟩ := withTy_eq tyo_14 F
theorem tyo_15 : tyOf Go.Proofs.Try.prog 15 = some ⟨false, 1, 8, [.nilp], .other⟩ := by kernel_rfl
@[go_sem] theorem ty_15 (F : TyI → Prop) : withTy Go.Proofs.Try.prog 15 (.mk F) = F ⟨false, 1, 8, [.nilp], .other⟩ := withTy_eq tyo_15 F
theorem tyo_16 : tyOf Go.Proofs.Try.prog 16 = some ⟨false, 1, 8, [.nilp], .other⟩ := by kernel_rfl
@[go_sem] theorem ty_16 (F : TyI → Prop) : withTy Go.Proofs.Try.prog 16 (.mk F) = F ⟨false, 1, 8, [.nilp], .other⟩ := withTy_eq tyo_16 F
theorem tyo_17 : tyOf Go.Proofs.Try.prog 17 = some ⟨false, 1, 8, [.nilp], .other⟩ := by kernel_rfl
@[go_sem] theorem ty_17 (F : TyI → Prop) : withTy Go.Proofs.Try.prog 17 (.mk F) = F ⟨false, 1, 8, [.nilp], .other⟩ := withTy_eq tyo_17 F
theorem tyo_18 : tyOf Go.Proofs.Try.prog 18 = some ⟨true, 1, 8, [.nilp], .struct [(0, 1)]⟩ := by kernel_rfl
@[go_sem] theorem ty_18 (F : TyI → Prop) : withTy Go.Proofs.Try.prog 18 (.mk F) = F ⟨true, 1, 8, [.nilp], .struct [(0, 1)]⟩ := withTy_eq tyo_18 F
theorem tyo_19 : tyOf Go.Proofs.Try.prog 19 = some ⟨true, 1, 8, [.nilp], .struct [(0, 1)]⟩ := by kernel_rfl
@[go_sem] theorem ty_19 (F : TyI → Prop) : withTy Go.Proofs.Try.prog 19 (.mk F) = F ⟨true, 1, 8, [.nilp], .struct [(0, 1)]⟩ := withTy_eq tyo_19 F
theorem tyo_21 : tyOf Go.Proofs.Try.prog 21 = some ⟨false, 1, 4, [.int .i32 0], .int .i32⟩ := by kernel_rfl
@[go_sem] theorem ty_21 (F : TyI → Prop) : withTy Go.Proofs.Try.prog 21 (.mk F) = F ⟨false, 1, 4, [.int .i32 0], .int .i32⟩ := withTy_eq tyo_21 F
theorem tyo_22 : tyOf Go.Proofs.Try.prog 22 = some ⟨false, 1, 24, [.nils], .slice 1 8 [.int .i64 0]⟩ := by kernel_rfl
@[go_sem] theorem ty_22 (F : TyI → Prop) : withTy Go.Proofs.Try.prog 22 (.mk F) = F ⟨false, 1, 24, [.nils], .slice 1 8 [.int .i64 0]⟩ := withTy_eq tyo_22 F
theorem tyo_23 : tyOf Go.Proofs.Try.prog 23 = some ⟨true, 5, 56, [.int .i64 0, .int .i64 0, .int .i64 0, .int .i64 0, .nils], .struct [(0, 1), (1, 1), (2, 1), (3, 1), (4, 1)]⟩ := by kernel_rfl
@[go_sem] theorem ty_23 (F : TyI → Prop) : withTy Go.Proofs.Try.prog 23 (.mk F) = F ⟨true, 5, 56, [.int .i64 0, .int .i64 0, .int .i64 0, .int .i64 0, .nils], .struct [(0, 1), (1, 1), (2, 1), (3, 1), (4, 1)]⟩ := withTy_eq tyo_23 F
theorem tyo_24 : tyOf Go.Proofs.Try.prog 24 = some ⟨true, 5, 56, [.int .i64 0, .int .i64 0, .int .i64 0, .int .i64 0, .nils], .struct [(0, 1), (1, 1), (2, 1), (3, 1), (4, 1)]⟩ := by kernel_rfl
@[go_sem] theorem ty_24 (F : TyI → Prop) : withTy Go.Proofs.Try.prog 24 (.mk F) = F ⟨true, 5, 56, [.int .i64 0, .int .i64 0, .int .i64 0, .int .i64 0, .nils], .struct [(0, 1), (1, 1), (2, 1), (3, 1), (4, 1)]⟩ := withTy_eq tyo_24 F
theorem tyo_25 : tyOf Go.Proofs.Try.prog 25 = some ⟨false, 1, 8, [.nilf], .other⟩ := by kernel_rfl
@[go_sem] theorem ty_25 (F : TyI → Prop) : withTy Go.Proofs.Try.prog 25 (.mk F) = F ⟨false, 1, 8, [.nilf], .other⟩ := withTy_eq tyo_25 F
theorem tyo_27 : tyOf Go.Proofs.Try.prog 27 = some ⟨false, 1, 8, [.nilf], .other⟩ := by kernel_rfl
@[go_sem] theorem ty_27 (F : TyI → Prop) : withTy Go.Proofs.Try.prog 27 (.mk F) = F ⟨false, 1, 8, [.nilf], .other⟩ := withTy_eq tyo_27 F
theorem tyo_28 : tyOf Go.Proofs.Try.prog 28 = some ⟨true, 5, 56, [.int .i64 0, .int .i64 0, .int .i64 0, .int .i64 0, .nils], .struct [(0, 1), (1, 1), (2, 1), (3, 1), (4, 1)]⟩ := by kernel_rfl
@[go_sem] theorem ty_28 (F : TyI → Prop) : withTy Go.Proofs.Try.prog 28 (.mk F) = F ⟨true, 5, 56, [.int .i64 0, .int .i64 0, .int .i64 0, .int .i64 0, .nils], .struct [(0, 1), (1, 1), (2, 1), (3, 1), (4, 1)]⟩ := withTy_eq tyo_28 F
theorem tyo_29 : tyOf Go.Proofs.Try.prog 29 = some ⟨false, 1, 8, [.nilf], .other⟩ := by kernel_rfl
@[go_sem] theorem ty_29 (F : TyI → Prop) : withTy Go.Proofs.Try.prog 29 (.mk F) = F ⟨false, 1, 8, [.nilf], .other⟩ := withTy_eq tyo_29 F
theorem tyo_30 : tyOf Go.Proofs.Try.prog 30 = some ⟨false, 1, 8, [.nilf], .other⟩ := by kernel_rfl
@[go_sem] theorem ty_30 (F : TyI → Prop) : withTy Go.Proofs.Try.prog 30 (.mk F) = F ⟨false, 1, 8, [.nilf], .other⟩ := withTy_eq tyo_30 F
theorem tyo_31 : tyOf Go.Proofs.Try.prog 31 = some ⟨false, 1, 8, [.nilf], .other⟩ := by kernel_rfl
@[go_sem] theorem ty_31 (F : TyI → Prop) : withTy Go.Proofs.Try.prog 31 (.mk F) = F ⟨false, 1, 8, [.nilf], .other⟩ := withTy_eq tyo_31 F
theorem tyo_32 : tyOf Go.Proofs.Try.prog 32 = some ⟨false, 1, 24, [.nils], .slice 108 108 (u8s (zeros 108))⟩ := by kernel_rfl
@[go_sem] theorem ty_32 (F : TyI → Prop) : withTy Go.Proofs.Try.prog 32 (.mk F) = F ⟨false, 1, 24, [.nils], .slice 108 108 (u8s (zeros 108))⟩ := withTy_eq tyo_32 F
theorem tyo_33 : tyOf Go.Proofs.Try.prog 33 = some ⟨true, 5, 56, [.int .i64 0, .int .i64 0, .int .i64 0, .int .i64 0, .nils], .struct [(0, 1), (1, 1), (2, 1), (3, 1), (4, 1)]⟩ := by kernel_rfl
@[go_sem] theorem ty_33 (F : TyI → Prop) : withTy Go.Proofs.Try.prog 33 (.mk F) = F ⟨true, 5, 56, [.int .i64 0, .int .i64 0, .int .i64 0, .int .i64 0, .nils], .struct [(0, 1), (1, 1), (2, 1), (3, 1), (4, 1)]⟩ := withTy_eq tyo_33 F
theorem tyo_34 : tyOf Go.Proofs.Try.prog 34 = some ⟨true, 5, 56, [.int .i64 0, .int .i64 0, .int .i64 0, .int .i64 0, .nils], .struct [(0, 1), (1, 1), (2, 1), (3, 1), (4, 1)]⟩ := by kernel_rfl
@[go_sem] theorem ty_34 (F : TyI → Prop) : withTy Go.Proofs.Try.prog 34 (.mk F) = F ⟨true, 5, 56, [.int .i64 0, .int .i64 0, .int .i64 0, .int .i64 0, .nils], .struct [(0, 1), (1, 1), (2, 1), (3, 1), (4, 1)]⟩ := withTy_eq tyo_34 F
theorem tyo_35 : tyOf Go.Proofs.Try.prog 35 = some ⟨false, 1, 8, [.nilf], .other⟩ := by kernel_rfl
@[go_sem] theorem ty_35 (F : TyI → Prop) : withTy Go.Proofs.Try.prog 35 (.mk F) = F ⟨false, 1, 8, [.nilf], .other⟩ := withTy_eq tyo_35 F
theorem tyo_36 : tyOf Go.Proofs.Try.prog 36 = some ⟨false, 1, 8, [.nilf], .other⟩ := by kernel_rfl
@[go_sem] theorem ty_36 (F : TyI → Prop) : withTy Go.Proofs.Try.prog 36 (.mk F) = F ⟨false, 1, 8, [.nilf], .other⟩ := withTy_eq tyo_36 F
theorem tyo_37 : tyOf Go.Proofs.Try.prog 37 = some ⟨false, 1, 24, [.nils], .slice 108 108 (u8s (zeros 108))⟩ := by kernel_rfl
@[go_sem] theorem ty_37 (F : TyI → Prop) : withTy Go.Proofs.Try.prog 37 (.mk F) = F ⟨false, 1, 24, [.nils], .slice 108 108 (u8s (zeros 108))⟩ := withTy_eq tyo_37 F
theorem tyo_38 : tyOf Go.Proofs.Try.prog 38 = some ⟨true, 5, 56, [.int .i64 0, .int .i64 0, .int .i64 0, .int .i64 0, .nils], .struct [(0, 1), (1, 1), (2, 1), (3, 1), (4, 1)]⟩ := by kernel_rfl
@[go_sem] theorem ty_38 (F : TyI → Prop) : withTy Go.Proofs.Try.prog 38 (.mk F) = F ⟨true, 5, 56, [.int .i64 0, .int .i64 0, .int .i64 0, .int .i64 0, .nils], .struct [(0, 1), (1, 1), (2, 1), (3, 1), (4, 1)]⟩ := withTy_eq tyo_38 F
theorem tyo_39 : tyOf Go.Proofs.Try.prog 39 = some ⟨true, 5, 56, [.int .i64 0, .int .i64 0, .int .i64 0, .int .i64 0, .nils], .struct [(0, 1), (1, 1), (2, 1), (3, 1), (4, 1)]⟩ := by kernel_rfl
@[go_sem] theorem ty_39 (F : TyI → Prop) : withTy Go.Proofs.Try.prog 39 (.mk F) = F ⟨true, 5, 56, [.int .i64 0, .int .i64 0, .int .i64 0, .int .i64 0, .nils], .struct [(0, 1), (1, 1), (2, 1), (3, 1), (4, 1)]⟩ := withTy_eq tyo_39 F
theorem tyo_40 : tyOf Go.Proofs.Try.prog 40 = some ⟨false, 1, 8, [.nilf], .other⟩ := by kernel_rfl
@[go_sem] theorem ty_40 (F : TyI → Prop) : withTy Go.Proofs.Try.prog 40 (.mk F) = F ⟨false, 1, 8, [.nilf], .other⟩ := withTy_eq tyo_40 F
theorem tyo_41 : tyOf Go.Proofs.Try.prog 41 = some ⟨false, 1, 8, [.nilf], .other⟩ := by kernel_rfl
@[go_sem] theorem ty_41 (F : TyI → Prop) : withTy Go.Proofs.Try.prog 41 (.mk F) = F ⟨false, 1, 8, [.nilf], .other⟩ := withTy_eq tyo_41 F
theorem tyo_42 : tyOf Go.Proofs.Try.prog 42 = some ⟨false, 1, 8, [.nilf], .other⟩ := by kernel_rfl
@[go_sem] theorem ty_42 (F : TyI → Prop) : withTy Go.Proofs.Try.prog 42 (.mk F) = F ⟨false, 1, 8, [.nilf], .other⟩ := withTy_eq tyo_42 F
theorem tyo_43 : tyOf Go.Proofs.Try.prog 43 = some ⟨false, 1, 24, [.nils], .slice 1 24 [.nils]⟩ := by kernel_rfl
@[go_sem] theorem ty_43 (F : TyI → Prop) : withTy Go.Proofs.Try.prog 43 (.mk F) = F ⟨false, 1, 24, [.nils], .slice 1 24 [.nils]⟩ := withTy_eq tyo_43 F
theorem tyo_45 : tyOf Go.Proofs.Try.prog 45 = some ⟨false, 1, 8, [.nilf], .other⟩ := by kernel_rfl
@[go_sem] theorem ty_45 (F : TyI → Prop) : withTy Go.Proofs.Try.prog 45 (.mk F) = F ⟨false, 1, 8, [.nilf], .other⟩ := withTy_eq tyo_45 F
theorem tyo_46 : tyOf Go.Proofs.Try.prog 46 = some ⟨false, 1, 8, [.nilf], .other⟩ := by kernel_rfl
@[go_sem] theorem ty_46 (F : TyI → Prop) : withTy Go.Proofs.Try.prog 46 (.mk F) = F ⟨false, 1, 8, [.nilf], .other⟩ := withTy_eq tyo_46 F
theorem tyo_47 : tyOf Go.Proofs.Try.prog 47 = some ⟨false, 1, 8, [.nilf], .other⟩ := by kernel_rfl
@[go_sem] theorem ty_47 (F : TyI → Prop) : withTy Go.Proofs.Try.prog 47 (.mk F) = F ⟨false, 1, 8, [.nilf], .other⟩ := withTy_eq tyo_47 F
theorem tyo_48 : tyOf Go.Proofs.Try.prog 48 = some ⟨false, 1, 8, [.nilf], .other⟩ := by kernel_rfl
@[go_sem] theorem ty_48 (F : TyI → Prop) : withTy Go.Proofs.Try.prog 48 (.mk F) = F ⟨false, 1, 8, [.nilf], .other⟩ := withTy_eq tyo_48 F
theorem tyo_49 : tyOf Go.Proofs.Try.prog 49 = some ⟨false, 1, 8, [.nilf], .other⟩ := by kernel_rfl
@[go_sem] theorem ty_49 (F : TyI → Prop) : withTy Go.Proofs.Try.prog 49 (.mk F) = F ⟨false, 1, 8, [.nilf], .other⟩ := withTy_eq tyo_49 F
theorem tyo_50 : tyOf Go.Proofs.Try.prog 50 = some ⟨false, 1, 24, [.nils], .slice 27 27 (u8s (zeros 27))⟩ := by kernel_rfl
@[go_sem] theorem ty_50 (F : TyI → Prop) : withTy Go.Proofs.Try.prog 50 (.mk F) = F ⟨false, 1, 24, [.nils], .slice 27 27 (u8s (zeros 27))⟩ := withTy_eq tyo_50 F
theorem tyo_51 : tyOf Go.Proofs.Try.prog 51 = some ⟨true, 5, 56, [.int .i64 0, .int .i64 0, .int .i64 0, .int .i64 0, .nils], .struct [(0, 1), (1, 1), (2, 1), (3, 1), (4, 1)]⟩ := by kernel_rfl
@[go_sem] theorem ty_51 (F : TyI → Prop) : withTy Go.Proofs.Try.prog 51 (.mk F) = F ⟨true, 5, 56, [.int .i64 0, .int .i64 0, .int .i64 0, .int .i64 0, .nils], .struct [(0, 1), (1, 1), (2, 1), (3, 1), (4, 1)]⟩ := withTy_eq tyo_51 F
theorem tyo_52 : tyOf Go.Proofs.Try.prog 52 = some ⟨true, 5, 56, [.int .i64 0, .int .i64 0, .int .i64 0, .int .i64 0, .nils], .struct [(0, 1), (1, 1), (2, 1), (3, 1), (4, 1)]⟩ := by kernel_rfl
@[go_sem] theorem ty_52 (F : TyI → Prop) : withTy Go.Proofs.Try.prog 52 (.mk F) = F ⟨true, 5, 56, [.int .i64 0, .int .i64 0, .int .i64 0, .int .i64 0, .nils], .struct [(0, 1), (1, 1), (2, 1), (3, 1), (4, 1)]⟩ := withTy_eq tyo_52 F
theorem tyo_53 : tyOf Go.Proofs.Try.prog 53 = some ⟨false, 1, 8, [.nilf], .other⟩ := by kernel_rfl
@[go_sem] theorem ty_53 (F : TyI → Prop) : withTy Go.Proofs.Try.prog 53 (.mk F) = F ⟨false, 1, 8, [.nilf], .other⟩ := withTy_eq tyo_53 F
theorem tyo_54 : tyOf Go.Proofs.Try.prog 54 = some ⟨false, 1, 24, [.nils], .slice 27 27 (u8s (zeros 27))⟩ := by kernel_rfl
@[go_sem] theorem ty_54 (F : TyI → Prop) : withTy Go.Proofs.Try.prog 54 (.mk F) = F ⟨false, 1, 24, [.nils], .slice 27 27 (u8s (zeros 27))⟩ := withTy_eq tyo_54 F
theorem tyo_55 : tyOf Go.Proofs.Try.prog 55 = some ⟨true, 5, 56, [.int .i64 0, .int .i64 0, .int .i64 0, .int .i64 0, .nils], .struct [(0, 1), (1, 1), (2, 1), (3, 1), (4, 1)]⟩ := by kernel_rfl
@[go_sem] theorem ty_55 (F : TyI → Prop) : withTy Go.Proofs.Try.prog 55 (.mk F) = F ⟨true, 5, 56, [.int .i64 0, .int .i64 0, .int .i64 0, .int .i64 0, .nils], .struct [(0, 1), (1, 1), (2, 1), (3, 1), (4, 1)]⟩ := withTy_eq tyo_55 F
theorem tyo_56 : tyOf Go.Proofs.Try.prog 56 = some ⟨true, 5, 56, [.int .i64 0, .int .i64 0, .int .i64 0, .int .i64 0, .nils], .struct [(0, 1), (1, 1), (2, 1), (3, 1), (4, 1)]⟩ := by kernel_rfl
@[go_sem] theorem ty_56 (F : TyI → Prop) : withTy Go.Proofs.Try.prog 56 (.mk F) = F ⟨true, 5, 56, [.int .i64 0, .int .i64 0, .int .i64 0, .int .i64 0, .nils], .struct [(0, 1), (1, 1), (2, 1), (3, 1), (4, 1)]⟩ := withTy_eq tyo_56 F
theorem tyo_58 : tyOf Go.Proofs.Try.prog 58 = some ⟨false, 1, 8, [.nilf], .other⟩ := by kernel_rfl
@[go_sem] theorem ty_58 (F : TyI → Prop) : withTy Go.Proofs.Try.prog 58 (.mk F) = F ⟨false, 1, 8, [.nilf], .other⟩ := withTy_eq tyo_58 F
theorem tyo_59 : tyOf Go.Proofs.Try.prog 59 = some ⟨false, 1, 8, [.nilf], .other⟩ := by kernel_rfl
@[go_sem] theorem ty_59 (F : TyI → Prop) : withTy Go.Proofs.Try.prog 59 (.mk F) = F ⟨false, 1, 8, [.nilf], .other⟩ := withTy_eq tyo_59 F
theorem tyo_60 : tyOf Go.Proofs.Try.prog 60 = some ⟨false, 1, 8, [.nilf], .other⟩ := by kernel_rfl
@[go_sem] theorem ty_60 (F : TyI → Prop) : withTy Go.Proofs.Try.prog 60 (.mk F) = F ⟨false, 1, 8, [.nilf], .other⟩ := withTy_eq tyo_60 F
theorem tyo_61 : tyOf Go.Proofs.Try.prog 61 = some ⟨false, 1, 8, [.nilf], .other⟩ := by kernel_rfl
@[go_sem] theorem ty_61 (F : TyI → Prop) : withTy Go.Proofs.Try.prog 61 (.mk F) = F ⟨false, 1, 8, [.nilf], .other⟩ := withTy_eq tyo_61 F
theorem tyo_62 : tyOf Go.Proofs.Try.prog 62 = some ⟨false, 1, 8, [.nilf], .other⟩ := by kernel_rfl
@[go_sem] theorem ty_62 (F : TyI → Prop) : withTy Go.Proofs.Try.prog 62 (.mk F) = F ⟨false, 1, 8, [.nilf], .other⟩ := withTy_eq tyo_62 F
theorem tyo_63 : tyOf Go.Proofs.Try.prog 63 = some ⟨false, 1, 8, [.nilf], .other⟩ := by kernel_rfl
@[go_sem] theorem ty_63 (F : TyI → Prop) : withTy Go.Proofs.Try.prog 63 (.mk F) = F ⟨false, 1, 8, [.nilf], .other⟩ := withTy_eq tyo_63 F
theorem tyo_64 : tyOf Go.Proofs.Try.prog 64 = some ⟨false, 1, 8, [.nilf], .other⟩ := by kernel_rfl
@[go_sem] theorem ty_64 (F : TyI → Prop) : withTy Go.Proofs.Try.prog 64 (.mk F) = F ⟨false, 1, 8, [.nilf], .other⟩ := withTy_eq tyo_64 F
theorem tyo_65 : tyOf Go.Proofs.Try.prog 65 = some ⟨false, 1, 8, [.nilf], .other⟩ := by kernel_rfl
@[go_sem] theorem ty_65 (F : TyI → Prop) : withTy Go.Proofs.Try.prog 65 (.mk F) = F ⟨false, 1, 8, [.nilf], .other⟩ := withTy_eq tyo_65 F
theorem tyo_66 : tyOf Go.Proofs.Try.prog 66 = some ⟨false, 1, 24, [.nils], .slice 18 18 (u8s (zeros 18))⟩ := by kernel_rfl
@[go_sem] theorem ty_66 (F : TyI → Prop) : withTy Go.Proofs.Try.prog 66 (.mk F) = F ⟨false, 1, 24, [.nils], .slice 18 18 (u8s (zeros 18))⟩ := withTy_eq tyo_66 F
theorem tyo_67 : tyOf Go.Proofs.Try.prog 67 = some ⟨false, 1, 8, [.nilf], .other⟩ := by kernel_rfl
@[go_sem] theorem ty_67 (F : TyI → Prop) : withTy Go.Proofs.Try.prog 67 (.mk F) = F ⟨false, 1, 8, [.nilf], .other⟩ := withTy_eq tyo_67 F
theorem tyo_68 : tyOf Go.Proofs.Try.prog 68 = some ⟨false, 1, 8, [.nilf], .other⟩ := by kernel_rfl
@[go_sem] theorem ty_68 (F : TyI → Prop) : withTy Go.Proofs.Try.prog 68 (.mk F) = F ⟨false, 1, 8, [.nilf], .other⟩ := withTy_eq tyo_68 F
theorem tyo_69 : tyOf Go.Proofs.Try.prog 69 = some ⟨false, 1, 24, [.nils], .slice 18 18 (u8s (zeros 18))⟩ := by kernel_rfl
@[go_sem] theorem ty_69 (F : TyI → Prop) : withTy Go.Proofs.Try.prog 69 (.mk F) = F ⟨false, 1, 24, [.nils], .slice 18 18 (u8s (zeros 18))⟩ := withTy_eq tyo_69 F
theorem tyo_70 : tyOf Go.Proofs.Try.prog 70 = some ⟨false, 1, 8, [.nilf], .other⟩ := by kernel_rfl
@[go_sem] theorem ty_70 (F : TyI → Prop) : withTy Go.Proofs.Try.prog 70 (.mk F) = F ⟨false, 1, 8, [.nilf], .other⟩ := withTy_eq tyo_70 F
theorem tyo_71 : tyOf Go.Proofs.Try.prog 71 = some ⟨false, 1, 8, [.nilf], .other⟩ := by kernel_rfl
@[go_sem] theorem ty_71 (F : TyI → Prop) : withTy Go.Proofs.Try.prog 71 (.mk F) = F ⟨false, 1, 8, [.nilf], .other⟩ := withTy_eq tyo_71 F
theorem tyo_72 : tyOf Go.Proofs.Try.prog 72 = some ⟨false, 1, 8, [.nilf], .other⟩ := by kernel_rfl
@[go_sem] theorem ty_72 (F : TyI → Prop) : withTy Go.Proofs.Try.prog 72 (.mk F) = F ⟨false, 1, 8, [.nilf], .other⟩ := withTy_eq tyo_72 F
theorem tyo_73 : tyOf Go.Proofs.Try.prog 73 = some ⟨false, 1, 8, [.nilf], .other⟩ := by kernel_rfl
@[go_sem] theorem ty_73 (F : TyI → Prop) : withTy Go.Proofs.Try.prog 73 (.mk F) = F ⟨false, 1, 8, [.nilf], .other⟩ := withTy_eq tyo_73 F
theorem tyo_74 : tyOf Go.Proofs.Try.prog 74 = some ⟨false, 1, 8, [.nilf], .other⟩ := by kernel_rfl
@[go_sem] theorem ty_74 (F : TyI → Prop) : withTy Go.Proofs.Try.prog 74 (.mk F) = F ⟨false, 1, 8, [.nilf], .other⟩ := withTy_eq tyo_74 F
theorem tyo_75 : tyOf Go.Proofs.Try.prog 75 = some ⟨false, 1, 8, [.nilf], .other⟩ := by kernel_rfl
@[go_sem] theorem ty_75 (F : TyI → Prop) : withTy Go.Proofs.Try.prog 75 (.mk F) = F ⟨false, 1, 8, [.nilf], .other⟩ := withTy_eq tyo_75 F
theorem tyo_76 : tyOf Go.Proofs.Try.prog 76 = some ⟨false, 1, 8, [.nilf], .other⟩ := by kernel_rfl
@[go_sem] theorem ty_76 (F : TyI → Prop) : withTy Go.Proofs.Try.prog 76 (.mk F) = F ⟨false, 1, 8, [.nilf], .other⟩ := withTy_eq tyo_76 F
theorem tyo_78 : tyOf Go.Proofs.Try.prog 78 = some ⟨false, 1, 8, [.nilf], .other⟩ := by kernel_rfl
@[go_sem] theorem ty_78 (F : TyI → Prop) : withTy Go.Proofs.Try.prog 78 (.mk F) = F ⟨false, 1, 8, [.nilf], .other⟩ := withTy_eq tyo_78 F
theorem tyo_79 : tyOf Go.Proofs.Try.prog 79 = some ⟨false, 1, 8, [.nilf], .other⟩ := by kernel_rfl
@[go_sem] theorem ty_79 (F : TyI → Prop) : withTy Go.Proofs.Try.prog 79 (.mk F) = F ⟨false, 1, 8, [.nilf], .other⟩ := withTy_eq tyo_79 F
theorem tyo_80 : tyOf Go.Proofs.Try.prog 80 = some ⟨false, 1, 8, [.nilf], .other⟩ := by kernel_rfl
@[go_sem] theorem ty_80 (F : TyI → Prop) : withTy Go.Proofs.Try.prog 80 (.mk F) = F ⟨false, 1, 8, [.nilf], .other⟩ := withTy_eq tyo_80 F
theorem tyo_81 : tyOf Go.Proofs.Try.prog 81 = some ⟨false, 1, 8, [.nilf], .other⟩ := by kernel_rfl
@[go_sem] theorem ty_81 (F : TyI → Prop) : withTy Go.Proofs.Try.prog 81 (.mk F) = F ⟨false, 1, 8, [.nilf], .other⟩ := withTy_eq tyo_81 F
theorem tyo_82 : tyOf Go.Proofs.Try.prog 82 = some ⟨false, 1, 8, [.nilf], .other⟩ := by kernel_rfl
@[go_sem] theorem ty_82 (F : TyI → Prop) : withTy Go.Proofs.Try.prog 82 (.mk F) = F ⟨false, 1, 8, [.nilf], .other⟩ := withTy_eq tyo_82 F
theorem tyo_83 : tyOf Go.Proofs.Try.prog 83 = some ⟨false, 1, 24, [.nils], .slice 1 1 [.int .u8 0]⟩ := by kernel_rfl
@[go_sem] theorem ty_83 (F : TyI → Prop) : withTy Go.Proofs.Try.prog 83 (.mk F) = F ⟨false, 1, 24, [.nils], .slice 1 1 [.int .u8 0]⟩ := withTy_eq tyo_83 F
theorem tyo_84 : tyOf Go.Proofs.Try.prog 84 = some ⟨false, 1, 8, [.nilf], .other⟩ := by kernel_rfl
@[go_sem] theorem ty_84 (F : TyI → Prop) : withTy Go.Proofs.Try.prog 84 (.mk F) = F ⟨false, 1, 8, [.nilf], .other⟩ := withTy_eq tyo_84 F
theorem tyo_86 : tyOf Go.Proofs.Try.prog 86 = some ⟨false, 1, 8, [.nilf], .other⟩ := by kernel_rfl
@[go_sem] theorem ty_86 (F : TyI → Prop) : withTy Go.Proofs.Try.prog 86 (.mk F) = F ⟨false, 1, 8, [.nilf], .other⟩ := withTy_eq tyo_86 F
theorem tyo_88 : tyOf Go.Proofs.Try.prog 88 = some ⟨false, 1, 8, [.nilf], .other⟩ := by kernel_rfl
@[go_sem] theorem ty_88 (F : TyI → Prop) : withTy Go.Proofs.Try.prog 88 (.mk F) = F ⟨false, 1, 8, [.nilf], .other⟩ := withTy_eq tyo_88 F
theorem tyo_90 : tyOf Go.Proofs.Try.prog 90 = some ⟨false, 1, 8, [.nilf], .other⟩ := by kernel_rfl
@[go_sem] theorem ty_90 (F : TyI → Prop) : withTy Go.Proofs.Try.prog 90 (.mk F) = F ⟨false, 1, 8, [.nilf], .other⟩ := withTy_eq tyo_90 F
theorem tyo_91 : tyOf Go.Proofs.Try.prog 91 = some ⟨false, 1, 8, [.int .u64 0], .int .u64⟩ := by kernel_rfl
@[go_sem] theorem ty_91 (F : TyI → Prop) : withTy Go.Proofs.Try.prog 91 (.mk F) = F ⟨false, 1, 8, [.int .u64 0], .int .u64⟩ := withTy_eq tyo_91 F
theorem tyo_93 : tyOf Go.Proofs.Try.prog 93 = some ⟨false, 1, 8, [.nilf], .other⟩ := by kernel_rfl
@[go_sem] theorem ty_93 (F : TyI → Prop) : withTy Go.Proofs.Try.prog 93 (.mk F) = F ⟨false, 1, 8, [.nilf], .other⟩ := withTy_eq tyo_93 F
theorem tyo_94 : tyOf Go.Proofs.Try.prog 94 = some ⟨false, 1, 8, [.nilf], .other⟩ := by kernel_rfl
@[go_sem] theorem ty_94 (F : TyI → Prop) : withTy Go.Proofs.Try.prog 94 (.mk F) = F ⟨false, 1, 8, [.nilf], .other⟩ := withTy_eq tyo_94 F
theorem tyo_96 : tyOf Go.Proofs.Try.prog 96 = some ⟨false, 1, 8, [.nilf], .other⟩ := by kernel_rfl
@[go_sem] theorem ty_96 (F : TyI → Prop) : withTy Go.Proofs.Try.prog 96 (.mk F) = F ⟨false, 1, 8, [.nilf], .other⟩ := withTy_eq tyo_96 F
theorem tyo_97 : tyOf Go.Proofs.Try.prog 97 = some ⟨false, 1, 8, [.nilf], .other⟩ := by kernel_rfl
@[go_sem] theorem ty_97 (F : TyI → Prop) : withTy Go.Proofs.Try.prog 97 (.mk F) = F ⟨false, 1, 8, [.nilf], .other⟩ := withTy_eq tyo_97 F
theorem tyo_98 : tyOf Go.Proofs.Try.prog 98 = some ⟨false, 1, 8, [.nilf], .other⟩ := by kernel_rfl
@[go_sem] theorem ty_98 (F : TyI → Prop) : withTy Go.Proofs.Try.prog 98 (.mk F) = F ⟨false, 1, 8, [.nilf], .other⟩ := withTy_eq tyo_98 F
theorem tyo_99 : tyOf Go.Proofs.Try.prog 99 = some ⟨false, 1, 8, [.nilf], .other⟩ := by kernel_rfl
@[go_sem] theorem ty_99 (F : TyI → Prop) : withTy Go.Proofs.Try.prog 99 (.mk F) = F ⟨false, 1, 8, [.nilf], .other⟩ := withTy_eq tyo_99 F
theorem tyo_100 : tyOf Go.Proofs.Try.prog 100 = some ⟨false, 1, 8, [.nilf], .other⟩ := by kernel_rfl
@[go_sem] theorem ty_100 (F : TyI → Prop) : withTy Go.Proofs.Try.prog 100 (.mk F) = F ⟨false, 1, 8, [.nilf], .other⟩ := withTy_eq tyo_100 F
theorem tyo_101 : tyOf Go.Proofs.Try.prog 101 = some ⟨false, 1, 8, [.nilf], .other⟩ := by kernel_rfl
@[go_sem] theorem ty_101 (F : TyI → Prop) : withTy Go.Proofs.Try.prog 101 (.mk F) = F ⟨false, 1, 8, [.nilf], .other⟩ := withTy_eq tyo_101 F
theorem tyo_102 : tyOf Go.Proofs.Try.prog 102 = some ⟨false, 1, 8, [.nilf], .other⟩ := by kernel_rfl
@[go_sem] theorem ty_102 (F : TyI → Prop) : withTy Go.Proofs.Try.prog 102 (.mk F) = F ⟨false, 1, 8, [.nilf], .other⟩ := withTy_eq tyo_102 F
theorem tyo_103 : tyOf Go.Proofs.Try.prog 103 = some ⟨false, 1, 8, [.nilf], .other⟩ := by kernel_rfl
@[go_sem] theorem ty_103 (F : TyI → Prop) : withTy Go.Proofs.Try.prog 103 (.mk F) = F ⟨false, 1, 8, [.nilf], .other⟩ := withTy_eq tyo_103 F
theorem tyo_104 : tyOf Go.Proofs.Try.prog 104 = some ⟨true, 5, 56, [.int .i64 0, .int .i64 0, .int .i64 0, .int .i64 0, .nils], .struct [(0, 1), (1, 1), (2, 1), (3, 1), (4, 1)]⟩ := by kernel_rfl
@[go_sem] theorem ty_104 (F : TyI → Prop) : withTy Go.Proofs.Try.prog 104 (.mk F) = F ⟨true, 5, 56, [.int .i64 0, .int .i64 0, .int .i64 0, .int .i64 0, .nils], .struct [(0, 1), (1, 1), (2, 1), (3, 1), (4, 1)]⟩ := withTy_eq tyo_104 F
theorem tyo_105 : tyOf Go.Proofs.Try.prog 105 = some ⟨true, 5, 56, [.int .i64 0, .int .i64 0, .int .i64 0, .int .i64 0, .nils], .struct [(0, 1), (1, 1), (2, 1), (3, 1), (4, 1)]⟩ := by kernel_rfl
@[go_sem] theorem ty_105 (F : TyI → Prop) : withTy Go.Proofs.Try.prog 105 (.mk F) = F ⟨true, 5, 56, [.int .i64 0, .int .i64 0, .int .i64 0, .int .i64 0, .nils], .struct [(0, 1), (1, 1), (2, 1), (3, 1), (4, 1)]⟩ := withTy_eq tyo_105 F
theorem tyo_107 : tyOf Go.Proofs.Try.prog 107 = some ⟨false, 1, 8, [.nilf], .other⟩ := by kernel_rfl
@[go_sem] theorem ty_107 (F : TyI → Prop) : withTy Go.Proofs.Try.prog 107 (.mk F) = F ⟨false, 1, 8, [.nilf], .other⟩ := withTy_eq tyo_107 F
theorem tyo_109 : tyOf Go.Proofs.Try.prog 109 = some ⟨false, 1, 8, [.nilf], .other⟩ := by kernel_rfl
@[go_sem] theorem ty_109 (F : TyI → Prop) : withTy Go.Proofs.Try.prog 109 (.mk F) = F ⟨false, 1, 8, [.nilf], .other⟩ := withTy_eq tyo_109 F
theorem tyo_110 : tyOf Go.Proofs.Try.prog 110 = some ⟨false, 1, 8, [.nilf], .other⟩ := by kernel_rfl
@[go_sem] theorem ty_110 (F : TyI → Prop) : withTy Go.Proofs.Try.prog 110 (.mk F) = F ⟨false, 1, 8, [.nilf], .other⟩ := withTy_eq tyo_110 F
theorem tyo_111 : tyOf Go.Proofs.Try.prog 111 = some ⟨false, 1, 8, [.nilf], .other⟩ := by kernel_rfl
@[go_sem] theorem ty_111 (F : TyI → Prop) : withTy Go.Proofs.Try.prog 111 (.mk F) = F ⟨false, 1, 8, [.nilf], .other⟩ := withTy_eq tyo_111 F
theorem tyo_112 : tyOf Go.Proofs.Try.prog 112 = some ⟨false, 1, 8, [.nilf], .other⟩ := by kernel_rfl
@[go_sem] theorem ty_112 (F : TyI → Prop) : withTy Go.Proofs.Try.prog 112 (.mk F) = F ⟨false, 1, 8, [.nilf], .other⟩ := withTy_eq tyo_112 F
theorem tyo_113 : tyOf Go.Proofs.Try.prog 113 = some ⟨false, 1, 8, [.nilf], .other⟩ := by kernel_rfl
@[go_sem] theorem ty_113 (F : TyI → Prop) : withTy Go.Proofs.Try.prog 113 (.mk F) = F ⟨false, 1, 8, [.nilf], .other⟩ := withTy_eq tyo_113 F
theorem tyo_114 : tyOf Go.Proofs.Try.prog 114 = some ⟨false, 1, 8, [.nilf], .other⟩ := by kernel_rfl
@[go_sem] theorem ty_114 (F : TyI → Prop) : withTy Go.Proofs.Try.prog 114 (.mk F) = F ⟨false, 1, 8, [.nilf], .other⟩ := withTy_eq tyo_114 F
theorem tyo_115 : tyOf Go.Proofs.Try.prog 115 = some ⟨false, 1, 8, [.nilf], .other⟩ := by kernel_rfl
@[go_sem] theorem ty_115 (F : TyI → Prop) : withTy Go.Proofs.Try.prog 115 (.mk F) = F ⟨false, 1, 8, [.nilf], .other⟩ := withTy_eq tyo_115 F
theorem tyo_116 : tyOf Go.Proofs.Try.prog 116 = some ⟨false, 1, 8, [.nilf], .other⟩ := by kernel_rfl
@[go_sem] theorem ty_116 (F : TyI → Prop) : withTy Go.Proofs.Try.prog 116 (.mk F) = F ⟨false, 1, 8, [.nilf], .other⟩ := withTy_eq tyo_116 F
theorem tyo_118 : tyOf Go.Proofs.Try.prog 118 = some ⟨false, 1, 8, [.nilf], .other⟩ := by kernel_rfl
@[go_sem] theorem ty_118 (F : TyI → Prop) : withTy Go.Proofs.Try.prog 118 (.mk F) = F ⟨false, 1, 8, [.nilf], .other⟩ := withTy_eq tyo_118 F
theorem tyo_119 : tyOf Go.Proofs.Try.prog 119 = some ⟨false, 1, 8, [.nilf], .other⟩ := by kernel_rfl
@[go_sem] theorem ty_119 (F : TyI → Prop) : withTy Go.Proofs.Try.prog 119 (.mk F) = F ⟨false, 1, 8, [.nilf], .other⟩ := withTy_eq tyo_119 F
theorem tyo_120 : tyOf Go.Proofs.Try.prog 120 = some ⟨false, 1, 8, [.nilf], .other⟩ := by kernel_rfl
@[go_sem] theorem ty_120 (F : TyI → Prop) : withTy Go.Proofs.Try.prog 120 (.mk F) = F ⟨false, 1, 8, [.nilf], .other⟩ := withTy_eq tyo_120 F
theorem tyo_122 : tyOf Go.Proofs.Try.prog 122 = some ⟨false, 1, 8, [.nilf], .other⟩ := by kernel_rfl
@[go_sem] theorem ty_122 (F : TyI → Prop) : withTy Go.Proofs.Try.prog 122 (.mk F) = F ⟨false, 1, 8, [.nilf], .other⟩ := withTy_eq tyo_122 F
theorem tyo_123 : tyOf Go.Proofs.Try.prog 123 = some ⟨false, 1, 8, [.nilf], .other⟩ := by kernel_rfl
@[go_sem] theorem ty_123 (F : TyI → Prop) : withTy Go.Proofs.Try.prog 123 (.mk F) = F ⟨false, 1, 8, [.nilf], .other⟩ := withTy_eq tyo_123 F
theorem tyo_125 : tyOf Go.Proofs.Try.prog 125 = some ⟨false, 1, 8, [.nilf], .other⟩ := by kernel_rfl
@[go_sem] theorem ty_125 (F : TyI → Prop) : withTy Go.Proofs.Try.prog 125 (.mk F) = F ⟨false, 1, 8, [.nilf], .other⟩ := withTy_eq tyo_125 F
theorem tyo_126 : tyOf Go.Proofs.Try.prog 126 = some ⟨false, 1, 8, [.nilf], .other⟩ := by kernel_rfl
@[go_sem] theorem ty_126 (F : TyI → Prop) : withTy Go.Proofs.Try.prog 126 (.mk F) = F ⟨false, 1, 8, [.nilf], .other⟩ := withTy_eq tyo_126 F
theorem tyo_127 : tyOf Go.Proofs.Try.prog 127 = some ⟨false, 1, 8, [.nilf], .other⟩ := by kernel_rfl
@[go_sem] theorem ty_127 (F : TyI → Prop) : withTy Go.Proofs.Try.prog 127 (.mk F) = F ⟨false, 1, 8, [.nilf], .other⟩ := withTy_eq tyo_127 F
theorem tyo_128 : tyOf Go.Proofs.Try.prog 128 = some ⟨false, 1, 8, [.nilf], .other⟩ := by kernel_rfl
@[go_sem] theorem ty_128 (F : TyI → Prop) : withTy Go.Proofs.Try.prog 128 (.mk F) = F ⟨false, 1, 8, [.nilf], .other⟩ := withTy_eq tyo_128 F
theorem tyo_129 : tyOf Go.Proofs.Try.prog 129 = some ⟨false, 1, 8, [.nilf], .other⟩ := by kernel_rfl
@[go_sem] theorem ty_129 (F : TyI → Prop) : withTy Go.Proofs.Try.prog 129 (.mk F) = F ⟨false, 1, 8, [.nilf], .other⟩ := withTy_eq tyo_129 F
theorem tyo_131 : tyOf Go.Proofs.Try.prog 131 = some ⟨false, 1, 8, [.nilf], .other⟩ := by kernel_rfl
@[go_sem] theorem ty_131 (F : TyI → Prop) : withTy Go.Proofs.Try.prog 131 (.mk F) = F ⟨false, 1, 8, [.nilf], .other⟩ := withTy_eq tyo_131 F
theorem tyo_133 : tyOf Go.Proofs.Try.prog 133 = some ⟨false, 1, 8, [.nilf], .other⟩ := by kernel_rfl
@[go_sem] theorem ty_133 (F : TyI → Prop) : withTy Go.Proofs.Try.prog 133 (.mk F) = F ⟨false, 1, 8, [.nilf], .other⟩ := withTy_eq tyo_133 F
theorem tyo_135 : tyOf Go.Proofs.Try.prog 135 = some ⟨false, 1, 8, [.nilf], .other⟩ := by kernel_rfl
@[go_sem] theorem ty_135 (F : TyI → Prop) : withTy Go.Proofs.Try.prog 135 (.mk F) = F ⟨false, 1, 8, [.nilf], .other⟩ := withTy_eq tyo_135 F
theorem tyo_136 : tyOf Go.Proofs.Try.prog 136 = some ⟨false, 1, 8, [.nilf], .other⟩ := by kernel_rfl
@[go_sem] theorem ty_136 (F : TyI → Prop) : withTy Go.Proofs.Try.prog 136 (.mk F) = F ⟨false, 1, 8, [.nilf], .other⟩ := withTy_eq tyo_136 F
theorem tyo_137 : tyOf Go.Proofs.Try.prog 137 = some ⟨false, 1, 8, [.nilf], .other⟩ := by kernel_rfl
@[go_sem] theorem ty_137 (F : TyI → Prop) : withTy Go.Proofs.Try.prog 137 (.mk F) = F ⟨false, 1, 8, [.nilf], .other⟩ := withTy_eq tyo_137 F
theorem tyo_139 : tyOf Go.Proofs.Try.prog 139 = some ⟨false, 1, 8, [.nilf], .other⟩ := by kernel_rfl
@[go_sem] theorem ty_139 (F : TyI → Prop) : withTy Go.Proofs.Try.prog 139 (.mk F) = F ⟨false, 1, 8, [.nilf], .other⟩ := withTy_eq tyo_139 F
theorem tyo_140 : tyOf Go.Proofs.Try.prog 140 = some ⟨false, 1, 8, [.nilf], .other⟩ := by kernel_rfl
@[go_sem] theorem ty_140 (F : TyI → Prop) : withTy Go.Proofs.Try.prog 140 (.mk F) = F ⟨false, 1, 8, [.nilf], .other⟩ := withTy_eq tyo_140 F
theorem tyo_141 : tyOf Go.Proofs.Try.prog 141 = some ⟨false, 1, 8, [.nilf], .other⟩ := by kernel_rfl
@[go_sem] theorem ty_141 (F : TyI → Prop) : withTy Go.Proofs.Try.prog 141 (.mk F) = F ⟨false, 1, 8, [.nilf], .other⟩ := withTy_eq tyo_141 F
theorem tyo_142 : tyOf Go.Proofs.Try.prog 142 = some ⟨false, 1, 8, [.nilf], .other⟩ := by kernel_rfl
@[go_sem] theorem ty_142 (F : TyI → Prop) : withTy Go.Proofs.Try.prog 142 (.mk F) = F ⟨false, 1, 8, [.nilf], .other⟩ := withTy_eq tyo_142 F
theorem tyo_143 : tyOf Go.Proofs.Try.prog 143 = some ⟨false, 1, 8, [.nilf], .other⟩ := by kernel_rfl
@[go_sem] theorem ty_143 (F : TyI → Prop) : withTy Go.Proofs.Try.prog 143 (.mk F) = F ⟨false, 1, 8, [.nilf], .other⟩ := withTy_eq tyo_143 F
theorem tyo_144 : tyOf Go.Proofs.Try.prog 144 = some ⟨false, 1, 8, [.nilf], .other⟩ := by kernel_rfl
@[go_sem] theorem ty_144 (F : TyI → Prop) : withTy Go.Proofs.Try.prog 144 (.mk F) = F ⟨false, 1, 8, [.nilf], .other⟩ := withTy_eq tyo_144 F
theorem tyo_145 : tyOf Go.Proofs.Try.prog 145 = some ⟨false, 1, 8, [.nilf], .other⟩ := by kernel_rfl
@[go_sem] theorem ty_145 (F : TyI → Prop) : withTy Go.Proofs.Try.prog 145 (.mk F) = F ⟨false, 1, 8, [.nilf], .other⟩ := withTy_eq tyo_145 F
theorem tyo_146 : tyOf Go.Proofs.Try.prog 146 = some ⟨false, 1, 8, [.nilf], .other⟩ := by kernel_rfl
@[go_sem] theorem ty_146 (F : TyI → Prop) : withTy Go.Proofs.Try.prog 146 (.mk F) = F ⟨false, 1, 8, [.nilf], .other⟩ := withTy_eq tyo_146 F
theorem tyo_147 : tyOf Go.Proofs.Try.prog 147 = some ⟨false, 1, 8, [.nilf], .other⟩ := by kernel_rfl
@[go_sem] theorem ty_147 (F : TyI → Prop) : withTy Go.Proofs.Try.prog 147 (.mk F) = F ⟨false, 1, 8, [.nilf], .other⟩ := withTy_eq tyo_147 F
theorem tyo_148 : tyOf Go.Proofs.Try.prog 148 = some ⟨false, 1, 8, [.nilf], .other⟩ := by kernel_rfl
@[go_sem] theorem ty_148 (F : TyI → Prop) : withTy Go.Proofs.Try.prog 148 (.mk F) = F ⟨false, 1, 8, [.nilf], .other⟩ := withTy_eq tyo_148 F
theorem tyo_149 : tyOf Go.Proofs.Try.prog 149 = some ⟨false, 1, 8, [.nilf], .other⟩ := by kernel_rfl
@[go_sem] theorem ty_149 (F : TyI → Prop) : withTy Go.Proofs.Try.prog 149 (.mk F) = F ⟨false, 1, 8, [.nilf], .other⟩ := withTy_eq tyo_149 F
theorem tyo_150 : tyOf Go.Proofs.Try.prog 150 = some ⟨false, 1, 8, [.nilf], .other⟩ := by kernel_rfl
@[go_sem] theorem ty_150 (F : TyI → Prop) : withTy Go.Proofs.Try.prog 150 (.mk F) = F ⟨false, 1, 8, [.nilf], .other⟩ := withTy_eq tyo_150 F
theorem tyo_151 : tyOf Go.Proofs.Try.prog 151 = some ⟨false, 1, 8, [.nilf], .other⟩ := by kernel_rfl
@[go_sem] theorem ty_151 (F : TyI → Prop) : withTy Go.Proofs.Try.prog 151 (.mk F) = F ⟨false, 1, 8, [.nilf], .other⟩ := withTy_eq tyo_151 F
theorem tyo_152 : tyOf Go.Proofs.Try.prog 152 = some ⟨false, 1, 8, [.nilf], .other⟩ := by kernel_rfl
@[go_sem] theorem ty_152 (F : TyI → Prop) : withTy Go.Proofs.Try.prog 152 (.mk F) = F ⟨false, 1, 8, [.nilf], .other⟩ := withTy_eq tyo_152 F
theorem tyo_153 : tyOf Go.Proofs.Try.prog 153 = some ⟨true, 4, 4, u8s (zeros 4), .array 4 1 false⟩ := by kernel_rfl
@[go_sem] theorem ty_153 (F : TyI → Prop) : withTy Go.Proofs.Try.prog 153 (.mk F) = F ⟨true, 4, 4, u8s (zeros 4), .array 4 1 false⟩ := withTy_eq tyo_153 F
theorem tyo_154 : tyOf Go.Proofs.Try.prog 154 = some ⟨true, 36, 36, u8s (zeros 36), .array 9 4 true⟩ := by kernel_rfl
@[go_sem] theorem ty_154 (F : TyI → Prop) : withTy Go.Proofs.Try.prog 154 (.mk F) = F ⟨true, 36, 36, u8s (zeros 36), .array 9 4 true⟩ := withTy_eq tyo_154 F
theorem tyo_155 : tyOf Go.Proofs.Try.prog 155 = some ⟨true, 36, 36, u8s (zeros 36), .array 9 4 true⟩ := by kernel_rfl
@[go_sem] theorem ty_155 (F : TyI → Prop) : withTy Go.Proofs.Try.prog 155 (.mk F) = F ⟨true, 36, 36, u8s (zeros 36), .array 9 4 true⟩ := withTy_eq tyo_155 F
theorem tyo_156 : tyOf Go.Proofs.Try.prog 156 = some ⟨true, 108, 108, u8s (zeros 108), .struct [(0, 36), (36, 36), (72, 36)]⟩ := by kernel_rfl
@[go_sem] theorem ty_156 (F : TyI → Prop) : withTy Go.Proofs.Try.prog 156 (.mk F) = F ⟨true, 108, 108, u8s (zeros 108), .struct [(0, 36), (36, 36), (72, 36)]⟩ := withTy_eq tyo_156 F
theorem tyo_157 : tyOf Go.Proofs.Try.prog 157 = some ⟨true, 108, 108, u8s (zeros 108), .struct [(0, 36), (36, 36), (72, 36)]⟩ := by kernel_rfl
@[go_sem] theorem ty_157 (F : TyI → Prop) : withTy Go.Proofs.Try.prog 157 (.mk F) = F ⟨true, 108, 108, u8s (zeros 108), .struct [(0, 36), (36, 36), (72, 36)]⟩ := withTy_eq tyo_157 F
theorem tyo_158 : tyOf Go.Proofs.Try.prog 158 = some ⟨false, 1, 8, [.nilf], .other⟩ := by kernel_rfl
@[go_sem] theorem ty_158 (F : TyI → Prop) : withTy Go.Proofs.Try.prog 158 (.mk F) = F ⟨false, 1, 8, [.nilf], .other⟩ := withTy_eq tyo_158 F
theorem tyo_159 : tyOf Go.Proofs.Try.prog 159 = some ⟨false, 1, 8, [.nilf], .other⟩ := by kernel_rfl
@[go_sem] theorem ty_159 (F : TyI → Prop) : withTy Go.Proofs.Try.prog 159 (.mk F) = F ⟨false, 1, 8, [.nilf], .other⟩ := withTy_eq tyo_159 F
theorem tyo_160 : tyOf Go.Proofs.Try.prog 160 = some ⟨false, 1, 8, [.nilf], .other⟩ := by kernel_rfl
@[go_sem] theorem ty_160 (F : TyI → Prop) : withTy Go.Proofs.Try.prog 160 (.mk F) = F ⟨false, 1, 8, [.nilf], .other⟩ := withTy_eq tyo_160 F
theorem tyo_161 : tyOf Go.Proofs.Try.prog 161 = some ⟨true, 9, 9, u8s (zeros 9), .array 9 1 false⟩ := by kernel_rfl
@[go_sem] theorem ty_161 (F : TyI → Prop) : withTy Go.Proofs.Try.prog 161 (.mk F) = F ⟨true, 9, 9, u8s (zeros 9), .array 9 1 false⟩ := withTy_eq tyo_161 F
theorem tyo_162 : tyOf Go.Proofs.Try.prog 162 = some ⟨true, 9, 9, u8s (zeros 9), .array 9 1 false⟩ := by kernel_rfl
@[go_sem] theorem ty_162 (F : TyI → Prop) : withTy Go.Proofs.Try.prog 162 (.mk F) = F ⟨true, 9, 9, u8s (zeros 9), .array 9 1 false⟩ := withTy_eq tyo_162 F
theorem tyo_163 : tyOf Go.Proofs.Try.prog 163 = some ⟨true, 27, 27, u8s (zeros 27), .array 3 9 true⟩ := by kernel_rfl
@[go_sem] theorem ty_163 (F : TyI → Prop) : withTy Go.Proofs.Try.prog 163 (.mk F) = F ⟨true, 27, 27, u8s (zeros 27), .array 3 9 true⟩ := withTy_eq tyo_163 F
theorem tyo_164 : tyOf Go.Proofs.Try.prog 164 = some ⟨false, 1, 8, [.nilf], .other⟩ := by kernel_rfl
@[go_sem] theorem ty_164 (F : TyI → Prop) : withTy Go.Proofs.Try.prog 164 (.mk F) = F ⟨false, 1, 8, [.nilf], .other⟩ := withTy_eq tyo_164 F
theorem tyo_165 : tyOf Go.Proofs.Try.prog 165 = some ⟨true, 27, 27, u8s (zeros 27), .struct [(0, 9), (9, 9), (18, 9)]⟩ := by kernel_rfl
@[go_sem] theorem ty_165 (F : TyI → Prop) : withTy Go.Proofs.Try.prog 165 (.mk F) = F ⟨true, 27, 27, u8s (zeros 27), .struct [(0, 9), (9, 9), (18, 9)]⟩ := withTy_eq tyo_165 F
theorem tyo_166 : tyOf Go.Proofs.Try.prog 166 = some ⟨true, 27, 27, u8s (zeros 27), .struct [(0, 9), (9, 9), (18, 9)]⟩ := by kernel_rfl
@[go_sem] theorem ty_166 (F : TyI → Prop) : withTy Go.Proofs.Try.prog 166 (.mk F) = F ⟨true, 27, 27, u8s (zeros 27), .struct [(0, 9), (9, 9), (18, 9)]⟩ := withTy_eq tyo_166 F
theorem tyo_167 : tyOf Go.Proofs.Try.prog 167 = some ⟨false, 1, 8, [.nilf], .other⟩ := by kernel_rfl
@[go_sem] theorem ty_167 (F : TyI → Prop) : withTy Go.Proofs.Try.prog 167 (.mk F) = F ⟨false, 1, 8, [.nilf], .other⟩ := withTy_eq tyo_167 F
theorem tyo_168 : tyOf Go.Proofs.Try.prog 168 = some ⟨false, 1, 8, [.nilf], .other⟩ := by kernel_rfl
@[go_sem] theorem ty_168 (F : TyI → Prop) : withTy Go.Proofs.Try.prog 168 (.mk F) = F ⟨false, 1, 8, [.nilf], .other⟩ := withTy_eq tyo_168 F
theorem tyo_169 : tyOf Go.Proofs.Try.prog 169 = some ⟨false, 1, 8, [.nilf], .other⟩ := by kernel_rfl
@[go_sem] theorem ty_169 (F : TyI → Prop) : withTy Go.Proofs.Try.prog 169 (.mk F) = F ⟨false, 1, 8, [.nilf], .other⟩ := withTy_eq tyo_169 F
theorem tyo_170 : tyOf Go.Proofs.Try.prog 170 = some ⟨false, 1, 8, [.nilf], .other⟩ := by kernel_rfl
@[go_sem] theorem ty_170 (F : TyI → Prop) : withTy Go.Proofs.Try.prog 170 (.mk F) = F ⟨false, 1, 8, [.nilf], .other⟩ := withTy_eq tyo_170 F
theorem tyo_171 : tyOf Go.Proofs.Try.prog 171 = some ⟨false, 1, 8, [.nilf], .other⟩ := by kernel_rfl
@[go_sem] theorem ty_171 (F : TyI → Prop) : withTy Go.Proofs.Try.prog 171 (.mk F) = F ⟨false, 1, 8, [.nilf], .other⟩ := withTy_eq tyo_171 F
theorem tyo_172 : tyOf Go.Proofs.Try.prog 172 = some ⟨false, 1, 8, [.nilf], .other⟩ := by kernel_rfl
@[go_sem] theorem ty_172 (F : TyI → Prop) : withTy Go.Proofs.Try.prog 172 (.mk F) = F ⟨false, 1, 8, [.nilf], .other⟩ := withTy_eq tyo_172 F
theorem tyo_173 : tyOf Go.Proofs.Try.prog 173 = some ⟨false, 1, 8, [.nilf], .other⟩ := by kernel_rfl
@[go_sem] theorem ty_173 (F : TyI → Prop) : withTy Go.Proofs.Try.prog 173 (.mk F) = F ⟨false, 1, 8, [.nilf], .other⟩ := withTy_eq tyo_173 F
theorem tyo_174 : tyOf Go.Proofs.Try.prog 174 = some ⟨false, 1, 8, [.nilf], .other⟩ := by kernel_rfl
@[go_sem] theorem ty_174 (F : TyI → Prop) : withTy Go.Proofs.Try.prog 174 (.mk F) = F ⟨false, 1, 8, [.nilf], .other⟩ := withTy_eq tyo_174 F
theorem tyo_175 : tyOf Go.Proofs.Try.prog 175 = some ⟨false, 1, 8, [.nilf], .other⟩ := by kernel_rfl
@[go_sem] theorem ty_175 (F : TyI → Prop) : withTy Go.Proofs.Try.prog 175 (.mk F) = F ⟨false, 1, 8, [.nilf], .other⟩ := withTy_eq tyo_175 F
theorem tyo_177 : tyOf Go.Proofs.Try.prog 177 = some ⟨false, 1, 8, [.nilf], .other⟩ := by kernel_rfl
@[go_sem] theorem ty_177 (F : TyI → Prop) : withTy Go.Proofs.Try.prog 177 (.mk F) = F ⟨false, 1, 8, [.nilf], .other⟩ := withTy_eq tyo_177 F
theorem tyo_178 : tyOf Go.Proofs.Try.prog 178 = some ⟨false, 1, 8, [.nilf], .other⟩ := by kernel_rfl
@[go_sem] theorem ty_178 (F : TyI → Prop) : withTy Go.Proofs.Try.prog 178 (.mk F) = F ⟨false, 1, 8, [.nilf], .other⟩ := withTy_eq tyo_178 F
theorem tyo_179 : tyOf Go.Proofs.Try.prog 179 = some ⟨false, 1, 8, [.nilf], .other⟩ := by kernel_rfl
@[go_sem] theorem ty_179 (F : TyI → Prop) : withTy Go.Proofs.Try.prog 179 (.mk F) = F ⟨false, 1, 8, [.nilf], .other⟩ := withTy_eq tyo_179 F
theorem tyo_180 : tyOf Go.Proofs.Try.prog 180 = some ⟨false, 1, 8, [.nilf], .other⟩ := by kernel_rfl
@[go_sem] theorem ty_180 (F : TyI → Prop) : withTy Go.Proofs.Try.prog 180 (.mk F) = F ⟨false, 1, 8, [.nilf], .other⟩ := withTy_eq tyo_180 F
theorem tyo_181 : tyOf Go.Proofs.Try.prog 181 = some ⟨false, 1, 8, [.nilf], .other⟩ := by kernel_rfl
@[go_sem] theorem ty_181 (F : TyI → Prop) : withTy Go.Proofs.Try.prog 181 (.mk F) = F ⟨false, 1, 8, [.nilf], .other⟩ := withTy_eq tyo_181 F
theorem tyo_182 : tyOf Go.Proofs.Try.prog 182 = some ⟨false, 1, 8, [.nilf], .other⟩ := by kernel_rfl
@[go_sem] theorem ty_182 (F : TyI → Prop) : withTy Go.Proofs.Try.prog 182 (.mk F) = F ⟨false, 1, 8, [.nilf], .other⟩ := withTy_eq tyo_182 F
theorem tyo_184 : tyOf Go.Proofs.Try.prog 184 = some ⟨false, 1, 8, [.nilf], .other⟩ := by kernel_rfl
@[go_sem] theorem ty_184 (F : TyI → Prop) : withTy Go.Proofs.Try.prog 184 (.mk F) = F ⟨false, 1, 8, [.nilf], .other⟩ := withTy_eq tyo_184 F
theorem tyo_185 : tyOf Go.Proofs.Try.prog 185 = some ⟨true, 18, 18, u8s (zeros 18), .struct [(0, 9), (9, 9)]⟩ := by kernel_rfl
@[go_sem] theorem ty_185 (F : TyI → Prop) : withTy Go.Proofs.Try.prog 185 (.mk F) = F ⟨true, 18, 18, u8s (zeros 18), .struct [(0, 9), (9, 9)]⟩ := withTy_eq tyo_185 F
theorem tyo_186 : tyOf Go.Proofs.Try.prog 186 = some ⟨true, 18, 18, u8s (zeros 18), .struct [(0, 9), (9, 9)]⟩ := by kernel_rfl
@[go_sem] theorem ty_186 (F : TyI → Prop) : withTy Go.Proofs.Try.prog 186 (.mk F) = F ⟨true, 18, 18, u8s (zeros 18), .struct [(0, 9), (9, 9)]⟩ := withTy_eq tyo_186 F
theorem tyo_187 : tyOf Go.Proofs.Try.prog 187 = some ⟨false, 1, 8, [.nilf], .other⟩ := by kernel_rfl
@[go_sem] theorem ty_187 (F : TyI → Prop) : withTy Go.Proofs.Try.prog 187 (.mk F) = F ⟨false, 1, 8, [.nilf], .other⟩ := withTy_eq tyo_187 F
theorem tyo_188 : tyOf Go.Proofs.Try.prog 188 = some ⟨true, 18, 18, u8s (zeros 18), .struct [(0, 9), (9, 9)]⟩ := by kernel_rfl
@[go_sem] theorem ty_188 (F : TyI → Prop) : withTy Go.Proofs.Try.prog 188 (.mk F) = F ⟨true, 18, 18, u8s (zeros 18), .struct [(0, 9), (9, 9)]⟩ := withTy_eq tyo_188 F
theorem tyo_189 : tyOf Go.Proofs.Try.prog 189 = some ⟨true, 18, 18, u8s (zeros 18), .struct [(0, 9), (9, 9)]⟩ := by kernel_rfl
@[go_sem] theorem ty_189 (F : TyI → Prop) : withTy Go.Proofs.Try.prog 189 (.mk F) = F ⟨true, 18, 18, u8s (zeros 18), .struct [(0, 9), (9, 9)]⟩ := withTy_eq tyo_189 F
theorem tyo_190 : tyOf Go.Proofs.Try.prog 190 = some ⟨false, 1, 24, [.nils], .slice 1 8 [.int .i64 0]⟩ := by kernel_rfl
@[go_sem] theorem ty_190 (F : TyI → Prop) : withTy Go.Proofs.Try.prog 190 (.mk F) = F ⟨false, 1, 24, [.nils], .slice 1 8 [.int .i64 0]⟩ := withTy_eq tyo_190 F
theorem tyo_191 : tyOf Go.Proofs.Try.prog 191 = some ⟨false, 1, 8, [.nilf], .other⟩ := by kernel_rfl
@[go_sem] theorem ty_191 (F : TyI → Prop) : withTy Go.Proofs.Try.prog 191 (.mk F) = F ⟨false, 1, 8, [.nilf], .other⟩ := withTy_eq tyo_191 F
theorem tyo_192 : tyOf Go.Proofs.Try.prog 192 = some ⟨false, 1, 8, [.nilf], .other⟩ := by kernel_rfl
@[go_sem] theorem ty_192 (F : TyI → Prop) : withTy Go.Proofs.Try.prog 192 (.mk F) = F ⟨false, 1, 8, [.nilf], .other⟩ := withTy_eq tyo_192 F
theorem tyo_193 : tyOf Go.Proofs.Try.prog 193 = some ⟨false, 1, 8, [.nilf], .other⟩ := by kernel_rfl
@[go_sem] theorem ty_193 (F : TyI → Prop) : withTy Go.Proofs.Try.prog 193 (.mk F) = F ⟨false, 1, 8, [.nilf], .other⟩ := withTy_eq tyo_193 F
theorem tyo_195 : tyOf Go.Proofs.Try.prog 195 = some ⟨false, 1, 8, [.nilf], .other⟩ := by kernel_rfl
@[go_sem] theorem ty_195 (F : TyI → Prop) : withTy Go.Proofs.Try.prog 195 (.mk F) = F ⟨false, 1, 8, [.nilf], .other⟩ := withTy_eq tyo_195 F
theorem tyo_196 : tyOf Go.Proofs.Try.prog 196 = some ⟨false, 1, 8, [.nilf], .other⟩ := by kernel_rfl
@[go_sem] theorem ty_196 (F : TyI → Prop) : withTy Go.Proofs.Try.prog 196 (.mk F) = F ⟨false, 1, 8, [.nilf], .other⟩ := withTy_eq tyo_196 F
theorem tyo_197 : tyOf Go.Proofs.Try.prog 197 = some ⟨false, 1, 8, [.nilf], .other⟩ := by kernel_rfl
@[go_sem] theorem ty_197 (F : TyI → Prop) : withTy Go.Proofs.Try.prog 197 (.mk F) = F ⟨false, 1, 8, [.nilf], .other⟩ := withTy_eq tyo_197 F
theorem tyo_198 : tyOf Go.Proofs.Try.prog 198 = some ⟨false, 1, 8, [.nilf], .other⟩ := by kernel_rfl
@[go_sem] theorem ty_198 (F : TyI → Prop) : withTy Go.Proofs.Try.prog 198 (.mk F) = F ⟨false, 1, 8, [.nilf], .other⟩ := withTy_eq tyo_198 F
theorem tyo_199 : tyOf Go.Proofs.Try.prog 199 = some ⟨false, 1, 8, [.nilf], .other⟩ := by kernel_rfl
@[go_sem] theorem ty_199 (F : TyI → Prop) : withTy Go.Proofs.Try.prog 199 (.mk F) = F ⟨false, 1, 8, [.nilf], .other⟩ := withTy_eq tyo_199 F
theorem tyo_200 : tyOf Go.Proofs.Try.prog 200 = some ⟨false, 1, 8, [.nilf], .other⟩ := by kernel_rfl
@[go_sem] theorem ty_200 (F : TyI → Prop) : withTy Go.Proofs.Try.prog 200 (.mk F) = F ⟨false, 1, 8, [.nilf], .other⟩ := withTy_eq tyo_200 F
theorem tyo_201 : tyOf Go.Proofs.Try.prog 201 = some ⟨false, 1, 8, [.nilf], .other⟩ := by kernel_rfl
@[go_sem] theorem ty_201 (F : TyI → Prop) : withTy Go.Proofs.Try.prog 201 (.mk F) = F ⟨false, 1, 8, [.nilf], .other⟩ := withTy_eq tyo_201 F
theorem tyo_202 : tyOf Go.Proofs.Try.prog 202 = some ⟨false, 1, 8, [.nilf], .other⟩ := by kernel_rfl
@[go_sem] theorem ty_202 (F : TyI → Prop) : withTy Go.Proofs.Try.prog 202 (.mk F) = F ⟨false, 1, 8, [.nilf], .other⟩ := withTy_eq tyo_202 F
theorem tyo_203 : tyOf Go.Proofs.Try.prog 203 = some ⟨false, 1, 8, [.nilf], .other⟩ := by kernel_rfl
@[go_sem] theorem ty_203 (F : TyI → Prop) : withTy Go.Proofs.Try.prog 203 (.mk F) = F ⟨false, 1, 8, [.nilf], .other⟩ := withTy_eq tyo_203 F
theorem tyo_204 : tyOf Go.Proofs.Try.prog 204 = some ⟨false, 1, 8, [.nilp], .other⟩ := by kernel_rfl
@[go_sem] theorem ty_204 (F : TyI → Prop) : withTy Go.Proofs.Try.prog 204 (.mk F) = F ⟨false, 1, 8, [.nilp], .other⟩ := withTy_eq tyo_204 F
theorem tyo_205 : tyOf Go.Proofs.Try.prog 205 = some ⟨false, 1, 8, [.nilf], .other⟩ := by kernel_rfl
@[go_sem] theorem ty_205 (F : TyI → Prop) : withTy Go.Proofs.Try.prog 205 (.mk F) = F ⟨false, 1, 8, [.nilf], .other⟩ := withTy_eq tyo_205 F
theorem tyo_206 : tyOf Go.Proofs.Try.prog 206 = some ⟨false, 1, 8, [.nilf], .other⟩ := by kernel_rfl
@[go_sem] theorem ty_206 (F : TyI → Prop) : withTy Go.Proofs.Try.prog 206 (.mk F) = F ⟨false, 1, 8, [.nilf], .other⟩ := withTy_eq tyo_206 F
theorem tyo_207 : tyOf Go.Proofs.Try.prog 207 = some ⟨false, 1, 8, [.nilf], .other⟩ := by kernel_rfl
@[go_sem] theorem ty_207 (F : TyI → Prop) : withTy Go.Proofs.Try.prog 207 (.mk F) = F ⟨false, 1, 8, [.nilf], .other⟩ := withTy_eq tyo_207 F
theorem tyo_208 : tyOf Go.Proofs.Try.prog 208 = some ⟨false, 1, 8, [.nilf], .other⟩ := by kernel_rfl
@[go_sem] theorem ty_208 (F : TyI → Prop) : withTy Go.Proofs.Try.prog 208 (.mk F) = F ⟨false, 1, 8, [.nilf], .other⟩ := withTy_eq tyo_208 F
theorem tyo_209 : tyOf Go.Proofs.Try.prog 209 = some ⟨false, 1, 8, [.nilf], .other⟩ := by kernel_rfl
@[go_sem] theorem ty_209 (F : TyI → Prop) : withTy Go.Proofs.Try.prog 209 (.mk F) = F ⟨false, 1, 8, [.nilf], .other⟩ := withTy_eq tyo_209 F
theorem tyo_210 : tyOf Go.Proofs.Try.prog 210 = some ⟨false, 1, 8, [.nilf], .other⟩ := by kernel_rfl
@[go_sem] theorem ty_210 (F : TyI → Prop) : withTy Go.Proofs.Try.prog 210 (.mk F) = F ⟨false, 1, 8, [.nilf], .other⟩ := withTy_eq tyo_210 F
theorem tyo_211 : tyOf Go.Proofs.Try.prog 211 = some ⟨false, 1, 8, [.nilf], .other⟩ := by kernel_rfl
@[go_sem] theorem ty_211 (F : TyI → Prop) : withTy Go.Proofs.Try.prog 211 (.mk F) = F ⟨false, 1, 8, [.nilf], .other⟩ := withTy_eq tyo_211 F
theorem tyo_212 : tyOf Go.Proofs.Try.prog 212 = some ⟨false, 1, 8, [.nilf], .other⟩ := by kernel_rfl
@[go_sem] theorem ty_212 (F : TyI → Prop) : withTy Go.Proofs.Try.prog 212 (.mk F) = F ⟨false, 1, 8, [.nilf], .other⟩ := withTy_eq tyo_212 F
theorem tyo_213 : tyOf Go.Proofs.Try.prog 213 = some ⟨false, 1, 8, [.nilf], .other⟩ := by kernel_rfl
@[go_sem] theorem ty_213 (F : TyI → Prop) : withTy Go.Proofs.Try.prog 213 (.mk F) = F ⟨false, 1, 8, [.nilf], .other⟩ := withTy_eq tyo_213 F
theorem tyo_214 : tyOf Go.Proofs.Try.prog 214 = some ⟨false, 1, 8, [.nilf], .other⟩ := by kernel_rfl
@[go_sem] theorem ty_214 (F : TyI → Prop) : withTy Go.Proofs.Try.prog 214 (.mk F) = F ⟨false, 1, 8, [.nilf], .other⟩ := withTy_eq tyo_214 F
theorem tyo_215 : tyOf Go.Proofs.Try.prog 215 = some ⟨false, 1, 8, [.nilf], .other⟩ := by kernel_rfl
@[go_sem] theorem ty_215 (F : TyI → Prop) : withTy Go.Proofs.Try.prog 215 (.mk F) = F ⟨false, 1, 8, [.nilf], .other⟩ := withTy_eq tyo_215 F
theorem tyo_216 : tyOf Go.Proofs.Try.prog 216 = some ⟨false, 1, 24, [.nils], .slice 2 16 [.int .i64 0, .int .i64 0]⟩ := by kernel_rfl
@[go_sem] theorem ty_216 (F : TyI → Prop) : withTy Go.Proofs.Try.prog 216 (.mk F) = F ⟨false, 1, 24, [.nils], .slice 2 16 [.int .i64 0, .int .i64 0]⟩ := withTy_eq tyo_216 F
theorem tyo_217 : tyOf Go.Proofs.Try.prog 217 = some ⟨true, 2, 16, [.int .i64 0, .int .i64 0], .array 2 1 false⟩ := by kernel_rfl
@[go_sem] theorem ty_217 (F : TyI → Prop) : withTy Go.Proofs.Try.prog 217 (.mk F) = F ⟨true, 2, 16, [.int .i64 0, .int .i64 0], .array 2 1 false⟩ := withTy_eq tyo_217 F
theorem tyo_218 : tyOf Go.Proofs.Try.prog 218 = some ⟨false, 1, 8, [.nilf], .other⟩ := by kernel_rfl
@[go_sem] theorem ty_218 (F : TyI → Prop) : withTy Go.Proofs.Try.prog 218 (.mk F) = F ⟨false, 1, 8, [.nilf], .other⟩ := withTy_eq tyo_218 F
theorem tyo_219 : tyOf Go.Proofs.Try.prog 219 = some ⟨false, 1, 8, [.nilf], .other⟩ := by kernel_rfl
@[go_sem] theorem ty_219 (F : TyI → Prop) : withTy Go.Proofs.Try.prog 219 (.mk F) = F ⟨false, 1, 8, [.nilf], .other⟩ := withTy_eq tyo_219 F
theorem tyo_220 : tyOf Go.Proofs.Try.prog 220 = some ⟨false, 1, 8, [.nilf], .other⟩ := by kernel_rfl
@[go_sem] theorem ty_220 (F : TyI → Prop) : withTy Go.Proofs.Try.prog 220 (.mk F) = F ⟨false, 1, 8, [.nilf], .other⟩ := withTy_eq tyo_220 F
theorem tyo_221 : tyOf Go.Proofs.Try.prog 221 = some ⟨false, 1, 8, [.nilf], .other⟩ := by kernel_rfl
@[go_sem] theorem ty_221 (F : TyI → Prop) : withTy Go.Proofs.Try.prog 221 (.mk F) = F ⟨false, 1, 8, [.nilf], .other⟩ := withTy_eq tyo_221 F
theorem tyo_222 : tyOf Go.Proofs.Try.prog 222 = some ⟨false, 1, 8, [.nilf], .other⟩ := by kernel_rfl
@[go_sem] theorem ty_222 (F : TyI → Prop) : withTy Go.Proofs.Try.prog 222 (.mk F) = F ⟨false, 1, 8, [.nilf], .other⟩ := withTy_eq tyo_222 F
theorem tyo_223 : tyOf Go.Proofs.Try.prog 223 = some ⟨false, 1, 8, [.nilf], .other⟩ := by kernel_rfl
@[go_sem] theorem ty_223 (F : TyI → Prop) : withTy Go.Proofs.Try.prog 223 (.mk F) = F ⟨false, 1, 8, [.nilf], .other⟩ := withTy_eq tyo_223 F
theorem tyo_224 : tyOf Go.Proofs.Try.prog 224 = some ⟨false, 1, 8, [.nilf], .other⟩ := by kernel_rfl
@[go_sem] theorem ty_224 (F : TyI → Prop) : withTy Go.Proofs.Try.prog 224 (.mk F) = F ⟨false, 1, 8, [.nilf], .other⟩ := withTy_eq tyo_224 F
theorem tyo_225 : tyOf Go.Proofs.Try.prog 225 = some ⟨false, 1, 8, [.nilf], .other⟩ := by kernel_rfl
@[go_sem] theorem ty_225 (F : TyI → Prop) : withTy Go.Proofs.Try.prog 225 (.mk F) = F ⟨false, 1, 8, [.nilf], .other⟩ := withTy_eq tyo_225 F
theorem tyo_226 : tyOf Go.Proofs.Try.prog 226 = some ⟨false, 1, 8, [.nilf], .other⟩ := by kernel_rfl
@[go_sem] theorem ty_226 (F : TyI → Prop) : withTy Go.Proofs.Try.prog 226 (.mk F) = F ⟨false, 1, 8, [.nilf], .other⟩ := withTy_eq tyo_226 F
theorem tyo_227 : tyOf Go.Proofs.Try.prog 227 = some ⟨false, 1, 8, [.nilf], .other⟩ := by kernel_rfl
@[go_sem] theorem ty_227 (F : TyI → Prop) : withTy Go.Proofs.Try.prog 227 (.mk F) = F ⟨false, 1, 8, [.nilf], .other⟩ := withTy_eq tyo_227 F
theorem tyo_228 : tyOf Go.Proofs.Try.prog 228 = some ⟨false, 1, 8, [.nilf], .other⟩ := by kernel_rfl
@[go_sem] theorem ty_228 (F : TyI → Prop) : withTy Go.Proofs.Try.prog 228 (.mk F) = F ⟨false, 1, 8, [.nilf], .other⟩ := withTy_eq tyo_228 F
theorem tyo_229 : tyOf Go.Proofs.Try.prog 229 = some ⟨false, 1, 8, [.nilf], .other⟩ := by kernel_rfl
@[go_sem] theorem ty_229 (F : TyI → Prop) : withTy Go.Proofs.Try.prog 229 (.mk F) = F ⟨false, 1, 8, [.nilf], .other⟩ := withTy_eq tyo_229 F
theorem tyo_230 : tyOf Go.Proofs.Try.prog 230 = some ⟨false, 1, 8, [.nilf], .other⟩ := by kernel_rfl
@[go_sem] theorem ty_230 (F : TyI → Prop) : withTy Go.Proofs.Try.prog 230 (.mk F) = F ⟨false, 1, 8, [.nilf], .other⟩ := withTy_eq tyo_230 F
theorem tyo_231 : tyOf Go.Proofs.Try.prog 231 = some ⟨true, 3, 24, [.int .i64 0, .int .i64 0, .int .i64 0], .array 3 1 false⟩ := by kernel_rfl
@[go_sem] theorem ty_231 (F : TyI → Prop) : withTy Go.Proofs.Try.prog 231 (.mk F) = F ⟨true, 3, 24, [.int .i64 0, .int .i64 0, .int .i64 0], .array 3 1 false⟩ := withTy_eq tyo_231 F
theorem tyo_232 : tyOf Go.Proofs.Try.prog 232 = some ⟨false, 1, 8, [.nilf], .other⟩ := by kernel_rfl
@[go_sem] theorem ty_232 (F : TyI → Prop) : withTy Go.Proofs.Try.prog 232 (.mk F) = F ⟨false, 1, 8, [.nilf], .other⟩ := withTy_eq tyo_232 F
theorem tyo_233 : tyOf Go.Proofs.Try.prog 233 = some ⟨false, 1, 8, [.nilf], .other⟩ := by kernel_rfl
@[go_sem] theorem ty_233 (F : TyI → Prop) : withTy Go.Proofs.Try.prog 233 (.mk F) = F ⟨false, 1, 8, [.nilf], .other⟩ := withTy_eq tyo_233 F
theorem tyo_234 : tyOf Go.Proofs.Try.prog 234 = some ⟨false, 1, 8, [.nilf], .other⟩ := by kernel_rfl
@[go_sem] theorem ty_234 (F : TyI → Prop) : withTy Go.Proofs.Try.prog 234 (.mk F) = F ⟨false, 1, 8, [.nilf], .other⟩ := withTy_eq tyo_234 F
theorem tyo_235 : tyOf Go.Proofs.Try.prog 235 = some ⟨false, 1, 8, [.nilf], .other⟩ := by kernel_rfl
@[go_sem] theorem ty_235 (F : TyI → Prop) : withTy Go.Proofs.Try.prog 235 (.mk F) = F ⟨false, 1, 8, [.nilf], .other⟩ := withTy_eq tyo_235 F
theorem tyo_236 : tyOf Go.Proofs.Try.prog 236 = some ⟨false, 1, 8, [.nilf], .other⟩ := by kernel_rfl
@[go_sem] theorem ty_236 (F : TyI → Prop) : withTy Go.Proofs.Try.prog 236 (.mk F) = F ⟨false, 1, 8, [.nilf], .other⟩ := withTy_eq tyo_236 F
theorem tyo_237 : tyOf Go.Proofs.Try.prog 237 = some ⟨false, 1, 8, [.nilf], .other⟩ := by kernel_rfl
@[go_sem] theorem ty_237 (F : TyI → Prop) : withTy Go.Proofs.Try.prog 237 (.mk F) = F ⟨false, 1, 8, [.nilf], .other⟩ := withTy_eq tyo_237 F
theorem tyo_238 : tyOf Go.Proofs.Try.prog 238 = some ⟨false, 1, 8, [.nilf], .other⟩ := by kernel_rfl
@[go_sem] theorem ty_238 (F : TyI → Prop) : withTy Go.Proofs.Try.prog 238 (.mk F) = F ⟨false, 1, 8, [.nilf], .other⟩ := withTy_eq tyo_238 F
theorem tyo_239 : tyOf Go.Proofs.Try.prog 239 = some ⟨false, 1, 8, [.nilf], .other⟩ := by kernel_rfl
@[go_sem] theorem ty_239 (F : TyI → Prop) : withTy Go.Proofs.Try.prog 239 (.mk F) = F ⟨false, 1, 8, [.nilf], .other⟩ := withTy_eq tyo_239 F
theorem tyo_240 : tyOf Go.Proofs.Try.prog 240 = some ⟨false, 1, 8, [.nilf], .other⟩ := by kernel_rfl
@[go_sem] theorem ty_240 (F : TyI → Prop) : withTy Go.Proofs.Try.prog 240 (.mk F) = F ⟨false, 1, 8, [.nilf], .other⟩ := withTy_eq tyo_240 F
theorem tyo_241 : tyOf Go.Proofs.Try.prog 241 = some ⟨false, 1, 8, [.nilf], .other⟩ := by kernel_rfl
@[go_sem] theorem ty_241 (F : TyI → Prop) : withTy Go.Proofs.Try.prog 241 (.mk F) = F ⟨false, 1, 8, [.nilf], .other⟩ := withTy_eq tyo_241 F
theorem tyo_242 : tyOf Go.Proofs.Try.prog 242 = some ⟨false, 1, 8, [.nilf], .other⟩ := by kernel_rfl
@[go_sem] theorem ty_242 (F : TyI → Prop) : withTy Go.Proofs.Try.prog 242 (.mk F) = F ⟨false, 1, 8, [.nilf], .other⟩ := withTy_eq tyo_242 F
theorem tyo_243 : tyOf Go.Proofs.Try.prog 243 = some ⟨false, 1, 8, [.nilf], .other⟩ := by kernel_rfl
@[go_sem] theorem ty_243 (F : TyI → Prop) : withTy Go.Proofs.Try.prog 243 (.mk F) = F ⟨false, 1, 8, [.nilf], .other⟩ := withTy_eq tyo_243 F
theorem tyo_244 : tyOf Go.Proofs.Try.prog 244 = some ⟨false, 1, 8, [.nilf], .other⟩ := by kernel_rfl
@[go_sem] theorem ty_244 (F : TyI → Prop) : withTy Go.Proofs.Try.prog 244 (.mk F) = F ⟨false, 1, 8, [.nilf], .other⟩ := withTy_eq tyo_244 F
theorem tyo_245 : tyOf Go.Proofs.Try.prog 245 = some ⟨false, 1, 8, [.nilf], .other⟩ := by kernel_rfl
@[go_sem] theorem ty_245 (F : TyI → Prop) : withTy Go.Proofs.Try.prog 245 (.mk F) = F ⟨false, 1, 8, [.nilf], .other⟩ := withTy_eq tyo_245 F
theorem tyo_246 : tyOf Go.Proofs.Try.prog 246 = some ⟨false, 1, 8, [.nilf], .other⟩ := by kernel_rfl
@[go_sem] theorem ty_246 (F : TyI → Prop) : withTy Go.Proofs.Try.prog 246 (.mk F) = F ⟨false, 1, 8, [.nilf], .other⟩ := withTy_eq tyo_246 F
theorem tyo_247 : tyOf Go.Proofs.Try.prog 247 = some ⟨false, 1, 8, [.nilf], .other⟩ := by kernel_rfl
@[go_sem] theorem ty_247 (F : TyI → Prop) : withTy Go.Proofs.Try.prog 247 (.mk F) = F ⟨false, 1, 8, [.nilf], .other⟩ := withTy_eq tyo_247 F
theorem tyo_248 : tyOf Go.Proofs.Try.prog 248 = some ⟨true, 10, 80, [.int .i64 0, .int .i64 0, .int .i64 0, .int .i64 0, .int .i64 0, .int .i64 0, .int .i64 0, .int .i64 0, .int .i64 0, .int .i64 0], .array 10 1 false⟩ := by kernel_rfl
@[go_sem] theorem ty_248 (F : TyI → Prop) : withTy Go.Proofs.Try.prog 248 (.mk F) = F ⟨true, 10, 80, [.int .i64 0, .int .i64 0, .int .i64 0, .int .i64 0, .int .i64 0, .int .i64 0, .int .i64 0, .int .i64 0, .int .i64 0, .int .i64 0], .array 10 1 false⟩ := withTy_eq tyo_248 F
theorem tyo_249 : tyOf Go.Proofs.Try.prog 249 = some ⟨false, 1, 8, [.nilf], .other⟩ := by kernel_rfl
@[go_sem] theorem ty_249 (F : TyI → Prop) : withTy Go.Proofs.Try.prog 249 (.mk F) = F ⟨false, 1, 8, [.nilf], .other⟩ := withTy_eq tyo_249 F
theorem tyo_250 : tyOf Go.Proofs.Try.prog 250 = some ⟨false, 1, 8, [.nilf], .other⟩ := by kernel_rfl
@[go_sem] theorem ty_250 (F : TyI → Prop) : withTy Go.Proofs.Try.prog 250 (.mk F) = F ⟨false, 1, 8, [.nilf], .other⟩ := withTy_eq tyo_250 F
theorem tyo_251 : tyOf Go.Proofs.Try.prog 251 = some ⟨false, 1, 8, [.nilf], .other⟩ := by kernel_rfl
@[go_sem] theorem ty_251 (F : TyI → Prop) : withTy Go.Proofs.Try.prog 251 (.mk F) = F ⟨false, 1, 8, [.nilf], .other⟩ := withTy_eq tyo_251 F
theorem tyo_252 : tyOf Go.Proofs.Try.prog 252 = some ⟨false, 1, 8, [.nilf], .other⟩ := by kernel_rfl
@[go_sem] theorem ty_252 (F : TyI → Prop) : withTy Go.Proofs.Try.prog 252 (.mk F) = F ⟨false, 1, 8, [.nilf], .other⟩ := withTy_eq tyo_252 F
theorem tyo_253 : tyOf Go.Proofs.Try.prog 253 = some ⟨false, 1, 8, [.nilf], .other⟩ := by kernel_rfl
@[go_sem] theorem ty_253 (F : TyI → Prop) : withTy Go.Proofs.Try.prog 253 (.mk F) = F ⟨false, 1, 8, [.nilf], .other⟩ := withTy_eq tyo_253 F
theorem tyo_254 : tyOf Go.Proofs.Try.prog 254 = some ⟨false, 1, 8, [.nilf], .other⟩ := by kernel_rfl
@[go_sem] theorem ty_254 (F : TyI → Prop) : withTy Go.Proofs.Try.prog 254 (.mk F) = F ⟨false, 1, 8, [.nilf], .other⟩ := withTy_eq tyo_254 F
theorem tyo_255 : tyOf Go.Proofs.Try.prog 255 = some ⟨false, 1, 8, [.nilf], .other⟩ := by kernel_rfl
@[go_sem] theorem ty_255 (F : TyI → Prop) : withTy Go.Proofs.Try.prog 255 (.mk F) = F ⟨false, 1, 8, [.nilf], .other⟩ := withTy_eq tyo_255 F
theorem tyo_256 : tyOf Go.Proofs.Try.prog 256 = some ⟨false, 1, 8, [.nilf], .other⟩ := by kernel_rfl
@[go_sem] theorem ty_256 (F : TyI → Prop) : withTy Go.Proofs.Try.prog 256 (.mk F) = F ⟨false, 1, 8, [.nilf], .other⟩ := withTy_eq tyo_256 F
theorem tyo_257 : tyOf Go.Proofs.Try.prog 257 = some ⟨false, 1, 8, [.nilf], .other⟩ := by kernel_rfl
@[go_sem] theorem ty_257 (F : TyI → Prop) : withTy Go.Proofs.Try.prog 257 (.mk F) = F ⟨false, 1, 8, [.nilf], .other⟩ := withTy_eq tyo_257 F
theorem tyo_258 : tyOf Go.Proofs.Try.prog 258 = some ⟨false, 1, 8, [.nilf], .other⟩ := by kernel_rfl
@[go_sem] theorem ty_258 (F : TyI → Prop) : withTy Go.Proofs.Try.prog 258 (.mk F) = F ⟨false, 1, 8, [.nilf], .other⟩ := withTy_eq tyo_258 F
theorem tyo_259 : tyOf Go.Proofs.Try.prog 259 = some ⟨false, 1, 8, [.nilf], .other⟩ := by kernel_rfl
@[go_sem] theorem ty_259 (F : TyI → Prop) : withTy Go.Proofs.Try.prog 259 (.mk F) = F ⟨false, 1, 8, [.nilf], .other⟩ := withTy_eq tyo_259 F
theorem tyo_260 : tyOf Go.Proofs.Try.prog 260 = some ⟨true, 108, 108, u8s (zeros 108), .struct [(0, 36), (36, 36), (72, 36)]⟩ := by kernel_rfl
@[go_sem] theorem ty_260 (F : TyI → Prop) : withTy Go.Proofs.Try.prog 260 (.mk F) = F ⟨true, 108, 108, u8s (zeros 108), .struct [(0, 36), (36, 36), (72, 36)]⟩ := withTy_eq tyo_260 F
theorem tyo_261 : tyOf Go.Proofs.Try.prog 261 = some ⟨true, 108, 108, u8s (zeros 108), .struct [(0, 36), (36, 36), (72, 36)]⟩ := by kernel_rfl
@[go_sem] theorem ty_261 (F : TyI → Prop) : withTy Go.Proofs.Try.prog 261 (.mk F) = F ⟨true, 108, 108, u8s (zeros 108), .struct [(0, 36), (36, 36), (72, 36)]⟩ := withTy_eq tyo_261 F
theorem tyo_262 : tyOf Go.Proofs.Try.prog 262 = some ⟨false, 1, 8, [.nilf], .other⟩ := by kernel_rfl
@[go_sem] theorem ty_262 (F : TyI → Prop) : withTy Go.Proofs.Try.prog 262 (.mk F) = F ⟨false, 1, 8, [.nilf], .other⟩ := withTy_eq tyo_262 F
theorem tyo_263 : tyOf Go.Proofs.Try.prog 263 = some ⟨false, 1, 8, [.nilf], .other⟩ := by kernel_rfl
@[go_sem] theorem ty_263 (F : TyI → Prop) : withTy Go.Proofs.Try.prog 263 (.mk F) = F ⟨false, 1, 8, [.nilf], .other⟩ := withTy_eq tyo_263 F
theorem tyo_264 : tyOf Go.Proofs.Try.prog 264 = some ⟨true, 108, 108, u8s (zeros 108), .array 3 36 true⟩ := by kernel_rfl
@[go_sem] theorem ty_264 (F : TyI → Prop) : withTy Go.Proofs.Try.prog 264 (.mk F) = F ⟨true, 108, 108, u8s (zeros 108), .array 3 36 true⟩ := withTy_eq tyo_264 F
theorem tyo_265 : tyOf Go.Proofs.Try.prog 265 = some ⟨false, 1, 8, [.nilf], .other⟩ := by kernel_rfl
@[go_sem] theorem ty_265 (F : TyI → Prop) : withTy Go.Proofs.Try.prog 265 (.mk F) = F ⟨false, 1, 8, [.nilf], .other⟩ := withTy_eq tyo_265 F
theorem tyo_266 : tyOf Go.Proofs.Try.prog 266 = some ⟨false, 1, 8, [.nilf], .other⟩ := by kernel_rfl
@[go_sem] theorem ty_266 (F : TyI → Prop) : withTy Go.Proofs.Try.prog 266 (.mk F) = F ⟨false, 1, 8, [.nilf], .other⟩ := withTy_eq tyo_266 F
theorem tyo_267 : tyOf Go.Proofs.Try.prog 267 = some ⟨false, 1, 8, [.nilf], .other⟩ := by kernel_rfl
@[go_sem] theorem ty_267 (F : TyI → Prop) : withTy Go.Proofs.Try.prog 267 (.mk F) = F ⟨false, 1, 8, [.nilf], .other⟩ := withTy_eq tyo_267 F
theorem tyo_268 : tyOf Go.Proofs.Try.prog 268 = some ⟨false, 1, 8, [.nilf], .other⟩ := by kernel_rfl
@[go_sem] theorem ty_268 (F : TyI → Prop) : withTy Go.Proofs.Try.prog 268 (.mk F) = F ⟨false, 1, 8, [.nilf], .other⟩ := withTy_eq tyo_268 F
theorem tyo_269 : tyOf Go.Proofs.Try.prog 269 = some ⟨true, 27, 27, u8s (zeros 27), .struct [(0, 9), (9, 9), (18, 9)]⟩ := by kernel_rfl
@[go_sem] theorem ty_269 (F : TyI → Prop) : withTy Go.Proofs.Try.prog 269 (.mk F) = F ⟨true, 27, 27, u8s (zeros 27), .struct [(0, 9), (9, 9), (18, 9)]⟩ := withTy_eq tyo_269 F
theorem tyo_270 : tyOf Go.Proofs.Try.prog 270 = some ⟨true, 27, 27, u8s (zeros 27), .struct [(0, 9), (9, 9), (18, 9)]⟩ := by kernel_rfl
@[go_sem] theorem ty_270 (F : TyI → Prop) : withTy Go.Proofs.Try.prog 270 (.mk F) = F ⟨true, 27, 27, u8s (zeros 27), .struct [(0, 9), (9, 9), (18, 9)]⟩ := withTy_eq tyo_270 F
theorem tyo_271 : tyOf Go.Proofs.Try.prog 271 = some ⟨false, 1, 8, [.nilf], .other⟩ := by kernel_rfl
@[go_sem] theorem ty_271 (F : TyI → Prop) : withTy Go.Proofs.Try.prog 271 (.mk F) = F ⟨false, 1, 8, [.nilf], .other⟩ := withTy_eq tyo_271 F
theorem tyo_272 : tyOf Go.Proofs.Try.prog 272 = some ⟨false, 1, 8, [.nilf], .other⟩ := by kernel_rfl
@[go_sem] theorem ty_272 (F : TyI → Prop) : withTy Go.Proofs.Try.prog 272 (.mk F) = F ⟨false, 1, 8, [.nilf], .other⟩ := withTy_eq tyo_272 F
theorem tyo_273 : tyOf Go.Proofs.Try.prog 273 = some ⟨false, 1, 8, [.nilf], .other⟩ := by kernel_rfl
@[go_sem] theorem ty_273 (F : TyI → Prop) : withTy Go.Proofs.Try.prog 273 (.mk F) = F ⟨false, 1, 8, [.nilf], .other⟩ := withTy_eq tyo_273 F
theorem tyo_274 : tyOf Go.Proofs.Try.prog 274 = some ⟨false, 1, 8, [.nilf], .other⟩ := by kernel_rfl
@[go_sem] theorem ty_274 (F : TyI → Prop) : withTy Go.Proofs.Try.prog 274 (.mk F) = F ⟨false, 1, 8, [.nilf], .other⟩ := withTy_eq tyo_274 F
theorem tyo_275 : tyOf Go.Proofs.Try.prog 275 = some ⟨false, 1, 8, [.nilf], .other⟩ := by kernel_rfl
@[go_sem] theorem ty_275 (F : TyI → Prop) : withTy Go.Proofs.Try.prog 275 (.mk F) = F ⟨false, 1, 8, [.nilf], .other⟩ := withTy_eq tyo_275 F
theorem tyo_276 : tyOf Go.Proofs.Try.prog 276 = some ⟨false, 1, 8, [.nilf], .other⟩ := by kernel_rfl
@[go_sem] theorem ty_276 (F : TyI → Prop) : withTy Go.Proofs.Try.prog 276 (.mk F) = F ⟨false, 1, 8, [.nilf], .other⟩ := withTy_eq tyo_276 F
theorem tyo_277 : tyOf Go.Proofs.Try.prog 277 = some ⟨false, 1, 8, [.nilf], .other⟩ := by kernel_rfl
@[go_sem] theorem ty_277 (F : TyI → Prop) : withTy Go.Proofs.Try.prog 277 (.mk F) = F ⟨false, 1, 8, [.nilf], .other⟩ := withTy_eq tyo_277 F
theorem tyo_278 : tyOf Go.Proofs.Try.prog 278 = some ⟨false, 1, 8, [.nilf], .other⟩ := by kernel_rfl
@[go_sem] theorem ty_278 (F : TyI → Prop) : withTy Go.Proofs.Try.prog 278 (.mk F) = F ⟨false, 1, 8, [.nilf], .other⟩ := withTy_eq tyo_278 F
theorem tyo_279 : tyOf Go.Proofs.Try.prog 279 = some ⟨false, 1, 8, [.nilf], .other⟩ := by kernel_rfl
@[go_sem] theorem ty_279 (F : TyI → Prop) : withTy Go.Proofs.Try.prog 279 (.mk F) = F ⟨false, 1, 8, [.nilf], .other⟩ := withTy_eq tyo_279 F
theorem tyo_280 : tyOf Go.Proofs.Try.prog 280 = some ⟨false, 1, 8, [.nilf], .other⟩ := by kernel_rfl
@[go_sem] theorem ty_280 (F : TyI → Prop) : withTy Go.Proofs.Try.prog 280 (.mk F) = F ⟨false, 1, 8, [.nilf], .other⟩ := withTy_eq tyo_280 F
theorem tyo_281 : tyOf Go.Proofs.Try.prog 281 = some ⟨false, 1, 8, [.nilf], .other⟩ := by kernel_rfl
@[go_sem] theorem ty_281 (F : TyI → Prop) : withTy Go.Proofs.Try.prog 281 (.mk F) = F ⟨false, 1, 8, [.nilf], .other⟩ := withTy_eq tyo_281 F
theorem tyo_282 : tyOf Go.Proofs.Try.prog 282 = some ⟨false, 1, 8, [.nilf], .other⟩ := by kernel_rfl
@[go_sem] theorem ty_282 (F : TyI → Prop) : withTy Go.Proofs.Try.prog 282 (.mk F) = F ⟨false, 1, 8, [.nilf], .other⟩ := withTy_eq tyo_282 F
theorem tyo_283 : tyOf Go.Proofs.Try.prog 283 = some ⟨false, 1, 8, [.nilf], .other⟩ := by kernel_rfl
@[go_sem] theorem ty_283 (F : TyI → Prop) : withTy Go.Proofs.Try.prog 283 (.mk F) = F ⟨false, 1, 8, [.nilf], .other⟩ := withTy_eq tyo_283 F
theorem tyo_284 : tyOf Go.Proofs.Try.prog 284 = some ⟨false, 1, 24, [.nils], .slice 9 9 (u8s (zeros 9))⟩ := by kernel_rfl
@[go_sem] theorem ty_284 (F : TyI → Prop) : withTy Go.Proofs.Try.prog 284 (.mk F) = F ⟨false, 1, 24, [.nils], .slice 9 9 (u8s (zeros 9))⟩ := withTy_eq tyo_284 F
theorem tyo_285 : tyOf Go.Proofs.Try.prog 285 = some ⟨false, 1, 8, [.nilf], .other⟩ := by kernel_rfl
@[go_sem] theorem ty_285 (F : TyI → Prop) : withTy Go.Proofs.Try.prog 285 (.mk F) = F ⟨false, 1, 8, [.nilf], .other⟩ := withTy_eq tyo_285 F
theorem tyo_286 : tyOf Go.Proofs.Try.prog 286 = some ⟨false, 1, 8, [.nilf], .other⟩ := by kernel_rfl
@[go_sem] theorem ty_286 (F : TyI → Prop) : withTy Go.Proofs.Try.prog 286 (.mk F) = F ⟨false, 1, 8, [.nilf], .other⟩ := withTy_eq tyo_286 F
theorem tyo_287 : tyOf Go.Proofs.Try.prog 287 = some ⟨false, 1, 24, [.nils], .slice 1 24 [.nils]⟩ := by kernel_rfl
@[go_sem] theorem ty_287 (F : TyI → Prop) : withTy Go.Proofs.Try.prog 287 (.mk F) = F ⟨false, 1, 24, [.nils], .slice 1 24 [.nils]⟩ := withTy_eq tyo_287 F
theorem tyo_288 : tyOf Go.Proofs.Try.prog 288 = some ⟨false, 1, 8, [.nilf], .other⟩ := by kernel_rfl
@[go_sem] theorem ty_288 (F : TyI → Prop) : withTy Go.Proofs.Try.prog 288 (.mk F) = F ⟨false, 1, 8, [.nilf], .other⟩ := withTy_eq tyo_288 F
theorem tyo_289 : tyOf Go.Proofs.Try.prog 289 = some ⟨true, 3, 40, [.nils, .int .i64 0, .int .u64 0], .struct [(0, 1), (1, 1), (2, 1)]⟩ := by kernel_rfl
@[go_sem] theorem ty_289 (F : TyI → Prop) : withTy Go.Proofs.Try.prog 289 (.mk F) = F ⟨true, 3, 40, [.nils, .int .i64 0, .int .u64 0], .struct [(0, 1), (1, 1), (2, 1)]⟩ := withTy_eq tyo_289 F
theorem tyo_290 : tyOf Go.Proofs.Try.prog 290 = some ⟨true, 3, 40, [.nils, .int .i64 0, .int .u64 0], .struct [(0, 1), (1, 1), (2, 1)]⟩ := by kernel_rfl
@[go_sem] theorem ty_290 (F : TyI → Prop) : withTy Go.Proofs.Try.prog 290 (.mk F) = F ⟨true, 3, 40, [.nils, .int .i64 0, .int .u64 0], .struct [(0, 1), (1, 1), (2, 1)]⟩ := withTy_eq tyo_290 F
theorem tyo_291 : tyOf Go.Proofs.Try.prog 291 = some ⟨false, 1, 8, [.int .u64 0], .int .u64⟩ := by kernel_rfl
@[go_sem] theorem ty_291 (F : TyI → Prop) : withTy Go.Proofs.Try.prog 291 (.mk F) = F ⟨false, 1, 8, [.int .u64 0], .int .u64⟩ := withTy_eq tyo_291 F
theorem tyo_292 : tyOf Go.Proofs.Try.prog 292 = some ⟨false, 1, 8, [.nilf], .other⟩ := by kernel_rfl
@[go_sem] theorem ty_292 (F : TyI → Prop) : withTy Go.Proofs.Try.prog 292 (.mk F) = F ⟨false, 1, 8, [.nilf], .other⟩ := withTy_eq tyo_292 F
theorem tyo_293 : tyOf Go.Proofs.Try.prog 293 = some ⟨false, 1, 8, [.nilf], .other⟩ := by kernel_rfl
@[go_sem] theorem ty_293 (F : TyI → Prop) : withTy Go.Proofs.Try.prog 293 (.mk F) = F ⟨false, 1, 8, [.nilf], .other⟩ := withTy_eq tyo_293 F
theorem tyo_294 : tyOf Go.Proofs.Try.prog 294 = some ⟨false, 1, 8, [.nilf], .other⟩ := by kernel_rfl
@[go_sem] theorem ty_294 (F : TyI → Prop) : withTy Go.Proofs.Try.prog 294 (.mk F) = F ⟨false, 1, 8, [.nilf], .other⟩ := withTy_eq tyo_294 F
theorem tyo_295 : tyOf Go.Proofs.Try.prog 295 = some ⟨false, 1, 8, [.nilf], .other⟩ := by kernel_rfl
@[go_sem] theorem ty_295 (F : TyI → Prop) : withTy Go.Proofs.Try.prog 295 (.mk F) = F ⟨false, 1, 8, [.nilf], .other⟩ := withTy_eq tyo_295 F
theorem tyo_296 : tyOf Go.Proofs.Try.prog 296 = some ⟨false, 1, 8, [.nilf], .other⟩ := by kernel_rfl
@[go_sem] theorem ty_296 (F : TyI → Prop) : withTy Go.Proofs.Try.prog 296 (.mk F) = F ⟨false, 1, 8, [.nilf], .other⟩ := withTy_eq tyo_296 F
theorem tyo_297 : tyOf Go.Proofs.Try.prog 297 = some ⟨false, 1, 8, [.nilf], .other⟩ := by kernel_rfl
@[go_sem] theorem ty_297 (F : TyI → Prop) : withTy Go.Proofs.Try.prog 297 (.mk F) = F ⟨false, 1, 8, [.nilf], .other⟩ := withTy_eq tyo_297 F
theorem tyo_298 : tyOf Go.Proofs.Try.prog 298 = some ⟨false, 1, 8, [.nilf], .other⟩ := by kernel_rfl
@[go_sem] theorem ty_298 (F : TyI → Prop) : withTy Go.Proofs.Try.prog 298 (.mk F) = F ⟨false, 1, 8, [.nilf], .other⟩ := withTy_eq tyo_298 F
theorem tyo_299 : tyOf Go.Proofs.Try.prog 299 = some ⟨false, 1, 8, [.nilf], .other⟩ := by kernel_rfl
@[go_sem] theorem ty_299 (F : TyI → Prop) : withTy Go.Proofs.Try.prog 299 (.mk F) = F ⟨false, 1, 8, [.nilf], .other⟩ := withTy_eq tyo_299 F
theorem tyo_300 : tyOf Go.Proofs.Try.prog 300 = some ⟨false, 1, 8, [.nilf], .other⟩ := by kernel_rfl
@[go_sem] theorem ty_300 (F : TyI → Prop) : withTy Go.Proofs.Try.prog 300 (.mk F) = F ⟨false, 1, 8, [.nilf], .other⟩ := withTy_eq tyo_300 F
theorem tyo_301 : tyOf Go.Proofs.Try.prog 301 = some ⟨false, 1, 8, [.nilf], .other⟩ := by kernel_rfl
@[go_sem] theorem ty_301 (F : TyI → Prop) : withTy Go.Proofs.Try.prog 301 (.mk F) = F ⟨false, 1, 8, [.nilf], .other⟩ := withTy_eq tyo_301 F
theorem tyo_302 : tyOf Go.Proofs.Try.prog 302 = some ⟨false, 1, 8, [.nilf], .other⟩ := by kernel_rfl
@[go_sem] theorem ty_302 (F : TyI → Prop) : withTy Go.Proofs.Try.prog 302 (.mk F) = F ⟨false, 1, 8, [.nilf], .other⟩ := withTy_eq tyo_302 F
theorem tyo_303 : tyOf Go.Proofs.Try.prog 303 = some ⟨false, 1, 8, [.nilf], .other⟩ := by kernel_rfl
@[go_sem] theorem ty_303 (F : TyI → Prop) : withTy Go.Proofs.Try.prog 303 (.mk F) = F ⟨false, 1, 8, [.nilf], .other⟩ := withTy_eq tyo_303 F
theorem tyo_304 : tyOf Go.Proofs.Try.prog 304 = some ⟨false, 1, 8, [.nilf], .other⟩ := by kernel_rfl
@[go_sem] theorem ty_304 (F : TyI → Prop) : withTy Go.Proofs.Try.prog 304 (.mk F) = F ⟨false, 1, 8, [.nilf], .other⟩ := withTy_eq tyo_304 F
theorem tyo_305 : tyOf Go.Proofs.Try.prog 305 = some ⟨false, 1, 8, [.nilf], .other⟩ := by kernel_rfl
@[go_sem] theorem ty_305 (F : TyI → Prop) : withTy Go.Proofs.Try.prog 305 (.mk F) = F ⟨false, 1, 8, [.nilf], .other⟩ := withTy_eq tyo_305 F
theorem tyo_306 : tyOf Go.Proofs.Try.prog 306 = some ⟨false, 1, 8, [.nilf], .other⟩ := by kernel_rfl
@[go_sem] theorem ty_306 (F : TyI → Prop) : withTy Go.Proofs.Try.prog 306 (.mk F) = F ⟨false, 1, 8, [.nilf], .other⟩ := withTy_eq tyo_306 F
theorem tyo_307 : tyOf Go.Proofs.Try.prog 307 = some ⟨false, 1, 8, [.nilf], .other⟩ := by kernel_rfl
@[go_sem] theorem ty_307 (F : TyI → Prop) : withTy Go.Proofs.Try.prog 307 (.mk F) = F ⟨false, 1, 8, [.nilf], .other⟩ := withTy_eq tyo_307 F
theorem tyo_308 : tyOf Go.Proofs.Try.prog 308 = some ⟨false, 1, 8, [.nilf], .other⟩ := by kernel_rfl
@[go_sem] theorem ty_308 (F : TyI → Prop) : withTy Go.Proofs.Try.prog 308 (.mk F) = F ⟨false, 1, 8, [.nilf], .other⟩ := withTy_eq tyo_308 F
theorem tyo_309 : tyOf Go.Proofs.Try.prog 309 = some ⟨false, 1, 8, [.nilf], .other⟩ := by kernel_rfl
@[go_sem] theorem ty_309 (F : TyI → Prop) : withTy Go.Proofs.Try.prog 309 (.mk F) = F ⟨false, 1, 8, [.nilf], .other⟩ := withTy_eq tyo_309 F
theorem tyo_310 : tyOf Go.Proofs.Try.prog 310 = some ⟨false, 1, 8, [.nilf], .other⟩ := by kernel_rfl
@[go_sem] theorem ty_310 (F : TyI → Prop) : withTy Go.Proofs.Try.prog 310 (.mk F) = F ⟨false, 1, 8, [.nilf], .other⟩ := withTy_eq tyo_310 F
theorem tyo_311 : tyOf Go.Proofs.Try.prog 311 = some ⟨false, 1, 24, [.nils], .slice 5 56 [.int .i64 0, .int .i64 0, .int .i64 0, .int .i64 0, .nils]⟩ := by kernel_rfl
@[go_sem] theorem ty_311 (F : TyI → Prop) : withTy Go.Proofs.Try.prog 311 (.mk F) = F ⟨false, 1, 24, [.nils], .slice 5 56 [.int .i64 0, .int .i64 0, .int .i64 0, .int .i64 0, .nils]⟩ := withTy_eq tyo_311 F
theorem tyo_312 : tyOf Go.Proofs.Try.prog 312 = some ⟨false, 1, 8, [.nilf], .other⟩ := by kernel_rfl
@[go_sem] theorem ty_312 (F : TyI → Prop) : withTy Go.Proofs.Try.prog 312 (.mk F) = F ⟨false, 1, 8, [.nilf], .other⟩ := withTy_eq tyo_312 F
theorem tyo_313 : tyOf Go.Proofs.Try.prog 313 = some ⟨false, 1, 8, [.nilf], .other⟩ := by kernel_rfl
@[go_sem] theorem ty_313 (F : TyI → Prop) : withTy Go.Proofs.Try.prog 313 (.mk F) = F ⟨false, 1, 8, [.nilf], .other⟩ := withTy_eq tyo_313 F
theorem tyo_315 : tyOf Go.Proofs.Try.prog 315 = some ⟨false, 1, 8, [.nilf], .other⟩ := by kernel_rfl
@[go_sem] theorem ty_315 (F : TyI → Prop) : withTy Go.Proofs.Try.prog 315 (.mk F) = F ⟨false, 1, 8, [.nilf], .other⟩ := withTy_eq tyo_315 F
theorem tyo_316 : tyOf Go.Proofs.Try.prog 316 = some ⟨false, 1, 24, [.nils], .slice 1 24 [.nils]⟩ := by kernel_rfl
@[go_sem] theorem ty_316 (F : TyI → Prop) : withTy Go.Proofs.Try.prog 316 (.mk F) = F ⟨false, 1, 24, [.nils], .slice 1 24 [.nils]⟩ := withTy_eq tyo_316 F
theorem tyo_317 : tyOf Go.Proofs.Try.prog 317 = some ⟨false, 1, 8, [.nilf], .other⟩ := by kernel_rfl
@[go_sem] theorem ty_317 (F : TyI → Prop) : withTy Go.Proofs.Try.prog 317 (.mk F) = F ⟨false, 1, 8, [.nilf], .other⟩ := withTy_eq tyo_317 F
theorem tyo_318 : tyOf Go.Proofs.Try.prog 318 = some ⟨false, 1, 8, [.nilf], .other⟩ := by kernel_rfl
@[go_sem] theorem ty_318 (F : TyI → Prop) : withTy Go.Proofs.Try.prog 318 (.mk F) = F ⟨false, 1, 8, [.nilf], .other⟩ := withTy_eq tyo_318 F
theorem tyo_319 : tyOf Go.Proofs.Try.prog 319 = some ⟨false, 1, 8, [.nilf], .other⟩ := by kernel_rfl
@[go_sem] theorem ty_319 (F : TyI → Prop) : withTy Go.Proofs.Try.prog 319 (.mk F) = F ⟨false, 1, 8, [.nilf], .other⟩ := withTy_eq tyo_319 F
theorem tyo_320 : tyOf Go.Proofs.Try.prog 320 = some ⟨false, 1, 8, [.nilf], .other⟩ := by kernel_rfl
@[go_sem] theorem ty_320 (F : TyI → Prop) : withTy Go.Proofs.Try.prog 320 (.mk F) = F ⟨false, 1, 8, [.nilf], .other⟩ := withTy_eq tyo_320 F
theorem tyo_321 : tyOf Go.Proofs.Try.prog 321 = some ⟨false, 1, 24, [.nils], .slice 1 16 [.str { data := { toList := [] } }]⟩ := by kernel_rfl
@[go_sem] theorem ty_321 (F : TyI → Prop) : withTy Go.Proofs.Try.prog 321 (.mk F) = F ⟨false, 1, 24, [.nils], .slice 1 16 [.str { data := { toList := [] } }]⟩ := withTy_eq tyo_321 F
theorem tyo_322 : tyOf Go.Proofs.Try.prog 322 = some ⟨false, 1, 8, [.nilf], .other⟩ := by kernel_rfl
@[go_sem] theorem ty_322 (F : TyI → Prop) : withTy Go.Proofs.Try.prog 322 (.mk F) = F ⟨false, 1, 8, [.nilf], .other⟩ := withTy_eq tyo_322 F
theorem tyo_323 : tyOf Go.Proofs.Try.prog 323 = some ⟨false, 1, 8, [.nilf], .other⟩ := by kernel_rfl
@[go_sem] theorem ty_323 (F : TyI → Prop) : withTy Go.Proofs.Try.prog 323 (.mk F) = F ⟨false, 1, 8, [.nilf], .other⟩ := withTy_eq tyo_323 F
theorem tyo_324 : tyOf Go.Proofs.Try.prog 324 = some ⟨false, 1, 8, [.nilf], .other⟩ := by kernel_rfl
@[go_sem] theorem ty_324 (F : TyI → Prop) : withTy Go.Proofs.Try.prog 324 (.mk F) = F ⟨false, 1, 8, [.nilf], .other⟩ := withTy_eq tyo_324 F
theorem tyo_325 : tyOf Go.Proofs.Try.prog 325 = some ⟨false, 1, 8, [.nilf], .other⟩ := by kernel_rfl
@[go_sem] theorem ty_325 (F : TyI → Prop) : withTy Go.Proofs.Try.prog 325 (.mk F) = F ⟨false, 1, 8, [.nilf], .other⟩ := withTy_eq tyo_325 F
theorem tyo_326 : tyOf Go.Proofs.Try.prog 326 = some ⟨false, 1, 8, [.nilf], .other⟩ := by kernel_rfl
@[go_sem] theorem ty_326 (F : TyI → Prop) : withTy Go.Proofs.Try.prog 326 (.mk F) = F ⟨false, 1, 8, [.nilf], .other⟩ := withTy_eq tyo_326 F
theorem tyo_327 : tyOf Go.Proofs.Try.prog 327 = some ⟨false, 1, 8, [.nilf], .other⟩ := by kernel_rfl
@[go_sem] theorem ty_327 (F : TyI → Prop) : withTy Go.Proofs.Try.prog 327 (.mk F) = F ⟨false, 1, 8, [.nilf], .other⟩ := withTy_eq tyo_327 F
theorem tyo_328 : tyOf Go.Proofs.Try.prog 328 = some ⟨false, 1, 8, [.nilf], .other⟩ := by kernel_rfl
@[go_sem] theorem ty_328 (F : TyI → Prop) : withTy Go.Proofs.Try.prog 328 (.mk F) = F ⟨false, 1, 8, [.nilf], .other⟩ := withTy_eq tyo_328 F
theorem tyo_329 : tyOf Go.Proofs.Try.prog 329 = some ⟨true, 4, 40, [.nilp, .nilp, .nilp, .str { data := { toList := [] } }], .struct [(0, 1), (1, 1), (2, 1), (3, 1)]⟩ := by kernel_rfl
@[go_sem] theorem ty_329 (F : TyI → Prop) : withTy Go.Proofs.Try.prog 329 (.mk F) = F ⟨true, 4, 40, [.nilp, .nilp, .nilp, .str { data := { toList := [] } }], .struct [(0, 1), (1, 1), (2, 1), (3, 1)]⟩ := withTy_eq tyo_329 F
theorem tyo_330 : tyOf Go.Proofs.Try.prog 330 = some ⟨true, 4, 40, [.nilp, .nilp, .nilp, .str { data := { toList := [] } }], .struct [(0, 1), (1, 1), (2, 1), (3, 1)]⟩ := by kernel_rfl
@[go_sem] theorem ty_330 (F : TyI → Prop) : withTy Go.Proofs.Try.prog 330 (.mk F) = F ⟨true, 4, 40, [.nilp, .nilp, .nilp, .str { data := { toList := [] } }], .struct [(0, 1), (1, 1), (2, 1), (3, 1)]⟩ := withTy_eq tyo_330 F
theorem tyo_331 : tyOf Go.Proofs.Try.prog 331 = some ⟨true, 0, 0, [], .array 0 1 false⟩ := by kernel_rfl
@[go_sem] theorem ty_331 (F : TyI → Prop) : withTy Go.Proofs.Try.prog 331 (.mk F) = F ⟨true, 0, 0, [], .array 0 1 false⟩ := withTy_eq tyo_331 F
theorem tyo_332 : tyOf Go.Proofs.Try.prog 332 = some ⟨true, 0, 0, [], .struct [(0, 0)]⟩ := by kernel_rfl
@[go_sem] theorem ty_332 (F : TyI → Prop) : withTy Go.Proofs.Try.prog 332 (.mk F) = F ⟨true, 0, 0, [], .struct [(0, 0)]⟩ := withTy_eq tyo_332 F
theorem tyo_333 : tyOf Go.Proofs.Try.prog 333 = some ⟨true, 0, 0, [], .struct [(0, 0)]⟩ := by kernel_rfl
@[go_sem] theorem ty_333 (F : TyI → Prop) : withTy Go.Proofs.Try.prog 333 (.mk F) = F ⟨true, 0, 0, [], .struct [(0, 0)]⟩ := withTy_eq tyo_333 F
theorem tyo_334 : tyOf Go.Proofs.Try.prog 334 = some ⟨false, 1, 8, [.nilf], .other⟩ := by kernel_rfl
@[go_sem] theorem ty_334 (F : TyI → Prop) : withTy Go.Proofs.Try.prog 334 (.mk F) = F ⟨false, 1, 8, [.nilf], .other⟩ := withTy_eq tyo_334 F
theorem tyo_335 : tyOf Go.Proofs.Try.prog 335 = some ⟨false, 1, 4, [.int .u32 0], .int .u32⟩ := by kernel_rfl
@[go_sem] theorem ty_335 (F : TyI → Prop) : withTy Go.Proofs.Try.prog 335 (.mk F) = F ⟨false, 1, 4, [.int .u32 0], .int .u32⟩ := withTy_eq tyo_335 F
theorem tyo_336 : tyOf Go.Proofs.Try.prog 336 = some ⟨false, 1, 1, [.int .u8 0], .int .u8⟩ := by kernel_rfl
@[go_sem] theorem ty_336 (F : TyI → Prop) : withTy Go.Proofs.Try.prog 336 (.mk F) = F ⟨false, 1, 1, [.int .u8 0], .int .u8⟩ := withTy_eq tyo_336 F
theorem tyo_337 : tyOf Go.Proofs.Try.prog 337 = some ⟨false, 1, 1, [.int .u8 0], .int .u8⟩ := by kernel_rfl
@[go_sem] theorem ty_337 (F : TyI → Prop) : withTy Go.Proofs.Try.prog 337 (.mk F) = F ⟨false, 1, 1, [.int .u8 0], .int .u8⟩ := withTy_eq tyo_337 F
theorem tyo_338 : tyOf Go.Proofs.Try.prog 338 = some ⟨false, 1, 8, [.nilf], .other⟩ := by kernel_rfl
@[go_sem] theorem ty_338 (F : TyI → Prop) : withTy Go.Proofs.Try.prog 338 (.mk F) = F ⟨false, 1, 8, [.nilf], .other⟩ := withTy_eq tyo_338 F
theorem tyo_339 : tyOf Go.Proofs.Try.prog 339 = some ⟨false, 1, 8, [.nilp], .other⟩ := by kernel_rfl
@[go_sem] theorem ty_339 (F : TyI → Prop) : withTy Go.Proofs.Try.prog 339 (.mk F) = F ⟨false, 1, 8, [.nilp], .other⟩ := withTy_eq tyo_339 F
theorem tyo_340 : tyOf Go.Proofs.Try.prog 340 = some ⟨false, 1, 4, [.int .i32 0], .int .i32⟩ := by kernel_rfl
@[go_sem] theorem ty_340 (F : TyI → Prop) : withTy Go.Proofs.Try.prog 340 (.mk F) = F ⟨false, 1, 4, [.int .i32 0], .int .i32⟩ := withTy_eq tyo_340 F
theorem tyo_341 : tyOf Go.Proofs.Try.prog 341 = some ⟨false, 1, 4, [.int .i32 0], .int .i32⟩ := by kernel_rfl
@[go_sem] theorem ty_341 (F : TyI → Prop) : withTy Go.Proofs.Try.prog 341 (.mk F) = F ⟨false, 1, 4, [.int .i32 0], .int .i32⟩ := withTy_eq tyo_341 F
theorem tyo_342 : tyOf Go.Proofs.Try.prog 342 = some ⟨true, 11, 48, [.int .u64 0, .int .u64 0, .int .u32 0, .int .u8 0, .int .u8 0, .int .u8 0, .int .u8 0, .nilf, .nilp, .int .i32 0, .int .i32 0], .struct [(0, 1), (1, 1), (2, 1), (3, 1), (4, 1), (5, 1), (6, 1), (7, 1), (8, 1), (9, 1), (10, 1)]⟩ := by kernel_rfl
@[go_sem] theorem ty_342 (F : TyI → Prop) : withTy Go.Proofs.Try.prog 342 (.mk F) = F ⟨true, 11, 48, [.int .u64 0, .int .u64 0, .int .u32 0, .int .u8 0, .int .u8 0, .int .u8 0, .int .u8 0, .nilf, .nilp, .int .i32 0, .int .i32 0], .struct [(0, 1), (1, 1), (2, 1), (3, 1), (4, 1), (5, 1), (6, 1), (7, 1), (8, 1), (9, 1), (10, 1)]⟩ := withTy_eq tyo_342 F
theorem tyo_343 : tyOf Go.Proofs.Try.prog 343 = some ⟨true, 11, 48, [.int .u64 0, .int .u64 0, .int .u32 0, .int .u8 0, .int .u8 0, .int .u8 0, .int .u8 0, .nilf, .nilp, .int .i32 0, .int .i32 0], .struct [(0, 1), (1, 1), (2, 1), (3, 1), (4, 1), (5, 1), (6, 1), (7, 1), (8, 1), (9, 1), (10, 1)]⟩ := by kernel_rfl
@[go_sem] theorem ty_343 (F : TyI → Prop) : withTy Go.Proofs.Try.prog 343 (.mk F) = F ⟨true, 11, 48, [.int .u64 0, .int .u64 0, .int .u32 0, .int .u8 0, .int .u8 0, .int .u8 0, .int .u8 0, .nilf, .nilp, .int .i32 0, .int .i32 0], .struct [(0, 1), (1, 1), (2, 1), (3, 1), (4, 1), (5, 1), (6, 1), (7, 1), (8, 1), (9, 1), (10, 1)]⟩ := withTy_eq tyo_343 F
theorem tyo_344 : tyOf Go.Proofs.Try.prog 344 = some ⟨false, 1, 8, [.nilp], .other⟩ := by kernel_rfl
@[go_sem] theorem ty_344 (F : TyI → Prop) : withTy Go.Proofs.Try.prog 344 (.mk F) = F ⟨false, 1, 8, [.nilp], .other⟩ := withTy_eq tyo_344 F
end Go.Proofs.Ytkalaahmbdimfaa
