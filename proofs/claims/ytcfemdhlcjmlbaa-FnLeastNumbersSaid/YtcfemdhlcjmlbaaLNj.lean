/- What the row needs, part 10 of 17: the texts DR2, EQ, without what it does not use. -/
import Derived.Test.YtcfemdhlcjmlbaaProg
import Derived.Test.YtcfemdhlcjmlbaaLNa
import Derived.Test.YtcfemdhlcjmlbaaLNb
import Derived.Test.YtcfemdhlcjmlbaaLNc
import Derived.Test.YtcfemdhlcjmlbaaLNd
import Derived.Test.YtcfemdhlcjmlbaaLNe
import Derived.Test.YtcfemdhlcjmlbaaLNi
/- Draws: the source of a code, one of some numbers, a number near a range, small sizes. -/
namespace Go.Proofs.Ytcfemdhlcjmlbaa
open Go Go.Abs
set_option maxRecDepth 100000

/- loop.example/g01262/spec.l01From -/
def c_spec_l01From : SFn := ⟨(.seq (.ops [⟨some 2, .assign (.const (.pointer none)), none⟩])
 (.seq (.ops [⟨some 5, .move (.tmp 0), none⟩, ⟨some 6, .move (.tmp 0), none⟩, ⟨some 7, .call ⟨.builtin .len, #[.tmp 6], #[22]⟩, none⟩, ⟨some 8, .convert 3 35 (.tmp 7), none⟩, ⟨some 9, .binOp .add 35 (.const (.int .u64 12619)) (.tmp 8) 35, none⟩, ⟨some 10, .build 210 #[(0, .tmp 5), (2, .tmp 9)], none⟩, ⟨some 11, .box 210 (.tmp 10), none⟩, ⟨some 3, .assign (.tmp 11), none⟩])
  (.seq (.seq (.ops [⟨some 4, .assign (.const (.int .i64 0)), none⟩])
    (.block 0 (.loop (.seq (.seq (.ops [⟨some 12, .move (.tmp 4), none⟩, ⟨some 13, .move (.tmp 0), none⟩, ⟨some 14, .call ⟨.builtin .len, #[.tmp 13], #[22]⟩, none⟩, ⟨some 15, .binOp .lss 3 (.tmp 12) (.tmp 14) 3, none⟩, ⟨some 16, .move (.tmp 15), none⟩, ⟨some 17, .move (.tmp 4), some (16, true)⟩, ⟨some 18, .binOp .lss 3 (.tmp 17) (.const (.int .i64 4096)) 3, some (16, true)⟩, ⟨some 19, .pick (.tmp 16) (.tmp 18) (.const (.bool false)), none⟩])
        (.cond (.tmp 19) .skip
         (.exit 0)))
       (.seq (.block 1 (.opsD [⟨some 22, .move (.tmp 3), none⟩, ⟨some 23, .move (.tmp 3), none⟩, ⟨some 24, .nilCheck (.tmp 23), none⟩, ⟨some 25, .fieldAddr 210 (.tmp 24) 2, none⟩, ⟨some 26, .load 35 (.tmp 25), none⟩, ⟨some 27, .binOp .mul 35 (.tmp 26) (.const (.int .u64 1099511628211)) 35, none⟩, ⟨some 28, .move (.tmp 0), none⟩, ⟨some 29, .move (.tmp 4), none⟩, ⟨some 30, .indexAddr 22 (.tmp 28) (.tmp 29), none⟩, ⟨some 31, .load 5 (.tmp 30), none⟩, ⟨some 32, .convert 5 35 (.tmp 31), none⟩, ⟨some 33, .binOp .add 35 (.tmp 27) (.tmp 32) 35, none⟩, ⟨some 34, .binOp .add 35 (.tmp 33) (.const (.int .u64 79)) 35, none⟩, ⟨some 35, .nilCheck (.tmp 22), none⟩, ⟨some 36, .fieldAddr 210 (.tmp 35) 2, none⟩, ⟨none, .store 35 (.tmp 36) (.tmp 34), none⟩] [(4, 9)]))
        (.ops [⟨some 20, .move (.tmp 4), none⟩, ⟨some 21, .binOp .add 3 (.tmp 20) (.const (.int .i64 1)) 3, none⟩, ⟨some 4, .assign (.tmp 21), none⟩]))))))
   (.seq (.ops [⟨some 37, .move (.tmp 3), none⟩, ⟨some 2, .assign (.tmp 37), none⟩])
    .ret)))), [.tmp 2], 38⟩
theorem f_spec_l01From : isFn Go.Proofs.Try.prog 106 = some c_spec_l01From := by kernel_rfl


/- loop.example/g01262/spec.l01Pick -/
def c_spec_l01Pick : SFn := ⟨(.seq (.ops [⟨some 4, .assign (.const (.int .i64 0)), none⟩])
 (.seq (.ops [⟨some 5, .move (.tmp 1), none⟩, ⟨some 6, .move (.tmp 0), none⟩, ⟨some 7, .move (.tmp 1), none⟩, ⟨some 8, .call ⟨.builtin .len, #[.tmp 7], #[36]⟩, none⟩, ⟨some 9, .call ⟨.value (.func 112), #[.tmp 6, .tmp 8], #[111, 2]⟩, none⟩, ⟨some 10, .indexAddr 36 (.tmp 5) (.tmp 9), none⟩, ⟨some 11, .load 2 (.tmp 10), none⟩, ⟨some 4, .assign (.tmp 11), none⟩])
  .ret)), [.tmp 4], 12⟩
theorem f_spec_l01Pick : isFn Go.Proofs.Try.prog 111 = some c_spec_l01Pick := by kernel_rfl


/- loop.example/g01262/spec.l01Near -/

/- loop.example/g01262/spec.l10Sizes -/
def c_spec_l10Sizes : SFn := ⟨(.seq (.ops [⟨some 2, .assign (.const (.int .i64 0)), none⟩, ⟨some 3, .assign (.const (.int .i64 0)), none⟩, ⟨some 4, .assign (.const (.int .i64 0)), none⟩])
 (.seq (.ops [⟨some 8, .move (.tmp 0), none⟩, ⟨some 9, .call ⟨.value (.func 112), #[.tmp 8, .const (.int .i64 2)], #[111, 2]⟩, none⟩, ⟨some 10, .binOp .add 2 (.const (.int .i64 1)) (.tmp 9) 2, none⟩, ⟨some 11, .move (.tmp 0), none⟩, ⟨some 12, .call ⟨.value (.func 112), #[.tmp 11, .const (.int .i64 2)], #[111, 2]⟩, none⟩, ⟨some 13, .binOp .add 2 (.const (.int .i64 1)) (.tmp 12) 2, none⟩, ⟨some 14, .move (.tmp 0), none⟩, ⟨some 15, .call ⟨.value (.func 112), #[.tmp 14, .const (.int .i64 2)], #[111, 2]⟩, none⟩, ⟨some 16, .binOp .add 2 (.const (.int .i64 1)) (.tmp 15) 2, none⟩, ⟨some 5, .assign (.tmp 10), none⟩, ⟨some 6, .assign (.tmp 13), none⟩, ⟨some 7, .assign (.tmp 16), none⟩])
  (.seq (.seq (.ops [⟨some 17, .move (.tmp 5), none⟩, ⟨some 18, .move (.tmp 6), none⟩, ⟨some 19, .binOp .mul 2 (.tmp 17) (.tmp 18) 2, none⟩, ⟨some 20, .move (.tmp 7), none⟩, ⟨some 21, .binOp .mul 2 (.tmp 19) (.tmp 20) 2, none⟩, ⟨some 22, .binOp .gtr 2 (.tmp 21) (.const (.int .i64 4)) 2, none⟩, ⟨some 23, .move (.tmp 22), none⟩, ⟨some 24, .move (.tmp 0), some (23, true)⟩, ⟨some 25, .call ⟨.value (.func 112), #[.tmp 24, .const (.int .i64 12)], #[111, 2]⟩, some (23, true)⟩, ⟨some 26, .binOp .gtr 2 (.tmp 25) (.const (.int .i64 0)) 2, some (23, true)⟩, ⟨some 27, .pick (.tmp 23) (.tmp 26) (.const (.bool false)), none⟩])
    (.cond (.tmp 27) (.ops [⟨some 7, .assign (.const (.int .i64 1)), none⟩])
     .skip))
   (.seq (.seq (.ops [⟨some 28, .move (.tmp 0), none⟩, ⟨some 29, .call ⟨.value (.func 112), #[.tmp 28, .const (.int .i64 16)], #[111, 2]⟩, none⟩, ⟨some 30, .binOp .eql 2 (.tmp 29) (.const (.int .i64 0)) 2, none⟩])
     (.cond (.tmp 30) (.ops [⟨some 31, .move (.tmp 0), none⟩, ⟨some 32, .buildSlice 36 3 #[(0, .const (.int .i64 0)), (1, .const (.int .i64 3)), (2, .const (.int .i64 4))], none⟩, ⟨some 33, .call ⟨.value (.func 111), #[.tmp 31, .tmp 32], #[111, 36]⟩, none⟩, ⟨some 6, .assign (.tmp 33), none⟩])
      .skip))
    (.seq (.ops [⟨some 34, .move (.tmp 5), none⟩, ⟨some 35, .move (.tmp 6), none⟩, ⟨some 36, .move (.tmp 7), none⟩, ⟨some 2, .assign (.tmp 34), none⟩, ⟨some 3, .assign (.tmp 35), none⟩, ⟨some 4, .assign (.tmp 36), none⟩])
     .ret))))), [.tmp 2, .tmp 3, .tmp 4], 37⟩
theorem f_spec_l10Sizes : isFn Go.Proofs.Try.prog 105 = some c_spec_l10Sizes := by kernel_rfl


/- loop.example/g01262/spec.DrawLeastNumber -/
def c_spec_DrawLeastNumber : SFn := ⟨(.seq (.ops [⟨some 2, .assign (.const (.int .i64 0)), none⟩, ⟨some 3, .assign (.const (.int .i64 0)), none⟩, ⟨some 4, .assign (.const (.int .i64 0)), none⟩])
 (.seq (.ops [⟨some 9, .move (.tmp 0), none⟩, ⟨some 10, .call ⟨.value (.func 106), #[.tmp 9], #[22]⟩, none⟩, ⟨some 11, .call ⟨.value (.func 105), #[.tmp 10], #[111]⟩, none⟩, ⟨some 8, .move (.tmp 11), none⟩, ⟨some 12, .extract (.tmp 8) 0, none⟩, ⟨some 13, .extract (.tmp 8) 1, none⟩, ⟨some 14, .extract (.tmp 8) 2, none⟩, ⟨some 5, .assign (.tmp 12), none⟩, ⟨some 6, .assign (.tmp 13), none⟩, ⟨some 7, .assign (.tmp 14), none⟩])
  (.seq (.ops [⟨some 15, .move (.tmp 5), none⟩, ⟨some 16, .move (.tmp 6), none⟩, ⟨some 17, .move (.tmp 7), none⟩, ⟨some 2, .assign (.tmp 15), none⟩, ⟨some 3, .assign (.tmp 16), none⟩, ⟨some 4, .assign (.tmp 17), none⟩])
   .ret))), [.tmp 2, .tmp 3, .tmp 4], 18⟩
theorem f_spec_DrawLeastNumber : isFn Go.Proofs.Try.prog 11 = some c_spec_DrawLeastNumber := by kernel_rfl


/- loop.example/g01262/spec.DrawAllPairs -/
def c_spec_DrawAllPairs : SFn := ⟨(.seq (.ops [⟨some 2, .assign (.const (.int .i64 0)), none⟩, ⟨some 3, .assign (.const (.int .i64 0)), none⟩, ⟨some 4, .assign (.const (.int .i64 0)), none⟩])
 (.seq (.ops [⟨some 9, .move (.tmp 0), none⟩, ⟨some 10, .call ⟨.value (.func 106), #[.tmp 9], #[22]⟩, none⟩, ⟨some 11, .call ⟨.value (.func 105), #[.tmp 10], #[111]⟩, none⟩, ⟨some 8, .move (.tmp 11), none⟩, ⟨some 12, .extract (.tmp 8) 0, none⟩, ⟨some 13, .extract (.tmp 8) 1, none⟩, ⟨some 14, .extract (.tmp 8) 2, none⟩, ⟨some 5, .assign (.tmp 12), none⟩, ⟨some 6, .assign (.tmp 13), none⟩, ⟨some 7, .assign (.tmp 14), none⟩])
  (.seq (.ops [⟨some 15, .move (.tmp 5), none⟩, ⟨some 16, .move (.tmp 6), none⟩, ⟨some 17, .move (.tmp 7), none⟩, ⟨some 2, .assign (.tmp 15), none⟩, ⟨some 3, .assign (.tmp 16), none⟩, ⟨some 4, .assign (.tmp 17), none⟩])
   .ret))), [.tmp 2, .tmp 3, .tmp 4], 18⟩
theorem f_spec_DrawAllPairs : isFn Go.Proofs.Try.prog 17 = some c_spec_DrawAllPairs := by kernel_rfl


/- loop.example/g01262/spec.DrawCountPairSets -/
def c_spec_DrawCountPairSets : SFn := ⟨(.seq (.ops [⟨some 2, .assign (.const (.int .i64 0)), none⟩, ⟨some 3, .assign (.const (.int .i64 0)), none⟩, ⟨some 4, .assign (.const (.int .i64 0)), none⟩, ⟨some 5, .assign (.const (.int .i64 0)), none⟩])
 (.seq (.ops [⟨some 10, .move (.tmp 0), none⟩, ⟨some 11, .call ⟨.value (.func 106), #[.tmp 10], #[22]⟩, none⟩, ⟨some 6, .assign (.tmp 11), none⟩])
  (.seq (.ops [⟨some 13, .move (.tmp 6), none⟩, ⟨some 14, .call ⟨.value (.func 105), #[.tmp 13], #[111]⟩, none⟩, ⟨some 12, .move (.tmp 14), none⟩, ⟨some 15, .extract (.tmp 12) 0, none⟩, ⟨some 16, .extract (.tmp 12) 1, none⟩, ⟨some 17, .extract (.tmp 12) 2, none⟩, ⟨some 7, .assign (.tmp 15), none⟩, ⟨some 8, .assign (.tmp 16), none⟩, ⟨some 9, .assign (.tmp 17), none⟩])
   (.seq (.ops [⟨some 18, .move (.tmp 7), none⟩, ⟨some 19, .move (.tmp 8), none⟩, ⟨some 20, .move (.tmp 9), none⟩, ⟨some 21, .move (.tmp 6), none⟩, ⟨some 22, .move (.tmp 6), none⟩, ⟨some 23, .call ⟨.value (.func 112), #[.tmp 22, .const (.int .i64 6)], #[111, 2]⟩, none⟩, ⟨some 24, .buildSlice 36 6 #[(0, .const (.int .i64 0)), (1, .const (.int .i64 1)), (2, .const (.int .i64 2)), (3, .const (.int .i64 2)), (4, .const (.int .i64 3)), (5, .tmp 23)], none⟩, ⟨some 25, .call ⟨.value (.func 111), #[.tmp 21, .tmp 24], #[111, 36]⟩, none⟩, ⟨some 2, .assign (.tmp 18), none⟩, ⟨some 3, .assign (.tmp 19), none⟩, ⟨some 4, .assign (.tmp 20), none⟩, ⟨some 5, .assign (.tmp 25), none⟩])
    .ret)))), [.tmp 2, .tmp 3, .tmp 4, .tmp 5], 26⟩
theorem f_spec_DrawCountPairSets : isFn Go.Proofs.Try.prog 14 = some c_spec_DrawCountPairSets := by kernel_rfl


set_option maxRecDepth 100000
set_option maxHeartbeats 16000000
set_option linter.unusedVariables false
attribute [-simp] List.getD_eq_getElem?_getD
attribute [-go_sem] confV

theorem ret_newI {P : Program} {G : Heap} {N : Nat} {L : List Slot} {T : List AV} (hN : ∀ k, N ≤ k → G k = .free) (n j : Nat) (cs : List Cell) {rs : List ResultVar} {val : AV} (vs : List AV) (hr : resAll P T ⟨G, N, L⟩ rs vs) (hn : G n = .free) (hL : gd L j = .live ⟨cs, true⟩) (hc : ∀ x ∈ cs, ∀ i ∈ x.ids, G i ≠ .free)
    (hp : plainT val = true) (hi : ∀ i ∈ val.idsT, i = n ∨ G i ≠ .free) (he : resOf vs = renT (fun k => if k = n then nid N j else k) val) : retS P rs G N val [(n, .live ⟨cs, true⟩)] .ret T ⟨G, N, L⟩ := by
  have hm : cs.map (Cell.mapIds (nameOf N [(n, j, cs)])) = cs := by
    refine (List.map_congr_left fun x hx => ?_).trans (List.map_id cs)
    exact mapIds_same fun i hh => nameOf_out (ns := [(n, j, cs)]) (by simp only [List.mem_singleton]; rintro y rfl e; dsimp only at e; exact hc x hx i hh (by rw [← e]; exact hn))
  refine ⟨vs, nameOf N [(n, j, cs)], hr, Final.gen hN [] (by intro p hp; cases hp) [(n, j, cs)] (by simp) (by simp) (by simpa using hn) (by simp only [List.mem_singleton]; rintro x rfl; rw [hm]; exact hL)
    (by simp only [List.mem_singleton]; rintro x rfl c hcc i hi; exact .inr (hc c hcc i hi)) ?_⟩
  rw [he]
  exact Named.of hp fun i hh => by simpa using hi i hh
/-- The hash of a code's first bytes. -/
def frH (code : List Int) : Nat → Int
  | 0 => wr .u64 (12619 + wr .u64 code.length)
  | i + 1 => wr .u64 (wr .u64 (wr .u64 (frH code i * 1099511628211) + wr .u64 (code.getD i 0)) + 79)
theorem from_spec {code : List Int} {c : Cell} {rs : List (Nat × AObj)} {n : Nat} (hS : Src code c rs n) : FSpec Try.prog 106 [.c c] (.c (.ptr n 0)) rs [(n, .live ⟨srcO c (0, frH code code.length), true⟩)] := by
  have hl := hS.len
  refine FSpec.of f_spec_l01From (Nat.le_of_ble_eq_true rfl) fun G N hN hr hw => ?_
  simp only [c_spec_l01From, List.length_cons, List.length_nil, List.replicate, List.cons_append, List.nil_append]
  have hfree : G n = .free := by
    rcases (hw _ (List.mem_singleton.2 rfl)).2 with ⟨ob, h⟩ | h
    · exact absurd rfl (hS.ne _ h)
    · exact h
  repeat' (first | (with_reducible first | refine W1 ?_ | refine W2 ?_ | refine W3 ?_ | refine W4 mixed ?_ | refine W5 ?_ | refine W6 ?_ | refine W7 ?_ | refine W8 ?_ | refine W9 ?_ | refine V1 ?_ | refine V2 ?_ | refine V3 ?_ | refine V4 (by decide) ?_ | refine V5 ?_ | refine V6 ?_ | refine V7 ?_ | refine V8 ?_ | refine V9 ?_ | refine U1 ?_ | refine U2 ?_ | refine U3 ?_) | (with_reducible refine U4 ?_ ?_; next => first | omega | exact ⟨trivial, by omega⟩) | simp (maxSteps := 2000000) (discharger := first | omega | (simp (discharger := omega) only [Z1, Z2, Z3, Z4, Z5, Z6, Z7] <;> fail) | (simp (discharger := omega) only [Z3, Z8, Z2, Z4, Z1, Z7, Z5, Z6, Z9, Y1, Y2]; omega)) only [go_sem, hS.sl.len (P := Try.prog)])
  refine swp_for (fun (i : Nat) => ([.c c, .any, .any, .c (.ptr (nid N 0) 0), .c (.int .i64 ((i : Nat) : Int))] ++ List.replicate 33 .any)) (fun i => ⟨G, N, [.live ⟨[c, .int .i64 0, .int .u64 (frH code i)], true⟩]⟩) (fun i => code.length - i) (fun i => i ≤ code.length) 0 (Nat.zero_le _) rfl (by repeat' (first | exact trivial | exact .inl rfl | exact .inr rfl | refine ⟨?_, ?_⟩)) ?_
  intro i hi
  simp only [List.replicate, List.cons_append, List.nil_append]
  by_cases hlt : i < code.length
  · obtain ⟨k0, own, rfl, rfl, hlen⟩ := hS.sl.some hlt
    have ⟨g1, g2⟩ := hr _ (List.mem_singleton.2 rfl)
    dsimp only at g1 g2
    have x1 : decide (((i : Nat) : Int) < ((code.length : Nat) : Int)) = true := decide_eq_true (by omega)
    have x2 : decide (((i : Nat) : Int) < 4096) = true := decide_eq_true (by omega)
    repeat' (first | (with_reducible first | refine W1 ?_ | refine W2 ?_ | refine W3 ?_ | refine W4 mixed ?_ | refine W5 ?_ | refine W6 ?_ | refine W7 ?_ | refine W8 ?_ | refine W9 ?_ | refine V1 ?_ | refine V2 ?_ | refine V3 ?_ | refine V4 (by decide) ?_ | refine V5 ?_ | refine V6 ?_ | refine V7 ?_ | refine V8 ?_ | refine V9 ?_ | refine U1 ?_ | refine U2 ?_ | refine U3 ?_) | (with_reducible refine U4 ?_ ?_; next => first | omega | exact ⟨trivial, by omega⟩) | ((with_reducible refine U5 _ rfl (fun hq => ?_) (fun hq => ?_)) <;> try (first | (cases hq; done) | exact absurd hq (by decide))) | ((with_reducible refine U6 (fun hq => ?_) (fun hq => ?_)) <;> try (first | (cases hq; done) | exact absurd hq (by decide))) | simp (maxSteps := 2000000) (discharger := first | omega | (simp (discharger := omega) only [Z1, Z2, Z3, Z4, Z5, Z6, Z7] <;> fail) | (simp (discharger := omega) only [Z3, Z8, Z2, Z4, Z1, Z7, Z5, Z6, Z9, Y1, Y2]; omega)) only [go_sem, x1, x2, g1])
    refine must_intro (by simp [confV, apart, notIn, lk]) ?_
    repeat' (first | (with_reducible first | refine W1 ?_ | refine W2 ?_ | refine W3 ?_ | refine W4 mixed ?_ | refine W5 ?_ | refine W6 ?_ | refine W7 ?_ | refine W8 ?_ | refine W9 ?_ | refine V1 ?_ | refine V2 ?_ | refine V3 ?_ | refine V4 (by decide) ?_ | refine V5 ?_ | refine V6 ?_ | refine V7 ?_ | refine V8 ?_ | refine V9 ?_ | refine U1 ?_ | refine U2 ?_ | refine U3 ?_) | (with_reducible refine U4 ?_ ?_; next => first | omega | exact ⟨trivial, by omega⟩) | ((with_reducible refine U5 _ rfl (fun hq => ?_) (fun hq => ?_)) <;> try (first | (cases hq; done) | exact absurd hq (by decide))) | ((with_reducible refine U6 (fun hq => ?_) (fun hq => ?_)) <;> try (first | (cases hq; done) | exact absurd hq (by decide))) | simp (maxSteps := 2000000) (discharger := first | omega | (simp (discharger := omega) only [Z1, Z2, Z3, Z4, Z5, Z6, Z7] <;> fail) | (simp (discharger := omega) only [Z3, Z8, Z2, Z4, Z1, Z7, Z5, Z6, Z9, Y1, Y2]; omega)) only [go_sem, x1, x2, g1])
    exact forK_same (i + 1) (by omega) (by omega) (by rw [frH]) (by repeat' (first | exact trivial | exact .inl rfl | exact .inr rfl | refine ⟨?_, ?_⟩))
  · obtain rfl : i = code.length := by omega
    have x1 : decide (((code.length : Nat) : Int) < ((code.length : Nat) : Int)) = false := decide_eq_false (by omega)
    repeat' (first | (with_reducible first | refine W1 ?_ | refine W2 ?_ | refine W3 ?_ | refine W4 mixed ?_ | refine W5 ?_ | refine W6 ?_ | refine W7 ?_ | refine W8 ?_ | refine W9 ?_ | refine V1 ?_ | refine V2 ?_ | refine V3 ?_ | refine V4 (by decide) ?_ | refine V5 ?_ | refine V6 ?_ | refine V7 ?_ | refine V8 ?_ | refine V9 ?_ | refine U1 ?_ | refine U2 ?_ | refine U3 ?_) | (with_reducible refine U4 ?_ ?_; next => first | omega | exact ⟨trivial, by omega⟩) | ((with_reducible refine U5 _ rfl (fun hq => ?_) (fun hq => ?_)) <;> try (first | (cases hq; done) | exact absurd hq (by decide))) | ((with_reducible refine U6 (fun hq => ?_) (fun hq => ?_)) <;> try (first | (cases hq; done) | exact absurd hq (by decide))) | simp (maxSteps := 2000000) (discharger := first | omega | (simp (discharger := omega) only [Z1, Z2, Z3, Z4, Z5, Z6, Z7] <;> fail) | (simp (discharger := omega) only [Z3, Z8, Z2, Z4, Z1, Z7, Z5, Z6, Z9, Y1, Y2]; omega)) only [go_sem, x1, hS.sl.len (P := Try.prog)])
    refine ret_newI hN n 0 _ [.c (.ptr (nid N 0) 0)] ⟨rfl, trivial⟩ hfree rfl ?_ rfl ?_ ?_
    · intro x hx i hi
      simp only [srcO, List.mem_cons, List.not_mem_nil, or_false] at hx
      rcases hx with rfl | rfl | rfl
      · cases hS.sl with
        | nil => cases hi
        | mk k own hk =>
          simp only [Cell.ids, List.mem_singleton] at hi
          subst hi
          have ⟨g1, g2⟩ := hr _ (List.mem_singleton.2 rfl)
          dsimp only at g1 g2
          rw [g1]; simp
      · cases hi
      · cases hi
    · intro i hi; simp [AV.idsT, AV.ids1, Cell.ids] at hi; exact .inl hi
    · simp [resOf, renT, ren1, Cell.mapIds]
section
variable {P : Program} {G : Heap} {N : Nat} {L : List Slot} {code : List Int} {c : Cell} {rs : List (Nat × AObj)} {s : Nat} {o : AObj}
theorem Src.rdK (hS : Src code c rs s) (hr : ∀ p ∈ (s, o) :: rs, G p.1 = .live p.2 ∧ p.1 < N) (σ : Nat × Int) {j : Nat} {q : AObj} (h : gd L j = .live q) : ∀ p ∈ ((s, (⟨srcO c σ, true⟩ : AObj)) :: rs) ++ [(nid N j, q)], (⟨upd G s (.live ⟨srcO c σ, true⟩), N, L⟩ : AHeap).get p.1 = .live p.2 := by
  intro p hp
  rcases List.mem_append.1 hp with hp | hp
  · exact hS.rd hr σ p hp
  · rw [List.mem_singleton] at hp
    subst hp
    rw [get_new]; exact h
theorem Src.wrK {h : AHeap} {σ : Nat × Int} {x : Slot} {es : List (Nat × AObj)} : ∀ p ∈ [(s, x)], (∃ ob, (p.1, ob) ∈ ((s, (⟨srcO c σ, true⟩ : AObj)) :: rs) ++ es) ∨ h.get p.1 = .free := by
  simp only [List.mem_singleton]; rintro p rfl; exact .inl ⟨_, List.mem_append_left _ (List.mem_cons_self ..)⟩
/-- A source of one's own. -/
theorem srcN_rd (hr : ∀ p ∈ rs, G p.1 = .live p.2 ∧ p.1 < N) {j : Nat} (h : gd L j = .live o) : ∀ p ∈ (nid N j, o) :: rs, (⟨G, N, L⟩ : AHeap).get p.1 = .live p.2 := by
  intro p hp
  rcases List.mem_cons.1 hp with rfl | hp
  · rw [get_new]; exact h
  · rw [get_old (hr p hp).2]; exact (hr p hp).1
theorem srcN_rdK (hr : ∀ p ∈ rs, G p.1 = .live p.2 ∧ p.1 < N) {j k : Nat} {q : AObj} (h : gd L j = .live o) (h' : gd L k = .live q) : ∀ p ∈ ((nid N j, o) :: rs) ++ [(nid N k, q)], (⟨G, N, L⟩ : AHeap).get p.1 = .live p.2 := by
  intro p hp
  rcases List.mem_append.1 hp with hp | hp
  · exact srcN_rd hr h p hp
  · rw [List.mem_singleton] at hp
    subst hp
    rw [get_new]; exact h'
theorem Cod.src (h : Cod code c rs) (hr : ∀ p ∈ rs, G p.1 = .live p.2 ∧ p.1 < N) (j : Nat) : Src code c rs (nid N j) := ⟨h.sl, h.bytes, h.len, fun p hp => by have := (hr p hp).2; unfold nid; omega⟩
theorem Cod.fresh (h : Cod code c rs) {n : Nat} (hn : ∀ p ∈ rs, p.1 ≠ n) : Src code c rs n := ⟨h.sl, h.bytes, h.len, hn⟩
end
theorem pick_ex {code : List Int} {c : Cell} {rs : List (Nat × AObj)} (hC : Cod code c rs) (σ : Nat × Int) (hσ : σ.1 ≤ code.length) (l : List Int) (h0 : 0 < l.length) (hl : l.length ≤ 4096) : ∃ (v : Int) (τ : Nat × Int), v ∈ l ∧ τ.1 ≤ code.length ∧ ∀ s, Src code c rs s → ∀ (kl : Nat) (own : Bool), kl ≠ s →
    FSpec Try.prog 111 [.c (.ptr s 0), .c (.slice kl 0 l.length 1)] (.c (.int .i64 (v))) (((s, ⟨srcO c σ, true⟩) :: rs) ++ [(kl, ⟨i64s l, own⟩)]) [(s, .live ⟨srcO c τ, true⟩)] := by
  obtain ⟨v, τ, h1, h2, h3, h4, h5, S⟩ := next_ex hC σ hσ l.length
  obtain ⟨i, rfl⟩ := Int.eq_ofNat_of_zero_le h1
  have hi : i < l.length := by have := h3 (by omega); omega
  refine ⟨l.getD i 0, τ, by rw [List.getD_eq_getElem?_getD, List.getElem?_eq_getElem hi]; exact List.getElem_mem hi, h5, ?_⟩
  intro s hS kl own hk
  have S := S s hS
  refine FSpec.of f_spec_l01Pick (Nat.le_of_ble_eq_true rfl) fun G N hN hr hw => ?_
  simp only [c_spec_l01Pick, List.length_cons, List.length_nil, List.replicate, List.cons_append, List.nil_append]
  have hr1 : ∀ p ∈ (s, (⟨srcO c σ, true⟩ : AObj)) :: rs, G p.1 = .live p.2 ∧ p.1 < N := fun p hp => hr p (List.mem_append_left _ hp)
  have ⟨r1, s1⟩ := hr1 _ (List.mem_cons_self ..)
  have ⟨r2, s2⟩ := hr (kl, ⟨i64s l, own⟩) (List.mem_append_right _ (List.mem_singleton.2 rfl))
  dsimp only at r1 s1 r2 s2
  repeat' (first | (with_reducible first | refine W1 ?_ | refine W2 ?_ | refine W3 ?_ | refine W4 mixed ?_ | refine W5 ?_ | refine W6 ?_ | refine W7 ?_ | refine W8 ?_ | refine W9 ?_ | refine V1 ?_ | refine V2 ?_ | refine V3 ?_ | refine V4 (by decide) ?_ | refine V5 ?_ | refine V6 ?_ | refine V7 ?_ | refine V8 ?_ | refine V9 ?_ | refine U1 ?_ | refine U2 ?_ | refine U3 ?_) | (with_reducible refine U4 ?_ ?_; next => first | omega | exact ⟨trivial, by omega⟩) | simp (maxSteps := 2000000) (discharger := first | omega | (simp (discharger := omega) only [Z1, Z2, Z3, Z4, Z5, Z6, Z7] <;> fail) | (simp (discharger := omega) only [Z3, Z8, Z2, Z4, Z1, Z7, Z5, Z6, Z9, Y1, Y2]; omega)) only [go_sem])
  refine call_intro S (Src.rd0 hr1) Src.wr ?_
  have q2 : upd G s (.live ⟨srcO c τ, true⟩) kl = .live ⟨i64s l, own⟩ := by rw [upd_ne _ _ hk]; exact r2
  repeat' (first | (with_reducible first | refine W1 ?_ | refine W2 ?_ | refine W3 ?_ | refine W4 mixed ?_ | refine W5 ?_ | refine W6 ?_ | refine W7 ?_ | refine W8 ?_ | refine W9 ?_ | refine V1 ?_ | refine V2 ?_ | refine V3 ?_ | refine V4 (by decide) ?_ | refine V5 ?_ | refine V6 ?_ | refine V7 ?_ | refine V8 ?_ | refine V9 ?_ | refine U1 ?_ | refine U2 ?_ | refine U3 ?_) | (with_reducible refine U4 ?_ ?_; next => first | omega | exact ⟨trivial, by omega⟩) | simp (maxSteps := 2000000) (discharger := first | omega | (simp (discharger := omega) only [Z1, Z2, Z3, Z4, Z5, Z6, Z7] <;> fail) | (simp (discharger := omega) only [Z3, Z8, Z2, Z4, Z1, Z7, Z5, Z6, Z9, Y1, Y2]; omega)) only [go_sem, q2])
  have hr' : ∀ p ∈ (s, (⟨srcO c σ, true⟩ : AObj)) :: rs, G p.1 = .live p.2 ∧ p.1 < N := hr1
  exact ret_src hN hS hr1 [.c (.int .i64 (l.getD i 0))] ⟨rfl, trivial⟩ rfl (by simp [AV.idsT, AV.ids1, Cell.ids]) rfl
theorem sizes_ex {code : List Int} {c : Cell} {rs : List (Nat × AObj)} (hC : Cod code c rs) (σ : Nat × Int) (hσ : σ.1 ≤ code.length) : ∃ (n m k : Int) (τ : Nat × Int), (1 ≤ n ∧ n ≤ 2) ∧ (0 ≤ m ∧ m ≤ 4) ∧ (1 ≤ k ∧ k ≤ 2) ∧ τ.1 ≤ code.length ∧ ∀ s, Src code c rs s →
    FSpec Try.prog 105 [.c (.ptr s 0)] (.tup [.c (.int .i64 (n)), .c (.int .i64 (m)), .c (.int .i64 (k))]) ((s, ⟨srcO c σ, true⟩) :: rs) [(s, .live ⟨srcO c τ, true⟩)] := by
  obtain ⟨v1, τ1, a1, b1, c1, d1, e1, S1⟩ := next_ex hC σ hσ 2
  obtain ⟨v2, τ2, a2, b2, c2, d2, e2, S2⟩ := next_ex hC τ1 e1 2
  obtain ⟨v3, τ3, a3, b3, c3, d3, e3, S3⟩ := next_ex hC τ2 e2 2
  obtain ⟨v4, τ4, a4, b4, c4, d4, e4, S4⟩ := next_ex hC τ3 e3 12
  have c1 := c1 (by decide)
  have c2 := c2 (by decide)
  have c3 := c3 (by decide)
  have hp : ∀ x y : Int, 0 ≤ x → x < 2 → 0 ≤ y → y < 2 → 1 ≤ (1 + x) * (1 + y) ∧ (1 + x) * (1 + y) ≤ 4 := fun x y h1 h2 h3 h4 => by
    have : x = 0 ∨ x = 1 := by omega
    rcases this with rfl | rfl <;> omega
  have hp := hp v1 v2 a1 c1 a2 c2
  obtain ⟨w, hw0⟩ : ∃ w : Int, w = (1 + v1) * (1 + v2) := ⟨_, rfl⟩
  rw [← hw0] at hp
  have hp2 : 1 ≤ w * (1 + v3) ∧ w * (1 + v3) ≤ 8 := by
    have : v3 = 0 ∨ v3 = 1 := by omega
    rcases this with rfl | rfl <;> omega
  obtain ⟨u, hu0⟩ : ∃ u : Int, u = w * (1 + v3) := ⟨_, rfl⟩
  rw [← hu0] at hp2
  obtain ⟨τ5, h5⟩ : ∃ τ5 : Nat × Int, τ5 = if u > 4 then τ4 else τ3 := ⟨_, rfl⟩
  have e5 : τ5.1 ≤ code.length := by rw [h5]; split <;> assumption
  obtain ⟨v6, τ6, a6, b6, c6, d6, e6, S6⟩ := next_ex hC τ5 e5 16
  obtain ⟨v7, τ7, a7, e7, S7⟩ := pick_ex hC τ6 e6 [0, 3, 4] (by decide) (by decide)
  have a7 : v7 = 0 ∨ v7 = 3 ∨ v7 = 4 := by simpa using a7
  refine ⟨1 + v1, if v6 = 0 then v7 else 1 + v2, if u > 4 ∧ v4 > 0 then 1 else 1 + v3, if v6 = 0 then τ7 else τ6, by omega, by split <;> omega, by split <;> omega, by split <;> assumption, fun s hS => ?_⟩
  have S1 := S1 s hS
  have S2 := S2 s hS
  have S3 := S3 s hS
  have S4 := S4 s hS
  have S6 := S6 s hS
  have S7 := S7 s hS
  refine FSpec.of f_spec_l10Sizes (Nat.le_of_ble_eq_true rfl) fun G N hN hr hw => ?_
  simp only [c_spec_l10Sizes, List.length_cons, List.length_nil, List.replicate, List.cons_append, List.nil_append]
  have ⟨r1, s1⟩ := hr _ (List.mem_cons_self ..)
  dsimp only at r1 s1
  repeat' (first | (with_reducible first | refine W1 ?_ | refine W2 ?_ | refine W3 ?_ | refine W4 mixed ?_ | refine W5 ?_ | refine W6 ?_ | refine W7 ?_ | refine W8 ?_ | refine W9 ?_ | refine V1 ?_ | refine V2 ?_ | refine V3 ?_ | refine V4 (by decide) ?_ | refine V5 ?_ | refine V6 ?_ | refine V7 ?_ | refine V8 ?_ | refine V9 ?_ | refine U1 ?_ | refine U2 ?_ | refine U3 ?_) | (with_reducible refine U4 ?_ ?_; next => first | omega | exact ⟨trivial, by omega⟩) | simp (maxSteps := 2000000) (discharger := first | omega | (simp (discharger := omega) only [Z1, Z2, Z3, Z4, Z5, Z6, Z7] <;> fail) | (simp (discharger := omega) only [Z3, Z8, Z2, Z4, Z1, Z7, Z5, Z6, Z9, Y1, Y2]; omega)) only [go_sem])
  refine call_intro S1 (Src.rd0 hr) Src.wr ?_
  repeat' (first | (with_reducible first | refine W1 ?_ | refine W2 ?_ | refine W3 ?_ | refine W4 mixed ?_ | refine W5 ?_ | refine W6 ?_ | refine W7 ?_ | refine W8 ?_ | refine W9 ?_ | refine V1 ?_ | refine V2 ?_ | refine V3 ?_ | refine V4 (by decide) ?_ | refine V5 ?_ | refine V6 ?_ | refine V7 ?_ | refine V8 ?_ | refine V9 ?_ | refine U1 ?_ | refine U2 ?_ | refine U3 ?_) | (with_reducible refine U4 ?_ ?_; next => first | omega | exact ⟨trivial, by omega⟩) | ((with_reducible refine U5 _ rfl (fun hq => ?_) (fun hq => ?_)) <;> try (first | (cases hq; done) | exact absurd hq (by decide))) | ((with_reducible refine U6 (fun hq => ?_) (fun hq => ?_)) <;> try (first | (cases hq; done) | exact absurd hq (by decide))) | simp (maxSteps := 2000000) (discharger := first | omega | (simp (discharger := omega) only [Z1, Z2, Z3, Z4, Z5, Z6, Z7] <;> fail) | (simp (discharger := omega) only [Z3, Z8, Z2, Z4, Z1, Z7, Z5, Z6, Z9, Y1, Y2]; omega)) only [go_sem])
  refine call_intro S2 (hS.rd hr τ1) Src.wr ?_
  repeat' (first | (with_reducible first | refine W1 ?_ | refine W2 ?_ | refine W3 ?_ | refine W4 mixed ?_ | refine W5 ?_ | refine W6 ?_ | refine W7 ?_ | refine W8 ?_ | refine W9 ?_ | refine V1 ?_ | refine V2 ?_ | refine V3 ?_ | refine V4 (by decide) ?_ | refine V5 ?_ | refine V6 ?_ | refine V7 ?_ | refine V8 ?_ | refine V9 ?_ | refine U1 ?_ | refine U2 ?_ | refine U3 ?_) | (with_reducible refine U4 ?_ ?_; next => first | omega | exact ⟨trivial, by omega⟩) | ((with_reducible refine U5 _ rfl (fun hq => ?_) (fun hq => ?_)) <;> try (first | (cases hq; done) | exact absurd hq (by decide))) | ((with_reducible refine U6 (fun hq => ?_) (fun hq => ?_)) <;> try (first | (cases hq; done) | exact absurd hq (by decide))) | simp (maxSteps := 2000000) (discharger := first | omega | (simp (discharger := omega) only [Z1, Z2, Z3, Z4, Z5, Z6, Z7] <;> fail) | (simp (discharger := omega) only [Z3, Z8, Z2, Z4, Z1, Z7, Z5, Z6, Z9, Y1, Y2]; omega)) only [go_sem, updG2'])
  refine call_intro S3 (hS.rd hr τ2) Src.wr ?_
  have fin : ∀ (K : Int) (M : Int) (G' : Heap) (L' : List Slot) (T' : List AV), G' = upd G s (.live ⟨srcO c (if v6 = 0 then τ7 else τ6), true⟩) → resAll Try.prog T' ⟨G', N, L'⟩ [.tmp 2, .tmp 3, .tmp 4] [.c (.int .i64 (1 + v1)), .c (.int .i64 (M)), .c (.int .i64 (K))] → M = (if v6 = 0 then v7 else 1 + v2) → K = (if u > 4 ∧ v4 > 0 then 1 else 1 + v3) →
      retS Try.prog [.tmp 2, .tmp 3, .tmp 4] G N (.tup [.c (.int .i64 (1 + v1)), .c (.int .i64 (if v6 = 0 then v7 else 1 + v2)), .c (.int .i64 (if u > 4 ∧ v4 > 0 then 1 else 1 + v3))]) [(s, .live ⟨srcO c (if v6 = 0 then τ7 else τ6), true⟩)] .ret T' ⟨G', N, L'⟩ := by
    rintro K M _ L' T' rfl h1 rfl rfl
    exact ret_src hN hS hr _ h1 rfl (by simp [AV.idsT, AV.ids1, Cell.ids]) rfl
  have z1 : v6 = 0 → (v6 == 0) = true := fun h => by rw [h]; rfl
  have z0 : ¬ v6 = 0 → (v6 == 0) = false := fun h => by simpa using h
  repeat' (first | (with_reducible first | refine W1 ?_ | refine W2 ?_ | refine W3 ?_ | refine W4 mixed ?_ | refine W5 ?_ | refine W6 ?_ | refine W7 ?_ | refine W8 ?_ | refine W9 ?_ | refine V1 ?_ | refine V2 ?_ | refine V3 ?_ | refine V4 (by decide) ?_ | refine V5 ?_ | refine V6 ?_ | refine V7 ?_ | refine V8 ?_ | refine V9 ?_ | refine U1 ?_ | refine U2 ?_ | refine U3 ?_) | (with_reducible refine U4 ?_ ?_; next => first | omega | exact ⟨trivial, by omega⟩) | simp (maxSteps := 2000000) (discharger := first | omega | (simp (discharger := omega) only [Z1, Z2, Z3, Z4, Z5, Z6, Z7] <;> fail) | (simp (discharger := omega) only [Z3, Z8, Z2, Z4, Z1, Z7, Z5, Z6, Z9, Y1, Y2]; omega)) only [go_sem, updG2', ← hw0, ← hu0])
  by_cases hu : u > 4
  · rw [if_pos hu] at h5
    subst h5
    have y1 : decide (4 < u) = true := decide_eq_true hu
    repeat' (first | (with_reducible first | refine W1 ?_ | refine W2 ?_ | refine W3 ?_ | refine W4 mixed ?_ | refine W5 ?_ | refine W6 ?_ | refine W7 ?_ | refine W8 ?_ | refine W9 ?_ | refine V1 ?_ | refine V2 ?_ | refine V3 ?_ | refine V4 (by decide) ?_ | refine V5 ?_ | refine V6 ?_ | refine V7 ?_ | refine V8 ?_ | refine V9 ?_ | refine U1 ?_ | refine U2 ?_ | refine U3 ?_) | (with_reducible refine U4 ?_ ?_; next => first | omega | exact ⟨trivial, by omega⟩) | simp (maxSteps := 2000000) (discharger := first | omega | (simp (discharger := omega) only [Z1, Z2, Z3, Z4, Z5, Z6, Z7] <;> fail) | (simp (discharger := omega) only [Z3, Z8, Z2, Z4, Z1, Z7, Z5, Z6, Z9, Y1, Y2]; omega)) only [go_sem, y1])
    refine call_intro S4 (hS.rd hr τ3) Src.wr ?_
    by_cases h4 : v4 > 0
    · have y2 : decide (0 < v4) = true := decide_eq_true h4
      repeat' (first | (with_reducible first | refine W1 ?_ | refine W2 ?_ | refine W3 ?_ | refine W4 mixed ?_ | refine W5 ?_ | refine W6 ?_ | refine W7 ?_ | refine W8 ?_ | refine W9 ?_ | refine V1 ?_ | refine V2 ?_ | refine V3 ?_ | refine V4 (by decide) ?_ | refine V5 ?_ | refine V6 ?_ | refine V7 ?_ | refine V8 ?_ | refine V9 ?_ | refine U1 ?_ | refine U2 ?_ | refine U3 ?_) | (with_reducible refine U4 ?_ ?_; next => first | omega | exact ⟨trivial, by omega⟩) | ((with_reducible refine U5 _ rfl (fun hq => ?_) (fun hq => ?_)) <;> try (first | (cases hq; done) | exact absurd hq (by decide))) | ((with_reducible refine U6 (fun hq => ?_) (fun hq => ?_)) <;> try (first | (cases hq; done) | exact absurd hq (by decide))) | simp (maxSteps := 2000000) (discharger := first | omega | (simp (discharger := omega) only [Z1, Z2, Z3, Z4, Z5, Z6, Z7] <;> fail) | (simp (discharger := omega) only [Z3, Z8, Z2, Z4, Z1, Z7, Z5, Z6, Z9, Y1, Y2]; omega)) only [go_sem, y1, y2, updG2'])
      refine call_intro S6 (hS.rd hr τ5) Src.wr ?_
      by_cases h6 : v6 = 0
      · repeat' (first | (with_reducible first | refine W1 ?_ | refine W2 ?_ | refine W3 ?_ | refine W4 mixed ?_ | refine W5 ?_ | refine W6 ?_ | refine W7 ?_ | refine W8 ?_ | refine W9 ?_ | refine V1 ?_ | refine V2 ?_ | refine V3 ?_ | refine V4 (by decide) ?_ | refine V5 ?_ | refine V6 ?_ | refine V7 ?_ | refine V8 ?_ | refine V9 ?_ | refine U1 ?_ | refine U2 ?_ | refine U3 ?_) | (with_reducible refine U4 ?_ ?_; next => first | omega | exact ⟨trivial, by omega⟩) | ((with_reducible refine U5 _ rfl (fun hq => ?_) (fun hq => ?_)) <;> try (first | (cases hq; done) | exact absurd hq (by decide))) | ((with_reducible refine U6 (fun hq => ?_) (fun hq => ?_)) <;> try (first | (cases hq; done) | exact absurd hq (by decide))) | simp (maxSteps := 2000000) (discharger := first | omega | (simp (discharger := omega) only [Z1, Z2, Z3, Z4, Z5, Z6, Z7] <;> fail) | (simp (discharger := omega) only [Z3, Z8, Z2, Z4, Z1, Z7, Z5, Z6, Z9, Y1, Y2]; omega)) only [go_sem, updG2', z1 h6])
        refine call_intro (S7 (nid N 0) true (by unfold nid; omega)) (hS.rdK hr τ6 (j := 0) rfl) Src.wrK ?_
        repeat' (first | (with_reducible first | refine W1 ?_ | refine W2 ?_ | refine W3 ?_ | refine W4 mixed ?_ | refine W5 ?_ | refine W6 ?_ | refine W7 ?_ | refine W8 ?_ | refine W9 ?_ | refine V1 ?_ | refine V2 ?_ | refine V3 ?_ | refine V4 (by decide) ?_ | refine V5 ?_ | refine V6 ?_ | refine V7 ?_ | refine V8 ?_ | refine V9 ?_ | refine U1 ?_ | refine U2 ?_ | refine U3 ?_) | (with_reducible refine U4 ?_ ?_; next => first | omega | exact ⟨trivial, by omega⟩) | ((with_reducible refine U5 _ rfl (fun hq => ?_) (fun hq => ?_)) <;> try (first | (cases hq; done) | exact absurd hq (by decide))) | ((with_reducible refine U6 (fun hq => ?_) (fun hq => ?_)) <;> try (first | (cases hq; done) | exact absurd hq (by decide))) | simp (maxSteps := 2000000) (discharger := first | omega | (simp (discharger := omega) only [Z1, Z2, Z3, Z4, Z5, Z6, Z7] <;> fail) | (simp (discharger := omega) only [Z3, Z8, Z2, Z4, Z1, Z7, Z5, Z6, Z9, Y1, Y2]; omega)) only [go_sem, updG2'])
        exact fin 1 v7 _ _ _ (by rw [if_pos h6]) ⟨rfl, rfl, rfl, trivial⟩ (by rw [if_pos h6]) (by rw [if_pos ⟨hu, h4⟩])
      · repeat' (first | (with_reducible first | refine W1 ?_ | refine W2 ?_ | refine W3 ?_ | refine W4 mixed ?_ | refine W5 ?_ | refine W6 ?_ | refine W7 ?_ | refine W8 ?_ | refine W9 ?_ | refine V1 ?_ | refine V2 ?_ | refine V3 ?_ | refine V4 (by decide) ?_ | refine V5 ?_ | refine V6 ?_ | refine V7 ?_ | refine V8 ?_ | refine V9 ?_ | refine U1 ?_ | refine U2 ?_ | refine U3 ?_) | (with_reducible refine U4 ?_ ?_; next => first | omega | exact ⟨trivial, by omega⟩) | ((with_reducible refine U5 _ rfl (fun hq => ?_) (fun hq => ?_)) <;> try (first | (cases hq; done) | exact absurd hq (by decide))) | ((with_reducible refine U6 (fun hq => ?_) (fun hq => ?_)) <;> try (first | (cases hq; done) | exact absurd hq (by decide))) | simp (maxSteps := 2000000) (discharger := first | omega | (simp (discharger := omega) only [Z1, Z2, Z3, Z4, Z5, Z6, Z7] <;> fail) | (simp (discharger := omega) only [Z3, Z8, Z2, Z4, Z1, Z7, Z5, Z6, Z9, Y1, Y2]; omega)) only [go_sem, updG2', z0 h6])
        exact fin 1 (1 + v2) _ _ _ (by rw [if_neg h6]) ⟨rfl, rfl, rfl, trivial⟩ (by rw [if_neg h6]) (by rw [if_pos ⟨hu, h4⟩])
    · have y2 : decide (0 < v4) = false := decide_eq_false h4
      repeat' (first | (with_reducible first | refine W1 ?_ | refine W2 ?_ | refine W3 ?_ | refine W4 mixed ?_ | refine W5 ?_ | refine W6 ?_ | refine W7 ?_ | refine W8 ?_ | refine W9 ?_ | refine V1 ?_ | refine V2 ?_ | refine V3 ?_ | refine V4 (by decide) ?_ | refine V5 ?_ | refine V6 ?_ | refine V7 ?_ | refine V8 ?_ | refine V9 ?_ | refine U1 ?_ | refine U2 ?_ | refine U3 ?_) | (with_reducible refine U4 ?_ ?_; next => first | omega | exact ⟨trivial, by omega⟩) | ((with_reducible refine U5 _ rfl (fun hq => ?_) (fun hq => ?_)) <;> try (first | (cases hq; done) | exact absurd hq (by decide))) | ((with_reducible refine U6 (fun hq => ?_) (fun hq => ?_)) <;> try (first | (cases hq; done) | exact absurd hq (by decide))) | simp (maxSteps := 2000000) (discharger := first | omega | (simp (discharger := omega) only [Z1, Z2, Z3, Z4, Z5, Z6, Z7] <;> fail) | (simp (discharger := omega) only [Z3, Z8, Z2, Z4, Z1, Z7, Z5, Z6, Z9, Y1, Y2]; omega)) only [go_sem, y1, y2, updG2'])
      refine call_intro S6 (hS.rd hr τ5) Src.wr ?_
      by_cases h6 : v6 = 0
      · repeat' (first | (with_reducible first | refine W1 ?_ | refine W2 ?_ | refine W3 ?_ | refine W4 mixed ?_ | refine W5 ?_ | refine W6 ?_ | refine W7 ?_ | refine W8 ?_ | refine W9 ?_ | refine V1 ?_ | refine V2 ?_ | refine V3 ?_ | refine V4 (by decide) ?_ | refine V5 ?_ | refine V6 ?_ | refine V7 ?_ | refine V8 ?_ | refine V9 ?_ | refine U1 ?_ | refine U2 ?_ | refine U3 ?_) | (with_reducible refine U4 ?_ ?_; next => first | omega | exact ⟨trivial, by omega⟩) | ((with_reducible refine U5 _ rfl (fun hq => ?_) (fun hq => ?_)) <;> try (first | (cases hq; done) | exact absurd hq (by decide))) | ((with_reducible refine U6 (fun hq => ?_) (fun hq => ?_)) <;> try (first | (cases hq; done) | exact absurd hq (by decide))) | simp (maxSteps := 2000000) (discharger := first | omega | (simp (discharger := omega) only [Z1, Z2, Z3, Z4, Z5, Z6, Z7] <;> fail) | (simp (discharger := omega) only [Z3, Z8, Z2, Z4, Z1, Z7, Z5, Z6, Z9, Y1, Y2]; omega)) only [go_sem, updG2', z1 h6])
        refine call_intro (S7 (nid N 0) true (by unfold nid; omega)) (hS.rdK hr τ6 (j := 0) rfl) Src.wrK ?_
        repeat' (first | (with_reducible first | refine W1 ?_ | refine W2 ?_ | refine W3 ?_ | refine W4 mixed ?_ | refine W5 ?_ | refine W6 ?_ | refine W7 ?_ | refine W8 ?_ | refine W9 ?_ | refine V1 ?_ | refine V2 ?_ | refine V3 ?_ | refine V4 (by decide) ?_ | refine V5 ?_ | refine V6 ?_ | refine V7 ?_ | refine V8 ?_ | refine V9 ?_ | refine U1 ?_ | refine U2 ?_ | refine U3 ?_) | (with_reducible refine U4 ?_ ?_; next => first | omega | exact ⟨trivial, by omega⟩) | ((with_reducible refine U5 _ rfl (fun hq => ?_) (fun hq => ?_)) <;> try (first | (cases hq; done) | exact absurd hq (by decide))) | ((with_reducible refine U6 (fun hq => ?_) (fun hq => ?_)) <;> try (first | (cases hq; done) | exact absurd hq (by decide))) | simp (maxSteps := 2000000) (discharger := first | omega | (simp (discharger := omega) only [Z1, Z2, Z3, Z4, Z5, Z6, Z7] <;> fail) | (simp (discharger := omega) only [Z3, Z8, Z2, Z4, Z1, Z7, Z5, Z6, Z9, Y1, Y2]; omega)) only [go_sem, updG2'])
        exact fin (1 + v3) v7 _ _ _ (by rw [if_pos h6]) ⟨rfl, rfl, rfl, trivial⟩ (by rw [if_pos h6]) (by rw [if_neg (fun h => h4 h.2)])
      · repeat' (first | (with_reducible first | refine W1 ?_ | refine W2 ?_ | refine W3 ?_ | refine W4 mixed ?_ | refine W5 ?_ | refine W6 ?_ | refine W7 ?_ | refine W8 ?_ | refine W9 ?_ | refine V1 ?_ | refine V2 ?_ | refine V3 ?_ | refine V4 (by decide) ?_ | refine V5 ?_ | refine V6 ?_ | refine V7 ?_ | refine V8 ?_ | refine V9 ?_ | refine U1 ?_ | refine U2 ?_ | refine U3 ?_) | (with_reducible refine U4 ?_ ?_; next => first | omega | exact ⟨trivial, by omega⟩) | ((with_reducible refine U5 _ rfl (fun hq => ?_) (fun hq => ?_)) <;> try (first | (cases hq; done) | exact absurd hq (by decide))) | ((with_reducible refine U6 (fun hq => ?_) (fun hq => ?_)) <;> try (first | (cases hq; done) | exact absurd hq (by decide))) | simp (maxSteps := 2000000) (discharger := first | omega | (simp (discharger := omega) only [Z1, Z2, Z3, Z4, Z5, Z6, Z7] <;> fail) | (simp (discharger := omega) only [Z3, Z8, Z2, Z4, Z1, Z7, Z5, Z6, Z9, Y1, Y2]; omega)) only [go_sem, updG2', z0 h6])
        exact fin (1 + v3) (1 + v2) _ _ _ (by rw [if_neg h6]) ⟨rfl, rfl, rfl, trivial⟩ (by rw [if_neg h6]) (by rw [if_neg (fun h => h4 h.2)])
  · rw [if_neg hu] at h5
    subst h5
    have y1 : decide (4 < u) = false := decide_eq_false hu
    repeat' (first | (with_reducible first | refine W1 ?_ | refine W2 ?_ | refine W3 ?_ | refine W4 mixed ?_ | refine W5 ?_ | refine W6 ?_ | refine W7 ?_ | refine W8 ?_ | refine W9 ?_ | refine V1 ?_ | refine V2 ?_ | refine V3 ?_ | refine V4 (by decide) ?_ | refine V5 ?_ | refine V6 ?_ | refine V7 ?_ | refine V8 ?_ | refine V9 ?_ | refine U1 ?_ | refine U2 ?_ | refine U3 ?_) | (with_reducible refine U4 ?_ ?_; next => first | omega | exact ⟨trivial, by omega⟩) | simp (maxSteps := 2000000) (discharger := first | omega | (simp (discharger := omega) only [Z1, Z2, Z3, Z4, Z5, Z6, Z7] <;> fail) | (simp (discharger := omega) only [Z3, Z8, Z2, Z4, Z1, Z7, Z5, Z6, Z9, Y1, Y2]; omega)) only [go_sem, y1])
    repeat' (first | (with_reducible first | refine W1 ?_ | refine W2 ?_ | refine W3 ?_ | refine W4 mixed ?_ | refine W5 ?_ | refine W6 ?_ | refine W7 ?_ | refine W8 ?_ | refine W9 ?_ | refine V1 ?_ | refine V2 ?_ | refine V3 ?_ | refine V4 (by decide) ?_ | refine V5 ?_ | refine V6 ?_ | refine V7 ?_ | refine V8 ?_ | refine V9 ?_ | refine U1 ?_ | refine U2 ?_ | refine U3 ?_) | (with_reducible refine U4 ?_ ?_; next => first | omega | exact ⟨trivial, by omega⟩) | ((with_reducible refine U5 _ rfl (fun hq => ?_) (fun hq => ?_)) <;> try (first | (cases hq; done) | exact absurd hq (by decide))) | ((with_reducible refine U6 (fun hq => ?_) (fun hq => ?_)) <;> try (first | (cases hq; done) | exact absurd hq (by decide))) | simp (maxSteps := 2000000) (discharger := first | omega | (simp (discharger := omega) only [Z1, Z2, Z3, Z4, Z5, Z6, Z7] <;> fail) | (simp (discharger := omega) only [Z3, Z8, Z2, Z4, Z1, Z7, Z5, Z6, Z9, Y1, Y2]; omega)) only [go_sem])
    refine call_intro S6 (hS.rd hr τ5) Src.wr ?_
    by_cases h6 : v6 = 0
    · repeat' (first | (with_reducible first | refine W1 ?_ | refine W2 ?_ | refine W3 ?_ | refine W4 mixed ?_ | refine W5 ?_ | refine W6 ?_ | refine W7 ?_ | refine W8 ?_ | refine W9 ?_ | refine V1 ?_ | refine V2 ?_ | refine V3 ?_ | refine V4 (by decide) ?_ | refine V5 ?_ | refine V6 ?_ | refine V7 ?_ | refine V8 ?_ | refine V9 ?_ | refine U1 ?_ | refine U2 ?_ | refine U3 ?_) | (with_reducible refine U4 ?_ ?_; next => first | omega | exact ⟨trivial, by omega⟩) | ((with_reducible refine U5 _ rfl (fun hq => ?_) (fun hq => ?_)) <;> try (first | (cases hq; done) | exact absurd hq (by decide))) | ((with_reducible refine U6 (fun hq => ?_) (fun hq => ?_)) <;> try (first | (cases hq; done) | exact absurd hq (by decide))) | simp (maxSteps := 2000000) (discharger := first | omega | (simp (discharger := omega) only [Z1, Z2, Z3, Z4, Z5, Z6, Z7] <;> fail) | (simp (discharger := omega) only [Z3, Z8, Z2, Z4, Z1, Z7, Z5, Z6, Z9, Y1, Y2]; omega)) only [go_sem, updG2', z1 h6])
      refine call_intro (S7 (nid N 0) true (by unfold nid; omega)) (hS.rdK hr τ6 (j := 0) rfl) Src.wrK ?_
      repeat' (first | (with_reducible first | refine W1 ?_ | refine W2 ?_ | refine W3 ?_ | refine W4 mixed ?_ | refine W5 ?_ | refine W6 ?_ | refine W7 ?_ | refine W8 ?_ | refine W9 ?_ | refine V1 ?_ | refine V2 ?_ | refine V3 ?_ | refine V4 (by decide) ?_ | refine V5 ?_ | refine V6 ?_ | refine V7 ?_ | refine V8 ?_ | refine V9 ?_ | refine U1 ?_ | refine U2 ?_ | refine U3 ?_) | (with_reducible refine U4 ?_ ?_; next => first | omega | exact ⟨trivial, by omega⟩) | ((with_reducible refine U5 _ rfl (fun hq => ?_) (fun hq => ?_)) <;> try (first | (cases hq; done) | exact absurd hq (by decide))) | ((with_reducible refine U6 (fun hq => ?_) (fun hq => ?_)) <;> try (first | (cases hq; done) | exact absurd hq (by decide))) | simp (maxSteps := 2000000) (discharger := first | omega | (simp (discharger := omega) only [Z1, Z2, Z3, Z4, Z5, Z6, Z7] <;> fail) | (simp (discharger := omega) only [Z3, Z8, Z2, Z4, Z1, Z7, Z5, Z6, Z9, Y1, Y2]; omega)) only [go_sem, updG2'])
      exact fin (1 + v3) v7 _ _ _ (by rw [if_pos h6]) ⟨rfl, rfl, rfl, trivial⟩ (by rw [if_pos h6]) (by rw [if_neg (fun h => hu h.1)])
    · repeat' (first | (with_reducible first | refine W1 ?_ | refine W2 ?_ | refine W3 ?_ | refine W4 mixed ?_ | refine W5 ?_ | refine W6 ?_ | refine W7 ?_ | refine W8 ?_ | refine W9 ?_ | refine V1 ?_ | refine V2 ?_ | refine V3 ?_ | refine V4 (by decide) ?_ | refine V5 ?_ | refine V6 ?_ | refine V7 ?_ | refine V8 ?_ | refine V9 ?_ | refine U1 ?_ | refine U2 ?_ | refine U3 ?_) | (with_reducible refine U4 ?_ ?_; next => first | omega | exact ⟨trivial, by omega⟩) | ((with_reducible refine U5 _ rfl (fun hq => ?_) (fun hq => ?_)) <;> try (first | (cases hq; done) | exact absurd hq (by decide))) | ((with_reducible refine U6 (fun hq => ?_) (fun hq => ?_)) <;> try (first | (cases hq; done) | exact absurd hq (by decide))) | simp (maxSteps := 2000000) (discharger := first | omega | (simp (discharger := omega) only [Z1, Z2, Z3, Z4, Z5, Z6, Z7] <;> fail) | (simp (discharger := omega) only [Z3, Z8, Z2, Z4, Z1, Z7, Z5, Z6, Z9, Y1, Y2]; omega)) only [go_sem, updG2', z0 h6])
      exact fin (1 + v3) (1 + v2) _ _ _ (by rw [if_neg h6]) ⟨rfl, rfl, rfl, trivial⟩ (by rw [if_neg h6]) (by rw [if_neg (fun h => hu h.1)])
theorem drawLeast_ex {code : List Int} {c : Cell} {rs : List (Nat × AObj)} (hC : Cod code c rs) : ∃ (n m k : Int), (1 ≤ n ∧ n ≤ 2) ∧ (0 ≤ m ∧ m ≤ 4) ∧ (1 ≤ k ∧ k ≤ 2) ∧
    FSpec Try.prog 11 [.c c] (.tup [.c (.int .i64 (n)), .c (.int .i64 (m)), .c (.int .i64 (k))]) rs [] := by
  obtain ⟨n, m, k, τ, a, b, d, e, S⟩ := sizes_ex hC (0, frH code code.length) (Nat.zero_le _)
  refine ⟨n, m, k, a, b, d, ?_⟩
  refine FSpec.of f_spec_DrawLeastNumber (Nat.le_of_ble_eq_true rfl) fun G N hN hr hw => ?_
  simp only [c_spec_DrawLeastNumber, List.length_cons, List.length_nil, List.replicate, List.cons_append, List.nil_append]
  have hS := hC.src hr 0
  repeat' (first | (with_reducible first | refine W1 ?_ | refine W2 ?_ | refine W3 ?_ | refine W4 mixed ?_ | refine W5 ?_ | refine W6 ?_ | refine W7 ?_ | refine W8 ?_ | refine W9 ?_ | refine V1 ?_ | refine V2 ?_ | refine V3 ?_ | refine V4 (by decide) ?_ | refine V5 ?_ | refine V6 ?_ | refine V7 ?_ | refine V8 ?_ | refine V9 ?_ | refine U1 ?_ | refine U2 ?_ | refine U3 ?_) | (with_reducible refine U4 ?_ ?_; next => first | omega | exact ⟨trivial, by omega⟩) | simp (maxSteps := 2000000) (discharger := first | omega | (simp (discharger := omega) only [Z1, Z2, Z3, Z4, Z5, Z6, Z7] <;> fail) | (simp (discharger := omega) only [Z3, Z8, Z2, Z4, Z1, Z7, Z5, Z6, Z9, Y1, Y2]; omega)) only [go_sem])
  refine call_new1 (rs := rs) (fun y hy => from_spec (hC.fresh hy)) (get_rd hr) nxt_free ?_
  repeat' (first | (with_reducible first | refine W1 ?_ | refine W2 ?_ | refine W3 ?_ | refine W4 mixed ?_ | refine W5 ?_ | refine W6 ?_ | refine W7 ?_ | refine W8 ?_ | refine W9 ?_ | refine V1 ?_ | refine V2 ?_ | refine V3 ?_ | refine V4 (by decide) ?_ | refine V5 ?_ | refine V6 ?_ | refine V7 ?_ | refine V8 ?_ | refine V9 ?_ | refine U1 ?_ | refine U2 ?_ | refine U3 ?_) | (with_reducible refine U4 ?_ ?_; next => first | omega | exact ⟨trivial, by omega⟩) | simp (maxSteps := 2000000) (discharger := first | omega | (simp (discharger := omega) only [Z1, Z2, Z3, Z4, Z5, Z6, Z7] <;> fail) | (simp (discharger := omega) only [Z3, Z8, Z2, Z4, Z1, Z7, Z5, Z6, Z9, Y1, Y2]; omega)) only [go_sem])
  refine call_intro (S _ hS) (srcN_rd hr (j := 0) rfl) Src.wr ?_
  repeat' (first | (with_reducible first | refine W1 ?_ | refine W2 ?_ | refine W3 ?_ | refine W4 mixed ?_ | refine W5 ?_ | refine W6 ?_ | refine W7 ?_ | refine W8 ?_ | refine W9 ?_ | refine V1 ?_ | refine V2 ?_ | refine V3 ?_ | refine V4 (by decide) ?_ | refine V5 ?_ | refine V6 ?_ | refine V7 ?_ | refine V8 ?_ | refine V9 ?_ | refine U1 ?_ | refine U2 ?_ | refine U3 ?_) | (with_reducible refine U4 ?_ ?_; next => first | omega | exact ⟨trivial, by omega⟩) | simp (maxSteps := 2000000) (discharger := first | omega | (simp (discharger := omega) only [Z1, Z2, Z3, Z4, Z5, Z6, Z7] <;> fail) | (simp (discharger := omega) only [Z3, Z8, Z2, Z4, Z1, Z7, Z5, Z6, Z9, Y1, Y2]; omega)) only [go_sem])
  exact ret_none hN [.c (.int .i64 (n)), .c (.int .i64 (m)), .c (.int .i64 (k))] ⟨rfl, rfl, rfl, trivial⟩ rfl rfl rfl (by simp)
theorem drawAll_ex {code : List Int} {c : Cell} {rs : List (Nat × AObj)} (hC : Cod code c rs) : ∃ (n m k : Int), (1 ≤ n ∧ n ≤ 2) ∧ (0 ≤ m ∧ m ≤ 4) ∧ (1 ≤ k ∧ k ≤ 2) ∧
    FSpec Try.prog 17 [.c c] (.tup [.c (.int .i64 (n)), .c (.int .i64 (m)), .c (.int .i64 (k))]) rs [] := by
  obtain ⟨n, m, k, τ, a, b, d, e, S⟩ := sizes_ex hC (0, frH code code.length) (Nat.zero_le _)
  refine ⟨n, m, k, a, b, d, ?_⟩
  refine FSpec.of f_spec_DrawAllPairs (Nat.le_of_ble_eq_true rfl) fun G N hN hr hw => ?_
  simp only [c_spec_DrawAllPairs, List.length_cons, List.length_nil, List.replicate, List.cons_append, List.nil_append]
  have hS := hC.src hr 0
  repeat' (first | (with_reducible first | refine W1 ?_ | refine W2 ?_ | refine W3 ?_ | refine W4 mixed ?_ | refine W5 ?_ | refine W6 ?_ | refine W7 ?_ | refine W8 ?_ | refine W9 ?_ | refine V1 ?_ | refine V2 ?_ | refine V3 ?_ | refine V4 (by decide) ?_ | refine V5 ?_ | refine V6 ?_ | refine V7 ?_ | refine V8 ?_ | refine V9 ?_ | refine U1 ?_ | refine U2 ?_ | refine U3 ?_) | (with_reducible refine U4 ?_ ?_; next => first | omega | exact ⟨trivial, by omega⟩) | simp (maxSteps := 2000000) (discharger := first | omega | (simp (discharger := omega) only [Z1, Z2, Z3, Z4, Z5, Z6, Z7] <;> fail) | (simp (discharger := omega) only [Z3, Z8, Z2, Z4, Z1, Z7, Z5, Z6, Z9, Y1, Y2]; omega)) only [go_sem])
  refine call_new1 (rs := rs) (fun y hy => from_spec (hC.fresh hy)) (get_rd hr) nxt_free ?_
  repeat' (first | (with_reducible first | refine W1 ?_ | refine W2 ?_ | refine W3 ?_ | refine W4 mixed ?_ | refine W5 ?_ | refine W6 ?_ | refine W7 ?_ | refine W8 ?_ | refine W9 ?_ | refine V1 ?_ | refine V2 ?_ | refine V3 ?_ | refine V4 (by decide) ?_ | refine V5 ?_ | refine V6 ?_ | refine V7 ?_ | refine V8 ?_ | refine V9 ?_ | refine U1 ?_ | refine U2 ?_ | refine U3 ?_) | (with_reducible refine U4 ?_ ?_; next => first | omega | exact ⟨trivial, by omega⟩) | simp (maxSteps := 2000000) (discharger := first | omega | (simp (discharger := omega) only [Z1, Z2, Z3, Z4, Z5, Z6, Z7] <;> fail) | (simp (discharger := omega) only [Z3, Z8, Z2, Z4, Z1, Z7, Z5, Z6, Z9, Y1, Y2]; omega)) only [go_sem])
  refine call_intro (S _ hS) (srcN_rd hr (j := 0) rfl) Src.wr ?_
  repeat' (first | (with_reducible first | refine W1 ?_ | refine W2 ?_ | refine W3 ?_ | refine W4 mixed ?_ | refine W5 ?_ | refine W6 ?_ | refine W7 ?_ | refine W8 ?_ | refine W9 ?_ | refine V1 ?_ | refine V2 ?_ | refine V3 ?_ | refine V4 (by decide) ?_ | refine V5 ?_ | refine V6 ?_ | refine V7 ?_ | refine V8 ?_ | refine V9 ?_ | refine U1 ?_ | refine U2 ?_ | refine U3 ?_) | (with_reducible refine U4 ?_ ?_; next => first | omega | exact ⟨trivial, by omega⟩) | simp (maxSteps := 2000000) (discharger := first | omega | (simp (discharger := omega) only [Z1, Z2, Z3, Z4, Z5, Z6, Z7] <;> fail) | (simp (discharger := omega) only [Z3, Z8, Z2, Z4, Z1, Z7, Z5, Z6, Z9, Y1, Y2]; omega)) only [go_sem])
  exact ret_none hN [.c (.int .i64 (n)), .c (.int .i64 (m)), .c (.int .i64 (k))] ⟨rfl, rfl, rfl, trivial⟩ rfl rfl rfl (by simp)
theorem drawSets_ex {code : List Int} {c : Cell} {rs : List (Nat × AObj)} (hC : Cod code c rs) : ∃ (n m k r : Int), (1 ≤ n ∧ n ≤ 2) ∧ (0 ≤ m ∧ m ≤ 4) ∧ (1 ≤ k ∧ k ≤ 2) ∧ (0 ≤ r ∧ r ≤ 5) ∧
    FSpec Try.prog 14 [.c c] (.tup [.c (.int .i64 (n)), .c (.int .i64 (m)), .c (.int .i64 (k)), .c (.int .i64 (r))]) rs [] := by
  obtain ⟨n, m, k, τ, a, b, d, e, S⟩ := sizes_ex hC (0, frH code code.length) (Nat.zero_le _)
  obtain ⟨v, τ1, a1, b1, c1, d1, e1, S1⟩ := next_ex hC τ e 6
  have c1 := c1 (by decide)
  obtain ⟨v2, τ2, a2, e2, S2⟩ := pick_ex hC τ1 e1 [0, 1, 2, 2, 3, v] (by simp) (by simp)
  refine ⟨n, m, k, v2, a, b, d, by simp at a2; omega, ?_⟩
  refine FSpec.of f_spec_DrawCountPairSets (Nat.le_of_ble_eq_true rfl) fun G N hN hr hw => ?_
  simp only [c_spec_DrawCountPairSets, List.length_cons, List.length_nil, List.replicate, List.cons_append, List.nil_append]
  have hS := hC.src hr 0
  repeat' (first | (with_reducible first | refine W1 ?_ | refine W2 ?_ | refine W3 ?_ | refine W4 mixed ?_ | refine W5 ?_ | refine W6 ?_ | refine W7 ?_ | refine W8 ?_ | refine W9 ?_ | refine V1 ?_ | refine V2 ?_ | refine V3 ?_ | refine V4 (by decide) ?_ | refine V5 ?_ | refine V6 ?_ | refine V7 ?_ | refine V8 ?_ | refine V9 ?_ | refine U1 ?_ | refine U2 ?_ | refine U3 ?_) | (with_reducible refine U4 ?_ ?_; next => first | omega | exact ⟨trivial, by omega⟩) | simp (maxSteps := 2000000) (discharger := first | omega | (simp (discharger := omega) only [Z1, Z2, Z3, Z4, Z5, Z6, Z7] <;> fail) | (simp (discharger := omega) only [Z3, Z8, Z2, Z4, Z1, Z7, Z5, Z6, Z9, Y1, Y2]; omega)) only [go_sem])
  refine call_new1 (rs := rs) (fun y hy => from_spec (hC.fresh hy)) (get_rd hr) nxt_free ?_
  repeat' (first | (with_reducible first | refine W1 ?_ | refine W2 ?_ | refine W3 ?_ | refine W4 mixed ?_ | refine W5 ?_ | refine W6 ?_ | refine W7 ?_ | refine W8 ?_ | refine W9 ?_ | refine V1 ?_ | refine V2 ?_ | refine V3 ?_ | refine V4 (by decide) ?_ | refine V5 ?_ | refine V6 ?_ | refine V7 ?_ | refine V8 ?_ | refine V9 ?_ | refine U1 ?_ | refine U2 ?_ | refine U3 ?_) | (with_reducible refine U4 ?_ ?_; next => first | omega | exact ⟨trivial, by omega⟩) | simp (maxSteps := 2000000) (discharger := first | omega | (simp (discharger := omega) only [Z1, Z2, Z3, Z4, Z5, Z6, Z7] <;> fail) | (simp (discharger := omega) only [Z3, Z8, Z2, Z4, Z1, Z7, Z5, Z6, Z9, Y1, Y2]; omega)) only [go_sem])
  refine call_intro (S _ hS) (srcN_rd hr (j := 0) rfl) Src.wr ?_
  repeat' (first | (with_reducible first | refine W1 ?_ | refine W2 ?_ | refine W3 ?_ | refine W4 mixed ?_ | refine W5 ?_ | refine W6 ?_ | refine W7 ?_ | refine W8 ?_ | refine W9 ?_ | refine V1 ?_ | refine V2 ?_ | refine V3 ?_ | refine V4 (by decide) ?_ | refine V5 ?_ | refine V6 ?_ | refine V7 ?_ | refine V8 ?_ | refine V9 ?_ | refine U1 ?_ | refine U2 ?_ | refine U3 ?_) | (with_reducible refine U4 ?_ ?_; next => first | omega | exact ⟨trivial, by omega⟩) | simp (maxSteps := 2000000) (discharger := first | omega | (simp (discharger := omega) only [Z1, Z2, Z3, Z4, Z5, Z6, Z7] <;> fail) | (simp (discharger := omega) only [Z3, Z8, Z2, Z4, Z1, Z7, Z5, Z6, Z9, Y1, Y2]; omega)) only [go_sem])
  refine call_intro (S1 _ hS) (srcN_rd hr (j := 0) rfl) Src.wr ?_
  repeat' (first | (with_reducible first | refine W1 ?_ | refine W2 ?_ | refine W3 ?_ | refine W4 mixed ?_ | refine W5 ?_ | refine W6 ?_ | refine W7 ?_ | refine W8 ?_ | refine W9 ?_ | refine V1 ?_ | refine V2 ?_ | refine V3 ?_ | refine V4 (by decide) ?_ | refine V5 ?_ | refine V6 ?_ | refine V7 ?_ | refine V8 ?_ | refine V9 ?_ | refine U1 ?_ | refine U2 ?_ | refine U3 ?_) | (with_reducible refine U4 ?_ ?_; next => first | omega | exact ⟨trivial, by omega⟩) | simp (maxSteps := 2000000) (discharger := first | omega | (simp (discharger := omega) only [Z1, Z2, Z3, Z4, Z5, Z6, Z7] <;> fail) | (simp (discharger := omega) only [Z3, Z8, Z2, Z4, Z1, Z7, Z5, Z6, Z9, Y1, Y2]; omega)) only [go_sem])
  refine call_intro (S2 _ hS (nid N 1) true (by unfold nid; omega)) (srcN_rdK hr (j := 0) (k := 1) rfl rfl) Src.wrK ?_
  repeat' (first | (with_reducible first | refine W1 ?_ | refine W2 ?_ | refine W3 ?_ | refine W4 mixed ?_ | refine W5 ?_ | refine W6 ?_ | refine W7 ?_ | refine W8 ?_ | refine W9 ?_ | refine V1 ?_ | refine V2 ?_ | refine V3 ?_ | refine V4 (by decide) ?_ | refine V5 ?_ | refine V6 ?_ | refine V7 ?_ | refine V8 ?_ | refine V9 ?_ | refine U1 ?_ | refine U2 ?_ | refine U3 ?_) | (with_reducible refine U4 ?_ ?_; next => first | omega | exact ⟨trivial, by omega⟩) | simp (maxSteps := 2000000) (discharger := first | omega | (simp (discharger := omega) only [Z1, Z2, Z3, Z4, Z5, Z6, Z7] <;> fail) | (simp (discharger := omega) only [Z3, Z8, Z2, Z4, Z1, Z7, Z5, Z6, Z9, Y1, Y2]; omega)) only [go_sem])
  exact ret_none hN [.c (.int .i64 (n)), .c (.int .i64 (m)), .c (.int .i64 (k)), .c (.int .i64 (v2))] ⟨rfl, rfl, rfl, rfl, trivial⟩ rfl rfl rfl (by simp)
end Go.Proofs.Ytcfemdhlcjmlbaa
/- The laws' comparisons. -/
namespace Go.Proofs.Ytcfemdhlcjmlbaa
open Go Go.Abs
set_option maxRecDepth 100000

/- loop.example/g01262/laws.pairs9 -/
def c_laws_pairs9 : SFn := ⟨(.seq (.ops [⟨some 4, .assign (.const (.bool false)), none⟩])
 (.seq (.seq (.ops [⟨some 6, .move (.tmp 0), none⟩, ⟨some 7, .call ⟨.builtin .len, #[.tmp 6], #[31]⟩, none⟩, ⟨some 8, .move (.tmp 1), none⟩, ⟨some 9, .call ⟨.builtin .len, #[.tmp 8], #[31]⟩, none⟩, ⟨some 10, .binOp .neq 3 (.tmp 7) (.tmp 9) 3, none⟩])
   (.cond (.tmp 10) (.seq (.ops [⟨some 4, .assign (.const (.bool false)), none⟩])
     .ret)
    .skip))
  (.seq (.seq (.ops [⟨some 5, .assign (.const (.int .i64 0)), none⟩])
    (.block 0 (.loop (.seq (.seq (.ops [⟨some 11, .move (.tmp 5), none⟩, ⟨some 12, .move (.tmp 0), none⟩, ⟨some 13, .call ⟨.builtin .len, #[.tmp 12], #[31]⟩, none⟩, ⟨some 14, .binOp .lss 3 (.tmp 11) (.tmp 13) 3, none⟩])
        (.cond (.tmp 14) .skip
         (.exit 0)))
       (.seq (.block 1 (.seq (.opsD [⟨some 17, .move (.tmp 0), none⟩, ⟨some 18, .move (.tmp 5), none⟩, ⟨some 19, .indexAddr 31 (.tmp 17) (.tmp 18), none⟩, ⟨some 20, .load 125 (.tmp 19), none⟩, ⟨some 21, .move (.tmp 1), none⟩, ⟨some 22, .move (.tmp 5), none⟩, ⟨some 23, .indexAddr 31 (.tmp 21) (.tmp 22), none⟩, ⟨some 24, .load 125 (.tmp 23), none⟩, ⟨some 25, .binOp .neq 125 (.tmp 20) (.tmp 24) 125, none⟩] [(3, 7)])
          (.cond (.tmp 25) (.seq (.ops [⟨some 4, .assign (.const (.bool false)), none⟩])
            .ret)
           .skip)))
        (.ops [⟨some 15, .move (.tmp 5), none⟩, ⟨some 16, .binOp .add 3 (.tmp 15) (.const (.int .i64 1)) 3, none⟩, ⟨some 5, .assign (.tmp 16), none⟩]))))))
   (.seq (.ops [⟨some 4, .assign (.const (.bool true)), none⟩])
    .ret)))), [.tmp 4], 26⟩
theorem f_laws_pairs9 : isFn Go.Proofs.Try.prog 20 = some c_laws_pairs9 := by kernel_rfl


/- loop.example/g01262/laws.likeInts -/

/- loop.example/g01262/laws.tensors5 -/
set_option maxRecDepth 100000
set_option maxHeartbeats 16000000
set_option linter.unusedVariables false
attribute [-simp] List.getD_eq_getElem?_getD

theorem sameInts_u8s : ∀ {a b : List Int}, a.length = b.length → sameInts (u8s a) (u8s b) = true
  | [], [], _ => rfl
  | a :: l, b :: m, h => by
    have := sameInts_u8s (a := l) (b := m) (by simpa using h)
    simp only [u8s, List.map_cons] at this ⊢
    simpa [sameInts] using this
  | [], _ :: _, h => by simp at h
  | _ :: _, [], h => by simp at h
theorem intsEq_u8s : ∀ {a b : List Int}, a.length = b.length → intsEq (u8s a) (u8s b) = decide (a = b)
  | [], [], _ => rfl
  | a :: l, b :: m, h => by
    have := intsEq_u8s (a := l) (b := m) (by simpa using h)
    simp only [u8s, List.map_cons] at this ⊢
    rw [intsEq, this]
    by_cases e : a = b <;> simp [e]
  | [], _ :: _, h => by simp at h
  | _ :: _, [], h => by simp at h
theorem pairs9_spec {a b : Cell} {ra rb : List (Nat × AObj)} {n m : Nat} {la lb : List Int} (ha : Sl 18 (u8s la) n a ra) (hb : Sl 18 (u8s lb) m b rb) (hla : la.length = n * 18) (hlb : lb.length = m * 18) (hl : n ≤ 1099511627776) : FSpec Try.prog 20 [.c a, .c b] (.c (.bool (decide (la = lb)))) (ra ++ rb) [] := by
  refine FSpec.of f_laws_pairs9 (Nat.le_of_ble_eq_true rfl) fun G N hN hr hw => ?_
  simp only [c_laws_pairs9, List.length_cons, List.length_nil, List.replicate, List.cons_append, List.nil_append]
  repeat' (first | (with_reducible first | refine W1 ?_ | refine W2 ?_ | refine W3 ?_ | refine W4 mixed ?_ | refine W5 ?_ | refine W6 ?_ | refine W7 ?_ | refine W8 ?_ | refine W9 ?_ | refine V1 ?_ | refine V2 ?_ | refine V3 ?_ | refine V4 (by decide) ?_ | refine V5 ?_ | refine V6 ?_ | refine V7 ?_ | refine V8 ?_ | refine V9 ?_ | refine U1 ?_ | refine U2 ?_ | refine U3 ?_) | (with_reducible refine U4 ?_ ?_; next => first | omega | exact ⟨trivial, by omega⟩) | simp (maxSteps := 2000000) (discharger := first | omega | (simp (discharger := omega) only [Z1, Z2, Z3, Z4, Z5, Z6, Z7] <;> fail) | (simp (discharger := omega) only [Z3, Z8, Z2, Z4, Z1, Z7, Z5, Z6, Z9, Y1, Y2]; omega)) only [go_sem, ha.len (P := Try.prog), hb.len (P := Try.prog)])
  refine swp_cond _ rfl (fun h => ?_) (fun h => ?_)
  · repeat' (first | (with_reducible first | refine W1 ?_ | refine W2 ?_ | refine W3 ?_ | refine W4 mixed ?_ | refine W5 ?_ | refine W6 ?_ | refine W7 ?_ | refine W8 ?_ | refine W9 ?_ | refine V1 ?_ | refine V2 ?_ | refine V3 ?_ | refine V4 (by decide) ?_ | refine V5 ?_ | refine V6 ?_ | refine V7 ?_ | refine V8 ?_ | refine V9 ?_ | refine U1 ?_ | refine U2 ?_ | refine U3 ?_) | (with_reducible refine U4 ?_ ?_; next => first | omega | exact ⟨trivial, by omega⟩) | simp (maxSteps := 2000000) (discharger := first | omega | (simp (discharger := omega) only [Z1, Z2, Z3, Z4, Z5, Z6, Z7] <;> fail) | (simp (discharger := omega) only [Z3, Z8, Z2, Z4, Z1, Z7, Z5, Z6, Z9, Y1, Y2]; omega)) only [go_sem])
    refine ret_eq hN rfl rfl (congrArg Cell.bool (decide_eq_false fun e => ?_).symm)
    subst e; simp at h; omega
  have hlen : n = m := by simp at h; omega
  subst hlen
  repeat' (first | (with_reducible first | refine W1 ?_ | refine W2 ?_ | refine W3 ?_ | refine W4 mixed ?_ | refine W5 ?_ | refine W6 ?_ | refine W7 ?_ | refine W8 ?_ | refine W9 ?_ | refine V1 ?_ | refine V2 ?_ | refine V3 ?_ | refine V4 (by decide) ?_ | refine V5 ?_ | refine V6 ?_ | refine V7 ?_ | refine V8 ?_ | refine V9 ?_ | refine U1 ?_ | refine U2 ?_ | refine U3 ?_) | (with_reducible refine U4 ?_ ?_; next => first | omega | exact ⟨trivial, by omega⟩) | simp (maxSteps := 2000000) (discharger := first | omega | (simp (discharger := omega) only [Z1, Z2, Z3, Z4, Z5, Z6, Z7] <;> fail) | (simp (discharger := omega) only [Z3, Z8, Z2, Z4, Z1, Z7, Z5, Z6, Z9, Y1, Y2]; omega)) only [go_sem])
  refine swp_for (fun i : Nat => ([.c a, .c b, .any, .any, .any, .c (.int .i64 ((i : Nat) : Int))] ++ List.replicate 20 .any)) (fun i => ⟨G, N, []⟩) (fun i => n - i) (fun i => i ≤ n ∧ la.take (i * 18) = lb.take (i * 18)) 0 ⟨Nat.zero_le _, rfl⟩ rfl (by repeat' (first | exact trivial | exact .inl rfl | exact .inr rfl | refine ⟨?_, ?_⟩)) fun i hi => ?_
  simp only [List.replicate, List.cons_append, List.nil_append]
  repeat' (first | (with_reducible first | refine W1 ?_ | refine W2 ?_ | refine W3 ?_ | refine W4 mixed ?_ | refine W5 ?_ | refine W6 ?_ | refine W7 ?_ | refine W8 ?_ | refine W9 ?_ | refine V1 ?_ | refine V2 ?_ | refine V3 ?_ | refine V4 (by decide) ?_ | refine V5 ?_ | refine V6 ?_ | refine V7 ?_ | refine V8 ?_ | refine V9 ?_ | refine U1 ?_ | refine U2 ?_ | refine U3 ?_) | (with_reducible refine U4 ?_ ?_; next => first | omega | exact ⟨trivial, by omega⟩) | simp (maxSteps := 2000000) (discharger := first | omega | (simp (discharger := omega) only [Z1, Z2, Z3, Z4, Z5, Z6, Z7] <;> fail) | (simp (discharger := omega) only [Z3, Z8, Z2, Z4, Z1, Z7, Z5, Z6, Z9, Y1, Y2]; omega)) only [go_sem, ha.len (P := Try.prog)])
  refine swp_cond _ rfl (fun h => ?_) (fun h => ?_)
  · have hlt : i < n := by simpa using h
    have hix : i * 18 + 18 ≤ n * 18 := by omega
    obtain ⟨k0, own, rfl, rfl, _⟩ := ha.some hlt
    obtain ⟨k1, own1, rfl, rfl, _⟩ := hb.some hlt
    have ⟨h1, h2⟩ := hr (k0, _) (List.mem_append_left _ (List.mem_singleton.2 rfl))
    have ⟨h3, h4⟩ := hr (k1, _) (List.mem_append_right _ (List.mem_singleton.2 rfl))
    dsimp only at h1 h2 h3 h4
    repeat' (first | (with_reducible first | refine W1 ?_ | refine W2 ?_ | refine W3 ?_ | refine W4 mixed ?_ | refine W5 ?_ | refine W6 ?_ | refine W7 ?_ | refine W8 ?_ | refine W9 ?_ | refine V1 ?_ | refine V2 ?_ | refine V3 ?_ | refine V4 (by decide) ?_ | refine V5 ?_ | refine V6 ?_ | refine V7 ?_ | refine V8 ?_ | refine V9 ?_ | refine U1 ?_ | refine U2 ?_ | refine U3 ?_) | (with_reducible refine U4 ?_ ?_; next => first | omega | exact ⟨trivial, by omega⟩) | simp (maxSteps := 2000000) (discharger := first | omega | (simp (discharger := omega) only [Z1, Z2, Z3, Z4, Z5, Z6, Z7] <;> fail) | (simp (discharger := omega) only [Z3, Z8, Z2, Z4, Z1, Z7, Z5, Z6, Z9, Y1, Y2]; omega)) only [go_sem, h1, h3])
    have hsa : (sub la (i * 18) 18).length = 18 := sub_length (by omega)
    have hsb : (sub lb (i * 18) 18).length = 18 := sub_length (by omega)
    refine must_intro (by kernel_rfl) ?_
    refine must_intro (by rw [u8s_length, hsa]; kernel_rfl) ?_
    refine must_intro (sameInts_u8s (hsa.trans hsb.symm)) ?_
    rw [intsEq_u8s (hsa.trans hsb.symm)]
    repeat' (first | (with_reducible first | refine W1 ?_ | refine W2 ?_ | refine W3 ?_ | refine W4 mixed ?_ | refine W5 ?_ | refine W6 ?_ | refine W7 ?_ | refine W8 ?_ | refine W9 ?_ | refine V1 ?_ | refine V2 ?_ | refine V3 ?_ | refine V4 (by decide) ?_ | refine V5 ?_ | refine V6 ?_ | refine V7 ?_ | refine V8 ?_ | refine V9 ?_ | refine U1 ?_ | refine U2 ?_ | refine U3 ?_) | (with_reducible refine U4 ?_ ?_; next => first | omega | exact ⟨trivial, by omega⟩) | simp (maxSteps := 2000000) (discharger := first | omega | (simp (discharger := omega) only [Z1, Z2, Z3, Z4, Z5, Z6, Z7] <;> fail) | (simp (discharger := omega) only [Z3, Z8, Z2, Z4, Z1, Z7, Z5, Z6, Z9, Y1, Y2]; omega)) only [go_sem])
    refine must_intro (by simp [confV, apart, notIn, lk]) ?_
    repeat' (first | (with_reducible first | refine W1 ?_ | refine W2 ?_ | refine W3 ?_ | refine W4 mixed ?_ | refine W5 ?_ | refine W6 ?_ | refine W7 ?_ | refine W8 ?_ | refine W9 ?_ | refine V1 ?_ | refine V2 ?_ | refine V3 ?_ | refine V4 (by decide) ?_ | refine V5 ?_ | refine V6 ?_ | refine V7 ?_ | refine V8 ?_ | refine V9 ?_ | refine U1 ?_ | refine U2 ?_ | refine U3 ?_) | (with_reducible refine U4 ?_ ?_; next => first | omega | exact ⟨trivial, by omega⟩) | simp (maxSteps := 2000000) (discharger := first | omega | (simp (discharger := omega) only [Z1, Z2, Z3, Z4, Z5, Z6, Z7] <;> fail) | (simp (discharger := omega) only [Z3, Z8, Z2, Z4, Z1, Z7, Z5, Z6, Z9, Y1, Y2]; omega)) only [go_sem])
    refine swp_cond _ rfl (fun h => ?_) (fun h => ?_)
    · repeat' (first | (with_reducible first | refine W1 ?_ | refine W2 ?_ | refine W3 ?_ | refine W4 mixed ?_ | refine W5 ?_ | refine W6 ?_ | refine W7 ?_ | refine W8 ?_ | refine W9 ?_ | refine V1 ?_ | refine V2 ?_ | refine V3 ?_ | refine V4 (by decide) ?_ | refine V5 ?_ | refine V6 ?_ | refine V7 ?_ | refine V8 ?_ | refine V9 ?_ | refine U1 ?_ | refine U2 ?_ | refine U3 ?_) | (with_reducible refine U4 ?_ ?_; next => first | omega | exact ⟨trivial, by omega⟩) | simp (maxSteps := 2000000) (discharger := first | omega | (simp (discharger := omega) only [Z1, Z2, Z3, Z4, Z5, Z6, Z7] <;> fail) | (simp (discharger := omega) only [Z3, Z8, Z2, Z4, Z1, Z7, Z5, Z6, Z9, Y1, Y2]; omega)) only [go_sem])
      refine ret_eq hN rfl rfl (congrArg Cell.bool (decide_eq_false fun e => ?_).symm)
      subst e; simp at h
    · have he : sub la (i * 18) 18 = sub lb (i * 18) 18 := by simpa using h
      repeat' (first | (with_reducible first | refine W1 ?_ | refine W2 ?_ | refine W3 ?_ | refine W4 mixed ?_ | refine W5 ?_ | refine W6 ?_ | refine W7 ?_ | refine W8 ?_ | refine W9 ?_ | refine V1 ?_ | refine V2 ?_ | refine V3 ?_ | refine V4 (by decide) ?_ | refine V5 ?_ | refine V6 ?_ | refine V7 ?_ | refine V8 ?_ | refine V9 ?_ | refine U1 ?_ | refine U2 ?_ | refine U3 ?_) | (with_reducible refine U4 ?_ ?_; next => first | omega | exact ⟨trivial, by omega⟩) | simp (maxSteps := 2000000) (discharger := first | omega | (simp (discharger := omega) only [Z1, Z2, Z3, Z4, Z5, Z6, Z7] <;> fail) | (simp (discharger := omega) only [Z3, Z8, Z2, Z4, Z1, Z7, Z5, Z6, Z9, Y1, Y2]; omega)) only [go_sem])
      refine forK_same (i + 1) (by omega) ⟨by omega, ?_⟩ rfl (by repeat' (first | exact trivial | exact .inl rfl | exact .inr rfl | refine ⟨?_, ?_⟩))
      rw [show (i + 1) * 18 = i * 18 + 18 by omega]
      exact take_sub_eq hi.2 he
  · have hlt : ¬ i < n := by simpa using h
    repeat' (first | (with_reducible first | refine W1 ?_ | refine W2 ?_ | refine W3 ?_ | refine W4 mixed ?_ | refine W5 ?_ | refine W6 ?_ | refine W7 ?_ | refine W8 ?_ | refine W9 ?_ | refine V1 ?_ | refine V2 ?_ | refine V3 ?_ | refine V4 (by decide) ?_ | refine V5 ?_ | refine V6 ?_ | refine V7 ?_ | refine V8 ?_ | refine V9 ?_ | refine U1 ?_ | refine U2 ?_ | refine U3 ?_) | (with_reducible refine U4 ?_ ?_; next => first | omega | exact ⟨trivial, by omega⟩) | simp (maxSteps := 2000000) (discharger := first | omega | (simp (discharger := omega) only [Z1, Z2, Z3, Z4, Z5, Z6, Z7] <;> fail) | (simp (discharger := omega) only [Z3, Z8, Z2, Z4, Z1, Z7, Z5, Z6, Z9, Y1, Y2]; omega)) only [go_sem])
    refine ret_eq hN rfl rfl (congrArg Cell.bool (decide_eq_true ?_).symm)
    have := hi.2
    rwa [List.take_of_length_le (by omega), List.take_of_length_le (by omega)] at this
end Go.Proofs.Ytcfemdhlcjmlbaa
