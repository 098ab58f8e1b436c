/- What the row needs, part 7 of 17: the texts YW, RK, Y2, Y4, Y5, Y8, F3, F4, F5, F6, F7, without what it does not use. -/
import Derived.Test.YtcfemdhlcjmlbaaProg
import Derived.Test.YtcfemdhlcjmlbaaLNa
import Derived.Test.YtcfemdhlcjmlbaaLNb
import Derived.Test.YtcfemdhlcjmlbaaLNc
import Derived.Test.YtcfemdhlcjmlbaaLNd
import Derived.Test.YtcfemdhlcjmlbaaLNe
import Derived.Test.YtcfemdhlcjmlbaaLNf
/- The right sides of equations; lists of pairs; their codes. -/
namespace Go.Proofs.Ytcfemdhlcjmlbaa
open Go Go.Abs
set_option maxRecDepth 100000

/- loop.example/g01262/impl.rightSide -/
def c_impl_rightSide : SFn := ⟨(.seq (.ops [⟨some 4, .box 53 (.tmp 0), none⟩, ⟨some 8, .assign (.const (.int .i64 0)), none⟩])
 (.seq (.seq (.opsD [⟨some 9, .move (.tmp 1), none⟩, ⟨some 10, .fieldAddr 53 (.tmp 4) 2, none⟩, ⟨some 11, .load 2 (.tmp 10), none⟩, ⟨some 12, .binOp .rem 2 (.tmp 9) (.tmp 11) 2, none⟩, ⟨some 13, .move (.tmp 2), none⟩, ⟨some 14, .fieldAddr 53 (.tmp 4) 3, none⟩, ⟨some 15, .load 2 (.tmp 14), none⟩, ⟨some 16, .binOp .quo 2 (.tmp 13) (.tmp 15) 2, none⟩, ⟨some 17, .binOp .eql 2 (.tmp 12) (.tmp 16) 2, none⟩, ⟨some 18, .move (.tmp 17), none⟩, ⟨some 19, .move (.tmp 1), some (18, true)⟩, ⟨some 20, .fieldAddr 53 (.tmp 4) 2, some (18, true)⟩, ⟨some 21, .load 2 (.tmp 20), some (18, true)⟩, ⟨some 22, .binOp .quo 2 (.tmp 19) (.tmp 21) 2, some (18, true)⟩, ⟨some 23, .move (.tmp 3), some (18, true)⟩, ⟨some 24, .fieldAddr 53 (.tmp 4) 3, some (18, true)⟩, ⟨some 25, .load 2 (.tmp 24), some (18, true)⟩, ⟨some 26, .binOp .quo 2 (.tmp 23) (.tmp 25) 2, some (18, true)⟩, ⟨some 27, .binOp .eql 2 (.tmp 22) (.tmp 26) 2, some (18, true)⟩, ⟨some 28, .pick (.tmp 18) (.tmp 27) (.const (.bool false)), none⟩, ⟨some 29, .move (.tmp 28), none⟩, ⟨some 30, .move (.tmp 2), some (29, true)⟩, ⟨some 31, .fieldAddr 53 (.tmp 4) 3, some (29, true)⟩, ⟨some 32, .load 2 (.tmp 31), some (29, true)⟩, ⟨some 33, .binOp .rem 2 (.tmp 30) (.tmp 32) 2, some (29, true)⟩, ⟨some 34, .move (.tmp 3), some (29, true)⟩, ⟨some 35, .fieldAddr 53 (.tmp 4) 3, some (29, true)⟩, ⟨some 36, .load 2 (.tmp 35), some (29, true)⟩, ⟨some 37, .binOp .rem 2 (.tmp 34) (.tmp 36) 2, some (29, true)⟩, ⟨some 38, .binOp .eql 2 (.tmp 33) (.tmp 37) 2, some (29, true)⟩, ⟨some 39, .pick (.tmp 29) (.tmp 38) (.const (.bool false)), none⟩] [(2, 6), (12, 16), (23, 27)])
   (.cond (.tmp 39) (.seq (.ops [⟨some 8, .assign (.const (.int .i64 1)), none⟩])
     .ret)
    .skip))
  (.seq (.ops [⟨some 8, .assign (.const (.int .i64 0)), none⟩])
   .ret))), [.tmp 8], 40⟩
theorem f_impl_rightSide : isFn Go.Proofs.Try.prog 257 = some c_impl_rightSide := by kernel_rfl


/- loop.example/g01262/spec.l01Want -/
def c_spec_l01Want : SFn := ⟨(.seq (.ops [⟨some 4, .box 53 (.tmp 0), none⟩, ⟨some 8, .assign (.const (.int .i64 0)), none⟩])
 (.seq (.seq (.opsD [⟨some 9, .move (.tmp 1), none⟩, ⟨some 10, .fieldAddr 53 (.tmp 4) 2, none⟩, ⟨some 11, .load 2 (.tmp 10), none⟩, ⟨some 12, .binOp .rem 2 (.tmp 9) (.tmp 11) 2, none⟩, ⟨some 13, .move (.tmp 2), none⟩, ⟨some 14, .fieldAddr 53 (.tmp 4) 3, none⟩, ⟨some 15, .load 2 (.tmp 14), none⟩, ⟨some 16, .binOp .quo 2 (.tmp 13) (.tmp 15) 2, none⟩, ⟨some 17, .binOp .eql 2 (.tmp 12) (.tmp 16) 2, none⟩, ⟨some 18, .move (.tmp 17), none⟩, ⟨some 19, .move (.tmp 1), some (18, true)⟩, ⟨some 20, .fieldAddr 53 (.tmp 4) 2, some (18, true)⟩, ⟨some 21, .load 2 (.tmp 20), some (18, true)⟩, ⟨some 22, .binOp .quo 2 (.tmp 19) (.tmp 21) 2, some (18, true)⟩, ⟨some 23, .move (.tmp 3), some (18, true)⟩, ⟨some 24, .fieldAddr 53 (.tmp 4) 3, some (18, true)⟩, ⟨some 25, .load 2 (.tmp 24), some (18, true)⟩, ⟨some 26, .binOp .quo 2 (.tmp 23) (.tmp 25) 2, some (18, true)⟩, ⟨some 27, .binOp .eql 2 (.tmp 22) (.tmp 26) 2, some (18, true)⟩, ⟨some 28, .pick (.tmp 18) (.tmp 27) (.const (.bool false)), none⟩, ⟨some 29, .move (.tmp 28), none⟩, ⟨some 30, .move (.tmp 2), some (29, true)⟩, ⟨some 31, .fieldAddr 53 (.tmp 4) 3, some (29, true)⟩, ⟨some 32, .load 2 (.tmp 31), some (29, true)⟩, ⟨some 33, .binOp .rem 2 (.tmp 30) (.tmp 32) 2, some (29, true)⟩, ⟨some 34, .move (.tmp 3), some (29, true)⟩, ⟨some 35, .fieldAddr 53 (.tmp 4) 3, some (29, true)⟩, ⟨some 36, .load 2 (.tmp 35), some (29, true)⟩, ⟨some 37, .binOp .rem 2 (.tmp 34) (.tmp 36) 2, some (29, true)⟩, ⟨some 38, .binOp .eql 2 (.tmp 33) (.tmp 37) 2, some (29, true)⟩, ⟨some 39, .pick (.tmp 29) (.tmp 38) (.const (.bool false)), none⟩] [(2, 6), (12, 16), (23, 27)])
   (.cond (.tmp 39) (.seq (.ops [⟨some 8, .assign (.const (.int .i64 1)), none⟩])
     .ret)
    .skip))
  (.seq (.ops [⟨some 8, .assign (.const (.int .i64 0)), none⟩])
   .ret))), [.tmp 8], 40⟩
theorem f_spec_l01Want : isFn Go.Proofs.Try.prog 259 = some c_spec_l01Want := by kernel_rfl


/- loop.example/g01262/impl.isPair -/
set_option maxRecDepth 100000
set_option maxHeartbeats 16000000
set_option linter.unusedVariables false
attribute [-simp] List.getD_eq_getElem?_getD
attribute [-go_sem] confV

/-- The right side of an equation. -/
def wantV (m k a b c : Int) : Int := if a.tmod m = b.tdiv k ∧ a.tdiv m = c.tdiv k ∧ b.tmod k = c.tmod k then 1 else 0
theorem tdiv_rng {a k : Int} (ha : 0 ≤ a) (hk : 1 ≤ k) : 0 ≤ a.tdiv k ∧ a.tdiv k ≤ a := by
  rw [Int.tdiv_eq_ediv_of_nonneg ha]
  exact ⟨Int.ediv_nonneg ha (by omega), Int.ediv_le_self _ ha⟩
theorem rightSide_spec (p n m k : Int) (c : Cell) {x y z : Int} (hm : 1 ≤ m ∧ m ≤ 3) (hk : 1 ≤ k ∧ k ≤ 3) (hx : 0 ≤ x ∧ x ≤ 9) (hy : 0 ≤ y ∧ y ≤ 9) (hz : 0 ≤ z ∧ z ≤ 9) :
    FSpec Try.prog 257 [.agg (tenC p n m k c), .c (.int .i64 x), .c (.int .i64 y), .c (.int .i64 z)] (.c (.int .i64 (wantV m k x y z))) [] [] := by
  have d1 := tdiv_rng hy.1 hk.1
  have d2 := tdiv_rng hx.1 hm.1
  have d3 := tdiv_rng hz.1 hk.1
  refine FSpec.of f_impl_rightSide (Nat.le_of_ble_eq_true rfl) fun G N hN hr hw => ?_
  simp only [c_impl_rightSide, List.length_cons, List.length_nil, List.replicate, List.cons_append, List.nil_append]
  simp only [tenC]
  repeat' (first | (with_reducible first | refine W1 ?_ | refine W2 ?_ | refine W3 ?_ | refine W4 mixed ?_ | refine W5 ?_ | refine W6 ?_ | refine W7 ?_ | refine W8 ?_ | refine W9 ?_ | refine V1 ?_ | refine V2 ?_ | refine V3 ?_ | refine V4 (by decide) ?_ | refine V5 ?_ | refine V6 ?_ | refine V7 ?_ | refine V8 ?_ | refine V9 ?_ | refine U1 ?_ | refine U2 ?_ | refine U3 ?_) | (with_reducible refine U4 ?_ ?_; next => first | omega | exact ⟨trivial, by omega⟩) | ((with_reducible refine U5 _ rfl (fun hq => ?_) (fun hq => ?_)) <;> try (first | (cases hq; done) | exact absurd hq (by decide))) | ((with_reducible refine U6 (fun hq => ?_) (fun hq => ?_)) <;> try (first | (cases hq; done) | exact absurd hq (by decide))) | simp (maxSteps := 2000000) (discharger := first | omega | (simp (discharger := omega) only [Z1, Z2, Z3, Z4, Z5, Z6, Z7] <;> fail) | (simp (discharger := omega) only [Z3, Z8, Z2, Z4, Z1, Z7, Z5, Z6, Z9, Y1, Y2]; omega)) only [go_sem])
  all_goals refine must_conf rfl ?_
  all_goals repeat' (first | (with_reducible first | refine W1 ?_ | refine W2 ?_ | refine W3 ?_ | refine W4 mixed ?_ | refine W5 ?_ | refine W6 ?_ | refine W7 ?_ | refine W8 ?_ | refine W9 ?_ | refine V1 ?_ | refine V2 ?_ | refine V3 ?_ | refine V4 (by decide) ?_ | refine V5 ?_ | refine V6 ?_ | refine V7 ?_ | refine V8 ?_ | refine V9 ?_ | refine U1 ?_ | refine U2 ?_ | refine U3 ?_) | (with_reducible refine U4 ?_ ?_; next => first | omega | exact ⟨trivial, by omega⟩) | ((with_reducible refine U5 _ rfl (fun hq => ?_) (fun hq => ?_)) <;> try (first | (cases hq; done) | exact absurd hq (by decide))) | ((with_reducible refine U6 (fun hq => ?_) (fun hq => ?_)) <;> try (first | (cases hq; done) | exact absurd hq (by decide))) | simp (maxSteps := 2000000) (discharger := first | omega | (simp (discharger := omega) only [Z1, Z2, Z3, Z4, Z5, Z6, Z7] <;> fail) | (simp (discharger := omega) only [Z3, Z8, Z2, Z4, Z1, Z7, Z5, Z6, Z9, Y1, Y2]; omega)) only [go_sem])
  all_goals exact ret_eq hN rfl rfl (by rw [wantV]; simp_all)
theorem l01Want_spec (p n m k : Int) (c : Cell) {x y z : Int} (hm : 1 ≤ m ∧ m ≤ 3) (hk : 1 ≤ k ∧ k ≤ 3) (hx : 0 ≤ x ∧ x ≤ 9) (hy : 0 ≤ y ∧ y ≤ 9) (hz : 0 ≤ z ∧ z ≤ 9) :
    FSpec Try.prog 259 [.agg (tenC p n m k c), .c (.int .i64 x), .c (.int .i64 y), .c (.int .i64 z)] (.c (.int .i64 (wantV m k x y z))) [] [] := by
  have d1 := tdiv_rng hy.1 hk.1
  have d2 := tdiv_rng hx.1 hm.1
  have d3 := tdiv_rng hz.1 hk.1
  refine FSpec.of f_spec_l01Want (Nat.le_of_ble_eq_true rfl) fun G N hN hr hw => ?_
  simp only [c_spec_l01Want, List.length_cons, List.length_nil, List.replicate, List.cons_append, List.nil_append]
  simp only [tenC]
  repeat' (first | (with_reducible first | refine W1 ?_ | refine W2 ?_ | refine W3 ?_ | refine W4 mixed ?_ | refine W5 ?_ | refine W6 ?_ | refine W7 ?_ | refine W8 ?_ | refine W9 ?_ | refine V1 ?_ | refine V2 ?_ | refine V3 ?_ | refine V4 (by decide) ?_ | refine V5 ?_ | refine V6 ?_ | refine V7 ?_ | refine V8 ?_ | refine V9 ?_ | refine U1 ?_ | refine U2 ?_ | refine U3 ?_) | (with_reducible refine U4 ?_ ?_; next => first | omega | exact ⟨trivial, by omega⟩) | ((with_reducible refine U5 _ rfl (fun hq => ?_) (fun hq => ?_)) <;> try (first | (cases hq; done) | exact absurd hq (by decide))) | ((with_reducible refine U6 (fun hq => ?_) (fun hq => ?_)) <;> try (first | (cases hq; done) | exact absurd hq (by decide))) | simp (maxSteps := 2000000) (discharger := first | omega | (simp (discharger := omega) only [Z1, Z2, Z3, Z4, Z5, Z6, Z7] <;> fail) | (simp (discharger := omega) only [Z3, Z8, Z2, Z4, Z1, Z7, Z5, Z6, Z9, Y1, Y2]; omega)) only [go_sem])
  all_goals refine must_conf rfl ?_
  all_goals repeat' (first | (with_reducible first | refine W1 ?_ | refine W2 ?_ | refine W3 ?_ | refine W4 mixed ?_ | refine W5 ?_ | refine W6 ?_ | refine W7 ?_ | refine W8 ?_ | refine W9 ?_ | refine V1 ?_ | refine V2 ?_ | refine V3 ?_ | refine V4 (by decide) ?_ | refine V5 ?_ | refine V6 ?_ | refine V7 ?_ | refine V8 ?_ | refine V9 ?_ | refine U1 ?_ | refine U2 ?_ | refine U3 ?_) | (with_reducible refine U4 ?_ ?_; next => first | omega | exact ⟨trivial, by omega⟩) | ((with_reducible refine U5 _ rfl (fun hq => ?_) (fun hq => ?_)) <;> try (first | (cases hq; done) | exact absurd hq (by decide))) | ((with_reducible refine U6 (fun hq => ?_) (fun hq => ?_)) <;> try (first | (cases hq; done) | exact absurd hq (by decide))) | simp (maxSteps := 2000000) (discharger := first | omega | (simp (discharger := omega) only [Z1, Z2, Z3, Z4, Z5, Z6, Z7] <;> fail) | (simp (discharger := omega) only [Z3, Z8, Z2, Z4, Z1, Z7, Z5, Z6, Z9, Y1, Y2]; omega)) only [go_sem])
  all_goals exact ret_eq hN rfl rfl (by rw [wantV]; simp_all)

/-- A pair for sizes: forms at their places, neither 0 everywhere. -/
def pairOk (p a b : Int) (q : List Int) : Bool := formOk p a (sub q 0 9) && formOk p b (sub q 9 9) && !decide (sub q 0 9 = zeros 9) && !decide (sub q 9 9 = zeros 9)
def pairsOk (p a b : Int) (r : Nat) (l : List Int) : Bool := (List.range r).all fun t => pairOk p a b (sub l (t * 18) 18)
/-- What is wrong with a prime, sizes and pairs. -/
def prCode (p n m k : Int) (r : Nat) (l : List Int) : Int := if (isP p && inSz n && inSz m && inSz k) = true then (if pairsOk p (n * m) (m * k) r l = true then (if r ≤ 30 then 0 else 2) else 1) else 2
end Go.Proofs.Ytcfemdhlcjmlbaa
/- Calls that hand out rows. -/
namespace Go.Proofs.Ytcfemdhlcjmlbaa
open Go Go.Abs
set_option maxRecDepth 100000

set_option maxRecDepth 100000
set_option maxHeartbeats 4000000
set_option linter.unusedVariables false
attribute [-simp] List.getD_eq_getElem?_getD

theorem rows_freeK {G : Heap} {N : Nat} {rs : List (Nat × AObj)} {x : Nat} {ys : List Nat} {R : List (List Int)} {cs : List Cell} (hyl : ys.length = R.length) (hw : ∀ p ∈ ((x, Slot.live ⟨cs, true⟩) :: rowsW ys R), p.1 < N ∧ ((∃ ob, (p.1, ob) ∈ rs) ∨ G p.1 = .free)) (hx : ∀ p ∈ rs, p.1 ≠ x ∧ p.1 ∉ ys) : G x = .free ∧ ∀ y ∈ ys, G y = .free := by
  refine ⟨new_free (hw _ List.mem_cons_self).2 fun p hp => (hx p hp).1, fun y hy => ?_⟩
  obtain ⟨i, hi, rfl⟩ := List.mem_iff_getElem.1 hy
  have : ∀ {ys : List Nat} {R : List (List Int)}, ys.length = R.length → ∀ i (hi : i < ys.length), ∃ s, (ys[i], s) ∈ rowsW ys R := by
    intro ys
    induction ys with
    | nil => intro R _ i hi; simp at hi
    | cons y ys ih =>
      intro R hl i hi
      cases R with
      | nil => simp at hl
      | cons r R =>
        cases i with
        | zero => exact ⟨_, by simp [rowsW]; exact .inl rfl⟩
        | succ i =>
          obtain ⟨s, hs⟩ := ih (by simpa using hl) i (by simpa using hi)
          exact ⟨s, by simp [rowsW, hs]⟩
  obtain ⟨s, hs⟩ := this hyl i hi
  exact new_free (n := ys[i]) (hw _ (List.mem_cons_of_mem _ hs)).2 fun p hp e => (hx p hp).2 (by rw [e]; exact hy)
/-- What a call that hands out rows leaves. -/
structure NewRowsK (G : Heap) (N : Nat) (L : List Slot) (w : Nat) (R : List (List Int)) (rs : List (Nat × AObj)) (ws : List (Nat × Slot)) (L' : List Slot) (J : List Nat) : Prop where
  ids : ∃ ids, (∀ z ∈ ids, nid N L.length ≤ z) ∧ ∀ i F, consF i rs ws F = (i, rs.map (·.1), ids) :: F
  puts : (⟨G, N, L⟩ : AHeap).puts ws = ⟨G, N, L'⟩
  len : L'.length = L.length + 1 + R.length
  hd : gd L' L.length = .live ⟨rowN N J w, true⟩
  rows : Abs.Rows L' J R
  lo : ∀ j ∈ J, L.length < j
  old : ∀ j, j < L.length → gd L' j = gd L j
/-- A call that hands out rows. -/
theorem call_rowsX {P : Program} {G : Heap} {N : Nat} {L : List Slot} {f : FuncId} {args : List AV} {K : Kont} {val : Nat → AV} {rs : List (Nat × AObj)} {w : Nat} {R : List (List Int)}
    (hs : ∀ x ys, (x :: ys).Nodup → ys.length = R.length → (∀ p ∈ rs, p.1 ≠ x ∧ p.1 ∉ ys) → FSpec P f args (val x) rs ((x, .live ⟨rowC ys w, true⟩) :: rowsW ys R)) (h1 : ∀ p ∈ rs, (⟨G, N, L⟩ : AHeap).get p.1 = .live p.2)
    (hK : ∀ (ws : List (Nat × Slot)) (L' : List Slot), (∃ ids, (∀ z ∈ ids, nid N L.length ≤ z) ∧ ∀ i F, consF i rs ws F = (i, rs.map (·.1), ids) :: F) → (⟨G, N, L⟩ : AHeap).puts ws = ⟨G, N, L'⟩ → L'.length = L.length + 1 + R.length → gd L' L.length = .live ⟨rowN N (nextJ L R.length) w, true⟩ → Abs.Rows L' (nextJ L R.length) R → (∀ j, j < L.length → gd L' j = gd L j) → K (val (nid N L.length)) rs ws) :
    vCall P f args ⟨G, N, L⟩ (.mk K) := by
  have hnd := nextJ_nd L R.length
  obtain ⟨L', e1, e2, e3, e4, e5, e6⟩ := puts_rowsX (G := G) (N := N) (L := L) (w := w) (nextJ_len L R.length) hnd
  have free : ∀ j, L.length ≤ j → (⟨G, N, L⟩ : AHeap).get (nid N j) = .free := fun j hj => by rw [get_new, gd_len hj]
  have ndN : (nid N L.length :: (nextJ L R.length).map (nid N)).Nodup := by
    rw [← List.map_cons, List.nodup_iff_pairwise_ne, List.pairwise_map]
    exact (List.nodup_iff_pairwise_ne.1 hnd).imp fun h e => h (by unfold nid at e; omega)
  have out : ∀ p ∈ rs, p.1 ≠ nid N L.length ∧ p.1 ∉ (nextJ L R.length).map (nid N) := fun p hp => by
    have h2 := h1 p hp
    refine ⟨fun e => (by rw [e, free _ (Nat.le_refl _)] at h2; cases h2), fun e => ?_⟩
    obtain ⟨j, hj, e⟩ := List.mem_map.1 e
    rw [← e, free j (by have := nextJ_mem hj; omega)] at h2
    cases h2
  have idb : ∀ z ∈ nid N L.length :: (rowsW ((nextJ L R.length).map (nid N)) R).map (·.1), nid N L.length ≤ z := by
    intro z hz
    rcases List.mem_cons.1 hz with rfl | hz
    · exact Nat.le_refl _
    · obtain ⟨q, hq, rfl⟩ := List.mem_map.1 hz
      obtain ⟨i, h2, rfl⟩ := rowsW_mem (by rw [List.length_map, nextJ_len]) q hq
      have : ((nextJ L R.length).map (nid N)).getD i 0 ∈ (nextJ L R.length).map (nid N) := getD_mem (by rw [List.length_map, nextJ_len]; exact h2)
      obtain ⟨j, hj, e⟩ := List.mem_map.1 this
      dsimp only
      rw [← e]
      have := nextJ_mem hj
      unfold nid; omega
  refine call_intro (hs _ _ ndN (by rw [List.length_map, nextJ_len]) out) h1 (fun p hp => ?_) ?_
  · right
    rcases List.mem_cons.1 hp with rfl | hp
    · exact free _ (Nat.le_refl _)
    · obtain ⟨i, h2, rfl⟩ := rowsW_mem (by rw [List.length_map, nextJ_len]) p hp
      have : ((nextJ L R.length).map (nid N)).getD i 0 ∈ (nextJ L R.length).map (nid N) := getD_mem (by rw [List.length_map, nextJ_len]; exact h2)
      obtain ⟨j, hj, e⟩ := List.mem_map.1 this
      dsimp only
      rw [← e]
      exact free j (by have := nextJ_mem hj; omega)
  · refine hK _ L' ⟨_, idb, fun i F => consF_rw⟩ e1 (Nat.le_antisymm (e3 _ (by omega) fun j hj => ?_) ?_) e4 e5 fun j hj => e6 j fun hm => ?_
    · rcases List.mem_cons.1 hj with rfl | hj
      · omega
      · have := nextJ_mem hj; omega
    · by_cases h0 : R.length = 0
      · have h3 : L.length < L'.length := by
          apply Classical.byContradiction
          intro hh
          rw [gd_len (by omega)] at e4
          cases e4
        omega
      · have := e5.lt ((nextJ L R.length).getD (R.length - 1) 0) (getD_mem (by rw [nextJ_len]; omega))
        rw [nextJ_get (by omega)] at this
        omega
    · rcases List.mem_cons.1 hm with rfl | hm
      · omega
      · have := nextJ_mem hm; omega
theorem call_rowsK {P : Program} {G : Heap} {N : Nat} {L : List Slot} {f : FuncId} {args : List AV} {K : Kont} {val : Nat → AV} {rs : List (Nat × AObj)} {w : Nat} {R : List (List Int)}
    (hs : ∀ x ys, (x :: ys).Nodup → ys.length = R.length → (∀ p ∈ rs, p.1 ≠ x ∧ p.1 ∉ ys) → FSpec P f args (val x) rs ((x, .live ⟨rowC ys w, true⟩) :: rowsW ys R)) (h1 : ∀ p ∈ rs, (⟨G, N, L⟩ : AHeap).get p.1 = .live p.2)
    (hK : ∀ ws L' J, NewRowsK G N L w R rs ws L' J → K (val (nid N L.length)) rs ws) : vCall P f args ⟨G, N, L⟩ (.mk K) :=
  call_rowsX hs h1 fun ws L' a1 a2 a3 a4 a5 a6 => hK ws L' _ ⟨a1, a2, a3, a4, a5, fun j hj => (nextJ_mem hj).1, a6⟩

end Go.Proofs.Ytcfemdhlcjmlbaa
/- What is wrong with pairs, both sides; the system of equations, ours. -/
namespace Go.Proofs.Ytcfemdhlcjmlbaa
open Go Go.Abs
set_option maxRecDepth 100000

/- loop.example/g01262/impl.listCode -/

/- loop.example/g01262/spec.l10Code -/
set_option maxRecDepth 100000
set_option maxHeartbeats 16000000
set_option linter.unusedVariables false
attribute [-simp] List.getD_eq_getElem?_getD
attribute [-go_sem] confV

theorem pairsOk_rng {p a b : Int} {r : Nat} {l : List Int} (hl : l.length = r * 18) (h : pairsOk p a b r l = true) (hb : byteL l) (hp : 0 < p) : modL p l := by
  intro i
  by_cases hi : i < l.length
  · refine ⟨(hb.get i).1, ?_⟩
    have ht : i / 18 < r := by omega
    have h1 := (List.all_eq_true.1 h) (i / 18) (by simpa using ht)
    simp only [pairOk, Bool.and_eq_true, formOk, List.all_eq_true, decide_eq_true_eq] at h1
    obtain ⟨⟨⟨hA, hB⟩, -⟩, -⟩ := h1
    by_cases e : i % 18 < 9
    · have := (hA (i % 18) (by simpa using e)).1
      rw [sub_getD (by omega), sub_getD (by omega), show i / 18 * 18 + (0 + i % 18) = i from by omega] at this
      exact this
    · have := (hB (i % 18 - 9) (by simp; omega)).1
      rw [sub_getD (by omega), sub_getD (by omega), show i / 18 * 18 + (9 + (i % 18 - 9)) = i from by omega] at this
      exact this
  · rw [getD_none (by omega)]; omega
theorem sub_subY {l : List Int} {a m j n : Nat} (h : j + n ≤ m) : sub (sub l a m) j n = sub l (a + j) n := by
  simp only [sub, List.drop_take, List.take_take, List.drop_drop]
  rw [Nat.min_eq_left (by omega)]
theorem mul9 {n m : Int} (hn : inSz n = true) (hm : inSz m = true) : 0 ≤ n * m ∧ n * m ≤ 9 := by
  have b1 := inSz_rng hn
  have b2 := inSz_rng hm
  exact ⟨Int.mul_nonneg (by omega) (by omega), Int.le_trans (Int.mul_le_mul b1.2 b2.2 (by omega) (by omega)) (by omega)⟩
end Go.Proofs.Ytcfemdhlcjmlbaa
/- The system of equations of pairs, ours. -/
namespace Go.Proofs.Ytcfemdhlcjmlbaa
open Go Go.Abs
set_option maxRecDepth 100000

/- loop.example/g01262/impl.system -/
def c_impl_system : SFn := ⟨(.seq (.ops [⟨some 2, .box 53 (.tmp 0), none⟩, ⟨some 4, .assign (.const (.slice none 0 0)), none⟩])
 (.seq (.ops [⟨some 13, .buildSlice 56 0 #[], none⟩, ⟨some 14, .load 53 (.tmp 2), none⟩, ⟨some 15, .call ⟨.value (.func 154), #[.tmp 14], #[53]⟩, none⟩, ⟨some 6, .alloc 153, none⟩, ⟨some 5, .assign (.tmp 13), none⟩, ⟨none, .store 153 (.tmp 6) (.tmp 15), none⟩])
  (.seq (.seq (.ops [⟨some 16, .indexAddr 153 (.tmp 6) (.const (.int .i64 0)), none⟩, ⟨some 17, .load 2 (.tmp 16), none⟩, ⟨some 18, .move (.const (.int .i64 0)), none⟩])
    (.block 0 (.loop (.seq (.ops [⟨some 19, .binOp .lss 2 (.tmp 18) (.tmp 17) 2, none⟩])
       (.seq (.cond (.tmp 19) .skip
         (.exit 0))
        (.seq (.block 1 (.seq (.ops [⟨some 20, .move (.tmp 18), none⟩, ⟨some 7, .assign (.tmp 20), none⟩])
           (.seq (.ops [⟨some 21, .indexAddr 153 (.tmp 6) (.const (.int .i64 1)), none⟩, ⟨some 22, .load 2 (.tmp 21), none⟩, ⟨some 23, .move (.const (.int .i64 0)), none⟩])
            (.block 2 (.loop (.seq (.ops [⟨some 24, .binOp .lss 2 (.tmp 23) (.tmp 22) 2, none⟩])
               (.seq (.cond (.tmp 24) .skip
                 (.exit 2))
                (.seq (.block 3 (.seq (.ops [⟨some 25, .move (.tmp 23), none⟩, ⟨some 8, .assign (.tmp 25), none⟩])
                   (.seq (.ops [⟨some 26, .buildSlice 36 0 #[], none⟩, ⟨some 9, .assign (.tmp 26), none⟩])
                    (.seq (.seq (.ops [⟨some 27, .move (.tmp 1), none⟩, ⟨some 28, .call ⟨.builtin .len, #[.tmp 27], #[31]⟩, none⟩, ⟨some 29, .move (.const (.int .i64 0)), none⟩])
                      (.block 4 (.loop (.seq (.ops [⟨some 30, .binOp .lss 3 (.tmp 29) (.tmp 28) 3, none⟩])
                         (.seq (.cond (.tmp 30) .skip
                           (.exit 4))
                          (.seq (.block 5 (.seq (.ops [⟨some 31, .indexAddr 31 (.tmp 27) (.tmp 29), none⟩, ⟨some 32, .load 125 (.tmp 31), none⟩, ⟨some 11, .alloc 125, none⟩, ⟨none, .store 125 (.tmp 11) (.tmp 32), none⟩])
                             (.opsD [⟨some 33, .move (.tmp 9), none⟩, ⟨some 34, .move (.tmp 7), none⟩, ⟨some 35, .fieldAddr 125 (.tmp 11) 0, none⟩, ⟨some 36, .indexAddr 123 (.tmp 35) (.tmp 34), none⟩, ⟨some 37, .load 5 (.tmp 36), none⟩, ⟨some 38, .convert 5 2 (.tmp 37), none⟩, ⟨some 39, .move (.tmp 8), none⟩, ⟨some 40, .fieldAddr 125 (.tmp 11) 1, none⟩, ⟨some 41, .indexAddr 123 (.tmp 40) (.tmp 39), none⟩, ⟨some 42, .load 5 (.tmp 41), none⟩, ⟨some 43, .convert 5 2 (.tmp 42), none⟩, ⟨some 44, .binOp .mul 2 (.tmp 38) (.tmp 43) 2, none⟩, ⟨some 45, .fieldAddr 53 (.tmp 2) 0, none⟩, ⟨some 46, .load 2 (.tmp 45), none⟩, ⟨some 47, .binOp .rem 2 (.tmp 44) (.tmp 46) 2, none⟩, ⟨some 48, .buildSlice 36 1 #[(0, .tmp 47)], none⟩, ⟨some 49, .call ⟨.builtin .append, #[.tmp 33, .tmp 48], #[36, 36]⟩, none⟩, ⟨some 9, .assign (.tmp 49), none⟩] [(4, 9), (4, 13), (9, 13)])))
                           (.ops [⟨some 50, .binOp .add 3 (.tmp 29) (.const (.int .i64 1)) 3, none⟩, ⟨some 29, .move (.tmp 50), none⟩])))))))
                     (.seq (.seq (.ops [⟨some 51, .indexAddr 153 (.tmp 6) (.const (.int .i64 2)), none⟩, ⟨some 52, .load 2 (.tmp 51), none⟩, ⟨some 53, .move (.const (.int .i64 0)), none⟩])
                       (.block 6 (.loop (.seq (.ops [⟨some 54, .binOp .lss 2 (.tmp 53) (.tmp 52) 2, none⟩])
                          (.seq (.cond (.tmp 54) .skip
                            (.exit 6))
                           (.seq (.block 7 (.seq (.ops [⟨some 55, .move (.tmp 53), none⟩, ⟨some 12, .assign (.tmp 55), none⟩])
                              (.ops [⟨some 56, .move (.tmp 9), none⟩, ⟨some 57, .load 53 (.tmp 2), none⟩, ⟨some 58, .move (.tmp 7), none⟩, ⟨some 59, .move (.tmp 8), none⟩, ⟨some 60, .move (.tmp 12), none⟩, ⟨some 61, .call ⟨.value (.func 257), #[.tmp 57, .tmp 58, .tmp 59, .tmp 60], #[53, 2, 2, 2]⟩, none⟩, ⟨some 62, .buildSlice 36 1 #[(0, .tmp 61)], none⟩, ⟨some 63, .call ⟨.builtin .append, #[.tmp 56, .tmp 62], #[36, 36]⟩, none⟩, ⟨some 9, .assign (.tmp 63), none⟩])))
                            (.ops [⟨some 64, .binOp .add 2 (.tmp 53) (.const (.int .i64 1)) 2, none⟩, ⟨some 53, .move (.tmp 64), none⟩])))))))
                      (.ops [⟨some 65, .move (.tmp 5), none⟩, ⟨some 66, .move (.tmp 9), none⟩, ⟨some 67, .buildSlice 56 1 #[(0, .tmp 66)], none⟩, ⟨some 68, .call ⟨.builtin .append, #[.tmp 65, .tmp 67], #[56, 56]⟩, none⟩, ⟨some 5, .assign (.tmp 68), none⟩]))))))
                 (.ops [⟨some 69, .binOp .add 2 (.tmp 23) (.const (.int .i64 1)) 2, none⟩, ⟨some 23, .move (.tmp 69), none⟩])))))))))
         (.ops [⟨some 70, .binOp .add 2 (.tmp 18) (.const (.int .i64 1)) 2, none⟩, ⟨some 18, .move (.tmp 70), none⟩])))))))
   (.seq (.ops [⟨some 71, .move (.tmp 5), none⟩, ⟨some 4, .assign (.tmp 71), none⟩])
    .ret)))), [.tmp 4], 72⟩
theorem f_impl_system : isFn Go.Proofs.Try.prog 211 = some c_impl_system := by kernel_rfl


set_option maxRecDepth 100000
set_option maxHeartbeats 16000000
set_option linter.unusedVariables false
attribute [-simp] List.getD_eq_getElem?_getD
attribute [-go_sem] confV

theorem at_snoc4 {l : List Int} {x : Int} : i64s l ++ [.int .i64 x] = i64s (l ++ [x]) := by simp [i64s]
/-- The right sides at two places. -/
def wantL (m k : Int) (nb c a : Nat) : List Int := (List.range c).map fun z => wantV m k ((a / nb : Nat) : Int) ((a % nb : Nat) : Int) ((z : Nat) : Int)
theorem wantL_length (m k : Int) (nb c a : Nat) : (wantL m k nb c a).length = c := by simp [wantL]
theorem wantL_succ (m k : Int) (nb c a : Nat) : wantL m k nb (c + 1) a = wantL m k nb c a ++ [wantV m k ((a / nb : Nat) : Int) ((a % nb : Nat) : Int) ((c : Nat) : Int)] := by simp [wantL, List.range_succ]
theorem wantV_rng (m k a b c : Int) : 0 ≤ wantV m k a b c ∧ wantV m k a b c ≤ 1 := by unfold wantV; split <;> omega
theorem wantL_get {m k : Int} {nb c a z : Nat} (h : z < c) : (wantL m k nb c a).getD z 0 = wantV m k ((a / nb : Nat) : Int) ((a % nb : Nat) : Int) ((z : Nat) : Int) := by
  simp [wantL, List.getD_eq_getElem?_getD, h]
theorem wantL_rng {p m k : Int} (hp : 2 ≤ p) (nb c a j : Nat) : 0 ≤ (wantL m k nb c a).getD j 0 ∧ (wantL m k nb c a).getD j 0 < p := by
  by_cases h : j < c
  · rw [wantL_get h]; have := wantV_rng m k ((a / nb : Nat) : Int) ((a % nb : Nat) : Int) ((j : Nat) : Int); omega
  · rw [getD_none (by rw [wantL_length]; omega)]; omega
/-- The numbers of a row so far. -/
def tabR (p : Int) (nb : Nat) (l : List Int) (a t : Nat) : List Int := (List.range t).map fun j => tabN p nb l j a
theorem tabR_length (p : Int) (nb : Nat) (l : List Int) (a t : Nat) : (tabR p nb l a t).length = t := by simp [tabR]
theorem tabR_succ (p : Int) (nb : Nat) (l : List Int) (a t : Nat) : tabR p nb l a (t + 1) = tabR p nb l a t ++ [tabN p nb l t a] := by simp [tabR, List.range_succ]
/-- What holds of the rows so far. -/
structure SyI (N : Nat) (p n m k : Int) (cc : Cell) (na nb nc : Nat) (l : List Int) (r : Nat) (L : List Slot) (mm : Nat) (js : List Nat) (t : Nat) : Prop where
  h0 : gd L 0 = .live ⟨tenC p n m k cc, true⟩
  h1 : gd L 2 = .live ⟨i64s [((na : Nat) : Int), ((nb : Nat) : Int), ((nc : Nat) : Int)], true⟩
  h2 : mm < L.length
  h3 : mm ∉ js
  h4 : gd L mm = .live ⟨rowN N js (r + nc), true⟩
  h5 : Abs.Rows L js (sysR p nb l r (wantL m k nb nc) t)
  h6 : mm ≠ 0 ∧ mm ≠ 2
  h7 : ∀ j ∈ js, 2 < j
  h8 : 2 < L.length
theorem SyI.step {N : Nat} {p n m k : Int} {cc : Cell} {na nb nc : Nat} {l : List Int} {r : Nat} {L L' : List Slot} {mm : Nat} {js : List Nat} {t q : Nat} (h : SyI N p n m k cc na nb nc l r L mm js t) (hl : L.length ≤ L'.length) (hg : ∀ j, j < L.length → j ≠ q → gd L' j = gd L j) (q0 : 2 < q) (qm : q ≠ mm) (qj : q ∉ js) : SyI N p n m k cc na nb nc l r L' mm js t := by
  have h8 := h.h8
  have h2 := h.h2
  refine ⟨by rw [hg 0 (by omega) (by omega)]; exact h.h0, by rw [hg 2 (by omega) (by omega)]; exact h.h1, by omega, h.h3, by rw [hg mm h2 qm.symm]; exact h.h4, h.h5.ext hl fun j hj => hg j (h.h5.lt j hj) fun e => qj (e ▸ hj), h.h6, h.h7, by omega⟩
theorem system_spec {p : Int} {n m k na nb nc r : Nat} {cc c : Cell} {rs : List (Nat × AObj)} {l : List Int} (hp : 2 ≤ p ∧ p ≤ 5) (hn : inSz n = true) (hm : inSz m = true) (hk : inSz k = true) (ha : n * m = na) (hb : m * k = nb) (hnc : n * k = nc)
    (hc : Sl 18 (u8s l) r c rs) (hl : l.length = r * 18) (hr1 : r ≤ 1000) (hby : byteL l) (x : Nat) (ys : List Nat) (hnd : (x :: ys).Nodup) (hyl : ys.length = (sysR p nb l r (wantL m k nb nc) (na * nb)).length) (hx : ∀ q ∈ rs, q.1 ≠ x ∧ q.1 ∉ ys) :
    FSpec Try.prog 211 [.agg (tenC p n m k cc), .c c] (.c (.slice x 0 (na * nb) 1)) rs ((x, .live ⟨rowC ys (r + nc), true⟩) :: rowsW ys (sysR p nb l r (wantL m k nb nc) (na * nb))) := by
  have b1 := inSz_rng hn
  have b2 := inSz_rng hm
  have b3 := inSz_rng hk
  have m1 := mul9 hn hm
  have m2 := mul9 hm hk
  have m3 := mul9 hn hk
  have ea : ((n : Nat) : Int) * (m : Nat) = (na : Nat) := by rw [← ha]; rfl
  have eb : ((m : Nat) : Int) * (k : Nat) = (nb : Nat) := by rw [← hb]; rfl
  have ec : ((n : Nat) : Int) * (k : Nat) = (nc : Nat) := by rw [← hnc]; rfl
  rw [ea] at m1
  rw [eb] at m2
  rw [ec] at m3
  refine FSpec.of f_impl_system (Nat.le_of_ble_eq_true rfl) fun G N hN hr hw => ?_
  simp only [c_impl_system, List.length_cons, List.length_nil, List.replicate, List.cons_append, List.nil_append]
  obtain ⟨fx, fy⟩ := rows_freeK hyl hw hx
  simp only [tenC]
  repeat' (first | (with_reducible first | refine W1 ?_ | refine W2 ?_ | refine W3 ?_ | refine W4 mixed ?_ | refine W5 ?_ | refine W6 ?_ | refine W7 ?_ | refine W8 ?_ | refine W9 ?_ | refine V1 ?_ | refine V2 ?_ | refine V3 ?_ | refine V4 (by decide) ?_ | refine V5 ?_ | refine V6 ?_ | refine V7 ?_ | refine V8 ?_ | refine V9 ?_ | refine U1 ?_ | refine U2 ?_ | refine U3 ?_) | (with_reducible refine U4 ?_ ?_; next => first | omega | exact ⟨trivial, by omega⟩) | simp (maxSteps := 2000000) (discharger := first | omega | (simp (discharger := omega) only [Z1, Z2, Z3, Z4, Z5, Z6, Z7] <;> fail) | (simp (discharger := omega) only [Z3, Z8, Z2, Z4, Z1, Z7, Z5, Z6, Z9, Y1, Y2]; omega)) only [go_sem])
  refine call_pure (placesOf_spec p n m k _ hn hm hk) ?_
  rw [ea, eb, ec]
  repeat' (first | (with_reducible first | refine W1 ?_ | refine W2 ?_ | refine W3 ?_ | refine W4 mixed ?_ | refine W5 ?_ | refine W6 ?_ | refine W7 ?_ | refine W8 ?_ | refine W9 ?_ | refine V1 ?_ | refine V2 ?_ | refine V3 ?_ | refine V4 (by decide) ?_ | refine V5 ?_ | refine V6 ?_ | refine V7 ?_ | refine V8 ?_ | refine V9 ?_ | refine U1 ?_ | refine U2 ?_ | refine U3 ?_) | (with_reducible refine U4 ?_ ?_; next => first | omega | exact ⟨trivial, by omega⟩) | simp (maxSteps := 2000000) (discharger := first | omega | (simp (discharger := omega) only [Z1, Z2, Z3, Z4, Z5, Z6, Z7] <;> fail) | (simp (discharger := omega) only [Z3, Z8, Z2, Z4, Z1, Z7, Z5, Z6, Z9, Y1, Y2]; omega)) only [go_sem])
  refine swp_for (fun (z : Nat × List Slot × Nat × List Nat) => ([.any, .c c, .c (.ptr (nid N 0) 0), .any, .any, .c (.slice (nid N z.2.2.1) 0 (z.1 * nb) 1), .c (.ptr (nid N 2) 0)] ++ List.replicate 10 .any ++ [.c (.int .i64 ((na : Nat) : Int)), .c (.int .i64 ((z.1 : Nat) : Int))] ++ List.replicate 53 .any)) (fun z => ⟨G, N, z.2.1⟩) (fun z => na - z.1) (fun z => z.1 ≤ na ∧ SyI N p n m k cc na nb nc l r z.2.1 z.2.2.1 z.2.2.2 (z.1 * nb)) (0, _, 1, []) ⟨Nat.zero_le _, ?_⟩ rfl (by rw [Nat.zero_mul]; repeat' (first | exact trivial | exact .inl rfl | exact .inr rfl | refine ⟨?_, ?_⟩)) ?_
  · dsimp only
    rw [Nat.zero_mul]
    exact ⟨rfl, rfl, by simp, by simp, rfl, Abs.Rows.nil, by simp, by simp, by simp⟩
  rintro ⟨t, L, mm, js⟩ ⟨ht, hS⟩
  dsimp only at ht hS
  have htn : t < na → t * nb + nb = (t + 1) * nb := fun _ => by rw [Nat.add_mul, Nat.one_mul]
  have htb : t < na → t * nb + nb ≤ na * nb := fun h => by rw [htn h]; exact Nat.mul_le_mul_right _ h
  have hab : na * nb ≤ 9 * 9 := Nat.mul_le_mul (by omega) (by omega)
  have hdiv : ∀ b, b < nb → (t * nb + b) / nb = t ∧ (t * nb + b) % nb = b := fun b hb => by
    constructor
    · rw [Nat.mul_comm, Nat.mul_add_div (by omega), Nat.div_eq_of_lt hb, Nat.add_zero]
    · rw [Nat.mul_comm, Nat.mul_add_mod, Nat.mod_eq_of_lt hb]
  simp only [List.replicate, List.cons_append, List.nil_append]
  repeat' (first | (with_reducible first | refine W1 ?_ | refine W2 ?_ | refine W3 ?_ | refine W4 mixed ?_ | refine W5 ?_ | refine W6 ?_ | refine W7 ?_ | refine W8 ?_ | refine W9 ?_ | refine V1 ?_ | refine V2 ?_ | refine V3 ?_ | refine V4 (by decide) ?_ | refine V5 ?_ | refine V6 ?_ | refine V7 ?_ | refine V8 ?_ | refine V9 ?_ | refine U1 ?_ | refine U2 ?_ | refine U3 ?_) | (with_reducible refine U4 ?_ ?_; next => first | omega | exact ⟨trivial, by omega⟩) | simp (maxSteps := 2000000) (discharger := first | omega | (simp (discharger := omega) only [Z1, Z2, Z3, Z4, Z5, Z6, Z7] <;> fail) | (simp (discharger := omega) only [Z3, Z8, Z2, Z4, Z1, Z7, Z5, Z6, Z9, Y1, Y2]; omega)) only [go_sem])
  refine swp_cond _ rfl (fun h => ?_) (fun h => ?_)
  · have hlt : t < na := by simpa using h
    clear h
    have q1 := hS.h1
    have htn' := htn hlt
    have htb' := htb hlt
    clear htn htb
    generalize t * nb = tb at hS hdiv htn' htb' ⊢
    repeat' (first | (with_reducible first | refine W1 ?_ | refine W2 ?_ | refine W3 ?_ | refine W4 mixed ?_ | refine W5 ?_ | refine W6 ?_ | refine W7 ?_ | refine W8 ?_ | refine W9 ?_ | refine V1 ?_ | refine V2 ?_ | refine V3 ?_ | refine V4 (by decide) ?_ | refine V5 ?_ | refine V6 ?_ | refine V7 ?_ | refine V8 ?_ | refine V9 ?_ | refine U1 ?_ | refine U2 ?_ | refine U3 ?_) | (with_reducible refine U4 ?_ ?_; next => first | omega | exact ⟨trivial, by omega⟩) | simp (maxSteps := 2000000) (discharger := first | omega | (simp (discharger := omega) only [Z1, Z2, Z3, Z4, Z5, Z6, Z7] <;> fail) | (simp (discharger := omega) only [Z3, Z8, Z2, Z4, Z1, Z7, Z5, Z6, Z9, Y1, Y2]; omega)) only [go_sem, q1, i64s, List.map_cons, List.map_nil])
    refine swp_for (fun (z : Nat × List Slot × Nat × List Nat) => ([.any, .c c, .c (.ptr (nid N 0) 0), .any, .any, .c (.slice (nid N z.2.2.1) 0 (tb + z.1) 1), .c (.ptr (nid N 2) 0), .c (.int .i64 ((t : Nat) : Int))] ++ List.replicate 9 .any ++ [.c (.int .i64 ((na : Nat) : Int)), .c (.int .i64 ((t : Nat) : Int)), .any, .any, .any, .c (.int .i64 ((nb : Nat) : Int)), .c (.int .i64 ((z.1 : Nat) : Int))] ++ List.replicate 48 .any)) (fun z => ⟨G, N, z.2.1⟩) (fun z => nb - z.1) (fun z => z.1 ≤ nb ∧ SyI N p n m k cc na nb nc l r z.2.1 z.2.2.1 z.2.2.2 (tb + z.1)) (0, L, mm, js) ⟨Nat.zero_le _, hS⟩ rfl (by repeat' (first | exact trivial | exact .inl rfl | exact .inr rfl | refine ⟨?_, ?_⟩)) ?_
    clear hS q1
    rintro ⟨b, L, mm, js⟩ ⟨hbn, hS⟩
    dsimp only at hbn hS
    simp only [List.replicate, List.cons_append, List.nil_append]
    repeat' (first | (with_reducible first | refine W1 ?_ | refine W2 ?_ | refine W3 ?_ | refine W4 mixed ?_ | refine W5 ?_ | refine W6 ?_ | refine W7 ?_ | refine W8 ?_ | refine W9 ?_ | refine V1 ?_ | refine V2 ?_ | refine V3 ?_ | refine V4 (by decide) ?_ | refine V5 ?_ | refine V6 ?_ | refine V7 ?_ | refine V8 ?_ | refine V9 ?_ | refine U1 ?_ | refine U2 ?_ | refine U3 ?_) | (with_reducible refine U4 ?_ ?_; next => first | omega | exact ⟨trivial, by omega⟩) | simp (maxSteps := 2000000) (discharger := first | omega | (simp (discharger := omega) only [Z1, Z2, Z3, Z4, Z5, Z6, Z7] <;> fail) | (simp (discharger := omega) only [Z3, Z8, Z2, Z4, Z1, Z7, Z5, Z6, Z9, Y1, Y2]; omega)) only [go_sem])
    refine swp_cond _ rfl (fun h => ?_) (fun h => ?_)
    · have hltb : b < nb := by simpa using h
      clear h
      obtain ⟨d1, d2⟩ := hdiv b hltb
      have hst := sysR_succ (p := p) (nb := nb) (l := l) (r := r) (wantL m k nb nc) (tb + b)
      have hrow : sysRow p nb l r (wantL m k nb nc) (tb + b) = tabR p nb l (tb + b) r ++ wantL m k nb nc (tb + b) := rfl
      obtain ⟨A, hA⟩ : ∃ A, tb + b = A := ⟨_, rfl⟩
      rw [hA] at hS d1 d2 hst hrow ⊢
      have h2 := hS.h2
      have h8 := hS.h8
      have h6 := hS.h6
      have hjlt := hS.h5.lt
      repeat' (first | (with_reducible first | refine W1 ?_ | refine W2 ?_ | refine W3 ?_ | refine W4 mixed ?_ | refine W5 ?_ | refine W6 ?_ | refine W7 ?_ | refine W8 ?_ | refine W9 ?_ | refine V1 ?_ | refine V2 ?_ | refine V3 ?_ | refine V4 (by decide) ?_ | refine V5 ?_ | refine V6 ?_ | refine V7 ?_ | refine V8 ?_ | refine V9 ?_ | refine U1 ?_ | refine U2 ?_ | refine U3 ?_) | (with_reducible refine U4 ?_ ?_; next => first | omega | exact ⟨trivial, by omega⟩) | simp (maxSteps := 2000000) (discharger := first | omega | (simp (discharger := omega) only [Z1, Z2, Z3, Z4, Z5, Z6, Z7] <;> fail) | (simp (discharger := omega) only [Z3, Z8, Z2, Z4, Z1, Z7, Z5, Z6, Z9, Y1, Y2]; omega)) only [go_sem, hc.len (P := Try.prog)])
      have hS1 := hS.step (L' := setAt L L.length (.live ⟨[], true⟩)) (q := L.length) (by simp only [setAt_length]; omega) (fun j h1 h3 => gd_setAt_ne' h3) (by omega) (by omega) (fun hm => by have := hjlt _ hm; omega)
      have hl1 : (setAt L L.length (.live ⟨[], true⟩)).length = L.length + 1 := by simp only [setAt_length]; omega
      have hg1 : gd (setAt L L.length (.live ⟨[], true⟩)) L.length = .live ⟨i64s (tabR p nb l A 0), true⟩ := gd_setAt_same
      refine swp_for (fun (z : Nat × List Slot × Nat) => ([.any, .c c, .c (.ptr (nid N 0) 0), .any, .any, .c (.slice (nid N mm) 0 A 1), .c (.ptr (nid N 2) 0), .c (.int .i64 ((t : Nat) : Int)), .c (.int .i64 ((b : Nat) : Int)), .c (.slice (nid N z.2.2) 0 z.1 1)] ++ List.replicate 7 .any ++ [.c (.int .i64 ((na : Nat) : Int)), .c (.int .i64 ((t : Nat) : Int)), .any, .any, .any, .c (.int .i64 ((nb : Nat) : Int)), .c (.int .i64 ((b : Nat) : Int)), .any, .any, .any, .c c, .c (.int .i64 ((r : Nat) : Int)), .c (.int .i64 ((z.1 : Nat) : Int))] ++ List.replicate 42 .any)) (fun z => ⟨G, N, z.2.1⟩) (fun z => r - z.1) (fun z => z.1 ≤ r ∧ SyI N p n m k cc na nb nc l r z.2.1 mm js A ∧ z.2.2 < z.2.1.length ∧ 2 < z.2.2 ∧ z.2.2 ≠ mm ∧ z.2.2 ∉ js ∧ gd z.2.1 z.2.2 = .live ⟨i64s (tabR p nb l A z.1), true⟩) (0, _, L.length) ⟨Nat.zero_le _, hS1, by dsimp only; omega, by dsimp only; omega, by dsimp only; omega, fun hm => by have := hjlt _ hm; dsimp only at this; omega, hg1⟩ rfl (by repeat' (first | exact trivial | exact .inl rfl | exact .inr rfl | refine ⟨?_, ?_⟩)) ?_
      clear hS1 hl1 hg1 h2 h8 hjlt hS
      rintro ⟨j, L, mq⟩ ⟨hj, hS, f1, f2, f3, f4, f5⟩
      dsimp only at hj hS f1 f2 f3 f4 f5
      have h2 := hS.h2
      have h8 := hS.h8
      have hjlt := hS.h5.lt
      simp only [List.replicate, List.cons_append, List.nil_append]
      repeat' (first | (with_reducible first | refine W1 ?_ | refine W2 ?_ | refine W3 ?_ | refine W4 mixed ?_ | refine W5 ?_ | refine W6 ?_ | refine W7 ?_ | refine W8 ?_ | refine W9 ?_ | refine V1 ?_ | refine V2 ?_ | refine V3 ?_ | refine V4 (by decide) ?_ | refine V5 ?_ | refine V6 ?_ | refine V7 ?_ | refine V8 ?_ | refine V9 ?_ | refine U1 ?_ | refine U2 ?_ | refine U3 ?_) | (with_reducible refine U4 ?_ ?_; next => first | omega | exact ⟨trivial, by omega⟩) | simp (maxSteps := 2000000) (discharger := first | omega | (simp (discharger := omega) only [Z1, Z2, Z3, Z4, Z5, Z6, Z7] <;> fail) | (simp (discharger := omega) only [Z3, Z8, Z2, Z4, Z1, Z7, Z5, Z6, Z9, Y1, Y2]; omega)) only [go_sem])
      refine swp_cond _ rfl (fun h => ?_) (fun h => ?_)
      · have hltj : j < r := by simpa using h
        clear h
        obtain ⟨k0, own, rfl, rfl, _⟩ := hc.some hltj
        have ⟨g2, g3⟩ := hr _ (List.mem_singleton.2 rfl)
        dsimp only at g2 g3
        have hql : (sub l (j * 18) 18).length = 18 := sub_length (by omega)
        have hqb : byteL (sub l (j * 18) 18) := hby.sub _ _
        have hts := tabR_succ p nb l A j
        have htl := tabR_length p nb l A j
        have hv : ((sub l (j * 18) 18).getD t 0 * (sub l (j * 18) 18).getD (9 + b) 0).tmod p = tabN p nb l j A := by
          rw [tabN, d1, d2, sub_getD (by omega), sub_getD (by omega), Nat.add_assoc (j * 18) 9 b]
        have z1 := hqb.get t
        have z2 := hqb.get (9 + b)
        have z3 : 0 ≤ (sub l (j * 18) 18).getD t 0 * (sub l (j * 18) 18).getD (9 + b) 0 ∧ (sub l (j * 18) 18).getD t 0 * (sub l (j * 18) 18).getD (9 + b) 0 ≤ 255 * 255 := ⟨Int.mul_nonneg z1.1 z2.1, Int.mul_le_mul z1.2 z2.2 z2.1 (by omega)⟩
        have q0 := hS.h0
        simp only [tenC] at q0
        generalize tabR p nb l A j = row at f5 hts htl
        generalize hqd : sub l (j * 18) 18 = q at hql hqb hv z1 z2 z3
        repeat' (first | (with_reducible first | refine W1 ?_ | refine W2 ?_ | refine W3 ?_ | refine W4 mixed ?_ | refine W5 ?_ | refine W6 ?_ | refine W7 ?_ | refine W8 ?_ | refine W9 ?_ | refine V1 ?_ | refine V2 ?_ | refine V3 ?_ | refine V4 (by decide) ?_ | refine V5 ?_ | refine V6 ?_ | refine V7 ?_ | refine V8 ?_ | refine V9 ?_ | refine U1 ?_ | refine U2 ?_ | refine U3 ?_) | (with_reducible refine U4 ?_ ?_; next => first | omega | exact ⟨trivial, by omega⟩) | simp (maxSteps := 2000000) (discharger := first | omega | (simp (discharger := omega) only [Z1, Z2, Z3, Z4, Z5, Z6, Z7] <;> fail) | (simp (discharger := omega) only [Z3, Z8, Z2, Z4, Z1, Z7, Z5, Z6, Z9, Y1, Y2]; omega)) only [go_sem, g2, hqd, q0, f5, hv])
        refine must_confF [] rfl (by simp [confV]) ?_
        repeat' (first | (with_reducible first | refine W1 ?_ | refine W2 ?_ | refine W3 ?_ | refine W4 mixed ?_ | refine W5 ?_ | refine W6 ?_ | refine W7 ?_ | refine W8 ?_ | refine W9 ?_ | refine V1 ?_ | refine V2 ?_ | refine V3 ?_ | refine V4 (by decide) ?_ | refine V5 ?_ | refine V6 ?_ | refine V7 ?_ | refine V8 ?_ | refine V9 ?_ | refine U1 ?_ | refine U2 ?_ | refine U3 ?_) | (with_reducible refine U4 ?_ ?_; next => first | omega | exact ⟨trivial, by omega⟩) | simp (maxSteps := 2000000) (discharger := first | omega | (simp (discharger := omega) only [Z1, Z2, Z3, Z4, Z5, Z6, Z7] <;> fail) | (simp (discharger := omega) only [Z3, Z8, Z2, Z4, Z1, Z7, Z5, Z6, Z9, Y1, Y2]; omega)) only [go_sem])
        have e9 : ldn (i64s row) 0 j ++ [.int .i64 (tabN p nb l j A)] = i64s (row ++ [tabN p nb l j A]) := by
          rw [← at_snoc4, ← htl, ← i64s_length row, ldn_full]
        refine forK_same (j + 1, _, L.length + 1 + 1) (by dsimp only; omega) ⟨by dsimp only; omega, ?_, ?_, ?_, ?_, ?_, ?_⟩ rfl (by repeat' (first | exact trivial | exact .inl rfl | exact .inr rfl | refine ⟨?_, ?_⟩))
        · dsimp only
          exact hS.step (q := mq) (by simp only [setAt_length]; omega) (fun i h1 h3 => by repeat rw [gd_setAt_ne' (by omega)]) f2 f3 f4
        · dsimp only; simp only [setAt_length]; omega
        · dsimp only; omega
        · dsimp only; omega
        · exact fun hm => by have := hjlt _ hm; dsimp only at this; omega
        · dsimp only; rw [gd_setAt_same, e9, hts]
      · have hltj : j = r := by have : ¬ j < r := by simpa using h
                                omega
        subst hltj
        clear h
        have q1 := hS.h1
        repeat' (first | (with_reducible first | refine W1 ?_ | refine W2 ?_ | refine W3 ?_ | refine W4 mixed ?_ | refine W5 ?_ | refine W6 ?_ | refine W7 ?_ | refine W8 ?_ | refine W9 ?_ | refine V1 ?_ | refine V2 ?_ | refine V3 ?_ | refine V4 (by decide) ?_ | refine V5 ?_ | refine V6 ?_ | refine V7 ?_ | refine V8 ?_ | refine V9 ?_ | refine U1 ?_ | refine U2 ?_ | refine U3 ?_) | (with_reducible refine U4 ?_ ?_; next => first | omega | exact ⟨trivial, by omega⟩) | simp (maxSteps := 2000000) (discharger := first | omega | (simp (discharger := omega) only [Z1, Z2, Z3, Z4, Z5, Z6, Z7] <;> fail) | (simp (discharger := omega) only [Z3, Z8, Z2, Z4, Z1, Z7, Z5, Z6, Z9, Y1, Y2]; omega)) only [go_sem, q1, i64s, List.map_cons, List.map_nil])
        have f5' : gd L mq = .live ⟨i64s (tabR p nb l A j ++ wantL m k nb 0 A), true⟩ := by rw [f5, show wantL m k nb 0 A = [] from rfl, List.append_nil]
        clear f5
        refine swp_for (fun (z : Nat × List Slot × Nat) => ([.any, .c c, .c (.ptr (nid N 0) 0), .any, .any, .c (.slice (nid N mm) 0 A 1), .c (.ptr (nid N 2) 0), .c (.int .i64 ((t : Nat) : Int)), .c (.int .i64 ((b : Nat) : Int)), .c (.slice (nid N z.2.2) 0 (j + z.1) 1)] ++ List.replicate 7 .any ++ [.c (.int .i64 ((na : Nat) : Int)), .c (.int .i64 ((t : Nat) : Int)), .any, .any, .any, .c (.int .i64 ((nb : Nat) : Int)), .c (.int .i64 ((b : Nat) : Int))] ++ List.replicate 28 .any ++ [.c (.int .i64 ((nc : Nat) : Int)), .c (.int .i64 ((z.1 : Nat) : Int))] ++ List.replicate 18 .any)) (fun z => ⟨G, N, z.2.1⟩) (fun z => nc - z.1) (fun z => z.1 ≤ nc ∧ SyI N p n m k cc na nb nc l j z.2.1 mm js A ∧ z.2.2 < z.2.1.length ∧ 2 < z.2.2 ∧ z.2.2 ≠ mm ∧ z.2.2 ∉ js ∧ gd z.2.1 z.2.2 = .live ⟨i64s (tabR p nb l A j ++ wantL m k nb z.1 A), true⟩) (0, L, mq) ⟨Nat.zero_le _, hS, f1, f2, f3, f4, f5'⟩ rfl (by repeat' (first | exact trivial | exact .inl rfl | exact .inr rfl | refine ⟨?_, ?_⟩)) ?_
        clear h2 h8 hjlt f1 f2 f3 f4 f5' q1 hS
        rintro ⟨e, L, mq⟩ ⟨he, hS, f1, f2, f3, f4, f5⟩
        dsimp only at he hS f1 f2 f3 f4 f5
        have h2 := hS.h2
        have h8 := hS.h8
        have hjlt := hS.h5.lt
        have hwl := wantL_length m k nb e A
        have htl := tabR_length p nb l A j
        simp only [List.replicate, List.cons_append, List.nil_append]
        repeat' (first | (with_reducible first | refine W1 ?_ | refine W2 ?_ | refine W3 ?_ | refine W4 mixed ?_ | refine W5 ?_ | refine W6 ?_ | refine W7 ?_ | refine W8 ?_ | refine W9 ?_ | refine V1 ?_ | refine V2 ?_ | refine V3 ?_ | refine V4 (by decide) ?_ | refine V5 ?_ | refine V6 ?_ | refine V7 ?_ | refine V8 ?_ | refine V9 ?_ | refine U1 ?_ | refine U2 ?_ | refine U3 ?_) | (with_reducible refine U4 ?_ ?_; next => first | omega | exact ⟨trivial, by omega⟩) | simp (maxSteps := 2000000) (discharger := first | omega | (simp (discharger := omega) only [Z1, Z2, Z3, Z4, Z5, Z6, Z7] <;> fail) | (simp (discharger := omega) only [Z3, Z8, Z2, Z4, Z1, Z7, Z5, Z6, Z9, Y1, Y2]; omega)) only [go_sem])
        refine swp_cond _ rfl (fun h => ?_) (fun h => ?_)
        · have hlte : e < nc := by simpa using h
          clear h
          have q0 := hS.h0
          have hwr := rightSide_spec p n m k cc (x := ((t : Nat) : Int)) (y := ((b : Nat) : Int)) (z := ((e : Nat) : Int)) b2 b3 (by omega) (by omega) (by omega)
          have hws := wantL_succ m k nb e A
          rw [d1, d2] at hws
          have hwg := wantV_rng m k ((t : Nat) : Int) ((b : Nat) : Int) ((e : Nat) : Int)
          generalize wantV m k ((t : Nat) : Int) ((b : Nat) : Int) ((e : Nat) : Int) = wv at hwr hws hwg
          repeat' (first | (with_reducible first | refine W1 ?_ | refine W2 ?_ | refine W3 ?_ | refine W4 mixed ?_ | refine W5 ?_ | refine W6 ?_ | refine W7 ?_ | refine W8 ?_ | refine W9 ?_ | refine V1 ?_ | refine V2 ?_ | refine V3 ?_ | refine V4 (by decide) ?_ | refine V5 ?_ | refine V6 ?_ | refine V7 ?_ | refine V8 ?_ | refine V9 ?_ | refine U1 ?_ | refine U2 ?_ | refine U3 ?_) | (with_reducible refine U4 ?_ ?_; next => first | omega | exact ⟨trivial, by omega⟩) | simp (maxSteps := 2000000) (discharger := first | omega | (simp (discharger := omega) only [Z1, Z2, Z3, Z4, Z5, Z6, Z7] <;> fail) | (simp (discharger := omega) only [Z3, Z8, Z2, Z4, Z1, Z7, Z5, Z6, Z9, Y1, Y2]; omega)) only [go_sem, q0])
          refine call_pure hwr ?_
          have hrl : (tabR p nb l A j ++ wantL m k nb e A).length = j + e := by rw [List.length_append, htl, hwl]
          have hnx : tabR p nb l A j ++ wantL m k nb (e + 1) A = tabR p nb l A j ++ wantL m k nb e A ++ [wv] := by rw [hws, List.append_assoc]
          generalize tabR p nb l A j ++ wantL m k nb e A = row at f5 hrl hnx
          have e9 : ldn (i64s row) 0 (j + e) ++ [.int .i64 wv] = i64s (row ++ [wv]) := by
            rw [← at_snoc4, ← hrl, ← i64s_length row, ldn_full]
          repeat' (first | (with_reducible first | refine W1 ?_ | refine W2 ?_ | refine W3 ?_ | refine W4 mixed ?_ | refine W5 ?_ | refine W6 ?_ | refine W7 ?_ | refine W8 ?_ | refine W9 ?_ | refine V1 ?_ | refine V2 ?_ | refine V3 ?_ | refine V4 (by decide) ?_ | refine V5 ?_ | refine V6 ?_ | refine V7 ?_ | refine V8 ?_ | refine V9 ?_ | refine U1 ?_ | refine U2 ?_ | refine U3 ?_) | (with_reducible refine U4 ?_ ?_; next => first | omega | exact ⟨trivial, by omega⟩) | simp (maxSteps := 2000000) (discharger := first | omega | (simp (discharger := omega) only [Z1, Z2, Z3, Z4, Z5, Z6, Z7] <;> fail) | (simp (discharger := omega) only [Z3, Z8, Z2, Z4, Z1, Z7, Z5, Z6, Z9, Y1, Y2]; omega)) only [go_sem, f5])
          refine forK_same (e + 1, _, L.length + 1) (by dsimp only; omega) ⟨by dsimp only; omega, ?_, ?_, ?_, ?_, ?_, ?_⟩ rfl (by dsimp only; rw [← Nat.add_assoc]; repeat' (first | exact trivial | exact .inl rfl | exact .inr rfl | refine ⟨?_, ?_⟩))
          · dsimp only
            exact hS.step (q := mq) (by simp only [setAt_length]; omega) (fun i h1 h3 => by repeat rw [gd_setAt_ne' (by omega)]) f2 f3 f4
          · dsimp only; simp only [setAt_length]; omega
          · dsimp only; omega
          · dsimp only; omega
          · exact fun hm => by have := hjlt _ hm; dsimp only at this; omega
          · dsimp only; rw [gd_setAt_same, e9, hnx]
        · have hlte : e = nc := by have : ¬ e < nc := by simpa using h
                                   omega
          subst hlte
          clear h
          have hjl := hS.h5.len
          rw [sysR_length] at hjl
          have h4 := hS.h4
          have hrow' : tabR p nb l A j ++ wantL m k nb e A = sysRow p nb l j (wantL m k nb e) A := hrow.symm
          rw [hrow'] at f5
          repeat' (first | (with_reducible first | refine W1 ?_ | refine W2 ?_ | refine W3 ?_ | refine W4 mixed ?_ | refine W5 ?_ | refine W6 ?_ | refine W7 ?_ | refine W8 ?_ | refine W9 ?_ | refine V1 ?_ | refine V2 ?_ | refine V3 ?_ | refine V4 (by decide) ?_ | refine V5 ?_ | refine V6 ?_ | refine V7 ?_ | refine V8 ?_ | refine V9 ?_ | refine U1 ?_ | refine U2 ?_ | refine U3 ?_) | (with_reducible refine U4 ?_ ?_; next => first | omega | exact ⟨trivial, by omega⟩) | simp (maxSteps := 2000000) (discharger := first | omega | (simp (discharger := omega) only [Z1, Z2, Z3, Z4, Z5, Z6, Z7] <;> fail) | (simp (discharger := omega) only [Z3, Z8, Z2, Z4, Z1, Z7, Z5, Z6, Z9, Y1, Y2]; omega)) only [go_sem, h4])
          refine forK_same (b + 1, _, L.length + 1, js ++ [mq]) (by dsimp only; omega) ⟨by dsimp only; omega, ?_⟩ rfl (by dsimp only; rw [← Nat.add_assoc, hA]; repeat' (first | exact trivial | exact .inl rfl | exact .inr rfl | refine ⟨?_, ?_⟩))
          dsimp only
          rw [← Nat.add_assoc, hA]
          have hS2 := hS
          have hR2 : Abs.Rows L (js ++ [mq]) (sysR p nb l j (wantL m k nb e) (A + 1)) := by
            rw [hst]
            exact hS.h5.push f4 f1 f5
          refine ⟨?_, ?_, ?_, ?_, ?_, ?_, ?_, ?_, ?_⟩
          · repeat rw [gd_setAt_ne' (by omega)]
            exact hS.h0
          · repeat rw [gd_setAt_ne' (by omega)]
            exact hS.h1
          · simp only [setAt_length]; omega
          · intro hm
            rcases List.mem_append.1 hm with hm | hm
            · have := hjlt _ hm; omega
            · simp at hm; omega
          · rw [gd_setAt_same]
          · refine hR2.ext (by simp only [setAt_length]; omega) fun i hi => ?_
            have h9 := hR2.lt i hi
            have h10 : i ≠ mm := fun e0 => by
              subst e0
              rcases List.mem_append.1 hi with hm | hm
              · exact hS.h3 hm
              · simp at hm; omega
            repeat rw [gd_setAt_ne' (by omega)]
          · omega
          · intro i hi
            rcases List.mem_append.1 hi with hm | hm
            · exact hS.h7 i hm
            · simp at hm; omega
          · simp only [setAt_length]; omega
    · have hltb : b = nb := by have : ¬ b < nb := by simpa using h
                               omega
      subst hltb
      clear h
      repeat' (first | (with_reducible first | refine W1 ?_ | refine W2 ?_ | refine W3 ?_ | refine W4 mixed ?_ | refine W5 ?_ | refine W6 ?_ | refine W7 ?_ | refine W8 ?_ | refine W9 ?_ | refine V1 ?_ | refine V2 ?_ | refine V3 ?_ | refine V4 (by decide) ?_ | refine V5 ?_ | refine V6 ?_ | refine V7 ?_ | refine V8 ?_ | refine V9 ?_ | refine U1 ?_ | refine U2 ?_ | refine U3 ?_) | (with_reducible refine U4 ?_ ?_; next => first | omega | exact ⟨trivial, by omega⟩) | simp (maxSteps := 2000000) (discharger := first | omega | (simp (discharger := omega) only [Z1, Z2, Z3, Z4, Z5, Z6, Z7] <;> fail) | (simp (discharger := omega) only [Z3, Z8, Z2, Z4, Z1, Z7, Z5, Z6, Z9, Y1, Y2]; omega)) only [go_sem])
      refine forK_same (t + 1, L, mm, js) (by dsimp only; omega) ⟨by dsimp only; omega, ?_⟩ rfl (by dsimp only; rw [← htn']; repeat' (first | exact trivial | exact .inl rfl | exact .inr rfl | refine ⟨?_, ?_⟩))
      dsimp only
      rw [← htn']
      exact hS
  · have hlt : t = na := by have : ¬ t < na := by simpa using h
                            omega
    subst hlt
    clear h
    repeat' (first | (with_reducible first | refine W1 ?_ | refine W2 ?_ | refine W3 ?_ | refine W4 mixed ?_ | refine W5 ?_ | refine W6 ?_ | refine W7 ?_ | refine W8 ?_ | refine W9 ?_ | refine V1 ?_ | refine V2 ?_ | refine V3 ?_ | refine V4 (by decide) ?_ | refine V5 ?_ | refine V6 ?_ | refine V7 ?_ | refine V8 ?_ | refine V9 ?_ | refine U1 ?_ | refine U2 ?_ | refine U3 ?_) | (with_reducible refine U4 ?_ ?_; next => first | omega | exact ⟨trivial, by omega⟩) | simp (maxSteps := 2000000) (discharger := first | omega | (simp (discharger := omega) only [Z1, Z2, Z3, Z4, Z5, Z6, Z7] <;> fail) | (simp (discharger := omega) only [Z3, Z8, Z2, Z4, Z1, Z7, Z5, Z6, Z9, Y1, Y2]; omega)) only [go_sem])
    refine ret_rows hN x mm ys js (r + nc) _ hnd fx fy hyl hS.h4 hS.h5 hS.h3 [.c (.slice (nid N mm) 0 (t * nb) 1)] ⟨rfl, trivial⟩ rfl ?_ ?_
    · simp [AV.idsT, AV.ids1, Cell.ids]
    · simp [resOf, renT, ren1, Cell.mapIds]
end Go.Proofs.Ytcfemdhlcjmlbaa
/- RankOfPairs, ours. -/
namespace Go.Proofs.Ytcfemdhlcjmlbaa
open Go Go.Abs
set_option maxRecDepth 100000

/- loop.example/g01262/impl.RankOfPairs -/
set_option maxRecDepth 100000
set_option maxHeartbeats 16000000
set_option linter.unusedVariables false
attribute [-simp] List.getD_eq_getElem?_getD
attribute [-go_sem] confV

theorem rd_rowsY {A : Heap} {N : Nat} {L : List Slot} {a w : Nat} {js : List Nat} {R : List (List Int)} (ha : gd L a = .live ⟨rowN N js w, true⟩) (hR : Abs.Rows L js R) : ∀ p ∈ (nid N a, (⟨rowC (js.map (nid N)) w, true⟩ : AObj)) :: rowsR (js.map (nid N)) R, (⟨A, N, L⟩ : AHeap).get p.1 = .live p.2 := by
  intro p hp
  rcases List.mem_cons.1 hp with rfl | hp
  · dsimp only; rw [get_new, rowN_rowC]; exact ha
  · obtain ⟨i, hi, rfl⟩ := rowsR_mem (by rw [List.length_map]; exact hR.len) p hp
    dsimp only
    have e : (js.map (nid N)).getD i 0 = nid N (js.getD i 0) := by
      have := hR.len
      rw [List.getD_eq_getElem?_getD, List.getD_eq_getElem?_getD, List.getElem?_map, List.getElem?_eq_getElem (by omega)]; rfl
    rw [e, get_new]
    exact hR.at_ i hi
theorem svK_ok {p : Int} {w : Nat} {R : List (List Int)} (hP : isP p = true) (ho : RkOk p w R) (ks : List Nat) (hl : ks.length = R.length) (hnd : ks.Nodup) (N : Nat) : ∀ c, c ≤ w → (svK p R ks c).length = R.length ∧ (svK p R ks c).Nodup ∧ (∀ k ∈ svK p R ks c, k ∈ ks) ∧ svK p R (ks.map (nid N)) c = (svK p R ks c).map (nid N)
  | 0, _ => ⟨hl, hnd, fun k h => h, rfl⟩
  | c + 1, hc => by
    obtain ⟨h1, h2, h3, h4⟩ := svK_ok hP ho ks hl hnd N c (by omega)
    obtain ⟨o1, o2, o3, o4, -⟩ := svL_inv hP ho c (by omega)
    have hge := (rkF_ge (R := (svL p R c).1) (c := c) (f := (svL p R c).1.length - (svL p R c).2.2) (i := (svL p R c).2.2)).1
    have hz1 : rkAt (svL p R c).1 (svL p R c).2.2 c = rkF (svL p R c).1 c ((svL p R c).1.length - (svL p R c).2.2) (svL p R c).2.2 := rfl
    rw [← hz1] at hge
    simp only [svK]
    split
    · rename_i hf
      have e1 : rkAt (svL p R c).1 (svL p R c).2.2 c < (svK p R ks c).length := by omega
      have e2 : (svL p R c).2.2 < (svK p R ks c).length := by omega
      refine ⟨by rw [swapL_length]; exact h1, swapL_nodup h2 e2 e1, fun k hk => h3 k (swapL_mem e2 e1 hk), ?_⟩
      rw [h4, swapL_map e2 e1]
    · exact ⟨h1, h2, h3, h4⟩
theorem rowsR_has {ks : List Nat} {R : List (List Int)} (hl : ks.length = R.length) {k : Nat} (hk : k ∈ ks) : ∃ ob, (k, ob) ∈ rowsR ks R := by
  obtain ⟨i, hi, rfl⟩ := List.mem_iff_getElem.1 hk
  have e : ks[i] = ks.getD i 0 := by simp [List.getD_eq_getElem?_getD, hi]
  rw [e]
  exact ⟨_, rowsR_get hl i (by omega)⟩
theorem AHeap_puts_app (h : AHeap) (ws vs : List (Nat × Slot)) : h.puts (ws ++ vs) = (h.puts ws).puts vs := List.foldl_append
/-- What the elimination leaves. -/
structure Solved (N : Nat) (p : Int) (R : List (List Int)) (w r : Nat) (jx : Nat) (js : List Nat) (L L' : List Slot) (j' : List Nat) : Prop where
  len : L'.length = L.length + 1
  hd : gd L' jx = .live ⟨rowN N j' w, true⟩
  rows : Abs.Rows L' j' (svL p R r).1
  na : jx ∉ j'
  at_ : gd L' L.length = .live ⟨i64s (svL p R r).2.1, true⟩
  mem : ∀ j ∈ j', j ∈ js
  old : ∀ j, j < L.length → j ≠ jx → j ∉ js → gd L' j = gd L j
theorem call_solved {G : Heap} {N : Nat} {L : List Slot} {K : Kont} {p : Int} {n w r jx : Nat} {R : List (List Int)} {js : List Nat} (hp : isP p = true) (hR : R.length = n) (hn : n ≤ 1000) (hn0 : 0 < n) (hrw : r ≤ w) (hww : w ≤ 1000) (ho : RkOk p w R)
    (hd : gd L jx = .live ⟨rowN N js w, true⟩) (hrows : Abs.Rows L js R) (hj : jx ∉ js) (hlt : jx < L.length)
    (hK : ∀ rs ws L' j', (⟨G, N, L⟩ : AHeap).puts ws = ⟨G, N, L'⟩ → Solved N p R w r jx js L L' j' → K (.c (.slice (nid N L.length) 0 r 1)) rs ws) : vCall Try.prog 210 [.c (.int .i64 (p)), .c (.slice (nid N jx) 0 n 1), .c (.int .i64 ((r : Nat) : Int))] ⟨G, N, L⟩ (.mk K) := by
  have hjl := hrows.len
  have hml : (js.map (nid N)).length = R.length := by rw [List.length_map]; exact hjl
  have ninj : ∀ {i j : Nat}, nid N i = nid N j → i = j := fun h => by unfold nid at h; omega
  have hndN : (nid N jx :: js.map (nid N)).Nodup := by
    refine List.nodup_cons.2 ⟨fun hm => ?_, ?_⟩
    · obtain ⟨j, h1, h2⟩ := List.mem_map.1 hm
      rw [ninj h2] at h1
      exact hj h1
    · rw [List.nodup_iff_pairwise_ne, List.pairwise_map]
      exact (List.nodup_iff_pairwise_ne.1 hrows.nd).imp fun h e => h (ninj e)
  obtain ⟨k1, k2, k3, k4⟩ := svK_ok hp ho js hjl hrows.nd N r (by omega)
  obtain ⟨o1, o2, o3, o4, -⟩ := svL_inv hp ho r (by omega)
  have hfree : (⟨G, N, L⟩ : AHeap).get (nid N L.length) = .free := by rw [get_new, gd_len (Nat.le_refl _)]
  have hrd := rd_rowsY (A := G) hd hrows
  refine call_intro (solved_spec (a := nid N jx) (ks := js.map (nid N)) hp (by omega) hR hn hn0 hrw hww ho hndN (nid N L.length) fun q hq e => ?_) hrd (fun q hq => ?_) ?_
  · have := hrd q hq
    rw [e, hfree] at this
    cases this
  · rcases List.mem_append.1 hq with hq | hq
    · left
      rcases List.mem_cons.1 hq with rfl | hq
      · exact ⟨_, List.mem_cons_self⟩
      · rw [k4] at hq
        obtain ⟨i, h1, rfl⟩ := rowsW_mem (by rw [List.length_map, k1, o2]) q hq
        have hm : ((svK p R js r).map (nid N)).getD i 0 ∈ (svK p R js r).map (nid N) := getD_mem (by rw [List.length_map, k1]; omega)
        obtain ⟨j, h2, h3⟩ := List.mem_map.1 hm
        dsimp only
        rw [← h3]
        obtain ⟨ob, hob⟩ := rowsR_has hml (List.mem_map_of_mem (f := nid N) (k3 j h2))
        exact ⟨ob, List.mem_cons_of_mem _ hob⟩
    · simp only [List.mem_singleton] at hq
      subst hq
      exact .inr hfree
  · rw [k4]
    have hnd2 : (jx :: svK p R js r).Nodup := List.nodup_cons.2 ⟨fun hm => hj (k3 _ hm), k2⟩
    obtain ⟨L', e1, e2, e3, e4, e5, e6⟩ := puts_rowsX (G := G) (N := N) (L := L) (w := w) (js := svK p R js r) (R := (svL p R r).1) (jx := jx) (by omega) hnd2
    have hl' : L'.length = L.length := Nat.le_antisymm (e3 _ (Nat.le_refl _) fun j hm => by
      rcases List.mem_cons.1 hm with rfl | hm
      · exact hlt
      · exact hrows.lt j (k3 j hm)) e2
    refine hK _ _ (setAt L' L.length (.live ⟨i64s (svL p R r).2.1, true⟩)) (svK p R js r) ?_ ⟨by simp only [setAt_length]; omega, by rw [gd_setAt_ne' (by omega)]; exact e4, ?_, fun hm => hj (k3 _ hm), gd_setAt_same, k3, fun j h1 h2 h3 => ?_⟩
    · rw [AHeap_puts_app, e1, puts_cons, puts_nil, put_new]
    · exact e5.ext (by simp only [setAt_length]; omega) fun j hm => gd_setAt_ne' (by have := hrows.lt j (k3 j hm); omega)
    · rw [gd_setAt_ne' (by omega)]
      refine e6 j fun hm => ?_
      rcases List.mem_cons.1 hm with rfl | hm
      · exact h2 rfl
      · exact h3 (k3 j hm)
theorem prCode_ok {p n m k : Int} {r : Nat} {l : List Int} (h : prCode p n m k r l = 0) : isP p = true ∧ inSz n = true ∧ inSz m = true ∧ inSz k = true ∧ pairsOk p (n * m) (m * k) r l = true ∧ r ≤ 30 := by
  unfold prCode at h
  split at h
  · rename_i h1
    simp only [Bool.and_eq_true] at h1
    split at h
    · rename_i h2
      split at h
      · rename_i h3; exact ⟨h1.1.1.1, h1.1.1.2, h1.1.2, h1.2, h2, h3⟩
      · omega
    · omega
  · omega
end Go.Proofs.Ytcfemdhlcjmlbaa
/- Completed schemes: both eliminations complete alike. -/
namespace Go.Proofs.Ytcfemdhlcjmlbaa
open Go Go.Abs
set_option maxRecDepth 100000

set_option maxRecDepth 100000
set_option linter.unusedVariables false
attribute [-simp] List.getD_eq_getElem?_getD

/-- A row whose numbers from r on are 0. -/
def tailZ (row : List Int) (r : Nat) : Bool := (row.drop r).all fun m => m == 0
theorem tailZ_iff {row : List Int} {r : Nat} : tailZ row r = true ↔ ∀ j, row.getD (r + j) 0 = 0 := by
  have e : ∀ j, row.getD (r + j) 0 = (row.drop r).getD j 0 := fun j => by simp only [List.getD_eq_getElem?_getD, List.getElem?_drop]
  unfold tailZ
  rw [List.all_eq_true]
  constructor
  · intro h j
    rw [e]
    by_cases hj : j < (row.drop r).length
    · have := h _ (List.getElem_mem hj)
      rw [List.getD_eq_getElem?_getD, List.getElem?_eq_getElem hj]
      simpa using this
    · exact getD_none (by omega)
  · intro h m hm
    obtain ⟨j, hj, rfl⟩ := List.mem_iff_getElem.1 hm
    have := h j
    rw [e, List.getD_eq_getElem?_getD, List.getElem?_eq_getElem hj] at this
    simpa using this
/-- The equations that are left hold. -/
def okR (R : List (List Int)) (d r : Nat) : Bool := (List.range (R.length - d)).all fun i => tailZ (R.getD (d + i) []) r
theorem okR_iff {R : List (List Int)} {d r : Nat} : okR R d r = true ↔ ∀ k, d ≤ k → k < R.length → ∀ j, (R.getD k []).getD (r + j) 0 = 0 := by
  unfold okR
  rw [List.all_eq_true]
  constructor
  · intro h k h1 h2 j
    have := tailZ_iff.1 (h (k - d) (by simp; omega)) j
    rwa [show d + (k - d) = k from by omega] at this
  · intro h i hi
    simp only [List.mem_range] at hi
    exact tailZ_iff.2 fun j => h (d + i) (by omega) (by omega) j
/-- The right sides at one place of Z, and 0 for all pairs. -/
def rhsL (m k : Int) (nb n r z : Nat) : List Int := (List.range n).map (fun a => wantV m k ((a / nb : Nat) : Int) ((a % nb : Nat) : Int) ((z : Nat) : Int)) ++ List.replicate r 0
theorem rhsL_length (m k : Int) (nb n r z : Nat) : (rhsL m k nb n r z).length = n + r := by simp [rhsL]
def redL (p : Int) (na nb : Nat) (l : List Int) (n r : Nat) (m k : Int) (z : Nat) : List Int := bsRed p (bsL p na nb l n r r).1 (bsL p na nb l n r r).2 (rhsL m k nb n r z) (bsL p na nb l n r r).1.length
def okS1 (row : List Int) (n : Nat) : Bool := (List.range n).all fun a => row.getD a 0 == 0
theorem okS1_iff {row : List Int} {n : Nat} : okS1 row n = true ↔ ∀ a, a < n → row.getD a 0 = 0 := by
  unfold okS1
  rw [List.all_eq_true]
  exact ⟨fun h a ha => by simpa using h a (by simpa using ha), fun h a ha => by simpa using h a (by simpa using ha)⟩
def okS (p : Int) (na nb : Nat) (l : List Int) (n r : Nat) (m k : Int) (t : Nat) : Bool := (List.range t).all fun z => okS1 (redL p na nb l n r m k z) n
/-- The number of pair i at a place of Z. -/
def cofI (R : List (List Int)) (at_ : List Int) (r i z : Nat) : Int := if at_.getD i 0 = -1 then 0 else (R.getD (at_.getD i 0).toNat []).getD (r + z) 0
def cofS (p : Int) (row : List Int) (n i : Nat) : Int := ((-row.getD (n + i) 0).tmod p + p).tmod p
section
variable {p : Int} {na nb n r nc : Nat} {l : List Int} {m k : Int}
theorem Sol.ext {M M' : Nat → Nat → Int} {W W' x : Nat → Int} (hM : ∀ a, a < n → ∀ j, j < r → M a j = M' a j) (hW : ∀ a, a < n → W a = W' a) (h : Sol p M n r W x) : Sol p M' n r W' x := by
  refine ⟨fun a ha => ?_, fun j hj hd => h.dep j hj ((Dep.ext fun a ha i hi => hM a ha i (by omega)).2 hd), h.rng⟩
  have e : sumF (fun j => M' a j * x j) r = sumF (fun j => M a j * x j) r := sumF_congr fun j hj => by rw [hM a ha j hj]
  rw [← hW a ha, e]
  exact h.eqn a ha
theorem cofS_eq (hp : 2 ≤ p) (row : List Int) (n i : Nat) : cofS p row n i = (-row.getD (n + i) 0) % p := by
  have := rkX_eq (p := p) (f := 1) (x := 0) (y := row.getD (n + i) 0) hp
  rw [rkX, Int.one_mul, Int.zero_sub] at this
  exact this
theorem rhsL_get (z a : Nat) (ha : a < n + r) : (rhsL m k nb n r z).getD a 0 = rhsV (fun a => wantV m k ((a / nb : Nat) : Int) ((a % nb : Nat) : Int) ((z : Nat) : Int)) n a := by
  rw [rhsL, getD_app, rhsV]
  simp only [List.length_map, List.length_range]
  by_cases e : a < n
  · rw [if_pos e, if_pos e]; simp [List.getD_eq_getElem?_getD, e]
  · rw [if_neg e, if_neg e, List.getD_eq_getElem?_getD, List.getElem?_replicate]
    split <;> rfl
theorem rhsL_rng (hp : 2 ≤ p) (z j : Nat) : 0 ≤ (rhsL m k nb n r z).getD j 0 ∧ (rhsL m k nb n r z).getD j 0 < p := by
  by_cases h : j < n + r
  · rw [rhsL_get z j h, rhsV]
    split
    · have := wantV_rng m k ((j / nb : Nat) : Int) ((j % nb : Nat) : Int) ((z : Nat) : Int); omega
    · omega
  · rw [getD_none (by rw [rhsL_length]; omega)]; omega
theorem redL_inv (hP : isP p = true) (hmod : modL p l) (z : Nat) : Red p (Ef (bsL p na nb l n r r).1) (ldF (bsL p na nb l n r r).2) (n + r) (rhsV (fun a => wantV m k ((a / nb : Nat) : Int) ((a % nb : Nat) : Int) ((z : Nat) : Int)) n) (fun a => (redL p na nb l n r m k z).getD a 0) (bsL p na nb l n r r).1.length ∧ ∀ j, 0 ≤ (redL p na nb l n r m k z).getD j 0 ∧ (redL p na nb l n r m k z).getD j 0 < p := by
  have hp : 2 ≤ p := by simp [isP] at hP; omega
  have hB := bsL_inv (na := na) (nb := nb) (n := n) (r := r) hP hmod r (Nat.le_refl _)
  obtain ⟨⟨⟨y, hy⟩, r2, rg⟩, h2⟩ := bsRed_inv hp hB.bas hB.ok (rhsL_length m k nb n r z) (rhsL_rng hp z) (bsL p na nb l n r r).1.length (Nat.le_refl _)
  exact ⟨⟨⟨y, fun a ha => by rw [← rhsL_get z a ha]; exact hy a ha⟩, r2, rg⟩, h2⟩
/-- Both complete, or neither; and with the same numbers. -/
theorem comp_eq (hP : isP p = true) (hmod : modL p l) : okR (svL p (sysR p nb l r (wantL m k nb nc) n) r).1 (svL p (sysR p nb l r (wantL m k nb nc) n) r).2.2 r = okS p na nb l n r m k nc ∧
    (okS p na nb l n r m k nc = true → ∀ i, i < r → ∀ z, z < nc → cofI (svL p (sysR p nb l r (wantL m k nb nc) n) r).1 (svL p (sysR p nb l r (wantL m k nb nc) n) r).2.1 r i z = cofS p (redL p na nb l n r m k z) n i) := by
  have hp : 2 ≤ p := by simp [isP] at hP; omega
  have hW : ∀ a, a < n → (wantL m k nb nc a).length = nc ∧ ∀ j, 0 ≤ (wantL m k nb nc a).getD j 0 ∧ (wantL m k nb nc a).getD j 0 < p := fun a _ => ⟨wantL_length .., wantL_rng hp nb nc a⟩
  obtain ⟨s1, s2, s3, s4, s5⟩ := svL_inv (w := r + nc) hP (sysR_ok (nb := nb) (l := l) hp hmod hW) r (by omega)
  have hB := bsL_inv (na := na) (nb := nb) (n := n) (r := r) hP hmod r (Nat.le_refl _)
  have hM : ∀ a, a < n → ∀ j, j < r → Ef (sysR p nb l r (wantL m k nb nc) n) a j = tabM p nb l a j := fun a ha j hj => sysR_M ha hj
  have hWz : ∀ z, z < nc → ∀ a, a < n → Ef (sysR p nb l r (wantL m k nb nc) n) a (r + z) = wantV m k ((a / nb : Nat) : Int) ((a % nb : Nat) : Int) ((z : Nat) : Int) := fun z hz a ha => by rw [sysR_W ha, wantL_get hz]
  rw [sysR_length] at s2 s4 s5
  generalize svL p (sysR p nb l r (wantL m k nb nc) n) r = S at s1 s2 s3 s4 s5 ⊢
  obtain ⟨R', at_, d⟩ := S
  dsimp only at s1 s2 s3 s4 s5 ⊢
  -- ours at a place
  have solI : okR R' d r = true → ∀ z, z < nc → Sol p (tabM p nb l) n r (fun a => wantV m k ((a / nb : Nat) : Int) ((a % nb : Nat) : Int) ((z : Nat) : Int)) (fun j => if atF at_ j = -1 then 0 else Ef R' (atF at_ j).toNat (r + z)) := by
    intro h z hz
    have h0 := okR_iff.1 h
    exact Sol.ext hM (hWz z hz) (s4.sol (q := z) (w := r + nc) hp s5 (by omega) (fun q hq => s1.rng q _ (by omega)) fun q h1 h2 => h0 q h1 (by omega) z)
  have noI : ¬ okR R' d r = true → ∃ z, z < nc ∧ ∀ x, ¬ Sol p (tabM p nb l) n r (fun a => wantV m k ((a / nb : Nat) : Int) ((a % nb : Nat) : Int) ((z : Nat) : Int)) x := by
    intro h
    rw [okR_iff] at h
    have : ∃ q, d ≤ q ∧ q < R'.length ∧ ∃ j, (R'.getD q []).getD (r + j) 0 ≠ 0 := by
      apply Classical.byContradiction
      intro hno
      refine h fun q h1 h2 j => ?_
      apply Classical.byContradiction
      intro hne
      exact hno ⟨q, h1, h2, j, hne⟩
    obtain ⟨q, h1, h2, j, hne⟩ := this
    have hj : j < nc := by
      apply Classical.byContradiction
      intro hge
      exact hne (getD_none (by rw [s1.len q h2]; omega))
    refine ⟨j, hj, fun x hx => ?_⟩
    have hx' : Sol p (Ef (sysR p nb l r (wantL m k nb nc) n)) n r (fun a => Ef (sysR p nb l r (wantL m k nb nc) n) a (r + j)) x := Sol.ext (fun a ha i hi => (hM a ha i hi).symm) (fun a ha => (hWz j hj a ha).symm) hx
    exact s4.nosol (q := j) (k := q) (w := r + nc) hp s5 (by omega) (s1.rng q _ h2) h1 (by omega) hne x hx'
  have solS : ∀ z, okS1 (redL p na nb l n r m k z) n = true → Sol p (tabM p nb l) n r (fun a => wantV m k ((a / nb : Nat) : Int) ((a % nb : Nat) : Int) ((z : Nat) : Int)) (fun j => (-(redL p na nb l n r m k z).getD (n + j) 0) % p) := fun z h =>
    hB.bas.sol hp (redL_inv hP hmod z).1 (okS1_iff.1 h)
  have noS : ∀ z, ¬ okS1 (redL p na nb l n r m k z) n = true → ∀ x, ¬ Sol p (tabM p nb l) n r (fun a => wantV m k ((a / nb : Nat) : Int) ((a % nb : Nat) : Int) ((z : Nat) : Int)) x := by
    intro z h x
    rw [okS1_iff] at h
    have : ∃ a, a < n ∧ (redL p na nb l n r m k z).getD a 0 ≠ 0 := by
      apply Classical.byContradiction
      intro hno
      refine h fun a ha => ?_
      apply Classical.byContradiction
      intro hne
      exact hno ⟨a, ha, hne⟩
    obtain ⟨a, ha, hne⟩ := this
    exact hB.bas.nosol hp (redL_inv hP hmod z).1 ha hne x
  have okS_iff : okS p na nb l n r m k nc = true ↔ ∀ z, z < nc → okS1 (redL p na nb l n r m k z) n = true := by
    unfold okS
    rw [List.all_eq_true]
    exact ⟨fun h z hz => h z (by simpa using hz), fun h z hz => h z (by simpa using hz)⟩
  have hiff : okR R' d r = true ↔ okS p na nb l n r m k nc = true := by
    rw [okS_iff]
    constructor
    · intro h z hz
      apply Classical.byContradiction
      intro hno
      exact noS z hno _ (solI h z hz)
    · intro h
      apply Classical.byContradiction
      intro hno
      obtain ⟨z, hz, hx⟩ := noI hno
      exact hx _ (solS z (h z hz))
  refine ⟨Bool.eq_iff_iff.2 hiff, fun h i hi z hz => ?_⟩
  have := (solI (hiff.2 h) z hz).unique (isP_inv hP) (solS z (okS_iff.1 h z hz)) i hi
  rw [cofS_eq hp]
  exact this
end
theorem nnC_snoc {l : List Int} {x : Int} : ∀ {t : Nat}, t ≤ l.length → nnC (l ++ [x]) t = nnC l t
  | 0, _ => rfl
  | t + 1, h => by
    have ih := nnC_snoc (x := x) (l := l) (t := t) (by omega)
    have hg : (l ++ [x]).getD t 0 = l.getD t 0 := by rw [getD_app, if_pos (by omega)]
    rw [nnC, nnC, ih, hg]
/-- The pivots are as many as the rows that are used. -/
theorem svL_nn (p : Int) (R : List (List Int)) : ∀ c, (svL p R c).2.1.length = c ∧ nnC (svL p R c).2.1 c = (svL p R c).2.2
  | 0 => ⟨rfl, rfl⟩
  | c + 1 => by
    obtain ⟨h1, h2⟩ := svL_nn p R c
    have e : svL p R (c + 1) = svStep p (svL p R c) c := rfl
    rw [e]
    have hg : ∀ x : Int, ((svL p R c).2.1 ++ [x]).getD c 0 = x := fun x => by rw [getD_app, if_neg (by omega), h1, Nat.sub_self]; rfl
    unfold svStep
    split
    · refine ⟨by simp [h1], ?_⟩
      dsimp only
      rw [nnC, nnC_snoc (by omega), h2, hg, if_pos (by omega)]
    · refine ⟨by simp [h1], ?_⟩
      dsimp only
      rw [nnC, nnC_snoc (by omega), h2, hg, if_neg (by omega)]
end Go.Proofs.Ytcfemdhlcjmlbaa
/- The first product with a zero form. -/
namespace Go.Proofs.Ytcfemdhlcjmlbaa
open Go Go.Abs
set_option maxRecDepth 100000

/- slices.IndexFunc(()loop.example/g01262/impl.Product,loop.example/g01262/impl.Product) -/
def c_slices_IndexFunc_impl_Product_impl_Product : SFn := ⟨(.seq (.ops [⟨some 4, .assign (.const (.int .i64 0)), none⟩])
 (.seq (.seq (.ops [⟨some 6, .move (.tmp 0), none⟩, ⟨some 7, .call ⟨.builtin .len, #[.tmp 6], #[51]⟩, none⟩, ⟨some 8, .move (.const (.int .i64 0)), none⟩])
   (.block 0 (.loop (.seq (.ops [⟨some 9, .binOp .lss 3 (.tmp 8) (.tmp 7) 3, none⟩])
      (.seq (.cond (.tmp 9) .skip
        (.exit 0))
       (.seq (.block 1 (.seq (.ops [⟨some 10, .move (.tmp 8), none⟩, ⟨some 5, .assign (.tmp 10), none⟩])
          (.seq (.ops [⟨some 11, .move (.tmp 1), none⟩, ⟨some 12, .move (.tmp 0), none⟩, ⟨some 13, .move (.tmp 5), none⟩, ⟨some 14, .indexAddr 51 (.tmp 12) (.tmp 13), none⟩, ⟨some 15, .load 147 (.tmp 14), none⟩, ⟨some 16, .call ⟨.value (.tmp 11), #[.tmp 15], #[147]⟩, none⟩])
           (.cond (.tmp 16) (.seq (.ops [⟨some 17, .move (.tmp 5), none⟩, ⟨some 4, .assign (.tmp 17), none⟩])
             .ret)
            .skip))))
        (.ops [⟨some 18, .binOp .add 3 (.tmp 8) (.const (.int .i64 1)) 3, none⟩, ⟨some 8, .move (.tmp 18), none⟩])))))))
  (.seq (.ops [⟨some 4, .assign (.const (.int .i64 (-1))), none⟩])
   .ret))), [.tmp 4], 19⟩
theorem f_slices_IndexFunc_impl_Product_impl_Product : isFn Go.Proofs.Try.prog 282 = some c_slices_IndexFunc_impl_Product_impl_Product := by kernel_rfl


set_option maxRecDepth 100000
set_option maxHeartbeats 8000000
set_option linter.unusedVariables false
attribute [-simp] List.getD_eq_getElem?_getD
attribute [-go_sem] confV

/-- Whether the product at a place has a zero form. -/
def zAt (l : List Int) (t : Nat) : Bool := hasZ (sub l (t * 27) 27)
/-- The first such place, or the end. -/
def zFirst (l : List Int) : Nat → Nat → Nat
  | 0, i => i
  | f + 1, i => if zAt l i then i else zFirst l f (i + 1)
def zIdx (l : List Int) (n : Nat) : Int := if zFirst l n 0 < n then (zFirst l n 0 : Nat) else -1
theorem zFirst_yes {l : List Int} : ∀ {f i : Nat}, zAt l i = true → 0 < f → zFirst l f i = i
  | f + 1, i, h, _ => by simp [zFirst, h]
theorem zFirst_no {l : List Int} {f i : Nat} (h : zAt l i = false) : zFirst l (f + 1) i = zFirst l f (i + 1) := by simp [zFirst, h]

theorem indexZ_spec {c : Cell} {rs : List (Nat × AObj)} {n : Nat} {l : List Int} (hc : Sl 27 (u8s l) n c rs) (hl : l.length = n * 27) (hn : n ≤ 1048576) : FSpec Try.prog 282 [.c c, .c (.fn 239 [])] (.c (.int .i64 (zIdx l n))) rs [] := by
  refine FSpec.of f_slices_IndexFunc_impl_Product_impl_Product (Nat.le_of_ble_eq_true rfl) fun G N hN hr hw => ?_
  simp only [c_slices_IndexFunc_impl_Product_impl_Product, List.length_cons, List.length_nil, List.replicate, List.cons_append, List.nil_append]
  repeat' (first | (with_reducible first | refine W1 ?_ | refine W2 ?_ | refine W3 ?_ | refine W4 mixed ?_ | refine W5 ?_ | refine W6 ?_ | refine W7 ?_ | refine W8 ?_ | refine W9 ?_ | refine V1 ?_ | refine V2 ?_ | refine V3 ?_ | refine V4 (by decide) ?_ | refine V5 ?_ | refine V6 ?_ | refine V7 ?_ | refine V8 ?_ | refine V9 ?_ | refine U1 ?_ | refine U2 ?_ | refine U3 ?_) | (with_reducible refine U4 ?_ ?_; next => first | omega | exact ⟨trivial, by omega⟩) | simp (maxSteps := 2000000) (discharger := first | omega | (simp (discharger := omega) only [Z1, Z2, Z3, Z4, Z5, Z6, Z7] <;> fail) | (simp (discharger := omega) only [Z3, Z8, Z2, Z4, Z1, Z7, Z5, Z6, Z9, Y1, Y2]; omega)) only [go_sem, hc.len (P := Try.prog)])
  refine swp_for (fun t : Nat => ([.c c, .c (.fn 239 [])] ++ List.replicate 5 .any ++ [.c (.int .i64 ((n : Nat) : Int)), .c (.int .i64 ((t : Nat) : Int))] ++ List.replicate 10 .any)) (fun t => ⟨G, N, []⟩) (fun t => n - t) (fun t => t ≤ n ∧ zFirst l n 0 = zFirst l (n - t) t) 0 ⟨Nat.zero_le _, rfl⟩ rfl (by repeat' (first | exact trivial | exact .inl rfl | exact .inr rfl | refine ⟨?_, ?_⟩)) fun t ht => ?_
  simp only [List.replicate, List.cons_append, List.nil_append]
  repeat' (first | (with_reducible first | refine W1 ?_ | refine W2 ?_ | refine W3 ?_ | refine W4 mixed ?_ | refine W5 ?_ | refine W6 ?_ | refine W7 ?_ | refine W8 ?_ | refine W9 ?_ | refine V1 ?_ | refine V2 ?_ | refine V3 ?_ | refine V4 (by decide) ?_ | refine V5 ?_ | refine V6 ?_ | refine V7 ?_ | refine V8 ?_ | refine V9 ?_ | refine U1 ?_ | refine U2 ?_ | refine U3 ?_) | (with_reducible refine U4 ?_ ?_; next => first | omega | exact ⟨trivial, by omega⟩) | simp (maxSteps := 2000000) (discharger := first | omega | (simp (discharger := omega) only [Z1, Z2, Z3, Z4, Z5, Z6, Z7] <;> fail) | (simp (discharger := omega) only [Z3, Z8, Z2, Z4, Z1, Z7, Z5, Z6, Z9, Y1, Y2]; omega)) only [go_sem])
  refine swp_cond _ rfl (fun h => ?_) (fun h => ?_)
  · have hlt : t < n := by simpa using h
    obtain ⟨k0, own, rfl, rfl, _⟩ := hc.some hlt
    have ⟨g2, g3⟩ := hr _ (List.mem_singleton.2 rfl)
    dsimp only at g2 g3
    have hql : (sub l (t * 27) 27).length = 27 := sub_length (by omega)
    have hz : zAt l t = hasZ (sub l (t * 27) 27) := rfl
    generalize hqd : sub l (t * 27) 27 = q at hql hz
    repeat' (first | (with_reducible first | refine W1 ?_ | refine W2 ?_ | refine W3 ?_ | refine W4 mixed ?_ | refine W5 ?_ | refine W6 ?_ | refine W7 ?_ | refine W8 ?_ | refine W9 ?_ | refine V1 ?_ | refine V2 ?_ | refine V3 ?_ | refine V4 (by decide) ?_ | refine V5 ?_ | refine V6 ?_ | refine V7 ?_ | refine V8 ?_ | refine V9 ?_ | refine U1 ?_ | refine U2 ?_ | refine U3 ?_) | (with_reducible refine U4 ?_ ?_; next => first | omega | exact ⟨trivial, by omega⟩) | simp (maxSteps := 2000000) (discharger := first | omega | (simp (discharger := omega) only [Z1, Z2, Z3, Z4, Z5, Z6, Z7] <;> fail) | (simp (discharger := omega) only [Z3, Z8, Z2, Z4, Z1, Z7, Z5, Z6, Z9, Y1, Y2]; omega)) only [go_sem, g2, hqd])
    refine call_pure (hasZero_spec hql) ?_
    rw [← hz]
    repeat' (first | (with_reducible first | refine W1 ?_ | refine W2 ?_ | refine W3 ?_ | refine W4 mixed ?_ | refine W5 ?_ | refine W6 ?_ | refine W7 ?_ | refine W8 ?_ | refine W9 ?_ | refine V1 ?_ | refine V2 ?_ | refine V3 ?_ | refine V4 (by decide) ?_ | refine V5 ?_ | refine V6 ?_ | refine V7 ?_ | refine V8 ?_ | refine V9 ?_ | refine U1 ?_ | refine U2 ?_ | refine U3 ?_) | (with_reducible refine U4 ?_ ?_; next => first | omega | exact ⟨trivial, by omega⟩) | ((with_reducible refine U5 _ rfl (fun hq => ?_) (fun hq => ?_)) <;> try (first | (cases hq; done) | exact absurd hq (by decide))) | ((with_reducible refine U6 (fun hq => ?_) (fun hq => ?_)) <;> try (first | (cases hq; done) | exact absurd hq (by decide))) | simp (maxSteps := 2000000) (discharger := first | omega | (simp (discharger := omega) only [Z1, Z2, Z3, Z4, Z5, Z6, Z7] <;> fail) | (simp (discharger := omega) only [Z3, Z8, Z2, Z4, Z1, Z7, Z5, Z6, Z9, Y1, Y2]; omega)) only [go_sem])
    · refine ret_eq hN rfl rfl ?_
      have h2 := ht.2
      rw [zFirst_yes hq (by omega)] at h2
      rw [zIdx, h2, if_pos hlt]
    · refine forK_same (t + 1) (by omega) ⟨by omega, ?_⟩ rfl (by repeat' (first | exact trivial | exact .inl rfl | exact .inr rfl | refine ⟨?_, ?_⟩))
      have h2 := ht.2
      rw [show n - t = (n - (t + 1)) + 1 by omega, zFirst_no hq] at h2
      exact h2
  · have hlt : t = n := by have : ¬ t < n := by simpa using h
                           omega
    subst hlt
    repeat' (first | (with_reducible first | refine W1 ?_ | refine W2 ?_ | refine W3 ?_ | refine W4 mixed ?_ | refine W5 ?_ | refine W6 ?_ | refine W7 ?_ | refine W8 ?_ | refine W9 ?_ | refine V1 ?_ | refine V2 ?_ | refine V3 ?_ | refine V4 (by decide) ?_ | refine V5 ?_ | refine V6 ?_ | refine V7 ?_ | refine V8 ?_ | refine V9 ?_ | refine U1 ?_ | refine U2 ?_ | refine U3 ?_) | (with_reducible refine U4 ?_ ?_; next => first | omega | exact ⟨trivial, by omega⟩) | simp (maxSteps := 2000000) (discharger := first | omega | (simp (discharger := omega) only [Z1, Z2, Z3, Z4, Z5, Z6, Z7] <;> fail) | (simp (discharger := omega) only [Z3, Z8, Z2, Z4, Z1, Z7, Z5, Z6, Z9, Y1, Y2]; omega)) only [go_sem])
    refine ret_eq hN rfl rfl ?_
    have h2 := ht.2
    rw [Nat.sub_self] at h2
    rw [zIdx, h2, if_neg (by simp [zFirst])]
end Go.Proofs.Ytcfemdhlcjmlbaa
/- An answer that names an old object that was written. -/
namespace Go.Proofs.Ytcfemdhlcjmlbaa
open Go Go.Abs
set_option maxRecDepth 100000

set_option maxRecDepth 100000
set_option maxHeartbeats 8000000
set_option linter.unusedVariables false
attribute [-simp] List.getD_eq_getElem?_getD
attribute [-go_sem] confV

theorem ren1_idF (v : AV) : ren1 id v = v := by
  cases v with
  | c x => simp [ren1, mapIds_id]
  | agg cs => simp [ren1, show Cell.mapIds id = id from funext mapIds_id]
  | tup vs => rfl
  | any => rfl
theorem renT_idF (v : AV) : renT id v = v := by
  cases v with
  | tup vs => simp [renT, show ren1 id = id from funext ren1_idF]
  | c x => simp [renT, ren1, mapIds_id]
  | agg cs => simp [renT, ren1, show Cell.mapIds id = id from funext mapIds_id]
  | any => rfl
theorem ret_writesV {P : Program} {G : Heap} {N : Nat} {L : List Slot} {T : List AV} (hN : ∀ k, N ≤ k → G k = .free) {ws : List (Nat × Slot)} (hw : ∀ p ∈ ws, p.1 < N ∧ ∃ cs own, p.2 = .live ⟨cs, own⟩ ∧ flat cs) {rs : List ResultVar} {val : AV} (vs : List AV) (hr : resAll P T ⟨putsG G ws, N, L⟩ rs vs) (he : resOf vs = val) (hp : plainT val = true) (hi : ∀ i ∈ val.idsT, i < N) :
    retS P rs G N val ws .ret T ⟨putsG G ws, N, L⟩ := by
  subst he
  have out : ∀ k, N ≤ k → putsG G ws k = .free := by
    intro k hk
    rcases putsG_cases ws G k with h | ⟨p, h1, h2, h3⟩
    · rw [h]; exact hN k hk
    · have := (hw p h1).1; omega
  refine ⟨vs, id, hr, fun _ _ => rfl, fun k o hk => ?_, fun k hk => ?_, fun k k' o o' _ _ _ _ hne => hne, ?_⟩
  · have hlt : k < N := by
      rcases Nat.lt_or_ge k N with h | h
      · exact h
      · rw [out k h] at hk; cases hk
    rcases putsG_cases ws G k with h | ⟨p, h1, h2, h3⟩
    · left; exact ⟨by rw [← h]; exact hk, by rw [get_old hlt]; exact hk⟩
    · right
      obtain ⟨_, cs, own, e1, e2⟩ := hw p h1
      rw [h3, e1] at hk
      cases hk
      refine ⟨?_, fun c hc i hi => by rw [e2 c hc] at hi; cases hi⟩
      rw [id, get_old hlt, map_flat e2, h3, e1]
  · rcases putsG_cases ws G k with h | ⟨p, h1, h2, h3⟩
    · rw [h]; exact hk
    · obtain ⟨_, cs, own, e1, e2⟩ := hw p h1
      rw [h3, e1]; simp
  · have := Named.of (σ := id) (ok := fun i => (⟨putsG G ws, N, L⟩ : AHeap).get (id i) ≠ .free → putsG G ws i ≠ .free) hp (fun i hh hne => by rw [id, get_old (hi i hh)] at hne; exact hne)
    rwa [renT_idF] at this
end Go.Proofs.Ytcfemdhlcjmlbaa
/- The products that are kept: plain laws. -/
namespace Go.Proofs.Ytcfemdhlcjmlbaa
open Go Go.Abs
set_option maxRecDepth 100000

set_option maxRecDepth 100000
set_option linter.unusedVariables false
attribute [-simp] List.getD_eq_getElem?_getD
attribute [-go_sem] confV

/-- How many of the first products are kept, and their bytes. -/
def keptN (l : List Int) : Nat → Nat
  | 0 => 0
  | t + 1 => if zAt l t then keptN l t else keptN l t + 1
def keptL (l : List Int) : Nat → List Int
  | 0 => []
  | t + 1 => if zAt l t then keptL l t else keptL l t ++ sub l (t * 27) 27
theorem keptL_length {l : List Int} {n : Nat} (hl : l.length = n * 27) : ∀ {t : Nat}, t ≤ n → (keptL l t).length = keptN l t * 27
  | 0, _ => rfl
  | t + 1, h => by
    have ih := keptL_length hl (t := t) (by omega)
    have hs : (sub l (t * 27) 27).length = 27 := sub_length (by omega)
    simp only [keptL, keptN]
    split
    · exact ih
    · rw [List.length_append, ih, hs, Nat.add_mul]
theorem kept_all {l : List Int} : ∀ {t : Nat}, (∀ u, u < t → zAt l u = false) → keptN l t = t ∧ keptL l t = l.take (t * 27)
  | 0, _ => ⟨rfl, by simp [keptL]⟩
  | t + 1, h => by
    obtain ⟨h1, h2⟩ := kept_all (t := t) fun u hu => h u (by omega)
    have h3 := h t (by omega)
    refine ⟨by simp [keptN, h3, h1], ?_⟩
    rw [keptL, h3, h2, Nat.succ_mul]
    simp only [Bool.false_eq_true, if_false]
    exact take_sub.symm
end Go.Proofs.Ytcfemdhlcjmlbaa
/- slices.DeleteFunc of products with a zero form. -/
namespace Go.Proofs.Ytcfemdhlcjmlbaa
open Go Go.Abs
set_option maxRecDepth 100000

/- slices.DeleteFunc(()loop.example/g01262/impl.Product,loop.example/g01262/impl.Product) -/
def c_slices_DeleteFunc_impl_Product_impl_Product : SFn := ⟨(.seq (.ops [⟨some 4, .assign (.const (.slice none 0 0)), none⟩])
 (.seq (.ops [⟨some 8, .move (.tmp 0), none⟩, ⟨some 9, .move (.tmp 1), none⟩, ⟨some 10, .call ⟨.value (.func 282), #[.tmp 8, .tmp 9], #[51, 224]⟩, none⟩, ⟨some 5, .assign (.tmp 10), none⟩])
  (.seq (.seq (.ops [⟨some 11, .move (.tmp 5), none⟩, ⟨some 12, .binOp .eql 3 (.tmp 11) (.const (.int .i64 (-1))) 3, none⟩])
    (.cond (.tmp 12) (.seq (.ops [⟨some 13, .move (.tmp 0), none⟩, ⟨some 4, .assign (.tmp 13), none⟩])
      .ret)
     .skip))
   (.seq (.seq (.ops [⟨some 14, .move (.tmp 5), none⟩, ⟨some 15, .binOp .add 3 (.tmp 14) (.const (.int .i64 1)) 3, none⟩, ⟨some 6, .assign (.tmp 15), none⟩])
     (.block 0 (.loop (.seq (.seq (.ops [⟨some 16, .move (.tmp 6), none⟩, ⟨some 17, .move (.tmp 0), none⟩, ⟨some 18, .call ⟨.builtin .len, #[.tmp 17], #[51]⟩, none⟩, ⟨some 19, .binOp .lss 3 (.tmp 16) (.tmp 18) 3, none⟩])
         (.cond (.tmp 19) .skip
          (.exit 0)))
        (.seq (.block 1 (.seq (.ops [⟨some 22, .move (.tmp 0), none⟩, ⟨some 23, .move (.tmp 6), none⟩, ⟨some 24, .indexAddr 51 (.tmp 22) (.tmp 23), none⟩, ⟨some 25, .load 147 (.tmp 24), none⟩, ⟨some 7, .alloc 147, none⟩, ⟨none, .store 147 (.tmp 7) (.tmp 25), none⟩])
           (.seq (.ops [⟨some 26, .move (.tmp 1), none⟩, ⟨some 27, .load 147 (.tmp 7), none⟩, ⟨some 28, .call ⟨.value (.tmp 26), #[.tmp 27], #[147]⟩, none⟩, ⟨some 29, .unOp .not 4 (.tmp 28), none⟩])
            (.cond (.tmp 29) (.seq (.ops [⟨some 30, .move (.tmp 0), none⟩, ⟨some 31, .move (.tmp 5), none⟩, ⟨some 32, .load 147 (.tmp 7), none⟩, ⟨some 33, .indexAddr 51 (.tmp 30) (.tmp 31), none⟩, ⟨none, .store 147 (.tmp 33) (.tmp 32), none⟩])
              (.ops [⟨some 34, .move (.tmp 5), none⟩, ⟨some 35, .binOp .add 3 (.tmp 34) (.const (.int .i64 1)) 3, none⟩, ⟨some 5, .assign (.tmp 35), none⟩]))
             .skip))))
         (.ops [⟨some 20, .move (.tmp 6), none⟩, ⟨some 21, .binOp .add 3 (.tmp 20) (.const (.int .i64 1)) 3, none⟩, ⟨some 6, .assign (.tmp 21), none⟩]))))))
    (.seq (.ops [⟨some 36, .move (.tmp 0), none⟩, ⟨some 37, .move (.tmp 5), none⟩, ⟨some 38, .slice 51 (.tmp 36) (some (.tmp 37)) none none, none⟩, ⟨none, .call ⟨.builtin .clear, #[.tmp 38], #[51]⟩, none⟩])
     (.seq (.ops [⟨some 39, .move (.tmp 0), none⟩, ⟨some 40, .move (.tmp 5), none⟩, ⟨some 41, .slice 51 (.tmp 39) none (some (.tmp 40)) none, none⟩, ⟨some 4, .assign (.tmp 41), none⟩])
      .ret)))))), [.tmp 4], 42⟩
theorem f_slices_DeleteFunc_impl_Product_impl_Product : isFn Go.Proofs.Try.prog 238 = some c_slices_DeleteFunc_impl_Product_impl_Product := by kernel_rfl


set_option maxRecDepth 100000
set_option maxHeartbeats 8000000
set_option linter.unusedVariables false
attribute [-simp] List.getD_eq_getElem?_getD
attribute [-go_sem] confV

theorem zFirst_spec {l : List Int} : ∀ {f i : Nat}, zFirst l f i < i + f → zAt l (zFirst l f i) = true ∧ i ≤ zFirst l f i ∧ ∀ u, i ≤ u → u < zFirst l f i → zAt l u = false
  | 0, i, h => by simp [zFirst] at h
  | f + 1, i, h => by
    cases hz : zAt l i with
    | true => rw [zFirst_yes hz (by omega)]; exact ⟨hz, Nat.le_refl _, fun u h1 h2 => by omega⟩
    | false =>
      rw [zFirst_no hz] at h ⊢
      obtain ⟨a1, a2, a3⟩ := zFirst_spec (l := l) (f := f) (i := i + 1) (by omega)
      refine ⟨a1, by omega, fun u h1 h2 => ?_⟩
      by_cases e : u = i
      · rw [e]; exact hz
      · exact a3 u (by omega) h2
theorem zIdx_cases (l : List Int) (n : Nat) : zIdx l n = -1 ∨ ∃ f : Nat, zIdx l n = f ∧ f < n ∧ zAt l f = true ∧ ∀ u, u < f → zAt l u = false := by
  by_cases h : zFirst l n 0 < n
  · obtain ⟨a1, a2, a3⟩ := zFirst_spec (l := l) (f := n) (i := 0) (by omega)
    exact .inr ⟨zFirst l n 0, by rw [zIdx, if_pos h], h, a1, fun u hu => a3 u (Nat.zero_le _) hu⟩
  · exact .inl (by rw [zIdx, if_neg h])
end Go.Proofs.Ytcfemdhlcjmlbaa
/- slices.DeleteFunc of products with a zero form; the products that are kept. -/
namespace Go.Proofs.Ytcfemdhlcjmlbaa
open Go Go.Abs
set_option maxRecDepth 100000

/- loop.example/g01262/impl.kept -/
def c_impl_kept : SFn := ⟨(.seq (.ops [⟨some 2, .assign (.const (.slice none 0 0)), none⟩])
 (.seq (.ops [⟨some 3, .move (.tmp 0), none⟩, ⟨some 4, .call ⟨.value (.func 238), #[.tmp 3, .func 239], #[51, 224]⟩, none⟩, ⟨some 2, .assign (.tmp 4), none⟩])
  .ret)), [.tmp 2], 5⟩
theorem f_impl_kept : isFn Go.Proofs.Try.prog 164 = some c_impl_kept := by kernel_rfl


set_option maxRecDepth 100000
set_option maxHeartbeats 8000000
set_option linter.unusedVariables false
attribute [-simp] List.getD_eq_getElem?_getD
attribute [-go_sem] confV

theorem putL_getF {o v : List Int} {a : Nat} (h : a + v.length ≤ o.length) (j : Nat) : (putL o a v).getD j 0 = if a ≤ j ∧ j < a + v.length then v.getD (j - a) 0 else o.getD j 0 := by
  rw [putL_eq h]
  simp only [List.getD_eq_getElem?_getD, List.getElem?_append, List.length_append, List.length_take, List.getElem?_take, List.getElem?_drop]
  rw [Nat.min_eq_left (by omega)]
  by_cases h1 : j < a
  · rw [if_pos (by omega), if_pos h1, if_pos h1, if_neg (by omega)]
  · by_cases h2 : j < a + v.length
    · rw [if_pos h2, if_neg h1, if_pos (by omega)]
    · rw [if_neg h2, if_neg (by omega), show a + v.length + (j - (a + v.length)) = j from by omega]
theorem updF2 {α : Type} (f : Nat → α) (k : Nat) (a b : α) : upd (upd f k a) k b = upd f k b := by
  funext j; simp only [upd]; split <;> rfl
theorem updF1 {α : Type} {f : Nat → α} {k : Nat} {a : α} (h : f k = a) : upd f k a = f := by
  funext j; simp only [upd]; split
  · rename_i e; rw [e, h]
  · rfl
theorem sub_ext {a b : List Int} {off n : Nat} (ha : off + n ≤ a.length) (hb : off + n ≤ b.length) (h : ∀ j, j < n → a.getD (off + j) 0 = b.getD (off + j) 0) : sub a off n = sub b off n := by
  apply List.ext_getElem (by rw [sub_length ha, sub_length hb])
  intro j h1 h2
  rw [sub_length ha] at h1
  have := h j h1
  simp only [List.getD_eq_getElem?_getD] at this
  rw [List.getElem?_eq_getElem (by omega), List.getElem?_eq_getElem (by omega)] at this
  simpa [sub] using this
theorem putL_sub_out {o q : List Int} {i a n : Nat} (h : i + q.length ≤ o.length) (ha : a + n ≤ o.length) (hd : i + q.length ≤ a ∨ a + n ≤ i) : sub (putL o i q) a n = sub o a n := by
  refine sub_ext (by rw [putL_len]; exact ha) ha fun j hj => ?_
  rw [putL_getF h, if_neg (by omega)]
theorem putL_take {o q : List Int} {i : Nat} (h : i + q.length ≤ o.length) : (putL o i q).take (i + q.length) = o.take i ++ q := by
  rw [putL_eq h, List.take_append_of_le_length (by rw [List.length_append, List.length_take]; omega), List.take_of_length_le (by rw [List.length_append, List.length_take]; omega)]
theorem putL_zeros {o : List Int} {i n : Nat} (h : o.length = i + n) : putL o i (zeros n) = o.take i ++ zeros n := by
  rw [putL_eq (by rw [zeros_length]; omega), zeros_length, List.drop_of_length_le (by omega), List.append_nil]

theorem deleteZ_spec {k n : Nat} {l : List Int} (hl : l.length = n * 27) (hn : n ≤ 1048576) : FSpec Try.prog 238 [.c (.slice k 0 n 27), .c (.fn 239 [])] (.c (.slice k 0 (keptN l n) 27)) [(k, ⟨u8s l, true⟩)] [(k, .live ⟨u8s (keptL l n ++ zeros ((n - keptN l n) * 27)), true⟩)] := by
  refine FSpec.of f_slices_DeleteFunc_impl_Product_impl_Product (Nat.le_of_ble_eq_true rfl) fun G N hN hr hw => ?_
  simp only [c_slices_DeleteFunc_impl_Product_impl_Product, List.length_cons, List.length_nil, List.replicate, List.cons_append, List.nil_append]
  have hc : Sl 27 (u8s l) n (.slice k 0 n 27) [(k, ⟨u8s l, true⟩)] := Sl.mk k true (by rw [u8s_length]; exact hl)
  obtain ⟨g2, hk⟩ := hr _ (List.mem_singleton.2 rfl)
  dsimp only at g2 hk
  have hkf : G k ≠ .free := by rw [g2]; simp
  rcases zIdx_cases l n with hno | ⟨f, hf, hfn, hz, hall⟩
  · have hall : ∀ u, u < n → zAt l u = false := by
      intro u hu
      apply Classical.byContradiction
      intro hh
      simp only [Bool.not_eq_false] at hh
      have h1 : ¬ zFirst l n 0 < n := by
        intro h
        rw [zIdx, if_pos h] at hno
        omega
      have key : ∀ f i, i + f = n → (∀ v, v < i → zAt l v = false) → zFirst l f i = n → ∀ v, v < n → zAt l v = false := by
        intro f
        induction f with
        | zero => intro i h1 h2 h3 v hv; exact h2 v (by omega)
        | succ f ih =>
          intro i h1 h2 h3
          cases hzi : zAt l i with
          | true => rw [zFirst_yes hzi (by omega)] at h3; omega
          | false =>
            rw [zFirst_no hzi] at h3
            exact ih (i + 1) (by omega) (fun v hv => by
              by_cases e : v = i
              · rw [e]; exact hzi
              · exact h2 v (by omega)) h3
      have h2 : zFirst l n 0 = n := by
        have : ∀ f i, zFirst l f i ≤ i + f := by
          intro f
          induction f with
          | zero => intro i; simp [zFirst]
          | succ f ih => intro i; rw [zFirst]; split; omega; have := ih (i + 1); omega
        have := this n 0
        omega
      have := key n 0 (by omega) (fun v hv => by omega) h2 u hu
      rw [this] at hh; cases hh
    obtain ⟨e1, e2⟩ := kept_all hall
    have e3 : keptL l n ++ zeros ((n - keptN l n) * 27) = l := by rw [e1, e2, Nat.sub_self, Nat.zero_mul, List.take_of_length_le (by omega)]; simp [zeros]
    rw [e1] at e3 ⊢
    rw [e3]
    repeat' (first | (with_reducible first | refine W1 ?_ | refine W2 ?_ | refine W3 ?_ | refine W4 mixed ?_ | refine W5 ?_ | refine W6 ?_ | refine W7 ?_ | refine W8 ?_ | refine W9 ?_ | refine V1 ?_ | refine V2 ?_ | refine V3 ?_ | refine V4 (by decide) ?_ | refine V5 ?_ | refine V6 ?_ | refine V7 ?_ | refine V8 ?_ | refine V9 ?_ | refine U1 ?_ | refine U2 ?_ | refine U3 ?_) | (with_reducible refine U4 ?_ ?_; next => first | omega | exact ⟨trivial, by omega⟩) | simp (maxSteps := 2000000) (discharger := first | omega | (simp (discharger := omega) only [Z1, Z2, Z3, Z4, Z5, Z6, Z7] <;> fail) | (simp (discharger := omega) only [Z3, Z8, Z2, Z4, Z1, Z7, Z5, Z6, Z9, Y1, Y2]; omega)) only [go_sem])
    refine call_ro (indexZ_spec hc hl hn) (get_rd hr) ?_
    rw [hno]
    repeat' (first | (with_reducible first | refine W1 ?_ | refine W2 ?_ | refine W3 ?_ | refine W4 mixed ?_ | refine W5 ?_ | refine W6 ?_ | refine W7 ?_ | refine W8 ?_ | refine W9 ?_ | refine V1 ?_ | refine V2 ?_ | refine V3 ?_ | refine V4 (by decide) ?_ | refine V5 ?_ | refine V6 ?_ | refine V7 ?_ | refine V8 ?_ | refine V9 ?_ | refine U1 ?_ | refine U2 ?_ | refine U3 ?_) | (with_reducible refine U4 ?_ ?_; next => first | omega | exact ⟨trivial, by omega⟩) | ((with_reducible refine U5 _ rfl (fun hq => ?_) (fun hq => ?_)) <;> try (first | (cases hq; done) | exact absurd hq (by decide))) | ((with_reducible refine U6 (fun hq => ?_) (fun hq => ?_)) <;> try (first | (cases hq; done) | exact absurd hq (by decide))) | simp (maxSteps := 2000000) (discharger := first | omega | (simp (discharger := omega) only [Z1, Z2, Z3, Z4, Z5, Z6, Z7] <;> fail) | (simp (discharger := omega) only [Z3, Z8, Z2, Z4, Z1, Z7, Z5, Z6, Z9, Y1, Y2]; omega)) only [go_sem])
    have h0 : (⟨G, N, []⟩ : AHeap) = ⟨putsG G [(k, .live ⟨u8s l, true⟩)], N, []⟩ := by
      show _ = (⟨upd G k (.live ⟨u8s l, true⟩), N, []⟩ : AHeap)
      rw [updF1 g2]
    rw [h0]
    refine ret_mix0 hN _ (oldOk_flat hk hkf (flat_u8s l)) [.c (.slice k 0 n 27)] ⟨rfl, trivial⟩ rfl ?_ rfl
    simp only [AV.idsT, AV.ids1, Cell.ids, List.mem_singleton]
    rintro q rfl
    exact hkf
  · repeat' (first | (with_reducible first | refine W1 ?_ | refine W2 ?_ | refine W3 ?_ | refine W4 mixed ?_ | refine W5 ?_ | refine W6 ?_ | refine W7 ?_ | refine W8 ?_ | refine W9 ?_ | refine V1 ?_ | refine V2 ?_ | refine V3 ?_ | refine V4 (by decide) ?_ | refine V5 ?_ | refine V6 ?_ | refine V7 ?_ | refine V8 ?_ | refine V9 ?_ | refine U1 ?_ | refine U2 ?_ | refine U3 ?_) | (with_reducible refine U4 ?_ ?_; next => first | omega | exact ⟨trivial, by omega⟩) | simp (maxSteps := 2000000) (discharger := first | omega | (simp (discharger := omega) only [Z1, Z2, Z3, Z4, Z5, Z6, Z7] <;> fail) | (simp (discharger := omega) only [Z3, Z8, Z2, Z4, Z1, Z7, Z5, Z6, Z9, Y1, Y2]; omega)) only [go_sem])
    refine call_ro (indexZ_spec hc hl hn) (get_rd hr) ?_
    rw [hf]
    have hf1 : ((f : Int) == -1) = false := beq_eq_false_iff_ne.2 (by omega)
    repeat' (first | (with_reducible first | refine W1 ?_ | refine W2 ?_ | refine W3 ?_ | refine W4 mixed ?_ | refine W5 ?_ | refine W6 ?_ | refine W7 ?_ | refine W8 ?_ | refine W9 ?_ | refine V1 ?_ | refine V2 ?_ | refine V3 ?_ | refine V4 (by decide) ?_ | refine V5 ?_ | refine V6 ?_ | refine V7 ?_ | refine V8 ?_ | refine V9 ?_ | refine U1 ?_ | refine U2 ?_ | refine U3 ?_) | (with_reducible refine U4 ?_ ?_; next => first | omega | exact ⟨trivial, by omega⟩) | ((with_reducible refine U5 _ rfl (fun hq => ?_) (fun hq => ?_)) <;> try (first | (cases hq; done) | exact absurd hq (by decide))) | ((with_reducible refine U6 (fun hq => ?_) (fun hq => ?_)) <;> try (first | (cases hq; done) | exact absurd hq (by decide))) | simp (maxSteps := 2000000) (discharger := first | omega | (simp (discharger := omega) only [Z1, Z2, Z3, Z4, Z5, Z6, Z7] <;> fail) | (simp (discharger := omega) only [Z3, Z8, Z2, Z4, Z1, Z7, Z5, Z6, Z9, Y1, Y2]; omega)) only [go_sem, hf1])
    obtain ⟨e1, e2⟩ := kept_all hall
    refine swp_for (fun (s : Nat × Nat × List Int × List Slot) => ([.c (.slice k 0 n 27), .c (.fn 239 []), .any, .any, .any, .c (.int .i64 ((s.1 : Nat) : Int)), .c (.int .i64 ((s.2.1 : Nat) : Int))] ++ List.replicate 35 .any)) (fun s => ⟨upd G k (.live ⟨u8s s.2.2.1, true⟩), N, s.2.2.2⟩) (fun s => n - s.2.1) (fun s => s.2.1 ≤ n ∧ s.1 < s.2.1 ∧ s.1 = keptN l s.2.1 ∧ s.2.2.1.length = n * 27 ∧ s.2.2.1.take (s.1 * 27) = keptL l s.2.1 ∧ ∀ t, s.2.1 ≤ t → t < n → sub s.2.2.1 (t * 27) 27 = sub l (t * 27) 27) (f, f + 1, l, _) ⟨hfn, Nat.lt_succ_self _, ?_, hl, ?_, fun t _ _ => rfl⟩ (by rw [updF1 g2]) (by repeat' (first | exact trivial | exact .inl rfl | exact .inr rfl | refine ⟨?_, ?_⟩)) ?_
    · show f = if zAt l f then keptN l f else keptN l f + 1
      rw [if_pos hz, e1]
    · show l.take (f * 27) = if zAt l f then keptL l f else keptL l f ++ sub l (f * 27) 27
      rw [if_pos hz, e2]
    rintro ⟨i, j, o, L⟩ ⟨hj, hij, hi, hol, hot, hos⟩
    dsimp only at hj hij hi hol hot hos
    simp only [List.replicate, List.cons_append, List.nil_append]
    repeat' (first | (with_reducible first | refine W1 ?_ | refine W2 ?_ | refine W3 ?_ | refine W4 mixed ?_ | refine W5 ?_ | refine W6 ?_ | refine W7 ?_ | refine W8 ?_ | refine W9 ?_ | refine V1 ?_ | refine V2 ?_ | refine V3 ?_ | refine V4 (by decide) ?_ | refine V5 ?_ | refine V6 ?_ | refine V7 ?_ | refine V8 ?_ | refine V9 ?_ | refine U1 ?_ | refine U2 ?_ | refine U3 ?_) | (with_reducible refine U4 ?_ ?_; next => first | omega | exact ⟨trivial, by omega⟩) | simp (maxSteps := 2000000) (discharger := first | omega | (simp (discharger := omega) only [Z1, Z2, Z3, Z4, Z5, Z6, Z7] <;> fail) | (simp (discharger := omega) only [Z3, Z8, Z2, Z4, Z1, Z7, Z5, Z6, Z9, Y1, Y2]; omega)) only [go_sem])
    refine swp_cond _ rfl (fun h => ?_) (fun h => ?_)
    · have hlt : j < n := by simpa using h
      have hq := hos j (Nat.le_refl _) hlt
      have hql : (sub l (j * 27) 27).length = 27 := sub_length (by omega)
      have hz' : zAt l j = hasZ (sub l (j * 27) 27) := rfl
      have hst : keptL l (j + 1) = if zAt l j then keptL l j else keptL l j ++ sub l (j * 27) 27 := rfl
      generalize hqd : sub l (j * 27) 27 = q at hql hz' hq hst
      repeat' (first | (with_reducible first | refine W1 ?_ | refine W2 ?_ | refine W3 ?_ | refine W4 mixed ?_ | refine W5 ?_ | refine W6 ?_ | refine W7 ?_ | refine W8 ?_ | refine W9 ?_ | refine V1 ?_ | refine V2 ?_ | refine V3 ?_ | refine V4 (by decide) ?_ | refine V5 ?_ | refine V6 ?_ | refine V7 ?_ | refine V8 ?_ | refine V9 ?_ | refine U1 ?_ | refine U2 ?_ | refine U3 ?_) | (with_reducible refine U4 ?_ ?_; next => first | omega | exact ⟨trivial, by omega⟩) | simp (maxSteps := 2000000) (discharger := first | omega | (simp (discharger := omega) only [Z1, Z2, Z3, Z4, Z5, Z6, Z7] <;> fail) | (simp (discharger := omega) only [Z3, Z8, Z2, Z4, Z1, Z7, Z5, Z6, Z9, Y1, Y2]; omega)) only [go_sem, upd_same, updF2, hq])
      refine call_pure (hasZero_spec hql) ?_
      rw [← hz']
      cases hzj : zAt l j with
      | true =>
        repeat' (first | (with_reducible first | refine W1 ?_ | refine W2 ?_ | refine W3 ?_ | refine W4 mixed ?_ | refine W5 ?_ | refine W6 ?_ | refine W7 ?_ | refine W8 ?_ | refine W9 ?_ | refine V1 ?_ | refine V2 ?_ | refine V3 ?_ | refine V4 (by decide) ?_ | refine V5 ?_ | refine V6 ?_ | refine V7 ?_ | refine V8 ?_ | refine V9 ?_ | refine U1 ?_ | refine U2 ?_ | refine U3 ?_) | (with_reducible refine U4 ?_ ?_; next => first | omega | exact ⟨trivial, by omega⟩) | ((with_reducible refine U5 _ rfl (fun hq => ?_) (fun hq => ?_)) <;> try (first | (cases hq; done) | exact absurd hq (by decide))) | ((with_reducible refine U6 (fun hq => ?_) (fun hq => ?_)) <;> try (first | (cases hq; done) | exact absurd hq (by decide))) | simp (maxSteps := 2000000) (discharger := first | omega | (simp (discharger := omega) only [Z1, Z2, Z3, Z4, Z5, Z6, Z7] <;> fail) | (simp (discharger := omega) only [Z3, Z8, Z2, Z4, Z1, Z7, Z5, Z6, Z9, Y1, Y2]; omega)) only [go_sem, upd_same, updF2])
        refine forK_same (i, j + 1, o, _) (by dsimp only; omega) ⟨by dsimp only; omega, by dsimp only; omega, ?_, hol, ?_, fun t h1 h2 => hos t (by dsimp only at h1; omega) h2⟩ rfl (by repeat' (first | exact trivial | exact .inl rfl | exact .inr rfl | refine ⟨?_, ?_⟩))
        · dsimp only; simp only [keptN, hzj, if_true]; exact hi
        · dsimp only; rw [hst, hzj]; exact hot
      | false =>
        have hb : i * 27 + q.length ≤ o.length := by rw [hql, hol]; omega
        repeat' (first | (with_reducible first | refine W1 ?_ | refine W2 ?_ | refine W3 ?_ | refine W4 mixed ?_ | refine W5 ?_ | refine W6 ?_ | refine W7 ?_ | refine W8 ?_ | refine W9 ?_ | refine V1 ?_ | refine V2 ?_ | refine V3 ?_ | refine V4 (by decide) ?_ | refine V5 ?_ | refine V6 ?_ | refine V7 ?_ | refine V8 ?_ | refine V9 ?_ | refine U1 ?_ | refine U2 ?_ | refine U3 ?_) | (with_reducible refine U4 ?_ ?_; next => first | omega | exact ⟨trivial, by omega⟩) | ((with_reducible refine U5 _ rfl (fun hq => ?_) (fun hq => ?_)) <;> try (first | (cases hq; done) | exact absurd hq (by decide))) | ((with_reducible refine U6 (fun hq => ?_) (fun hq => ?_)) <;> try (first | (cases hq; done) | exact absurd hq (by decide))) | simp (maxSteps := 2000000) (discharger := first | omega | (simp (discharger := omega) only [Z1, Z2, Z3, Z4, Z5, Z6, Z7] <;> fail) | (simp (discharger := omega) only [Z3, Z8, Z2, Z4, Z1, Z7, Z5, Z6, Z9, Y1, Y2]; omega)) only [go_sem, upd_same, updF2])
        refine forK_same (i + 1, j + 1, putL o (i * 27) q, _) (by dsimp only; omega) ⟨by dsimp only; omega, by dsimp only; omega, ?_, by dsimp only; rw [putL_len]; exact hol, ?_, fun t h1 h2 => ?_⟩ rfl (by repeat' (first | exact trivial | exact .inl rfl | exact .inr rfl | refine ⟨?_, ?_⟩))
        · dsimp only; simp only [keptN, hzj, Bool.false_eq_true, if_false]; omega
        · dsimp only; rw [hst, hzj, ← hot]
          have := putL_take hb
          rw [hql] at this
          rw [Nat.add_mul]
          exact this
        · dsimp only at h1 ⊢
          rw [putL_sub_out hb (by omega) (by omega)]
          exact hos t (by omega) h2
    · have hlt : j = n := by have : ¬ j < n := by simpa using h
                             omega
      subst hlt
      have hz0 : putL o (i * 27) (zeros ((j - i) * 27)) = keptL l j ++ zeros ((j - i) * 27) := by
        rw [putL_zeros (by rw [hol, ← Nat.add_mul]; congr 1; omega), hot]
      rw [hi] at hz0
      subst hi
      have hb : keptN l j * 27 + (zeros ((j - keptN l j) * 27)).length ≤ o.length := by rw [zeros_length, hol, ← Nat.add_mul]; exact Nat.mul_le_mul_right _ (by omega)
      have hsz : keptN l j * 27 + (j - keptN l j) * 27 ≤ o.length := by rwa [zeros_length] at hb
      repeat' (first | (with_reducible first | refine W1 ?_ | refine W2 ?_ | refine W3 ?_ | refine W4 mixed ?_ | refine W5 ?_ | refine W6 ?_ | refine W7 ?_ | refine W8 ?_ | refine W9 ?_ | refine V1 ?_ | refine V2 ?_ | refine V3 ?_ | refine V4 (by decide) ?_ | refine V5 ?_ | refine V6 ?_ | refine V7 ?_ | refine V8 ?_ | refine V9 ?_ | refine U1 ?_ | refine U2 ?_ | refine U3 ?_) | (with_reducible refine U4 ?_ ?_; next => first | omega | exact ⟨trivial, by omega⟩) | simp (maxSteps := 2000000) (discharger := first | omega | (simp (discharger := omega) only [Z1, Z2, Z3, Z4, Z5, Z6, Z7] <;> fail) | (simp (discharger := omega) only [Z3, Z8, Z2, Z4, Z1, Z7, Z5, Z6, Z9, Y1, Y2]; omega)) only [go_sem, upd_same, updF2, hz0])
      refine ret_upd0 hN hk hkf (flat_u8s _) [.c (.slice k 0 (keptN l j) 27)] ⟨rfl, trivial⟩ rfl ?_ rfl
      simp only [AV.idsT, AV.ids1, Cell.ids, List.mem_singleton]
      rintro q rfl
      exact hkf

theorem kept_spec {k n : Nat} {l : List Int} (hl : l.length = n * 27) (hn : n ≤ 1048576) : FSpec Try.prog 164 [.c (.slice k 0 n 27)] (.c (.slice k 0 (keptN l n) 27)) [(k, ⟨u8s l, true⟩)] [(k, .live ⟨u8s (keptL l n), true⟩)] := by
  refine FSpec.of f_impl_kept (Nat.le_of_ble_eq_true rfl) fun G N hN hr hw => ?_
  simp only [c_impl_kept, List.length_cons, List.length_nil, List.replicate, List.cons_append, List.nil_append]
  obtain ⟨g2, hk⟩ := hr _ (List.mem_singleton.2 rfl)
  dsimp only at g2 hk
  have hkf : G k ≠ .free := by rw [g2]; simp
  repeat' (first | (with_reducible first | refine W1 ?_ | refine W2 ?_ | refine W3 ?_ | refine W4 mixed ?_ | refine W5 ?_ | refine W6 ?_ | refine W7 ?_ | refine W8 ?_ | refine W9 ?_ | refine V1 ?_ | refine V2 ?_ | refine V3 ?_ | refine V4 (by decide) ?_ | refine V5 ?_ | refine V6 ?_ | refine V7 ?_ | refine V8 ?_ | refine V9 ?_ | refine U1 ?_ | refine U2 ?_ | refine U3 ?_) | (with_reducible refine U4 ?_ ?_; next => first | omega | exact ⟨trivial, by omega⟩) | simp (maxSteps := 2000000) (discharger := first | omega | (simp (discharger := omega) only [Z1, Z2, Z3, Z4, Z5, Z6, Z7] <;> fail) | (simp (discharger := omega) only [Z3, Z8, Z2, Z4, Z1, Z7, Z5, Z6, Z9, Y1, Y2]; omega)) only [go_sem])
  refine call_intro (deleteZ_spec hl hn) (get_rd hr) wr1 ?_
  simp (maxSteps := 2000000) (discharger := first | omega | (simp (discharger := omega) only [Z1, Z2, Z3, Z4, Z5, Z6, Z7] <;> fail) | (simp (discharger := omega) only [Z3, Z8, Z2, Z4, Z1, Z7, Z5, Z6, Z9, Y1, Y2]; omega)) only [go_sem]
  refine W1 ?_
  refine swp_trunc (k := k) (cs := u8s (keptL l n ++ zeros ((n - keptN l n) * 27))) (own := true) (keptN l n * 27) ?_ ?_
  · simp (maxSteps := 2000000) (discharger := first | omega | (simp (discharger := omega) only [Z1, Z2, Z3, Z4, Z5, Z6, Z7] <;> fail) | (simp (discharger := omega) only [Z3, Z8, Z2, Z4, Z1, Z7, Z5, Z6, Z9, Y1, Y2]; omega)) only [go_sem, upd_same]
  repeat' (first | (with_reducible first | refine W1 ?_ | refine W2 ?_ | refine W3 ?_ | refine W4 mixed ?_ | refine W5 ?_ | refine W6 ?_ | refine W7 ?_ | refine W8 ?_ | refine W9 ?_ | refine V1 ?_ | refine V2 ?_ | refine V3 ?_ | refine V4 (by decide) ?_ | refine V5 ?_ | refine V6 ?_ | refine V7 ?_ | refine V8 ?_ | refine V9 ?_ | refine U1 ?_ | refine U2 ?_ | refine U3 ?_) | (with_reducible refine U4 ?_ ?_; next => first | omega | exact ⟨trivial, by omega⟩) | simp (maxSteps := 2000000) (discharger := first | omega | (simp (discharger := omega) only [Z1, Z2, Z3, Z4, Z5, Z6, Z7] <;> fail) | (simp (discharger := omega) only [Z3, Z8, Z2, Z4, Z1, Z7, Z5, Z6, Z9, Y1, Y2]; omega)) only [go_sem, updF2])
  rw [show (u8s (keptL l n ++ zeros ((n - keptN l n) * 27))).take (keptN l n * 27) = u8s (keptL l n) by rw [u8s, ← List.map_take, List.take_append_of_le_length (by rw [keptL_length hl (Nat.le_refl _)]; exact Nat.le_refl _), List.take_of_length_le (by rw [keptL_length hl (Nat.le_refl _)]; exact Nat.le_refl _)]; rfl]
  refine ret_upd0 hN hk hkf (flat_u8s _) [.c (.slice k 0 (keptN l n) 27)] ⟨rfl, trivial⟩ rfl ?_ rfl
  simp only [AV.idsT, AV.ids1, Cell.ids, List.mem_singleton]
  rintro q rfl
  exact hkf
end Go.Proofs.Ytcfemdhlcjmlbaa
