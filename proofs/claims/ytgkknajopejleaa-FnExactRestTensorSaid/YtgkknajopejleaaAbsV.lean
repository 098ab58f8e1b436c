/- Equal arrays; loops that end early; bytes. -/
import Derived.Test.YtgkknajopejleaaAbsU
namespace Go.Abs
theorem sameInts_map {k : IntKind} : ∀ {f g : List Int}, f.length = g.length → sameInts (f.map (Cell.int k)) (g.map (Cell.int k)) = true
  | [], [], _ => rfl
  | _ :: f, _ :: g, h => by simp [sameInts, sameInts_map (f := f) (g := g) (by simpa using h)]
  | [], _ :: _, h => by simp at h
  | _ :: _, [], h => by simp at h
theorem intsEq_map {k : IntKind} : ∀ {f g : List Int}, f.length = g.length → intsEq (f.map (Cell.int k)) (g.map (Cell.int k)) = decide (f = g)
  | [], [], _ => rfl
  | x :: f, y :: g, h => by
    have e : (x == y) = decide (x = y) := Bool.eq_iff_iff.2 (by simp)
    simp [intsEq, intsEq_map (f := f) (g := g) (by simpa using h), e]
  | [], _ :: _, h => by simp at h
  | _ :: _, [], h => by simp at h
@[go_sem] theorem sameInts_u8s {f g : List Int} (h : f.length = g.length) : sameInts (u8s f) (u8s g) = true := sameInts_map h
@[go_sem] theorem intsEq_u8s {f g : List Int} (h : f.length = g.length) : intsEq (u8s f) (u8s g) = decide (f = g) := intsEq_map h
@[go_sem] theorem sameInts_i64s {f g : List Int} (h : f.length = g.length) : sameInts (i64s f) (i64s g) = true := sameInts_map h
@[go_sem] theorem intsEq_i64s {f g : List Int} (h : f.length = g.length) : intsEq (i64s f) (i64s g) = decide (f = g) := intsEq_map h
def byteL (l : List Int) : Prop := ∀ z ∈ l, 0 ≤ z ∧ z ≤ 255
theorem byteL.sub {l : List Int} (h : byteL l) (o n : Nat) : byteL (sub l o n) := fun z hz => h z (List.mem_of_mem_drop (List.mem_of_mem_take hz))
theorem byteL.get {l : List Int} (h : byteL l) (i : Nat) : 0 ≤ l.getD i 0 ∧ l.getD i 0 ≤ 255 := by
  rw [List.getD_eq_getElem?_getD]
  cases e : l[i]? with
  | none => simp
  | some z => exact h z (List.mem_of_getElem? e)
theorem byteL.of {l : List Int} (h : ∀ z ∈ l, (Lit.int .u8 z).wf = true) : byteL l := fun z hz => by
  have := h z hz
  simp [Lit.wf, IntKind.min, IntKind.max, IntKind.signed, IntKind.bits] at this
  omega
theorem wf64 {n : Int} (h : (Lit.int .i64 n).wf = true) : -9223372036854775808 ≤ n ∧ n ≤ 9223372036854775807 := by
  simp [Lit.wf, IntKind.min, IntKind.max, IntKind.signed, IntKind.bits] at h
  omega
theorem all_range_succ {q : Nat → Bool} {n : Nat} : (List.range (n + 1)).all q = ((List.range n).all q && q n) := by simp [List.range_succ]
theorem all_range_false {q : Nat → Bool} {n i : Nat} (hi : i < n) (h : q i = false) : (List.range n).all q = false := by
  rw [List.all_eq_false]; exact ⟨i, List.mem_range.2 hi, by simp [h]⟩
theorem put3 {l : List Int} {n : Nat} (h : l.length = 3 * n) (o : List Int) (ho : o.length = 3 * n) : putL (putL (putL o 0 (sub l 0 n)) n (sub l n n)) (2 * n) (sub l (2 * n) n) = l := by
  have h1 : (sub l 0 n).length = n := sub_length (by omega)
  have h2 : (sub l n n).length = n := sub_length (by omega)
  have h3 : (sub l (2 * n) n).length = n := sub_length (by omega)
  have g1 : (sub l 0 n).take n = sub l 0 n := List.take_of_length_le (by omega)
  have g2 : (sub l n n).take n = sub l n n := List.take_of_length_le (by omega)
  have g3 : (sub l 0 n).drop n = [] := List.drop_of_length_le (by omega)
  have A : putL o 0 (sub l 0 n) = sub l 0 n ++ o.drop n := by rw [putL_eq (by omega)]; simp [h1]
  have B : putL (putL o 0 (sub l 0 n)) n (sub l n n) = sub l 0 n ++ sub l n n ++ o.drop (2 * n) := by
    rw [putL_eq (by rw [putL_len]; omega), A, h2, List.take_append_of_le_length (by omega), g1, List.drop_append, h1, List.drop_of_length_le (l := sub l 0 n) (by omega), List.drop_drop]
    simp
    congr 1
    omega
  have e : l = sub l 0 n ++ sub l n n ++ sub l (2 * n) n := by
    conv => lhs; rw [← List.take_of_length_le (l := l) (i := 0 + n + n + n) (by omega), take_sub, take_sub, take_sub]
    simp
    rw [show n + n = 2 * n from by omega]
  have g4 : (sub l 0 n ++ sub l n n).length = 2 * n := by simp [h1, h2]; omega
  rw [putL_eq (by rw [putL_len, putL_len]; omega), B, h3, List.take_append_of_le_length (by omega), List.take_of_length_le (by omega), List.drop_of_length_le (by rw [List.length_append, g4, List.length_drop]; omega)]
  conv => rhs; rw [e]
  simp
@[go_sem] theorem sub_all {l : List Int} {n : Nat} (h : l.length = n) : sub l 0 n = l := by subst h; simp [sub]
@[go_sem] theorem sub_len {l : List Int} {off n : Nat} (h : off + n ≤ l.length) : (sub l off n).length = n := sub_length h
@[go_sem] theorem putL_all {o v : List Int} (h : v.length = o.length) : putL o 0 v = v := by rw [putL_eq (by omega), List.take_zero, List.nil_append, List.drop_of_length_le (by omega), List.append_nil]
@[go_sem] theorem some_eqN {a b : Nat} : (some a = some b) = (a = b) := by simp
attribute [go_sem] Int.toNat_zero Int.toNat_one
@[go_sem] theorem lit_add0 : ((0 : Int) + 1) = 1 := rfl
@[go_sem] theorem lit_add1 : ((1 : Int) + 1) = 2 := rfl
@[go_sem] theorem lit_add2 : ((2 : Int) + 1) = 3 := rfl
@[go_sem] theorem lit_add3 : ((3 : Int) + 1) = 4 := rfl
@[go_sem] theorem lit_add4 : ((4 : Int) + 1) = 5 := rfl
@[go_sem] theorem lit_add5 : ((5 : Int) + 1) = 6 := rfl
@[go_sem] theorem lit_add6 : ((6 : Int) + 1) = 7 := rfl
@[go_sem] theorem lit_add7 : ((7 : Int) + 1) = 8 := rfl
@[go_sem] theorem lit_add8 : ((8 : Int) + 1) = 9 := rfl
@[go_sem] theorem lit_add9 : ((9 : Int) + 1) = 10 := rfl
@[go_sem] theorem lit_add10 : ((10 : Int) + 1) = 11 := rfl
@[go_sem] theorem lit_add11 : ((11 : Int) + 1) = 12 := rfl
@[go_sem] theorem lit_nat2 : Int.toNat (2 : Int) = 2 := rfl
@[go_sem] theorem lit_nat3 : Int.toNat (3 : Int) = 3 := rfl
@[go_sem] theorem lit_nat4 : Int.toNat (4 : Int) = 4 := rfl
@[go_sem] theorem lit_nat5 : Int.toNat (5 : Int) = 5 := rfl
@[go_sem] theorem lit_nat6 : Int.toNat (6 : Int) = 6 := rfl
@[go_sem] theorem lit_nat7 : Int.toNat (7 : Int) = 7 := rfl
@[go_sem] theorem lit_nat8 : Int.toNat (8 : Int) = 8 := rfl
@[go_sem] theorem lit_nat9 : Int.toNat (9 : Int) = 9 := rfl
@[go_sem] theorem lit_nat10 : Int.toNat (10 : Int) = 10 := rfl
@[go_sem] theorem lit_nat11 : Int.toNat (11 : Int) = 11 := rfl
@[go_sem] theorem lit_nat12 : Int.toNat (12 : Int) = 12 := rfl
@[go_sem] theorem lit_nat13 : Int.toNat (13 : Int) = 13 := rfl
@[go_sem] theorem lit_nat14 : Int.toNat (14 : Int) = 14 := rfl
@[go_sem] theorem lit_nat15 : Int.toNat (15 : Int) = 15 := rfl
@[go_sem] theorem lit_nat16 : Int.toNat (16 : Int) = 16 := rfl
@[go_sem] theorem lit_nat17 : Int.toNat (17 : Int) = 17 := rfl
@[go_sem] theorem lit_nat18 : Int.toNat (18 : Int) = 18 := rfl
@[go_sem] theorem lit_nat19 : Int.toNat (19 : Int) = 19 := rfl
@[go_sem] theorem lit_nat20 : Int.toNat (20 : Int) = 20 := rfl
@[go_sem] theorem lit_nat21 : Int.toNat (21 : Int) = 21 := rfl
@[go_sem] theorem lit_nat22 : Int.toNat (22 : Int) = 22 := rfl
@[go_sem] theorem lit_nat23 : Int.toNat (23 : Int) = 23 := rfl
@[go_sem] theorem lit_nat24 : Int.toNat (24 : Int) = 24 := rfl
@[go_sem] theorem lit_nat25 : Int.toNat (25 : Int) = 25 := rfl
@[go_sem] theorem lit_nat26 : Int.toNat (26 : Int) = 26 := rfl
@[go_sem] theorem lit_nat27 : Int.toNat (27 : Int) = 27 := rfl
theorem flat_ids {cs : List Cell} (h : Abs.flat cs) : cs.flatMap Cell.ids = [] := by
  rw [List.flatMap_eq_nil_iff]; exact fun c hc => h c hc
/-- One aggregate of plain cells is returned. -/
theorem ret_flat {P : Program} {G : Heap} {N : Nat} {L : List Slot} {T : List AV} (hN : ∀ k, N ≤ k → G k = .free) {a : Tmp} {t : TypeId} {cs ds : List Cell} (hr : resOne P T ⟨G, N, L⟩ (.cell a t) (.agg cs)) (hf : Abs.flat ds) (e : cs = ds) :
    retS P [.cell a t] G N (.agg ds) [] .ret T ⟨G, N, L⟩ := by
  subst e
  exact ret_none hN [.agg cs] ⟨hr, trivial⟩ rfl rfl (flat_ids hf) (by simp)
end Go.Abs
