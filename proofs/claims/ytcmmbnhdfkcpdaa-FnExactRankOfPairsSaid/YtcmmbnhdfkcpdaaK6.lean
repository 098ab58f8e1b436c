/- Rows of a tensor, both sides. -/
import Derived.Test.YtcmmbnhdfkcpdaaK5
namespace Go.Proofs.Ytcmmbnhdfkcpdaa
open Go Go.Abs
set_option maxRecDepth 100000
/- loop.example/g01262/impl.parted -/
def c_impl_parted : SFn := ⟨(.seq (.ops [⟨some 4, .assign (.const (.slice none 0 0)), none⟩])
 (.seq (.ops [⟨some 7, .buildSlice 78 0 #[], none⟩, ⟨some 5, .assign (.tmp 7), none⟩])
  (.seq (.seq (.ops [⟨some 6, .assign (.const (.int .i64 0)), none⟩])
    (.block 0 (.loop (.seq (.seq (.ops [⟨some 8, .move (.tmp 6), none⟩, ⟨some 9, .move (.tmp 0), none⟩, ⟨some 10, .call ⟨.builtin .len, #[.tmp 9], #[22]⟩, none⟩, ⟨some 11, .binOp .lss 2 (.tmp 8) (.tmp 10) 2, none⟩])
        (.cond (.tmp 11) .skip
         (.exit 0)))
       (.seq (.block 1 (.ops [⟨some 15, .move (.tmp 5), none⟩, ⟨some 16, .move (.tmp 0), none⟩, ⟨some 17, .move (.tmp 6), none⟩, ⟨some 18, .move (.tmp 6), none⟩, ⟨some 19, .move (.tmp 1), none⟩, ⟨some 20, .binOp .add 2 (.tmp 18) (.tmp 19) 2, none⟩, ⟨some 21, .slice 22 (.tmp 16) (some (.tmp 17)) (some (.tmp 20)) none, none⟩, ⟨some 22, .call ⟨.value (.func 181), #[.tmp 21], #[22]⟩, none⟩, ⟨some 23, .buildSlice 78 1 #[(0, .tmp 22)], none⟩, ⟨some 24, .call ⟨.builtin .append, #[.tmp 15, .tmp 23], #[78, 78]⟩, none⟩, ⟨some 5, .assign (.tmp 24), none⟩]))
        (.ops [⟨some 12, .move (.tmp 6), none⟩, ⟨some 13, .move (.tmp 1), none⟩, ⟨some 14, .binOp .add 2 (.tmp 12) (.tmp 13) 2, none⟩, ⟨some 6, .assign (.tmp 14), none⟩]))))))
   (.seq (.ops [⟨some 25, .move (.tmp 5), none⟩, ⟨some 4, .assign (.tmp 25), none⟩])
    .ret)))), [.tmp 4], 26⟩
theorem f_impl_parted : isFn Go.Proofs.Try.prog 142 = some c_impl_parted := by kernel_rfl

/- loop.example/g01262/spec.l01Own -/
def c_spec_l01Own : SFn := ⟨(.seq (.ops [⟨some 2, .assign (.const (.slice none 0 0)), none⟩])
 (.seq (.ops [⟨some 3, .buildSlice 22 0 #[], none⟩, ⟨some 4, .move (.tmp 0), none⟩, ⟨some 5, .call ⟨.builtin .append, #[.tmp 3, .tmp 4], #[22, 22]⟩, none⟩, ⟨some 2, .assign (.tmp 5), none⟩])
  .ret)), [.tmp 2], 6⟩
theorem f_spec_l01Own : isFn Go.Proofs.Try.prog 178 = some c_spec_l01Own := by kernel_rfl

/- loop.example/g01262/spec.l05Flat -/
def c_spec_l05Flat : SFn := ⟨(.seq (.ops [⟨some 1, .box 28 (.tmp 0), none⟩, ⟨some 2, .assign (.const (.slice none 0 0)), none⟩])
 (.seq (.opsD [⟨some 6, .buildSlice 78 0 #[], none⟩, ⟨some 7, .fieldAddr 28 (.tmp 1) 2, none⟩, ⟨some 8, .load 2 (.tmp 7), none⟩, ⟨some 9, .fieldAddr 28 (.tmp 1) 3, none⟩, ⟨some 10, .load 2 (.tmp 9), none⟩, ⟨some 11, .binOp .mul 2 (.tmp 8) (.tmp 10) 2, none⟩, ⟨some 3, .assign (.tmp 6), none⟩, ⟨some 4, .assign (.tmp 11), none⟩] [(0, 2), (0, 4), (2, 4)])
  (.seq (.seq (.ops [⟨some 5, .assign (.const (.int .i64 0)), none⟩])
    (.block 0 (.loop (.seq (.seq (.ops [⟨some 12, .move (.tmp 5), none⟩, ⟨some 13, .fieldAddr 28 (.tmp 1) 1, none⟩, ⟨some 14, .load 2 (.tmp 13), none⟩, ⟨some 15, .binOp .lss 2 (.tmp 12) (.tmp 14) 2, none⟩])
        (.cond (.tmp 15) .skip
         (.exit 0)))
       (.seq (.block 1 (.ops [⟨some 18, .move (.tmp 3), none⟩, ⟨some 19, .fieldAddr 28 (.tmp 1) 4, none⟩, ⟨some 20, .load 22 (.tmp 19), none⟩, ⟨some 21, .move (.tmp 5), none⟩, ⟨some 22, .move (.tmp 4), none⟩, ⟨some 23, .binOp .mul 2 (.tmp 21) (.tmp 22) 2, none⟩, ⟨some 24, .move (.tmp 5), none⟩, ⟨some 25, .move (.tmp 4), none⟩, ⟨some 26, .binOp .mul 2 (.tmp 24) (.tmp 25) 2, none⟩, ⟨some 27, .move (.tmp 4), none⟩, ⟨some 28, .binOp .add 2 (.tmp 26) (.tmp 27) 2, none⟩, ⟨some 29, .slice 22 (.tmp 20) (some (.tmp 23)) (some (.tmp 28)) none, none⟩, ⟨some 30, .call ⟨.value (.func 178), #[.tmp 29], #[22]⟩, none⟩, ⟨some 31, .buildSlice 78 1 #[(0, .tmp 30)], none⟩, ⟨some 32, .call ⟨.builtin .append, #[.tmp 18, .tmp 31], #[78, 78]⟩, none⟩, ⟨some 3, .assign (.tmp 32), none⟩]))
        (.ops [⟨some 16, .move (.tmp 5), none⟩, ⟨some 17, .binOp .add 2 (.tmp 16) (.const (.int .i64 1)) 2, none⟩, ⟨some 5, .assign (.tmp 17), none⟩]))))))
   (.seq (.ops [⟨some 33, .move (.tmp 3), none⟩, ⟨some 2, .assign (.tmp 33), none⟩])
    .ret)))), [.tmp 2], 34⟩
theorem f_spec_l05Flat : isFn Go.Proofs.Try.prog 138 = some c_spec_l05Flat := by kernel_rfl


set_option maxRecDepth 100000
set_option maxHeartbeats 16000000
set_option linter.unusedVariables false
attribute [-simp] List.getD_eq_getElem?_getD
attribute [-go_sem] confV

theorem rows_freeK {G : Heap} {N : Nat} {rs : List (Nat × AObj)} {x : Nat} {ys : List Nat} {R : List (List Int)} {cs : List Cell} (hyl : ys.length = R.length) (hw : ∀ p ∈ ((x, Slot.live ⟨cs, true⟩) :: rowsW ys R), p.1 < N ∧ ((∃ ob, (p.1, ob) ∈ rs) ∨ G p.1 = .free)) (hx : ∀ p ∈ rs, p.1 ≠ x ∧ p.1 ∉ ys) : G x = .free ∧ ∀ y ∈ ys, G y = .free := by
  refine ⟨new_free (hw _ List.mem_cons_self).2 fun p hp => (hx p hp).1, fun y hy => ?_⟩
  obtain ⟨i, hi, rfl⟩ := List.mem_iff_getElem.1 hy
  have : ∀ {ys : List Nat} {R : List (List Int)}, ys.length = R.length → ∀ i (hi : i < ys.length), ∃ s, (ys[i], s) ∈ rowsW ys R := by
    intro ys
    induction ys with
    | nil => intro R _ i hi; simp at hi
    | cons y ys ih =>
      intro R hl i hi
      cases R with
      | nil => simp at hl
      | cons r R =>
        cases i with
        | zero => exact ⟨_, by simp [rowsW]; exact .inl rfl⟩
        | succ i =>
          obtain ⟨s, hs⟩ := ih (by simpa using hl) i (by simpa using hi)
          exact ⟨s, by simp [rowsW, hs]⟩
  obtain ⟨s, hs⟩ := this hyl i hi
  exact new_free (n := ys[i]) (hw _ (List.mem_cons_of_mem _ hs)).2 fun p hp e => (hx p hp).2 (by rw [e]; exact hy)
/-- What a call that hands out rows leaves. -/
structure NewRowsK (G : Heap) (N : Nat) (L : List Slot) (w : Nat) (R : List (List Int)) (rs : List (Nat × AObj)) (ws : List (Nat × Slot)) (L' : List Slot) (J : List Nat) : Prop where
  ids : ∃ ids, (∀ z ∈ ids, nid N L.length ≤ z) ∧ ∀ i F, consF i rs ws F = (i, rs.map (·.1), ids) :: F
  puts : (⟨G, N, L⟩ : AHeap).puts ws = ⟨G, N, L'⟩
  len : L'.length = L.length + 1 + R.length
  hd : gd L' L.length = .live ⟨rowN N J w, true⟩
  rows : Abs.Rows L' J R
  lo : ∀ j ∈ J, L.length < j
  old : ∀ j, j < L.length → gd L' j = gd L j
/-- A call that hands out rows. -/
theorem call_rowsX {P : Program} {G : Heap} {N : Nat} {L : List Slot} {f : FuncId} {args : List AV} {K : Kont} {val : Nat → AV} {rs : List (Nat × AObj)} {w : Nat} {R : List (List Int)}
    (hs : ∀ x ys, (x :: ys).Nodup → ys.length = R.length → (∀ p ∈ rs, p.1 ≠ x ∧ p.1 ∉ ys) → FSpec P f args (val x) rs ((x, .live ⟨rowC ys w, true⟩) :: rowsW ys R)) (h1 : ∀ p ∈ rs, (⟨G, N, L⟩ : AHeap).get p.1 = .live p.2)
    (hK : ∀ (ws : List (Nat × Slot)) (L' : List Slot), (∃ ids, (∀ z ∈ ids, nid N L.length ≤ z) ∧ ∀ i F, consF i rs ws F = (i, rs.map (·.1), ids) :: F) → (⟨G, N, L⟩ : AHeap).puts ws = ⟨G, N, L'⟩ → L'.length = L.length + 1 + R.length → gd L' L.length = .live ⟨rowN N (nextJ L R.length) w, true⟩ → Abs.Rows L' (nextJ L R.length) R → (∀ j, j < L.length → gd L' j = gd L j) → K (val (nid N L.length)) rs ws) :
    vCall P f args ⟨G, N, L⟩ (.mk K) := by
  have hnd := nextJ_nd L R.length
  obtain ⟨L', e1, e2, e3, e4, e5, e6⟩ := puts_rowsX (G := G) (N := N) (L := L) (w := w) (nextJ_len L R.length) hnd
  have free : ∀ j, L.length ≤ j → (⟨G, N, L⟩ : AHeap).get (nid N j) = .free := fun j hj => by rw [get_new, gd_len hj]
  have ndN : (nid N L.length :: (nextJ L R.length).map (nid N)).Nodup := by
    rw [← List.map_cons, List.nodup_iff_pairwise_ne, List.pairwise_map]
    exact (List.nodup_iff_pairwise_ne.1 hnd).imp fun h e => h (by unfold nid at e; omega)
  have out : ∀ p ∈ rs, p.1 ≠ nid N L.length ∧ p.1 ∉ (nextJ L R.length).map (nid N) := fun p hp => by
    have h2 := h1 p hp
    refine ⟨fun e => (by rw [e, free _ (Nat.le_refl _)] at h2; cases h2), fun e => ?_⟩
    obtain ⟨j, hj, e⟩ := List.mem_map.1 e
    rw [← e, free j (by have := nextJ_mem hj; omega)] at h2
    cases h2
  have idb : ∀ z ∈ nid N L.length :: (rowsW ((nextJ L R.length).map (nid N)) R).map (·.1), nid N L.length ≤ z := by
    intro z hz
    rcases List.mem_cons.1 hz with rfl | hz
    · exact Nat.le_refl _
    · obtain ⟨q, hq, rfl⟩ := List.mem_map.1 hz
      obtain ⟨i, h2, rfl⟩ := rowsW_mem (by rw [List.length_map, nextJ_len]) q hq
      have : ((nextJ L R.length).map (nid N)).getD i 0 ∈ (nextJ L R.length).map (nid N) := getD_mem (by rw [List.length_map, nextJ_len]; exact h2)
      obtain ⟨j, hj, e⟩ := List.mem_map.1 this
      dsimp only
      rw [← e]
      have := nextJ_mem hj
      unfold nid; omega
  refine call_intro (hs _ _ ndN (by rw [List.length_map, nextJ_len]) out) h1 (fun p hp => ?_) ?_
  · right
    rcases List.mem_cons.1 hp with rfl | hp
    · exact free _ (Nat.le_refl _)
    · obtain ⟨i, h2, rfl⟩ := rowsW_mem (by rw [List.length_map, nextJ_len]) p hp
      have : ((nextJ L R.length).map (nid N)).getD i 0 ∈ (nextJ L R.length).map (nid N) := getD_mem (by rw [List.length_map, nextJ_len]; exact h2)
      obtain ⟨j, hj, e⟩ := List.mem_map.1 this
      dsimp only
      rw [← e]
      exact free j (by have := nextJ_mem hj; omega)
  · refine hK _ L' ⟨_, idb, fun i F => consF_rw⟩ e1 (Nat.le_antisymm (e3 _ (by omega) fun j hj => ?_) ?_) e4 e5 fun j hj => e6 j fun hm => ?_
    · rcases List.mem_cons.1 hj with rfl | hj
      · omega
      · have := nextJ_mem hj; omega
    · by_cases h0 : R.length = 0
      · have h3 : L.length < L'.length := by
          apply Classical.byContradiction
          intro hh
          rw [gd_len (by omega)] at e4
          cases e4
        omega
      · have := e5.lt ((nextJ L R.length).getD (R.length - 1) 0) (getD_mem (by rw [nextJ_len]; omega))
        rw [nextJ_get (by omega)] at this
        omega
    · rcases List.mem_cons.1 hm with rfl | hm
      · omega
      · have := nextJ_mem hm; omega
theorem call_rowsK {P : Program} {G : Heap} {N : Nat} {L : List Slot} {f : FuncId} {args : List AV} {K : Kont} {val : Nat → AV} {rs : List (Nat × AObj)} {w : Nat} {R : List (List Int)}
    (hs : ∀ x ys, (x :: ys).Nodup → ys.length = R.length → (∀ p ∈ rs, p.1 ≠ x ∧ p.1 ∉ ys) → FSpec P f args (val x) rs ((x, .live ⟨rowC ys w, true⟩) :: rowsW ys R)) (h1 : ∀ p ∈ rs, (⟨G, N, L⟩ : AHeap).get p.1 = .live p.2)
    (hK : ∀ ws L' J, NewRowsK G N L w R rs ws L' J → K (val (nid N L.length)) rs ws) : vCall P f args ⟨G, N, L⟩ (.mk K) :=
  call_rowsX hs h1 fun ws L' a1 a2 a3 a4 a5 a6 => hK ws L' _ ⟨a1, a2, a3, a4, a5, fun j hj => (nextJ_mem hj).1, a6⟩

def partsL (l : List Int) (w m : Nat) : List (List Int) := (List.range m).map fun t => sub l (t * w) w
theorem partsL_succ (l : List Int) (w m : Nat) : partsL l w (m + 1) = partsL l w m ++ [sub l (m * w) w] := by simp [partsL, List.range_succ]
theorem partsL_length (l : List Int) (w m : Nat) : (partsL l w m).length = m := by simp [partsL]
theorem partsL_get {l : List Int} {w m i : Nat} (h : i < m) : (partsL l w m).getD i [] = sub l (i * w) w := by
  simp [partsL, List.getD_eq_getElem?_getD, h]
theorem partsL_ok {p : Int} {l : List Int} {w m : Nat} (hl : l.length = m * w) (hn : ∀ j, 0 ≤ l.getD j 0 ∧ l.getD j 0 < p) : RkOk p w (partsL l w m) := by
  have key : ∀ i, i < m → i * w + w ≤ l.length := by
    intro i hi
    have : (i + 1) * w ≤ m * w := Nat.mul_le_mul_right _ hi
    rw [Nat.add_mul, Nat.one_mul] at this
    omega
  constructor
  · intro i hi
    rw [partsL_length] at hi
    rw [partsL_get hi]
    exact sub_length (key i hi)
  · intro i j hi
    rw [partsL_length] at hi
    rw [partsL_get hi]
    by_cases hj : j < w
    · rw [sub_getD (by omega)]; exact hn _
    · have hsl : (sub l (i * w) w).length = w := sub_length (key i hi)
      rw [List.getD_eq_getElem?_getD, List.getElem?_eq_none (by omega)]
      have := hn 0
      simp only [Option.getD_none]
      omega

theorem parted_spec {k m w : Nat} {l : List Int} {own : Bool} (hl : l.length = m * w) (hw0 : 0 < w) (hm0 : 0 < m) (hm : l.length ≤ 100000) (x : Nat) (ys : List Nat) (hnd : (x :: ys).Nodup) (hyl : ys.length = (partsL l w m).length) (hx : ∀ p ∈ ([(k, ⟨i64s l, own⟩)] : List (Nat × AObj)), p.1 ≠ x ∧ p.1 ∉ ys) :
    FSpec Try.prog 142 [.c (.slice k 0 (m * w) 1), .c (.int .i64 ((w : Nat) : Int))] (.c (.slice x 0 m 1)) [(k, ⟨i64s l, own⟩)] ((x, .live ⟨rowC ys w, true⟩) :: rowsW ys (partsL l w m)) := by
  refine FSpec.of f_impl_parted (Nat.le_of_ble_eq_true rfl) fun G N hN hr hw => ?_
  simp only [c_impl_parted, List.length_cons, List.length_nil, List.replicate, List.cons_append, List.nil_append]
  obtain ⟨fx, fy⟩ := rows_freeK hyl hw hx
  have ⟨g2, g3⟩ := hr _ (List.mem_singleton.2 rfl)
  dsimp only at g2 g3
  repeat' (first | (with_reducible first | refine W1 ?_ | refine W2 ?_ | refine W3 ?_ | refine W4 mixed ?_ | refine W5 ?_ | refine W6 ?_ | refine W7 ?_ | refine W8 ?_ | refine W9 ?_ | refine V1 ?_ | refine V2 ?_ | refine V3 ?_ | refine V4 (by decide) ?_ | refine V5 ?_ | refine V6 ?_ | refine V7 ?_ | refine V8 ?_ | refine V9 ?_ | refine U1 ?_ | refine U2 ?_ | refine U3 ?_) | (with_reducible refine U4 ?_ ?_; next => first | omega | exact ⟨trivial, by omega⟩) | simp (maxSteps := 2000000) (discharger := first | omega | (simp (discharger := omega) only [Z1, Z2, Z3, Z4, Z5, Z6, Z7] <;> fail) | (simp (discharger := omega) only [Z3, Z8, Z2, Z4, Z1, Z7, Z5, Z6, Z9, Y1, Y2]; omega)) only [go_sem])
  refine swp_for (fun (z : Nat × List Slot × Nat × List Nat) => ([.c (.slice k 0 (m * w) 1), .c (.int .i64 ((w : Nat) : Int)), .any, .any, .any, .c (.slice (nid N z.2.2.1) 0 z.1 1), .c (.int .i64 ((z.1 * w : Nat) : Int))] ++ List.replicate 19 .any)) (fun z => ⟨G, N, z.2.1⟩) (fun z => m - z.1) (fun z => z.1 ≤ m ∧ z.2.2.1 < z.2.1.length ∧ z.2.2.1 ∉ z.2.2.2 ∧ gd z.2.1 z.2.2.1 = .live ⟨rowN N z.2.2.2 w, true⟩ ∧ Abs.Rows z.2.1 z.2.2.2 (partsL l w z.1)) (0, _, 0, []) ⟨Nat.zero_le _, by simp, by simp, rfl, Abs.Rows.nil⟩ rfl (by rw [Nat.zero_mul]; repeat' (first | exact trivial | exact .inl rfl | exact .inr rfl | refine ⟨?_, ?_⟩)) ?_
  rintro ⟨t, L, mm, js⟩ ⟨ht, h1, h2, h3, h4⟩
  dsimp only at ht h1 h2 h3 h4
  have hjl := h4.len
  rw [partsL_length] at hjl
  simp only [List.replicate, List.cons_append, List.nil_append]
  have htw : t < m → t * w + w ≤ m * w := by
    intro hi
    have : (t + 1) * w ≤ m * w := Nat.mul_le_mul_right _ hi
    rw [Nat.add_mul, Nat.one_mul] at this
    omega
  have hsu : (t + 1) * w = t * w + w := by rw [Nat.add_mul, Nat.one_mul]
  have hst := partsL_succ l w t
  by_cases hlt : t < m
  · have htw' := htw hlt
    have y1 : decide (((t * w : Nat) : Int) < ((m * w : Nat) : Int)) = true := decide_eq_true (by omega)
    have hwl : w ≤ 100000 := by omega
    have hmw : m * w ≤ 100000 := by omega
    have hmB : m ≤ m * w := Nat.le_mul_of_pos_right m hw0
    have hmC : m ≤ 100000 := by omega
    clear hmB
    generalize hT : t * w = tw at htw' y1 hst hsu
    generalize m * w = mw at htw' y1 hl hmw
    have e1 : ((tw : Nat) : Int) + ((w : Nat) : Int) - ((tw : Nat) : Int) = ((w : Nat) : Int) := by omega
    repeat' (first | (with_reducible first | refine W1 ?_ | refine W2 ?_ | refine W3 ?_ | refine W4 mixed ?_ | refine W5 ?_ | refine W6 ?_ | refine W7 ?_ | refine W8 ?_ | refine W9 ?_ | refine V1 ?_ | refine V2 ?_ | refine V3 ?_ | refine V4 (by decide) ?_ | refine V5 ?_ | refine V6 ?_ | refine V7 ?_ | refine V8 ?_ | refine V9 ?_ | refine U1 ?_ | refine U2 ?_ | refine U3 ?_) | (with_reducible refine U4 ?_ ?_; next => first | omega | exact ⟨trivial, by omega⟩) | ((with_reducible refine U5 _ rfl (fun hq => ?_) (fun hq => ?_)) <;> try (first | (cases hq; done) | exact absurd hq (by decide))) | ((with_reducible refine U6 (fun hq => ?_) (fun hq => ?_)) <;> try (first | (cases hq; done) | exact absurd hq (by decide))) | simp (maxSteps := 2000000) (discharger := first | omega | (simp (discharger := omega) only [Z1, Z2, Z3, Z4, Z5, Z6, Z7] <;> fail) | (simp (discharger := omega) only [Z3, Z8, Z2, Z4, Z1, Z7, Z5, Z6, Z9, Y1, Y2]; omega)) only [go_sem, y1, e1])
    refine call_new1 (fun y hy => cloneI_spec (own := own) (off := tw) hw0 (by omega) (by omega) y (fun e => hy _ (List.mem_cons_self ..) e.symm)) (get_rd hr) nxt_free ?_
    repeat' (first | (with_reducible first | refine W1 ?_ | refine W2 ?_ | refine W3 ?_ | refine W4 mixed ?_ | refine W5 ?_ | refine W6 ?_ | refine W7 ?_ | refine W8 ?_ | refine W9 ?_ | refine V1 ?_ | refine V2 ?_ | refine V3 ?_ | refine V4 (by decide) ?_ | refine V5 ?_ | refine V6 ?_ | refine V7 ?_ | refine V8 ?_ | refine V9 ?_ | refine U1 ?_ | refine U2 ?_ | refine U3 ?_) | (with_reducible refine U4 ?_ ?_; next => first | omega | exact ⟨trivial, by omega⟩) | simp (maxSteps := 2000000) (discharger := first | omega | (simp (discharger := omega) only [Z1, Z2, Z3, Z4, Z5, Z6, Z7] <;> fail) | (simp (discharger := omega) only [Z3, Z8, Z2, Z4, Z1, Z7, Z5, Z6, Z9, Y1, Y2]; omega)) only [go_sem, h3])
    refine forK_same (t + 1, _, L.length + 2, js ++ [L.length]) (by dsimp only; omega) ⟨by dsimp only; omega, ?_, ?_, ?_, ?_⟩ rfl (by rw [hsu]; repeat' (first | exact trivial | exact .inl rfl | exact .inr rfl | refine ⟨?_, ?_⟩))
    · dsimp only
      try simp (maxSteps := 2000000) (discharger := first | omega | (simp (discharger := omega) only [Z1, Z2, Z3, Z4, Z5, Z6, Z7] <;> fail) | (simp (discharger := omega) only [Z3, Z8, Z2, Z4, Z1, Z7, Z5, Z6, Z9, Y1, Y2]; omega)) only [go_sem]
      try omega
    · dsimp only
      intro hm
      rcases List.mem_append.1 hm with hm | hm
      · have := h4.lt _ hm; omega
      · simp at hm
    · dsimp only
      simp (maxSteps := 2000000) (discharger := first | omega | (simp (discharger := omega) only [Z1, Z2, Z3, Z4, Z5, Z6, Z7] <;> fail) | (simp (discharger := omega) only [Z3, Z8, Z2, Z4, Z1, Z7, Z5, Z6, Z9, Y1, Y2]; omega)) only [go_sem, h3]
    · dsimp only
      rw [hst]
      refine (h4.ext ?_ fun j hj => ?_).push (fun hm => by have := h4.lt _ hm; omega) ?_ ?_
      · try simp (maxSteps := 2000000) (discharger := first | omega | (simp (discharger := omega) only [Z1, Z2, Z3, Z4, Z5, Z6, Z7] <;> fail) | (simp (discharger := omega) only [Z3, Z8, Z2, Z4, Z1, Z7, Z5, Z6, Z9, Y1, Y2]; omega)) only [go_sem]
        try omega
      · have hjlt := h4.lt j hj
        have hjne : j ≠ mm := fun e => h2 (e ▸ hj)
        repeat rw [gd_setAt_ne' (by omega)]
      · try simp (maxSteps := 2000000) (discharger := first | omega | (simp (discharger := omega) only [Z1, Z2, Z3, Z4, Z5, Z6, Z7] <;> fail) | (simp (discharger := omega) only [Z3, Z8, Z2, Z4, Z1, Z7, Z5, Z6, Z9, Y1, Y2]; omega)) only [go_sem]
        try omega
      · simp (maxSteps := 2000000) (discharger := first | omega | (simp (discharger := omega) only [Z1, Z2, Z3, Z4, Z5, Z6, Z7] <;> fail) | (simp (discharger := omega) only [Z3, Z8, Z2, Z4, Z1, Z7, Z5, Z6, Z9, Y1, Y2]; omega)) only [go_sem]
  · have hlt : t = m := by omega
    subst hlt
    have y1 : decide (((t * w : Nat) : Int) < ((t * w : Nat) : Int)) = false := decide_eq_false (by omega)
    repeat' (first | (with_reducible first | refine W1 ?_ | refine W2 ?_ | refine W3 ?_ | refine W4 mixed ?_ | refine W5 ?_ | refine W6 ?_ | refine W7 ?_ | refine W8 ?_ | refine W9 ?_ | refine V1 ?_ | refine V2 ?_ | refine V3 ?_ | refine V4 (by decide) ?_ | refine V5 ?_ | refine V6 ?_ | refine V7 ?_ | refine V8 ?_ | refine V9 ?_ | refine U1 ?_ | refine U2 ?_ | refine U3 ?_) | (with_reducible refine U4 ?_ ?_; next => first | omega | exact ⟨trivial, by omega⟩) | ((with_reducible refine U5 _ rfl (fun hq => ?_) (fun hq => ?_)) <;> try (first | (cases hq; done) | exact absurd hq (by decide))) | ((with_reducible refine U6 (fun hq => ?_) (fun hq => ?_)) <;> try (first | (cases hq; done) | exact absurd hq (by decide))) | simp (maxSteps := 2000000) (discharger := first | omega | (simp (discharger := omega) only [Z1, Z2, Z3, Z4, Z5, Z6, Z7] <;> fail) | (simp (discharger := omega) only [Z3, Z8, Z2, Z4, Z1, Z7, Z5, Z6, Z9, Y1, Y2]; omega)) only [go_sem, y1])
    refine ret_rows hN x mm ys js w (partsL l w t) hnd fx fy hyl h3 h4 h2 [.c (.slice (nid N mm) 0 t 1)] ⟨rfl, trivial⟩ rfl ?_ ?_
    · simp [AV.idsT, AV.ids1, Cell.ids]
    · simp [resOf, renT, ren1, Cell.mapIds]
theorem ownI_spec {l : List Int} {k off m : Nat} {own : Bool} (h : off + m ≤ l.length) (hm : m ≤ 1048576) (x : Nat) (hx : x ≠ k) : FSpec Try.prog 178 [.c (.slice k off m 1)] (.c (.slice x 0 m 1)) [(k, ⟨i64s l, own⟩)] [(x, .live ⟨i64s (sub l off m), true⟩)] := by
  refine FSpec.of f_spec_l01Own (Nat.le_of_ble_eq_true rfl) fun G N hN hr hw => ?_
  simp only [c_spec_l01Own, List.length_cons, List.length_nil, List.replicate, List.cons_append, List.nil_append]
  have hfree := new_free (hw _ (List.mem_singleton.2 rfl)).2 (by simp [Ne.symm hx])
  have ⟨g2, g3⟩ := hr _ (List.mem_singleton.2 rfl)
  dsimp only at g2 g3
  repeat' (first | (with_reducible first | refine W1 ?_ | refine W2 ?_ | refine W3 ?_ | refine W4 mixed ?_ | refine W5 ?_ | refine W6 ?_ | refine W7 ?_ | refine W8 ?_ | refine W9 ?_ | refine V1 ?_ | refine V2 ?_ | refine V3 ?_ | refine V4 (by decide) ?_ | refine V5 ?_ | refine V6 ?_ | refine V7 ?_ | refine V8 ?_ | refine V9 ?_ | refine U1 ?_ | refine U2 ?_ | refine U3 ?_) | (with_reducible refine U4 ?_ ?_; next => first | omega | exact ⟨trivial, by omega⟩) | ((with_reducible refine U5 _ rfl (fun hq => ?_) (fun hq => ?_)) <;> try (first | (cases hq; done) | exact absurd hq (by decide))) | ((with_reducible refine U6 (fun hq => ?_) (fun hq => ?_)) <;> try (first | (cases hq; done) | exact absurd hq (by decide))) | simp (maxSteps := 2000000) (discharger := first | omega | (simp (discharger := omega) only [Z1, Z2, Z3, Z4, Z5, Z6, Z7] <;> fail) | (simp (discharger := omega) only [Z3, Z8, Z2, Z4, Z1, Z7, Z5, Z6, Z9, Y1, Y2]; omega)) only [go_sem, g2])
  exact ret_slice hN x 1 (i64s (sub l off m)) rfl hfree (by simp [gd, ldn, sub, i64s]) (flat_i64s _)
theorem l05Flat_spec {p : Int} {I J K : Nat} {c : Cell} {rs : List (Nat × AObj)} {l : List Int} (hI : 1 ≤ I ∧ I ≤ 9) (hJ : 1 ≤ J ∧ J ≤ 9) (hK : 1 ≤ K ∧ K ≤ 9) (hc : Sl 1 (i64s l) l.length c rs) (hl : l.length = I * (J * K)) (x : Nat) (ys : List Nat) (hnd : (x :: ys).Nodup) (hyl : ys.length = (partsL l (J * K) I).length) (hx : ∀ p ∈ rs, p.1 ≠ x ∧ p.1 ∉ ys) :
    FSpec Try.prog 138 [.agg (tenC p I J K c)] (.c (.slice x 0 I 1)) rs ((x, .live ⟨rowC ys (J * K), true⟩) :: rowsW ys (partsL l (J * K) I)) := by
  have hjk : J * K ≤ 9 * 9 := Nat.mul_le_mul hJ.2 hK.2
  have hjk0 : 1 * 1 ≤ J * K := Nat.mul_le_mul hJ.1 hK.1
  have hij : I * (J * K) ≤ 9 * 81 := Nat.mul_le_mul hI.2 hjk
  have hij0 : 1 * 1 ≤ I * (J * K) := Nat.mul_le_mul hI.1 hjk0
  obtain ⟨w, hW⟩ : ∃ w, J * K = w := ⟨_, rfl⟩
  have hWI : (J : Int) * (K : Int) = ((w : Nat) : Int) := by rw [← hW]; rfl
  rw [hW] at hl hyl hjk hjk0 hij hij0 ⊢
  refine FSpec.of f_spec_l05Flat (Nat.le_of_ble_eq_true rfl) fun G N hN hr hw => ?_
  simp only [c_spec_l05Flat, List.length_cons, List.length_nil, List.replicate, List.cons_append, List.nil_append]
  obtain ⟨fx, fy⟩ := rows_freeK hyl hw hx
  repeat' (first | (with_reducible first | refine W1 ?_ | refine W2 ?_ | refine W3 ?_ | refine W4 mixed ?_ | refine W5 ?_ | refine W6 ?_ | refine W7 ?_ | refine W8 ?_ | refine W9 ?_ | refine V1 ?_ | refine V2 ?_ | refine V3 ?_ | refine V4 (by decide) ?_ | refine V5 ?_ | refine V6 ?_ | refine V7 ?_ | refine V8 ?_ | refine V9 ?_ | refine U1 ?_ | refine U2 ?_ | refine U3 ?_) | (with_reducible refine U4 ?_ ?_; next => first | omega | exact ⟨trivial, by omega⟩) | simp (maxSteps := 2000000) (discharger := first | omega | (simp (discharger := omega) only [Z1, Z2, Z3, Z4, Z5, Z6, Z7] <;> fail) | (simp (discharger := omega) only [Z3, Z8, Z2, Z4, Z1, Z7, Z5, Z6, Z9, Y1, Y2]; omega)) only [go_sem])
  refine must_confF [(0, 2), (0, 4)] rfl (by simp [confV, apart, notIn, lk, nid] <;> omega) ?_
  have hwb : w ≤ 100 := by omega
  repeat' (first | (with_reducible first | refine W1 ?_ | refine W2 ?_ | refine W3 ?_ | refine W4 mixed ?_ | refine W5 ?_ | refine W6 ?_ | refine W7 ?_ | refine W8 ?_ | refine W9 ?_ | refine V1 ?_ | refine V2 ?_ | refine V3 ?_ | refine V4 (by decide) ?_ | refine V5 ?_ | refine V6 ?_ | refine V7 ?_ | refine V8 ?_ | refine V9 ?_ | refine U1 ?_ | refine U2 ?_ | refine U3 ?_) | (with_reducible refine U4 ?_ ?_; next => first | omega | exact ⟨trivial, by omega⟩) | simp (maxSteps := 2000000) (discharger := first | omega | (simp (discharger := omega) only [Z1, Z2, Z3, Z4, Z5, Z6, Z7] <;> fail) | (simp (discharger := omega) only [Z3, Z8, Z2, Z4, Z1, Z7, Z5, Z6, Z9, Y1, Y2]; omega)) only [go_sem])
  refine swp_for (fun (z : Nat × List Slot × Nat × List Nat) => ([.any, .c (.ptr (nid N 0) 0), .any, .c (.slice (nid N z.2.2.1) 0 z.1 1), .c (.int .i64 ((w : Nat) : Int)), .c (.int .i64 ((z.1 : Nat) : Int))] ++ List.replicate 28 .any)) (fun z => ⟨G, N, z.2.1⟩) (fun z => I - z.1) (fun z => z.1 ≤ I ∧ gd z.2.1 0 = .live ⟨tenC p I J K c, true⟩ ∧ z.2.2.1 < z.2.1.length ∧ z.2.2.1 ∉ z.2.2.2 ∧ gd z.2.1 z.2.2.1 = .live ⟨rowN N z.2.2.2 w, true⟩ ∧ Abs.Rows z.2.1 z.2.2.2 (partsL l w z.1) ∧ 0 < z.2.2.1) (0, _, 1, []) ⟨Nat.zero_le _, rfl, by simp, by simp, rfl, Abs.Rows.nil, by simp⟩ rfl (by rw [hWI]; repeat' (first | exact trivial | exact .inl rfl | exact .inr rfl | refine ⟨?_, ?_⟩)) ?_
  rintro ⟨t, L, mm, js⟩ ⟨ht, h0, h1, h2, h3, h4, h5⟩
  dsimp only at ht h0 h1 h2 h3 h4 h5
  simp only [tenC] at h0
  have hjl := h4.len
  rw [partsL_length] at hjl
  simp only [List.replicate, List.cons_append, List.nil_append]
  have hst := partsL_succ l w t
  repeat' (first | (with_reducible first | refine W1 ?_ | refine W2 ?_ | refine W3 ?_ | refine W4 mixed ?_ | refine W5 ?_ | refine W6 ?_ | refine W7 ?_ | refine W8 ?_ | refine W9 ?_ | refine V1 ?_ | refine V2 ?_ | refine V3 ?_ | refine V4 (by decide) ?_ | refine V5 ?_ | refine V6 ?_ | refine V7 ?_ | refine V8 ?_ | refine V9 ?_ | refine U1 ?_ | refine U2 ?_ | refine U3 ?_) | (with_reducible refine U4 ?_ ?_; next => first | omega | exact ⟨trivial, by omega⟩) | simp (maxSteps := 2000000) (discharger := first | omega | (simp (discharger := omega) only [Z1, Z2, Z3, Z4, Z5, Z6, Z7] <;> fail) | (simp (discharger := omega) only [Z3, Z8, Z2, Z4, Z1, Z7, Z5, Z6, Z9, Y1, Y2]; omega)) only [go_sem, h0])
  refine swp_cond _ rfl (fun h => ?_) (fun h => ?_)
  · have hlt : t < I := by simpa using h
    have htw : t * w + w ≤ I * w := by
      have : (t + 1) * w ≤ I * w := Nat.mul_le_mul_right _ hlt
      rw [Nat.add_mul, Nat.one_mul] at this
      omega
    obtain ⟨k0, own, rfl, rfl, _⟩ := hc.some (i := 0) (by omega)
    have ⟨g2, g3⟩ := hr _ (List.mem_singleton.2 rfl)
    dsimp only at g2 g3
    have e0 : ((t : Nat) : Int) * ((w : Nat) : Int) = ((t * w : Nat) : Int) := rfl
    generalize hT : t * w = tw at htw e0 hst
    generalize I * w = mw at htw hl hij hij0
    have e1 : ((tw : Nat) : Int) + ((w : Nat) : Int) - ((tw : Nat) : Int) = ((w : Nat) : Int) := by omega
    repeat' (first | (with_reducible first | refine W1 ?_ | refine W2 ?_ | refine W3 ?_ | refine W4 mixed ?_ | refine W5 ?_ | refine W6 ?_ | refine W7 ?_ | refine W8 ?_ | refine W9 ?_ | refine V1 ?_ | refine V2 ?_ | refine V3 ?_ | refine V4 (by decide) ?_ | refine V5 ?_ | refine V6 ?_ | refine V7 ?_ | refine V8 ?_ | refine V9 ?_ | refine U1 ?_ | refine U2 ?_ | refine U3 ?_) | (with_reducible refine U4 ?_ ?_; next => first | omega | exact ⟨trivial, by omega⟩) | ((with_reducible refine U5 _ rfl (fun hq => ?_) (fun hq => ?_)) <;> try (first | (cases hq; done) | exact absurd hq (by decide))) | ((with_reducible refine U6 (fun hq => ?_) (fun hq => ?_)) <;> try (first | (cases hq; done) | exact absurd hq (by decide))) | simp (maxSteps := 2000000) (discharger := first | omega | (simp (discharger := omega) only [Z1, Z2, Z3, Z4, Z5, Z6, Z7] <;> fail) | (simp (discharger := omega) only [Z3, Z8, Z2, Z4, Z1, Z7, Z5, Z6, Z9, Y1, Y2]; omega)) only [go_sem, h0, e0, e1])
    refine call_new1 (rs := [(k0, ⟨i64s l, own⟩)]) (fun y hy => ownI_spec (own := own) (off := tw) (by omega) (by omega) y (fun e => hy _ (List.mem_cons_self ..) e.symm)) (get_rd hr) nxt_free ?_
    repeat' (first | (with_reducible first | refine W1 ?_ | refine W2 ?_ | refine W3 ?_ | refine W4 mixed ?_ | refine W5 ?_ | refine W6 ?_ | refine W7 ?_ | refine W8 ?_ | refine W9 ?_ | refine V1 ?_ | refine V2 ?_ | refine V3 ?_ | refine V4 (by decide) ?_ | refine V5 ?_ | refine V6 ?_ | refine V7 ?_ | refine V8 ?_ | refine V9 ?_ | refine U1 ?_ | refine U2 ?_ | refine U3 ?_) | (with_reducible refine U4 ?_ ?_; next => first | omega | exact ⟨trivial, by omega⟩) | simp (maxSteps := 2000000) (discharger := first | omega | (simp (discharger := omega) only [Z1, Z2, Z3, Z4, Z5, Z6, Z7] <;> fail) | (simp (discharger := omega) only [Z3, Z8, Z2, Z4, Z1, Z7, Z5, Z6, Z9, Y1, Y2]; omega)) only [go_sem, h3])
    refine forK_same (t + 1, _, L.length + 2, js ++ [L.length]) (by dsimp only; omega) ⟨by dsimp only; omega, ?_, ?_, ?_, ?_, ?_, ?_⟩ rfl (by repeat' (first | exact trivial | exact .inl rfl | exact .inr rfl | refine ⟨?_, ?_⟩))
    · dsimp only
      simp (maxSteps := 2000000) (discharger := first | omega | (simp (discharger := omega) only [Z1, Z2, Z3, Z4, Z5, Z6, Z7] <;> fail) | (simp (discharger := omega) only [Z3, Z8, Z2, Z4, Z1, Z7, Z5, Z6, Z9, Y1, Y2]; omega)) only [go_sem, h0, tenC]
    · dsimp only
      try simp (maxSteps := 2000000) (discharger := first | omega | (simp (discharger := omega) only [Z1, Z2, Z3, Z4, Z5, Z6, Z7] <;> fail) | (simp (discharger := omega) only [Z3, Z8, Z2, Z4, Z1, Z7, Z5, Z6, Z9, Y1, Y2]; omega)) only [go_sem]
      try omega
    · dsimp only
      intro hm
      rcases List.mem_append.1 hm with hm | hm
      · have := h4.lt _ hm; omega
      · simp at hm
    · dsimp only
      simp (maxSteps := 2000000) (discharger := first | omega | (simp (discharger := omega) only [Z1, Z2, Z3, Z4, Z5, Z6, Z7] <;> fail) | (simp (discharger := omega) only [Z3, Z8, Z2, Z4, Z1, Z7, Z5, Z6, Z9, Y1, Y2]; omega)) only [go_sem, h3]
    · dsimp only
      rw [hst]
      refine (h4.ext ?_ fun j hj => ?_).push (fun hm => by have := h4.lt _ hm; omega) ?_ ?_
      · try simp (maxSteps := 2000000) (discharger := first | omega | (simp (discharger := omega) only [Z1, Z2, Z3, Z4, Z5, Z6, Z7] <;> fail) | (simp (discharger := omega) only [Z3, Z8, Z2, Z4, Z1, Z7, Z5, Z6, Z9, Y1, Y2]; omega)) only [go_sem]
        try omega
      · have hjlt := h4.lt j hj
        have hjne : j ≠ mm := fun e => h2 (e ▸ hj)
        repeat rw [gd_setAt_ne' (by omega)]
      · try simp (maxSteps := 2000000) (discharger := first | omega | (simp (discharger := omega) only [Z1, Z2, Z3, Z4, Z5, Z6, Z7] <;> fail) | (simp (discharger := omega) only [Z3, Z8, Z2, Z4, Z1, Z7, Z5, Z6, Z9, Y1, Y2]; omega)) only [go_sem]
        try omega
      · simp (maxSteps := 2000000) (discharger := first | omega | (simp (discharger := omega) only [Z1, Z2, Z3, Z4, Z5, Z6, Z7] <;> fail) | (simp (discharger := omega) only [Z3, Z8, Z2, Z4, Z1, Z7, Z5, Z6, Z9, Y1, Y2]; omega)) only [go_sem]
    · dsimp only; omega
  · have hlt : t = I := by have : ¬ t < I := by simpa using h
                           omega
    subst hlt
    repeat' (first | (with_reducible first | refine W1 ?_ | refine W2 ?_ | refine W3 ?_ | refine W4 mixed ?_ | refine W5 ?_ | refine W6 ?_ | refine W7 ?_ | refine W8 ?_ | refine W9 ?_ | refine V1 ?_ | refine V2 ?_ | refine V3 ?_ | refine V4 (by decide) ?_ | refine V5 ?_ | refine V6 ?_ | refine V7 ?_ | refine V8 ?_ | refine V9 ?_ | refine U1 ?_ | refine U2 ?_ | refine U3 ?_) | (with_reducible refine U4 ?_ ?_; next => first | omega | exact ⟨trivial, by omega⟩) | ((with_reducible refine U5 _ rfl (fun hq => ?_) (fun hq => ?_)) <;> try (first | (cases hq; done) | exact absurd hq (by decide))) | ((with_reducible refine U6 (fun hq => ?_) (fun hq => ?_)) <;> try (first | (cases hq; done) | exact absurd hq (by decide))) | simp (maxSteps := 2000000) (discharger := first | omega | (simp (discharger := omega) only [Z1, Z2, Z3, Z4, Z5, Z6, Z7] <;> fail) | (simp (discharger := omega) only [Z3, Z8, Z2, Z4, Z1, Z7, Z5, Z6, Z9, Y1, Y2]; omega)) only [go_sem])
    refine ret_rows hN x mm ys js w (partsL l w t) hnd fx fy hyl h3 h4 h2 [.c (.slice (nid N mm) 0 t 1)] ⟨rfl, trivial⟩ rfl ?_ ?_
    · simp [AV.idsT, AV.ids1, Cell.ids]
    · simp [resOf, renT, ren1, Cell.mapIds]
end Go.Proofs.Ytcmmbnhdfkcpdaa
