/- RankOfPairs, ours. -/
import Derived.Test.YtcmmbnhdfkcpdaaY3
import Derived.Test.YtcmmbnhdfkcpdaaY4
namespace Go.Proofs.Ytcmmbnhdfkcpdaa
open Go Go.Abs
set_option maxRecDepth 100000
/- loop.example/g01262/impl.RankOfPairs -/
def c_impl_RankOfPairs : SFn := ⟨(.seq (.ops [⟨some 10, .assign (.const (.int .i64 0)), none⟩, ⟨some 11, .assign (.const (.int .i64 0)), none⟩])
 (.seq (.seq (.ops [⟨some 16, .move (.tmp 0), none⟩, ⟨some 17, .move (.tmp 1), none⟩, ⟨some 18, .move (.tmp 2), none⟩, ⟨some 19, .move (.tmp 3), none⟩, ⟨some 20, .move (.tmp 4), none⟩, ⟨some 21, .call ⟨.value (.func 78), #[.tmp 16, .tmp 17, .tmp 18, .tmp 19, .tmp 20], #[2, 2, 2, 2, 35]⟩, none⟩, ⟨some 12, .assign (.tmp 21), none⟩])
   (.seq (.ops [⟨some 22, .move (.tmp 12), none⟩, ⟨some 23, .binOp .neq 2 (.tmp 22) (.const (.int .i64 0)) 2, none⟩])
    (.cond (.tmp 23) (.seq (.ops [⟨some 24, .move (.tmp 12), none⟩, ⟨some 10, .assign (.const (.int .i64 0)), none⟩, ⟨some 11, .assign (.tmp 24), none⟩])
      .ret)
     .skip)))
  (.seq (.ops [⟨some 13, .assign (.const (.int .i64 0)), none⟩])
   (.seq (.seq (.ops [⟨some 25, .move (.tmp 0), none⟩, ⟨some 26, .move (.tmp 0), none⟩, ⟨some 27, .move (.tmp 1), none⟩, ⟨some 28, .move (.tmp 2), none⟩, ⟨some 29, .move (.tmp 3), none⟩, ⟨some 30, .build 41 #[(0, .tmp 26), (1, .tmp 27), (2, .tmp 28), (3, .tmp 29)], none⟩, ⟨some 31, .move (.tmp 4), none⟩, ⟨some 32, .call ⟨.value (.func 80), #[.tmp 30, .tmp 31], #[41, 35]⟩, none⟩, ⟨some 33, .move (.tmp 4), none⟩, ⟨some 34, .call ⟨.builtin .len, #[.tmp 33], #[35]⟩, none⟩, ⟨some 35, .call ⟨.value (.func 79), #[.tmp 25, .tmp 32, .tmp 34], #[2, 78, 3]⟩, none⟩, ⟨some 36, .call ⟨.builtin .len, #[.tmp 35], #[102]⟩, none⟩, ⟨some 37, .move (.const (.int .i64 0)), none⟩])
     (.block 0 (.loop (.seq (.ops [⟨some 38, .binOp .lss 3 (.tmp 37) (.tmp 36) 3, none⟩])
        (.seq (.cond (.tmp 38) .skip
          (.exit 0))
         (.seq (.block 1 (.seq (.ops [⟨some 39, .indexAddr 102 (.tmp 35) (.tmp 37), none⟩, ⟨some 40, .load 3 (.tmp 39), none⟩, ⟨some 15, .assign (.tmp 40), none⟩])
            (.seq (.ops [⟨some 41, .move (.tmp 15), none⟩, ⟨some 42, .binOp .geq 3 (.tmp 41) (.const (.int .i64 0)) 3, none⟩])
             (.cond (.tmp 42) (.ops [⟨some 43, .move (.tmp 13), none⟩, ⟨some 44, .binOp .add 2 (.tmp 43) (.const (.int .i64 1)) 2, none⟩, ⟨some 13, .assign (.tmp 44), none⟩])
              .skip))))
          (.ops [⟨some 45, .binOp .add 3 (.tmp 37) (.const (.int .i64 1)) 3, none⟩, ⟨some 37, .move (.tmp 45), none⟩])))))))
    (.seq (.ops [⟨some 46, .move (.tmp 13), none⟩, ⟨some 10, .assign (.tmp 46), none⟩, ⟨some 11, .assign (.const (.int .i64 0)), none⟩])
     .ret))))), [.tmp 10, .tmp 11], 47⟩
theorem f_impl_RankOfPairs : isFn Go.Proofs.Try.prog 19 = some c_impl_RankOfPairs := by kernel_rfl


set_option maxRecDepth 100000
set_option maxHeartbeats 16000000
set_option linter.unusedVariables false
attribute [-simp] List.getD_eq_getElem?_getD
attribute [-go_sem] confV

theorem rd_rowsY {A : Heap} {N : Nat} {L : List Slot} {a w : Nat} {js : List Nat} {R : List (List Int)} (ha : gd L a = .live ⟨rowN N js w, true⟩) (hR : Abs.Rows L js R) : ∀ p ∈ (nid N a, (⟨rowC (js.map (nid N)) w, true⟩ : AObj)) :: rowsR (js.map (nid N)) R, (⟨A, N, L⟩ : AHeap).get p.1 = .live p.2 := by
  intro p hp
  rcases List.mem_cons.1 hp with rfl | hp
  · dsimp only; rw [get_new, rowN_rowC]; exact ha
  · obtain ⟨i, hi, rfl⟩ := rowsR_mem (by rw [List.length_map]; exact hR.len) p hp
    dsimp only
    have e : (js.map (nid N)).getD i 0 = nid N (js.getD i 0) := by
      have := hR.len
      rw [List.getD_eq_getElem?_getD, List.getD_eq_getElem?_getD, List.getElem?_map, List.getElem?_eq_getElem (by omega)]; rfl
    rw [e, get_new]
    exact hR.at_ i hi
theorem svK_ok {p : Int} {w : Nat} {R : List (List Int)} (hP : isP p = true) (ho : RkOk p w R) (ks : List Nat) (hl : ks.length = R.length) (hnd : ks.Nodup) (N : Nat) : ∀ c, c ≤ w → (svK p R ks c).length = R.length ∧ (svK p R ks c).Nodup ∧ (∀ k ∈ svK p R ks c, k ∈ ks) ∧ svK p R (ks.map (nid N)) c = (svK p R ks c).map (nid N)
  | 0, _ => ⟨hl, hnd, fun k h => h, rfl⟩
  | c + 1, hc => by
    obtain ⟨h1, h2, h3, h4⟩ := svK_ok hP ho ks hl hnd N c (by omega)
    obtain ⟨o1, o2, o3, o4, -⟩ := svL_inv hP ho c (by omega)
    have hge := (rkF_ge (R := (svL p R c).1) (c := c) (f := (svL p R c).1.length - (svL p R c).2.2) (i := (svL p R c).2.2)).1
    have hz1 : rkAt (svL p R c).1 (svL p R c).2.2 c = rkF (svL p R c).1 c ((svL p R c).1.length - (svL p R c).2.2) (svL p R c).2.2 := rfl
    rw [← hz1] at hge
    simp only [svK]
    split
    · rename_i hf
      have e1 : rkAt (svL p R c).1 (svL p R c).2.2 c < (svK p R ks c).length := by omega
      have e2 : (svL p R c).2.2 < (svK p R ks c).length := by omega
      refine ⟨by rw [swapL_length]; exact h1, swapL_nodup h2 e2 e1, fun k hk => h3 k (swapL_mem e2 e1 hk), ?_⟩
      rw [h4, swapL_map e2 e1]
    · exact ⟨h1, h2, h3, h4⟩
theorem rowsR_has {ks : List Nat} {R : List (List Int)} (hl : ks.length = R.length) {k : Nat} (hk : k ∈ ks) : ∃ ob, (k, ob) ∈ rowsR ks R := by
  obtain ⟨i, hi, rfl⟩ := List.mem_iff_getElem.1 hk
  have e : ks[i] = ks.getD i 0 := by simp [List.getD_eq_getElem?_getD, hi]
  rw [e]
  exact ⟨_, rowsR_get hl i (by omega)⟩
theorem AHeap_puts_app (h : AHeap) (ws vs : List (Nat × Slot)) : h.puts (ws ++ vs) = (h.puts ws).puts vs := List.foldl_append
/-- What the elimination leaves. -/
structure Solved (N : Nat) (p : Int) (R : List (List Int)) (w r : Nat) (jx : Nat) (js : List Nat) (L L' : List Slot) (j' : List Nat) : Prop where
  len : L'.length = L.length + 1
  hd : gd L' jx = .live ⟨rowN N j' w, true⟩
  rows : Abs.Rows L' j' (svL p R r).1
  na : jx ∉ j'
  at_ : gd L' L.length = .live ⟨i64s (svL p R r).2.1, true⟩
  mem : ∀ j ∈ j', j ∈ js
  old : ∀ j, j < L.length → j ≠ jx → j ∉ js → gd L' j = gd L j
theorem call_solved {G : Heap} {N : Nat} {L : List Slot} {K : Kont} {p : Int} {n w r jx : Nat} {R : List (List Int)} {js : List Nat} (hp : isP p = true) (hR : R.length = n) (hn : n ≤ 1000) (hn0 : 0 < n) (hrw : r ≤ w) (hww : w ≤ 1000) (ho : RkOk p w R)
    (hd : gd L jx = .live ⟨rowN N js w, true⟩) (hrows : Abs.Rows L js R) (hj : jx ∉ js) (hlt : jx < L.length)
    (hK : ∀ rs ws L' j', (⟨G, N, L⟩ : AHeap).puts ws = ⟨G, N, L'⟩ → Solved N p R w r jx js L L' j' → K (.c (.slice (nid N L.length) 0 r 1)) rs ws) : vCall Try.prog 79 [.c (.int .i64 (p)), .c (.slice (nid N jx) 0 n 1), .c (.int .i64 ((r : Nat) : Int))] ⟨G, N, L⟩ (.mk K) := by
  have hjl := hrows.len
  have hml : (js.map (nid N)).length = R.length := by rw [List.length_map]; exact hjl
  have ninj : ∀ {i j : Nat}, nid N i = nid N j → i = j := fun h => by unfold nid at h; omega
  have hndN : (nid N jx :: js.map (nid N)).Nodup := by
    refine List.nodup_cons.2 ⟨fun hm => ?_, ?_⟩
    · obtain ⟨j, h1, h2⟩ := List.mem_map.1 hm
      rw [ninj h2] at h1
      exact hj h1
    · rw [List.nodup_iff_pairwise_ne, List.pairwise_map]
      exact (List.nodup_iff_pairwise_ne.1 hrows.nd).imp fun h e => h (ninj e)
  obtain ⟨k1, k2, k3, k4⟩ := svK_ok hp ho js hjl hrows.nd N r (by omega)
  obtain ⟨o1, o2, o3, o4, -⟩ := svL_inv hp ho r (by omega)
  have hfree : (⟨G, N, L⟩ : AHeap).get (nid N L.length) = .free := by rw [get_new, gd_len (Nat.le_refl _)]
  have hrd := rd_rowsY (A := G) hd hrows
  refine call_intro (solved_spec (a := nid N jx) (ks := js.map (nid N)) hp (by omega) hR hn hn0 hrw hww ho hndN (nid N L.length) fun q hq e => ?_) hrd (fun q hq => ?_) ?_
  · have := hrd q hq
    rw [e, hfree] at this
    cases this
  · rcases List.mem_append.1 hq with hq | hq
    · left
      rcases List.mem_cons.1 hq with rfl | hq
      · exact ⟨_, List.mem_cons_self⟩
      · rw [k4] at hq
        obtain ⟨i, h1, rfl⟩ := rowsW_mem (by rw [List.length_map, k1, o2]) q hq
        have hm : ((svK p R js r).map (nid N)).getD i 0 ∈ (svK p R js r).map (nid N) := getD_mem (by rw [List.length_map, k1]; omega)
        obtain ⟨j, h2, h3⟩ := List.mem_map.1 hm
        dsimp only
        rw [← h3]
        obtain ⟨ob, hob⟩ := rowsR_has hml (List.mem_map_of_mem (f := nid N) (k3 j h2))
        exact ⟨ob, List.mem_cons_of_mem _ hob⟩
    · simp only [List.mem_singleton] at hq
      subst hq
      exact .inr hfree
  · rw [k4]
    have hnd2 : (jx :: svK p R js r).Nodup := List.nodup_cons.2 ⟨fun hm => hj (k3 _ hm), k2⟩
    obtain ⟨L', e1, e2, e3, e4, e5, e6⟩ := puts_rowsX (G := G) (N := N) (L := L) (w := w) (js := svK p R js r) (R := (svL p R r).1) (jx := jx) (by omega) hnd2
    have hl' : L'.length = L.length := Nat.le_antisymm (e3 _ (Nat.le_refl _) fun j hm => by
      rcases List.mem_cons.1 hm with rfl | hm
      · exact hlt
      · exact hrows.lt j (k3 j hm)) e2
    refine hK _ _ (setAt L' L.length (.live ⟨i64s (svL p R r).2.1, true⟩)) (svK p R js r) ?_ ⟨by simp only [setAt_length]; omega, by rw [gd_setAt_ne' (by omega)]; exact e4, ?_, fun hm => hj (k3 _ hm), gd_setAt_same, k3, fun j h1 h2 h3 => ?_⟩
    · rw [AHeap_puts_app, e1, puts_cons, puts_nil, put_new]
    · exact e5.ext (by simp only [setAt_length]; omega) fun j hm => gd_setAt_ne' (by have := hrows.lt j (k3 j hm); omega)
    · rw [gd_setAt_ne' (by omega)]
      refine e6 j fun hm => ?_
      rcases List.mem_cons.1 hm with rfl | hm
      · exact h2 rfl
      · exact h3 (k3 j hm)
theorem prCode_ok {p n m k : Int} {r : Nat} {l : List Int} (h : prCode p n m k r l = 0) : isP p = true ∧ inSz n = true ∧ inSz m = true ∧ inSz k = true ∧ pairsOk p (n * m) (m * k) r l = true ∧ r ≤ 30 := by
  unfold prCode at h
  split at h
  · rename_i h1
    simp only [Bool.and_eq_true] at h1
    split at h
    · rename_i h2
      split at h
      · rename_i h3; exact ⟨h1.1.1.1, h1.1.1.2, h1.1.2, h1.2, h2, h3⟩
      · omega
    · omega
  · omega
theorem prCode_rng (p n m k : Int) (r : Nat) (l : List Int) : 0 ≤ prCode p n m k r l ∧ prCode p n m k r l ≤ 2 := by
  unfold prCode
  split
  · split
    · split <;> omega
    · omega
  · omega
theorem implRank_err {c : Cell} {rs : List (Nat × AObj)} {r : Nat} {l : List Int} (p n m k : Int) (hc : Sl 18 (u8s l) r c rs) (hl : l.length = r * 18) (hn : r ≤ 1048576) (hb : byteL l) (h : prCode p n m k r l ≠ 0) :
    FSpec Try.prog 19 [.c (.int .i64 (p)), .c (.int .i64 (n)), .c (.int .i64 (m)), .c (.int .i64 (k)), .c c] (.tup [.c (.int .i64 (0)), .c (.int .i64 (prCode p n m k r l))]) rs [] := by
  refine FSpec.of f_impl_RankOfPairs (Nat.le_of_ble_eq_true rfl) fun G N hN hr hw => ?_
  simp only [c_impl_RankOfPairs, List.length_cons, List.length_nil, List.replicate, List.cons_append, List.nil_append]
  repeat' (first | (with_reducible first | refine W1 ?_ | refine W2 ?_ | refine W3 ?_ | refine W4 mixed ?_ | refine W5 ?_ | refine W6 ?_ | refine W7 ?_ | refine W8 ?_ | refine W9 ?_ | refine V1 ?_ | refine V2 ?_ | refine V3 ?_ | refine V4 (by decide) ?_ | refine V5 ?_ | refine V6 ?_ | refine V7 ?_ | refine V8 ?_ | refine V9 ?_ | refine U1 ?_ | refine U2 ?_ | refine U3 ?_) | (with_reducible refine U4 ?_ ?_; next => first | omega | exact ⟨trivial, by omega⟩) | simp (maxSteps := 2000000) (discharger := first | omega | (simp (discharger := omega) only [Z1, Z2, Z3, Z4, Z5, Z6, Z7] <;> fail) | (simp (discharger := omega) only [Z3, Z8, Z2, Z4, Z1, Z7, Z5, Z6, Z9, Y1, Y2]; omega)) only [go_sem])
  refine call_ro (listCode_spec p n m k hc hl hn hb) (get_rd hr) ?_
  have y1 : (prCode p n m k r l != 0) = true := by simpa using h
  repeat' (first | (with_reducible first | refine W1 ?_ | refine W2 ?_ | refine W3 ?_ | refine W4 mixed ?_ | refine W5 ?_ | refine W6 ?_ | refine W7 ?_ | refine W8 ?_ | refine W9 ?_ | refine V1 ?_ | refine V2 ?_ | refine V3 ?_ | refine V4 (by decide) ?_ | refine V5 ?_ | refine V6 ?_ | refine V7 ?_ | refine V8 ?_ | refine V9 ?_ | refine U1 ?_ | refine U2 ?_ | refine U3 ?_) | (with_reducible refine U4 ?_ ?_; next => first | omega | exact ⟨trivial, by omega⟩) | ((with_reducible refine U5 _ rfl (fun hq => ?_) (fun hq => ?_)) <;> try (first | (cases hq; done) | exact absurd hq (by decide))) | ((with_reducible refine U6 (fun hq => ?_) (fun hq => ?_)) <;> try (first | (cases hq; done) | exact absurd hq (by decide))) | simp (maxSteps := 2000000) (discharger := first | omega | (simp (discharger := omega) only [Z1, Z2, Z3, Z4, Z5, Z6, Z7] <;> fail) | (simp (discharger := omega) only [Z3, Z8, Z2, Z4, Z1, Z7, Z5, Z6, Z9, Y1, Y2]; omega)) only [go_sem, y1])
  exact ret_none hN [.c (.int .i64 (0)), .c (.int .i64 (prCode p n m k r l))] ⟨rfl, rfl, trivial⟩ rfl rfl rfl (by simp)
theorem implRank_ok {c : Cell} {rs : List (Nat × AObj)} {r n m k : Nat} {l : List Int} (p : Int) (hc : Sl 18 (u8s l) r c rs) (hl : l.length = r * 18) (hb : byteL l) (h : prCode p n m k r l = 0) :
    FSpec Try.prog 19 [.c (.int .i64 (p)), .c (.int .i64 ((n : Nat) : Int)), .c (.int .i64 ((m : Nat) : Int)), .c (.int .i64 ((k : Nat) : Int)), .c c] (.tup [.c (.int .i64 ((nnC (svL p (sysR p (m * k) l r (wantL m k (m * k) (n * k)) (n * m * (m * k))) r).2.1 r : Nat) : Int)), .c (.int .i64 (0))]) rs [] := by
  obtain ⟨hP, hsn, hsm, hsk, hpr, h30⟩ := prCode_ok h
  have hp : 2 ≤ p ∧ p ≤ 5 := by simp [isP] at hP; omega
  have b1 := inSz_rng hsn
  have b2 := inSz_rng hsm
  have b3 := inSz_rng hsk
  have m1 := mul9 hsn hsm
  have m2 := mul9 hsm hsk
  have m3 := mul9 hsn hsk
  have p1 : 1 * 1 ≤ n * m := Nat.mul_le_mul (by omega) (by omega)
  have p2 : 1 * 1 ≤ m * k := Nat.mul_le_mul (by omega) (by omega)
  have hmod := pairsOk_rng hl hpr hb (by omega)
  obtain ⟨na, hna⟩ : ∃ na, n * m = na := ⟨_, rfl⟩
  obtain ⟨nb, hnb⟩ : ∃ nb, m * k = nb := ⟨_, rfl⟩
  obtain ⟨nc, hnc⟩ : ∃ nc, n * k = nc := ⟨_, rfl⟩
  have ea : ((n : Nat) : Int) * (m : Nat) = (na : Nat) := by rw [← hna]; rfl
  have eb : ((m : Nat) : Int) * (k : Nat) = (nb : Nat) := by rw [← hnb]; rfl
  have ec : ((n : Nat) : Int) * (k : Nat) = (nc : Nat) := by rw [← hnc]; rfl
  rw [ea] at m1
  rw [eb] at m2
  rw [ec] at m3
  rw [hna, hnb, hnc]
  rw [hna] at p1
  rw [hnb] at p2
  have hab : na * nb ≤ 9 * 9 := Nat.mul_le_mul (by omega) (by omega)
  have hab0 : 1 * 1 ≤ na * nb := Nat.mul_le_mul p1 p2
  have hok := sysR_ok (p := p) (nb := nb) (l := l) (r := r) (t := na * nb) (c := nc) (W := wantL m k nb nc) hp.1 hmod fun a _ => ⟨wantL_length .., wantL_rng hp.1 nb nc a⟩
  have hRl := sysR_length (p := p) (nb := nb) (l := l) (r := r) (wantL m k nb nc) (na * nb)
  refine FSpec.of f_impl_RankOfPairs (Nat.le_of_ble_eq_true rfl) fun G N hN hr hw => ?_
  simp only [c_impl_RankOfPairs, List.length_cons, List.length_nil, List.replicate, List.cons_append, List.nil_append]
  repeat' (first | (with_reducible first | refine W1 ?_ | refine W2 ?_ | refine W3 ?_ | refine W4 mixed ?_ | refine W5 ?_ | refine W6 ?_ | refine W7 ?_ | refine W8 ?_ | refine W9 ?_ | refine V1 ?_ | refine V2 ?_ | refine V3 ?_ | refine V4 (by decide) ?_ | refine V5 ?_ | refine V6 ?_ | refine V7 ?_ | refine V8 ?_ | refine V9 ?_ | refine U1 ?_ | refine U2 ?_ | refine U3 ?_) | (with_reducible refine U4 ?_ ?_; next => first | omega | exact ⟨trivial, by omega⟩) | simp (maxSteps := 2000000) (discharger := first | omega | (simp (discharger := omega) only [Z1, Z2, Z3, Z4, Z5, Z6, Z7] <;> fail) | (simp (discharger := omega) only [Z3, Z8, Z2, Z4, Z1, Z7, Z5, Z6, Z9, Y1, Y2]; omega)) only [go_sem])
  refine call_ro (listCode_spec p n m k hc hl (by omega) hb) (get_rd hr) ?_
  rw [h]
  repeat' (first | (with_reducible first | refine W1 ?_ | refine W2 ?_ | refine W3 ?_ | refine W4 mixed ?_ | refine W5 ?_ | refine W6 ?_ | refine W7 ?_ | refine W8 ?_ | refine W9 ?_ | refine V1 ?_ | refine V2 ?_ | refine V3 ?_ | refine V4 (by decide) ?_ | refine V5 ?_ | refine V6 ?_ | refine V7 ?_ | refine V8 ?_ | refine V9 ?_ | refine U1 ?_ | refine U2 ?_ | refine U3 ?_) | (with_reducible refine U4 ?_ ?_; next => first | omega | exact ⟨trivial, by omega⟩) | ((with_reducible refine U5 _ rfl (fun hq => ?_) (fun hq => ?_)) <;> try (first | (cases hq; done) | exact absurd hq (by decide))) | ((with_reducible refine U6 (fun hq => ?_) (fun hq => ?_)) <;> try (first | (cases hq; done) | exact absurd hq (by decide))) | simp (maxSteps := 2000000) (discharger := first | omega | (simp (discharger := omega) only [Z1, Z2, Z3, Z4, Z5, Z6, Z7] <;> fail) | (simp (discharger := omega) only [Z3, Z8, Z2, Z4, Z1, Z7, Z5, Z6, Z9, Y1, Y2]; omega)) only [go_sem])
  refine call_rowsK (w := r + nc) (R := sysR p nb l r (wantL m k nb nc) (na * nb)) (rs := rs) (fun x ys hnd hyl hx => system_spec (cc := .nils) hp hsn hsm hsk hna hnb hnc hc hl (by omega) hb x ys hnd hyl hx) (get_rd hr) ?_
  rintro ws L' Jq ⟨⟨ids, hib, hid⟩, hput, hlen, hd, hrows, hlo, hold⟩
  generalize sysR p nb l r (wantL m k nb nc) (na * nb) = R at hok hRl hrows hlen ⊢
  generalize na * nb = n0 at hab hab0 hRl ⊢
  repeat' (first | (with_reducible first | refine W1 ?_ | refine W2 ?_ | refine W3 ?_ | refine W4 mixed ?_ | refine W5 ?_ | refine W6 ?_ | refine W7 ?_ | refine W8 ?_ | refine W9 ?_ | refine V1 ?_ | refine V2 ?_ | refine V3 ?_ | refine V4 (by decide) ?_ | refine V5 ?_ | refine V6 ?_ | refine V7 ?_ | refine V8 ?_ | refine V9 ?_ | refine U1 ?_ | refine U2 ?_ | refine U3 ?_) | (with_reducible refine U4 ?_ ?_; next => first | omega | exact ⟨trivial, by omega⟩) | simp (maxSteps := 2000000) (discharger := first | omega | (simp (discharger := omega) only [Z1, Z2, Z3, Z4, Z5, Z6, Z7] <;> fail) | (simp (discharger := omega) only [Z3, Z8, Z2, Z4, Z1, Z7, Z5, Z6, Z9, Y1, Y2]; omega)) only [go_sem, hput, hc.len (P := Try.prog)])
  have hjn : 0 ∉ Jq := fun hm => by have := hlo _ hm; simp at this
  refine call_solved (w := r + nc) (R := R) (jx := 0) (js := Jq) hP hRl (by omega) (by omega) (by omega) (by omega) hok hd hrows hjn (by omega) ?_
  rintro rs2 ws2 L2 j2 hput2 ⟨s1, s2, s3, s4, s5, s6, s7⟩
  have hal := (svL_inv hP hok r (by omega)).2.2.1
  generalize (svL p R r).2.1 = at_ at s5 hal ⊢
  repeat' (first | (with_reducible first | refine W1 ?_ | refine W2 ?_ | refine W3 ?_ | refine W4 mixed ?_ | refine W5 ?_ | refine W6 ?_ | refine W7 ?_ | refine W8 ?_ | refine W9 ?_ | refine V1 ?_ | refine V2 ?_ | refine V3 ?_ | refine V4 (by decide) ?_ | refine V5 ?_ | refine V6 ?_ | refine V7 ?_ | refine V8 ?_ | refine V9 ?_ | refine U1 ?_ | refine U2 ?_ | refine U3 ?_) | (with_reducible refine U4 ?_ ?_; next => first | omega | exact ⟨trivial, by omega⟩) | simp (maxSteps := 2000000) (discharger := first | omega | (simp (discharger := omega) only [Z1, Z2, Z3, Z4, Z5, Z6, Z7] <;> fail) | (simp (discharger := omega) only [Z3, Z8, Z2, Z4, Z1, Z7, Z5, Z6, Z9, Y1, Y2]; omega)) only [go_sem, hput2])
  refine swp_for (fun (t : Nat) => (List.replicate 13 .any ++ [.c (.int .i64 ((nnC at_ t : Nat) : Int))] ++ List.replicate 21 .any ++ [.c (.slice (nid N L'.length) 0 r 1), .c (.int .i64 ((r : Nat) : Int)), .c (.int .i64 ((t : Nat) : Int))] ++ List.replicate 9 .any)) (fun t => ⟨G, N, L2⟩) (fun t => r - t) (fun t => t ≤ r) 0 (Nat.zero_le _) rfl (by repeat' (first | exact trivial | exact .inl rfl | exact .inr rfl | refine ⟨?_, ?_⟩)) ?_
  intro t ht
  have hnl := nnC_le at_ t
  have hst : nnC at_ (t + 1) = if 0 ≤ at_.getD t 0 then nnC at_ t + 1 else nnC at_ t := rfl
  simp only [List.replicate, List.cons_append, List.nil_append]
  repeat' (first | (with_reducible first | refine W1 ?_ | refine W2 ?_ | refine W3 ?_ | refine W4 mixed ?_ | refine W5 ?_ | refine W6 ?_ | refine W7 ?_ | refine W8 ?_ | refine W9 ?_ | refine V1 ?_ | refine V2 ?_ | refine V3 ?_ | refine V4 (by decide) ?_ | refine V5 ?_ | refine V6 ?_ | refine V7 ?_ | refine V8 ?_ | refine V9 ?_ | refine U1 ?_ | refine U2 ?_ | refine U3 ?_) | (with_reducible refine U4 ?_ ?_; next => first | omega | exact ⟨trivial, by omega⟩) | simp (maxSteps := 2000000) (discharger := first | omega | (simp (discharger := omega) only [Z1, Z2, Z3, Z4, Z5, Z6, Z7] <;> fail) | (simp (discharger := omega) only [Z3, Z8, Z2, Z4, Z1, Z7, Z5, Z6, Z9, Y1, Y2]; omega)) only [go_sem])
  refine swp_cond _ rfl (fun h => ?_) (fun h => ?_)
  · have hlt : t < r := by simpa using h
    clear h
    repeat' (first | (with_reducible first | refine W1 ?_ | refine W2 ?_ | refine W3 ?_ | refine W4 mixed ?_ | refine W5 ?_ | refine W6 ?_ | refine W7 ?_ | refine W8 ?_ | refine W9 ?_ | refine V1 ?_ | refine V2 ?_ | refine V3 ?_ | refine V4 (by decide) ?_ | refine V5 ?_ | refine V6 ?_ | refine V7 ?_ | refine V8 ?_ | refine V9 ?_ | refine U1 ?_ | refine U2 ?_ | refine U3 ?_) | (with_reducible refine U4 ?_ ?_; next => first | omega | exact ⟨trivial, by omega⟩) | ((with_reducible refine U5 _ rfl (fun hq => ?_) (fun hq => ?_)) <;> try (first | (cases hq; done) | exact absurd hq (by decide))) | ((with_reducible refine U6 (fun hq => ?_) (fun hq => ?_)) <;> try (first | (cases hq; done) | exact absurd hq (by decide))) | simp (maxSteps := 2000000) (discharger := first | omega | (simp (discharger := omega) only [Z1, Z2, Z3, Z4, Z5, Z6, Z7] <;> fail) | (simp (discharger := omega) only [Z3, Z8, Z2, Z4, Z1, Z7, Z5, Z6, Z9, Y1, Y2]; omega)) only [go_sem, s5])
    · have hge : 0 ≤ at_.getD t 0 := by simpa using hq
      rw [if_pos hge] at hst
      exact forK_same (t + 1) (by omega) (by omega) rfl (by rw [hst]; repeat' (first | exact trivial | exact .inl rfl | exact .inr rfl | refine ⟨?_, ?_⟩))
    · have hge : ¬ 0 ≤ at_.getD t 0 := by simpa using hq
      rw [if_neg hge] at hst
      exact forK_same (t + 1) (by omega) (by omega) rfl (by rw [hst]; repeat' (first | exact trivial | exact .inl rfl | exact .inr rfl | refine ⟨?_, ?_⟩))
  · have hlt : t = r := by have : ¬ t < r := by simpa using h
                           omega
    subst hlt
    clear h
    repeat' (first | (with_reducible first | refine W1 ?_ | refine W2 ?_ | refine W3 ?_ | refine W4 mixed ?_ | refine W5 ?_ | refine W6 ?_ | refine W7 ?_ | refine W8 ?_ | refine W9 ?_ | refine V1 ?_ | refine V2 ?_ | refine V3 ?_ | refine V4 (by decide) ?_ | refine V5 ?_ | refine V6 ?_ | refine V7 ?_ | refine V8 ?_ | refine V9 ?_ | refine U1 ?_ | refine U2 ?_ | refine U3 ?_) | (with_reducible refine U4 ?_ ?_; next => first | omega | exact ⟨trivial, by omega⟩) | simp (maxSteps := 2000000) (discharger := first | omega | (simp (discharger := omega) only [Z1, Z2, Z3, Z4, Z5, Z6, Z7] <;> fail) | (simp (discharger := omega) only [Z3, Z8, Z2, Z4, Z1, Z7, Z5, Z6, Z9, Y1, Y2]; omega)) only [go_sem])
    exact ret_none hN [.c (.int .i64 ((nnC at_ t : Nat) : Int)), .c (.int .i64 (0))] ⟨rfl, rfl, trivial⟩ rfl rfl rfl (by simp)
end Go.Proofs.Ytcmmbnhdfkcpdaa
