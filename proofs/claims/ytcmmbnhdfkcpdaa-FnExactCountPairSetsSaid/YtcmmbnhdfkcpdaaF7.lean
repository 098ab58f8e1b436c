/- slices.DeleteFunc of products with a zero form; the products that are kept. -/
import Derived.Test.YtcmmbnhdfkcpdaaF6
import Derived.Test.YtcmmbnhdfkcpdaaRG
namespace Go.Proofs.Ytcmmbnhdfkcpdaa
open Go Go.Abs
set_option maxRecDepth 100000
/- loop.example/g01262/impl.kept -/
def c_impl_kept : SFn := ⟨(.seq (.ops [⟨some 2, .assign (.const (.slice none 0 0)), none⟩])
 (.seq (.ops [⟨some 3, .move (.tmp 0), none⟩, ⟨some 4, .call ⟨.value (.func 185), #[.tmp 3, .func 186], #[39, 189]⟩, none⟩, ⟨some 2, .assign (.tmp 4), none⟩])
  .ret)), [.tmp 2], 5⟩
theorem f_impl_kept : isFn Go.Proofs.Try.prog 159 = some c_impl_kept := by kernel_rfl


set_option maxRecDepth 100000
set_option maxHeartbeats 8000000
set_option linter.unusedVariables false
attribute [-simp] List.getD_eq_getElem?_getD
attribute [-go_sem] confV

theorem putL_getF {o v : List Int} {a : Nat} (h : a + v.length ≤ o.length) (j : Nat) : (putL o a v).getD j 0 = if a ≤ j ∧ j < a + v.length then v.getD (j - a) 0 else o.getD j 0 := by
  rw [putL_eq h]
  simp only [List.getD_eq_getElem?_getD, List.getElem?_append, List.length_append, List.length_take, List.getElem?_take, List.getElem?_drop]
  rw [Nat.min_eq_left (by omega)]
  by_cases h1 : j < a
  · rw [if_pos (by omega), if_pos h1, if_pos h1, if_neg (by omega)]
  · by_cases h2 : j < a + v.length
    · rw [if_pos h2, if_neg h1, if_pos (by omega)]
    · rw [if_neg h2, if_neg (by omega), show a + v.length + (j - (a + v.length)) = j from by omega]
theorem updF2 {α : Type} (f : Nat → α) (k : Nat) (a b : α) : upd (upd f k a) k b = upd f k b := by
  funext j; simp only [upd]; split <;> rfl
theorem updF1 {α : Type} {f : Nat → α} {k : Nat} {a : α} (h : f k = a) : upd f k a = f := by
  funext j; simp only [upd]; split
  · rename_i e; rw [e, h]
  · rfl
theorem sub_ext {a b : List Int} {off n : Nat} (ha : off + n ≤ a.length) (hb : off + n ≤ b.length) (h : ∀ j, j < n → a.getD (off + j) 0 = b.getD (off + j) 0) : sub a off n = sub b off n := by
  apply List.ext_getElem (by rw [sub_length ha, sub_length hb])
  intro j h1 h2
  rw [sub_length ha] at h1
  have := h j h1
  simp only [List.getD_eq_getElem?_getD] at this
  rw [List.getElem?_eq_getElem (by omega), List.getElem?_eq_getElem (by omega)] at this
  simpa [sub] using this
theorem putL_sub_out {o q : List Int} {i a n : Nat} (h : i + q.length ≤ o.length) (ha : a + n ≤ o.length) (hd : i + q.length ≤ a ∨ a + n ≤ i) : sub (putL o i q) a n = sub o a n := by
  refine sub_ext (by rw [putL_len]; exact ha) ha fun j hj => ?_
  rw [putL_getF h, if_neg (by omega)]
theorem putL_take {o q : List Int} {i : Nat} (h : i + q.length ≤ o.length) : (putL o i q).take (i + q.length) = o.take i ++ q := by
  rw [putL_eq h, List.take_append_of_le_length (by rw [List.length_append, List.length_take]; omega), List.take_of_length_le (by rw [List.length_append, List.length_take]; omega)]
theorem putL_zeros {o : List Int} {i n : Nat} (h : o.length = i + n) : putL o i (zeros n) = o.take i ++ zeros n := by
  rw [putL_eq (by rw [zeros_length]; omega), zeros_length, List.drop_of_length_le (by omega), List.append_nil]

theorem deleteZ_spec {k n : Nat} {l : List Int} (hl : l.length = n * 27) (hn : n ≤ 1048576) : FSpec Try.prog 185 [.c (.slice k 0 n 27), .c (.fn 186 [])] (.c (.slice k 0 (keptN l n) 27)) [(k, ⟨u8s l, true⟩)] [(k, .live ⟨u8s (keptL l n ++ zeros ((n - keptN l n) * 27)), true⟩)] := by
  refine FSpec.of f_slices_DeleteFunc_impl_Product_impl_Product (Nat.le_of_ble_eq_true rfl) fun G N hN hr hw => ?_
  simp only [c_slices_DeleteFunc_impl_Product_impl_Product, List.length_cons, List.length_nil, List.replicate, List.cons_append, List.nil_append]
  have hc : Sl 27 (u8s l) n (.slice k 0 n 27) [(k, ⟨u8s l, true⟩)] := Sl.mk k true (by rw [u8s_length]; exact hl)
  obtain ⟨g2, hk⟩ := hr _ (List.mem_singleton.2 rfl)
  dsimp only at g2 hk
  have hkf : G k ≠ .free := by rw [g2]; simp
  rcases zIdx_cases l n with hno | ⟨f, hf, hfn, hz, hall⟩
  · have hall : ∀ u, u < n → zAt l u = false := by
      intro u hu
      apply Classical.byContradiction
      intro hh
      simp only [Bool.not_eq_false] at hh
      have h1 : ¬ zFirst l n 0 < n := by
        intro h
        rw [zIdx, if_pos h] at hno
        omega
      have key : ∀ f i, i + f = n → (∀ v, v < i → zAt l v = false) → zFirst l f i = n → ∀ v, v < n → zAt l v = false := by
        intro f
        induction f with
        | zero => intro i h1 h2 h3 v hv; exact h2 v (by omega)
        | succ f ih =>
          intro i h1 h2 h3
          cases hzi : zAt l i with
          | true => rw [zFirst_yes hzi (by omega)] at h3; omega
          | false =>
            rw [zFirst_no hzi] at h3
            exact ih (i + 1) (by omega) (fun v hv => by
              by_cases e : v = i
              · rw [e]; exact hzi
              · exact h2 v (by omega)) h3
      have h2 : zFirst l n 0 = n := by
        have : ∀ f i, zFirst l f i ≤ i + f := by
          intro f
          induction f with
          | zero => intro i; simp [zFirst]
          | succ f ih => intro i; rw [zFirst]; split; omega; have := ih (i + 1); omega
        have := this n 0
        omega
      have := key n 0 (by omega) (fun v hv => by omega) h2 u hu
      rw [this] at hh; cases hh
    obtain ⟨e1, e2⟩ := kept_all hall
    have e3 : keptL l n ++ zeros ((n - keptN l n) * 27) = l := by rw [e1, e2, Nat.sub_self, Nat.zero_mul, List.take_of_length_le (by omega)]; simp [zeros]
    rw [e1] at e3 ⊢
    rw [e3]
    repeat' (first | (with_reducible first | refine W1 ?_ | refine W2 ?_ | refine W3 ?_ | refine W4 mixed ?_ | refine W5 ?_ | refine W6 ?_ | refine W7 ?_ | refine W8 ?_ | refine W9 ?_ | refine V1 ?_ | refine V2 ?_ | refine V3 ?_ | refine V4 (by decide) ?_ | refine V5 ?_ | refine V6 ?_ | refine V7 ?_ | refine V8 ?_ | refine V9 ?_ | refine U1 ?_ | refine U2 ?_ | refine U3 ?_) | (with_reducible refine U4 ?_ ?_; next => first | omega | exact ⟨trivial, by omega⟩) | simp (maxSteps := 2000000) (discharger := first | omega | (simp (discharger := omega) only [Z1, Z2, Z3, Z4, Z5, Z6, Z7] <;> fail) | (simp (discharger := omega) only [Z3, Z8, Z2, Z4, Z1, Z7, Z5, Z6, Z9, Y1, Y2]; omega)) only [go_sem])
    refine call_ro (indexZ_spec hc hl hn) (get_rd hr) ?_
    rw [hno]
    repeat' (first | (with_reducible first | refine W1 ?_ | refine W2 ?_ | refine W3 ?_ | refine W4 mixed ?_ | refine W5 ?_ | refine W6 ?_ | refine W7 ?_ | refine W8 ?_ | refine W9 ?_ | refine V1 ?_ | refine V2 ?_ | refine V3 ?_ | refine V4 (by decide) ?_ | refine V5 ?_ | refine V6 ?_ | refine V7 ?_ | refine V8 ?_ | refine V9 ?_ | refine U1 ?_ | refine U2 ?_ | refine U3 ?_) | (with_reducible refine U4 ?_ ?_; next => first | omega | exact ⟨trivial, by omega⟩) | ((with_reducible refine U5 _ rfl (fun hq => ?_) (fun hq => ?_)) <;> try (first | (cases hq; done) | exact absurd hq (by decide))) | ((with_reducible refine U6 (fun hq => ?_) (fun hq => ?_)) <;> try (first | (cases hq; done) | exact absurd hq (by decide))) | simp (maxSteps := 2000000) (discharger := first | omega | (simp (discharger := omega) only [Z1, Z2, Z3, Z4, Z5, Z6, Z7] <;> fail) | (simp (discharger := omega) only [Z3, Z8, Z2, Z4, Z1, Z7, Z5, Z6, Z9, Y1, Y2]; omega)) only [go_sem])
    have h0 : (⟨G, N, []⟩ : AHeap) = ⟨putsG G [(k, .live ⟨u8s l, true⟩)], N, []⟩ := by
      show _ = (⟨upd G k (.live ⟨u8s l, true⟩), N, []⟩ : AHeap)
      rw [updF1 g2]
    rw [h0]
    refine ret_mix0 hN _ (oldOk_flat hk hkf (flat_u8s l)) [.c (.slice k 0 n 27)] ⟨rfl, trivial⟩ rfl ?_ rfl
    simp only [AV.idsT, AV.ids1, Cell.ids, List.mem_singleton]
    rintro q rfl
    exact hkf
  · repeat' (first | (with_reducible first | refine W1 ?_ | refine W2 ?_ | refine W3 ?_ | refine W4 mixed ?_ | refine W5 ?_ | refine W6 ?_ | refine W7 ?_ | refine W8 ?_ | refine W9 ?_ | refine V1 ?_ | refine V2 ?_ | refine V3 ?_ | refine V4 (by decide) ?_ | refine V5 ?_ | refine V6 ?_ | refine V7 ?_ | refine V8 ?_ | refine V9 ?_ | refine U1 ?_ | refine U2 ?_ | refine U3 ?_) | (with_reducible refine U4 ?_ ?_; next => first | omega | exact ⟨trivial, by omega⟩) | simp (maxSteps := 2000000) (discharger := first | omega | (simp (discharger := omega) only [Z1, Z2, Z3, Z4, Z5, Z6, Z7] <;> fail) | (simp (discharger := omega) only [Z3, Z8, Z2, Z4, Z1, Z7, Z5, Z6, Z9, Y1, Y2]; omega)) only [go_sem])
    refine call_ro (indexZ_spec hc hl hn) (get_rd hr) ?_
    rw [hf]
    have hf1 : ((f : Int) == -1) = false := beq_eq_false_iff_ne.2 (by omega)
    repeat' (first | (with_reducible first | refine W1 ?_ | refine W2 ?_ | refine W3 ?_ | refine W4 mixed ?_ | refine W5 ?_ | refine W6 ?_ | refine W7 ?_ | refine W8 ?_ | refine W9 ?_ | refine V1 ?_ | refine V2 ?_ | refine V3 ?_ | refine V4 (by decide) ?_ | refine V5 ?_ | refine V6 ?_ | refine V7 ?_ | refine V8 ?_ | refine V9 ?_ | refine U1 ?_ | refine U2 ?_ | refine U3 ?_) | (with_reducible refine U4 ?_ ?_; next => first | omega | exact ⟨trivial, by omega⟩) | ((with_reducible refine U5 _ rfl (fun hq => ?_) (fun hq => ?_)) <;> try (first | (cases hq; done) | exact absurd hq (by decide))) | ((with_reducible refine U6 (fun hq => ?_) (fun hq => ?_)) <;> try (first | (cases hq; done) | exact absurd hq (by decide))) | simp (maxSteps := 2000000) (discharger := first | omega | (simp (discharger := omega) only [Z1, Z2, Z3, Z4, Z5, Z6, Z7] <;> fail) | (simp (discharger := omega) only [Z3, Z8, Z2, Z4, Z1, Z7, Z5, Z6, Z9, Y1, Y2]; omega)) only [go_sem, hf1])
    obtain ⟨e1, e2⟩ := kept_all hall
    refine swp_for (fun (s : Nat × Nat × List Int × List Slot) => ([.c (.slice k 0 n 27), .c (.fn 186 []), .any, .any, .any, .c (.int .i64 ((s.1 : Nat) : Int)), .c (.int .i64 ((s.2.1 : Nat) : Int))] ++ List.replicate 35 .any)) (fun s => ⟨upd G k (.live ⟨u8s s.2.2.1, true⟩), N, s.2.2.2⟩) (fun s => n - s.2.1) (fun s => s.2.1 ≤ n ∧ s.1 < s.2.1 ∧ s.1 = keptN l s.2.1 ∧ s.2.2.1.length = n * 27 ∧ s.2.2.1.take (s.1 * 27) = keptL l s.2.1 ∧ ∀ t, s.2.1 ≤ t → t < n → sub s.2.2.1 (t * 27) 27 = sub l (t * 27) 27) (f, f + 1, l, _) ⟨hfn, Nat.lt_succ_self _, ?_, hl, ?_, fun t _ _ => rfl⟩ (by rw [updF1 g2]) (by repeat' (first | exact trivial | exact .inl rfl | exact .inr rfl | refine ⟨?_, ?_⟩)) ?_
    · show f = if zAt l f then keptN l f else keptN l f + 1
      rw [if_pos hz, e1]
    · show l.take (f * 27) = if zAt l f then keptL l f else keptL l f ++ sub l (f * 27) 27
      rw [if_pos hz, e2]
    rintro ⟨i, j, o, L⟩ ⟨hj, hij, hi, hol, hot, hos⟩
    dsimp only at hj hij hi hol hot hos
    simp only [List.replicate, List.cons_append, List.nil_append]
    repeat' (first | (with_reducible first | refine W1 ?_ | refine W2 ?_ | refine W3 ?_ | refine W4 mixed ?_ | refine W5 ?_ | refine W6 ?_ | refine W7 ?_ | refine W8 ?_ | refine W9 ?_ | refine V1 ?_ | refine V2 ?_ | refine V3 ?_ | refine V4 (by decide) ?_ | refine V5 ?_ | refine V6 ?_ | refine V7 ?_ | refine V8 ?_ | refine V9 ?_ | refine U1 ?_ | refine U2 ?_ | refine U3 ?_) | (with_reducible refine U4 ?_ ?_; next => first | omega | exact ⟨trivial, by omega⟩) | simp (maxSteps := 2000000) (discharger := first | omega | (simp (discharger := omega) only [Z1, Z2, Z3, Z4, Z5, Z6, Z7] <;> fail) | (simp (discharger := omega) only [Z3, Z8, Z2, Z4, Z1, Z7, Z5, Z6, Z9, Y1, Y2]; omega)) only [go_sem])
    refine swp_cond _ rfl (fun h => ?_) (fun h => ?_)
    · have hlt : j < n := by simpa using h
      have hq := hos j (Nat.le_refl _) hlt
      have hql : (sub l (j * 27) 27).length = 27 := sub_length (by omega)
      have hz' : zAt l j = hasZ (sub l (j * 27) 27) := rfl
      have hst : keptL l (j + 1) = if zAt l j then keptL l j else keptL l j ++ sub l (j * 27) 27 := rfl
      generalize hqd : sub l (j * 27) 27 = q at hql hz' hq hst
      repeat' (first | (with_reducible first | refine W1 ?_ | refine W2 ?_ | refine W3 ?_ | refine W4 mixed ?_ | refine W5 ?_ | refine W6 ?_ | refine W7 ?_ | refine W8 ?_ | refine W9 ?_ | refine V1 ?_ | refine V2 ?_ | refine V3 ?_ | refine V4 (by decide) ?_ | refine V5 ?_ | refine V6 ?_ | refine V7 ?_ | refine V8 ?_ | refine V9 ?_ | refine U1 ?_ | refine U2 ?_ | refine U3 ?_) | (with_reducible refine U4 ?_ ?_; next => first | omega | exact ⟨trivial, by omega⟩) | simp (maxSteps := 2000000) (discharger := first | omega | (simp (discharger := omega) only [Z1, Z2, Z3, Z4, Z5, Z6, Z7] <;> fail) | (simp (discharger := omega) only [Z3, Z8, Z2, Z4, Z1, Z7, Z5, Z6, Z9, Y1, Y2]; omega)) only [go_sem, upd_same, updF2, hq])
      refine call_pure (hasZero_spec hql) ?_
      rw [← hz']
      cases hzj : zAt l j with
      | true =>
        repeat' (first | (with_reducible first | refine W1 ?_ | refine W2 ?_ | refine W3 ?_ | refine W4 mixed ?_ | refine W5 ?_ | refine W6 ?_ | refine W7 ?_ | refine W8 ?_ | refine W9 ?_ | refine V1 ?_ | refine V2 ?_ | refine V3 ?_ | refine V4 (by decide) ?_ | refine V5 ?_ | refine V6 ?_ | refine V7 ?_ | refine V8 ?_ | refine V9 ?_ | refine U1 ?_ | refine U2 ?_ | refine U3 ?_) | (with_reducible refine U4 ?_ ?_; next => first | omega | exact ⟨trivial, by omega⟩) | ((with_reducible refine U5 _ rfl (fun hq => ?_) (fun hq => ?_)) <;> try (first | (cases hq; done) | exact absurd hq (by decide))) | ((with_reducible refine U6 (fun hq => ?_) (fun hq => ?_)) <;> try (first | (cases hq; done) | exact absurd hq (by decide))) | simp (maxSteps := 2000000) (discharger := first | omega | (simp (discharger := omega) only [Z1, Z2, Z3, Z4, Z5, Z6, Z7] <;> fail) | (simp (discharger := omega) only [Z3, Z8, Z2, Z4, Z1, Z7, Z5, Z6, Z9, Y1, Y2]; omega)) only [go_sem, upd_same, updF2])
        refine forK_same (i, j + 1, o, _) (by dsimp only; omega) ⟨by dsimp only; omega, by dsimp only; omega, ?_, hol, ?_, fun t h1 h2 => hos t (by dsimp only at h1; omega) h2⟩ rfl (by repeat' (first | exact trivial | exact .inl rfl | exact .inr rfl | refine ⟨?_, ?_⟩))
        · dsimp only; simp only [keptN, hzj, if_true]; exact hi
        · dsimp only; rw [hst, hzj]; exact hot
      | false =>
        have hb : i * 27 + q.length ≤ o.length := by rw [hql, hol]; omega
        repeat' (first | (with_reducible first | refine W1 ?_ | refine W2 ?_ | refine W3 ?_ | refine W4 mixed ?_ | refine W5 ?_ | refine W6 ?_ | refine W7 ?_ | refine W8 ?_ | refine W9 ?_ | refine V1 ?_ | refine V2 ?_ | refine V3 ?_ | refine V4 (by decide) ?_ | refine V5 ?_ | refine V6 ?_ | refine V7 ?_ | refine V8 ?_ | refine V9 ?_ | refine U1 ?_ | refine U2 ?_ | refine U3 ?_) | (with_reducible refine U4 ?_ ?_; next => first | omega | exact ⟨trivial, by omega⟩) | ((with_reducible refine U5 _ rfl (fun hq => ?_) (fun hq => ?_)) <;> try (first | (cases hq; done) | exact absurd hq (by decide))) | ((with_reducible refine U6 (fun hq => ?_) (fun hq => ?_)) <;> try (first | (cases hq; done) | exact absurd hq (by decide))) | simp (maxSteps := 2000000) (discharger := first | omega | (simp (discharger := omega) only [Z1, Z2, Z3, Z4, Z5, Z6, Z7] <;> fail) | (simp (discharger := omega) only [Z3, Z8, Z2, Z4, Z1, Z7, Z5, Z6, Z9, Y1, Y2]; omega)) only [go_sem, upd_same, updF2])
        refine forK_same (i + 1, j + 1, putL o (i * 27) q, _) (by dsimp only; omega) ⟨by dsimp only; omega, by dsimp only; omega, ?_, by dsimp only; rw [putL_len]; exact hol, ?_, fun t h1 h2 => ?_⟩ rfl (by repeat' (first | exact trivial | exact .inl rfl | exact .inr rfl | refine ⟨?_, ?_⟩))
        · dsimp only; simp only [keptN, hzj, Bool.false_eq_true, if_false]; omega
        · dsimp only; rw [hst, hzj, ← hot]
          have := putL_take hb
          rw [hql] at this
          rw [Nat.add_mul]
          exact this
        · dsimp only at h1 ⊢
          rw [putL_sub_out hb (by omega) (by omega)]
          exact hos t (by omega) h2
    · have hlt : j = n := by have : ¬ j < n := by simpa using h
                             omega
      subst hlt
      have hz0 : putL o (i * 27) (zeros ((j - i) * 27)) = keptL l j ++ zeros ((j - i) * 27) := by
        rw [putL_zeros (by rw [hol, ← Nat.add_mul]; congr 1; omega), hot]
      rw [hi] at hz0
      subst hi
      have hb : keptN l j * 27 + (zeros ((j - keptN l j) * 27)).length ≤ o.length := by rw [zeros_length, hol, ← Nat.add_mul]; exact Nat.mul_le_mul_right _ (by omega)
      have hsz : keptN l j * 27 + (j - keptN l j) * 27 ≤ o.length := by rwa [zeros_length] at hb
      repeat' (first | (with_reducible first | refine W1 ?_ | refine W2 ?_ | refine W3 ?_ | refine W4 mixed ?_ | refine W5 ?_ | refine W6 ?_ | refine W7 ?_ | refine W8 ?_ | refine W9 ?_ | refine V1 ?_ | refine V2 ?_ | refine V3 ?_ | refine V4 (by decide) ?_ | refine V5 ?_ | refine V6 ?_ | refine V7 ?_ | refine V8 ?_ | refine V9 ?_ | refine U1 ?_ | refine U2 ?_ | refine U3 ?_) | (with_reducible refine U4 ?_ ?_; next => first | omega | exact ⟨trivial, by omega⟩) | simp (maxSteps := 2000000) (discharger := first | omega | (simp (discharger := omega) only [Z1, Z2, Z3, Z4, Z5, Z6, Z7] <;> fail) | (simp (discharger := omega) only [Z3, Z8, Z2, Z4, Z1, Z7, Z5, Z6, Z9, Y1, Y2]; omega)) only [go_sem, upd_same, updF2, hz0])
      refine ret_upd0 hN hk hkf (flat_u8s _) [.c (.slice k 0 (keptN l j) 27)] ⟨rfl, trivial⟩ rfl ?_ rfl
      simp only [AV.idsT, AV.ids1, Cell.ids, List.mem_singleton]
      rintro q rfl
      exact hkf

theorem kept_spec {k n : Nat} {l : List Int} (hl : l.length = n * 27) (hn : n ≤ 1048576) : FSpec Try.prog 159 [.c (.slice k 0 n 27)] (.c (.slice k 0 (keptN l n) 27)) [(k, ⟨u8s l, true⟩)] [(k, .live ⟨u8s (keptL l n), true⟩)] := by
  refine FSpec.of f_impl_kept (Nat.le_of_ble_eq_true rfl) fun G N hN hr hw => ?_
  simp only [c_impl_kept, List.length_cons, List.length_nil, List.replicate, List.cons_append, List.nil_append]
  obtain ⟨g2, hk⟩ := hr _ (List.mem_singleton.2 rfl)
  dsimp only at g2 hk
  have hkf : G k ≠ .free := by rw [g2]; simp
  repeat' (first | (with_reducible first | refine W1 ?_ | refine W2 ?_ | refine W3 ?_ | refine W4 mixed ?_ | refine W5 ?_ | refine W6 ?_ | refine W7 ?_ | refine W8 ?_ | refine W9 ?_ | refine V1 ?_ | refine V2 ?_ | refine V3 ?_ | refine V4 (by decide) ?_ | refine V5 ?_ | refine V6 ?_ | refine V7 ?_ | refine V8 ?_ | refine V9 ?_ | refine U1 ?_ | refine U2 ?_ | refine U3 ?_) | (with_reducible refine U4 ?_ ?_; next => first | omega | exact ⟨trivial, by omega⟩) | simp (maxSteps := 2000000) (discharger := first | omega | (simp (discharger := omega) only [Z1, Z2, Z3, Z4, Z5, Z6, Z7] <;> fail) | (simp (discharger := omega) only [Z3, Z8, Z2, Z4, Z1, Z7, Z5, Z6, Z9, Y1, Y2]; omega)) only [go_sem])
  refine call_intro (deleteZ_spec hl hn) (get_rd hr) wr1 ?_
  simp (maxSteps := 2000000) (discharger := first | omega | (simp (discharger := omega) only [Z1, Z2, Z3, Z4, Z5, Z6, Z7] <;> fail) | (simp (discharger := omega) only [Z3, Z8, Z2, Z4, Z1, Z7, Z5, Z6, Z9, Y1, Y2]; omega)) only [go_sem]
  refine W1 ?_
  refine swp_trunc (k := k) (cs := u8s (keptL l n ++ zeros ((n - keptN l n) * 27))) (own := true) (keptN l n * 27) ?_ ?_
  · simp (maxSteps := 2000000) (discharger := first | omega | (simp (discharger := omega) only [Z1, Z2, Z3, Z4, Z5, Z6, Z7] <;> fail) | (simp (discharger := omega) only [Z3, Z8, Z2, Z4, Z1, Z7, Z5, Z6, Z9, Y1, Y2]; omega)) only [go_sem, upd_same]
  repeat' (first | (with_reducible first | refine W1 ?_ | refine W2 ?_ | refine W3 ?_ | refine W4 mixed ?_ | refine W5 ?_ | refine W6 ?_ | refine W7 ?_ | refine W8 ?_ | refine W9 ?_ | refine V1 ?_ | refine V2 ?_ | refine V3 ?_ | refine V4 (by decide) ?_ | refine V5 ?_ | refine V6 ?_ | refine V7 ?_ | refine V8 ?_ | refine V9 ?_ | refine U1 ?_ | refine U2 ?_ | refine U3 ?_) | (with_reducible refine U4 ?_ ?_; next => first | omega | exact ⟨trivial, by omega⟩) | simp (maxSteps := 2000000) (discharger := first | omega | (simp (discharger := omega) only [Z1, Z2, Z3, Z4, Z5, Z6, Z7] <;> fail) | (simp (discharger := omega) only [Z3, Z8, Z2, Z4, Z1, Z7, Z5, Z6, Z9, Y1, Y2]; omega)) only [go_sem, updF2])
  rw [show (u8s (keptL l n ++ zeros ((n - keptN l n) * 27))).take (keptN l n * 27) = u8s (keptL l n) by rw [u8s, ← List.map_take, List.take_append_of_le_length (by rw [keptL_length hl (Nat.le_refl _)]; exact Nat.le_refl _), List.take_of_length_le (by rw [keptL_length hl (Nat.le_refl _)]; exact Nat.le_refl _)]; rfl]
  refine ret_upd0 hN hk hkf (flat_u8s _) [.c (.slice k 0 (keptN l n) 27)] ⟨rfl, trivial⟩ rfl ?_ rfl
  simp only [AV.idsT, AV.ids1, Cell.ids, List.mem_singleton]
  rintro q rfl
  exact hkf
end Go.Proofs.Ytcmmbnhdfkcpdaa
