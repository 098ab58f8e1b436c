/- MergeScheme, both sides. -/
import Derived.Test.YtkalaahmbdimfaaX3
import Derived.Test.YtkalaahmbdimfaaX4
import Derived.Test.YtkalaahmbdimfaaW3
namespace Go.Proofs.Ytkalaahmbdimfaa
open Go Go.Abs
set_option maxRecDepth 100000
/- loop.example/g01262/impl.MergeScheme -/
def c_impl_MergeScheme : SFn := ⟨(.seq (.ops [⟨some 1, .box 56 (.tmp 0), none⟩, ⟨some 2, .alloc 56, none⟩, ⟨some 3, .assign (.const (.int .i64 0)), none⟩])
 (.seq (.seq (.ops [⟨some 6, .load 56 (.tmp 1), none⟩, ⟨some 7, .call ⟨.value (.func 168), #[.tmp 6], #[56]⟩, none⟩, ⟨some 8, .unOp .not 4 (.tmp 7), none⟩])
   (.cond (.tmp 8) (.seq (.ops [⟨some 9, .build 56 #[], none⟩, ⟨none, .store 56 (.tmp 2) (.tmp 9), none⟩, ⟨some 3, .assign (.const (.int .i64 1)), none⟩])
     .ret)
    .skip))
  (.seq (.ops [⟨some 10, .fieldAddr 56 (.tmp 1) 4, none⟩, ⟨some 11, .load 54 (.tmp 10), none⟩, ⟨some 12, .call ⟨.value (.func 170), #[.tmp 11], #[54]⟩, none⟩, ⟨some 4, .assign (.tmp 12), none⟩, ⟨some 5, .assign (.const (.bool true)), none⟩])
   (.seq (.block 0 (.loop (.seq (.seq (.ops [⟨some 13, .move (.tmp 5), none⟩])
        (.cond (.tmp 13) .skip
         (.exit 0)))
       (.block 1 (.ops [⟨some 15, .fieldAddr 56 (.tmp 1) 0, none⟩, ⟨some 16, .load 2 (.tmp 15), none⟩, ⟨some 17, .move (.tmp 4), none⟩, ⟨some 18, .call ⟨.value (.func 180), #[.tmp 16, .tmp 17], #[2, 54]⟩, none⟩, ⟨some 14, .move (.tmp 18), none⟩, ⟨some 19, .extract (.tmp 14) 0, none⟩, ⟨some 20, .extract (.tmp 14) 1, none⟩, ⟨some 4, .assign (.tmp 19), none⟩, ⟨some 5, .assign (.tmp 20), none⟩])))))
    (.seq (.ops [⟨some 21, .load 56 (.tmp 1), none⟩, ⟨some 22, .move (.tmp 4), none⟩, ⟨some 23, .call ⟨.value (.func 175), #[.tmp 21, .tmp 22], #[56, 54]⟩, none⟩, ⟨none, .store 56 (.tmp 2) (.tmp 23), none⟩, ⟨some 3, .assign (.const (.int .i64 0)), none⟩])
     .ret))))), [.cell 2 56, .tmp 3], 24⟩
theorem f_impl_MergeScheme : isFn Go.Proofs.Try.prog 46 = some c_impl_MergeScheme := by kernel_rfl

/- loop.example/g01262/spec.MergeScheme -/
def c_spec_MergeScheme : SFn := ⟨(.seq (.ops [⟨some 1, .box 56 (.tmp 0), none⟩, ⟨some 2, .alloc 56, none⟩, ⟨some 3, .assign (.const (.int .i64 0)), none⟩])
 (.seq (.seq (.ops [⟨some 9, .load 56 (.tmp 1), none⟩, ⟨some 10, .call ⟨.value (.func 161), #[.tmp 9], #[56]⟩, none⟩, ⟨some 11, .unOp .not 4 (.tmp 10), none⟩])
   (.cond (.tmp 11) (.seq (.ops [⟨some 12, .build 56 #[], none⟩, ⟨none, .store 56 (.tmp 2) (.tmp 12), none⟩, ⟨some 3, .assign (.const (.int .i64 1)), none⟩])
     .ret)
    .skip))
  (.seq (.ops [⟨some 13, .buildSlice 54 0 #[], none⟩, ⟨some 14, .fieldAddr 56 (.tmp 1) 4, none⟩, ⟨some 15, .load 54 (.tmp 14), none⟩, ⟨some 16, .call ⟨.builtin .append, #[.tmp 13, .tmp 15], #[54, 54]⟩, none⟩, ⟨some 4, .assign (.tmp 16), none⟩, ⟨some 5, .assign (.const (.bool true)), none⟩])
   (.seq (.block 0 (.loop (.seq (.seq (.ops [⟨some 17, .move (.tmp 5), none⟩])
        (.cond (.tmp 17) .skip
         (.exit 0)))
       (.block 1 (.seq (.ops [⟨some 19, .fieldAddr 56 (.tmp 1) 0, none⟩, ⟨some 20, .load 2 (.tmp 19), none⟩, ⟨some 21, .move (.tmp 4), none⟩, ⟨some 22, .call ⟨.value (.func 179), #[.tmp 20, .tmp 21], #[2, 54]⟩, none⟩, ⟨some 18, .move (.tmp 22), none⟩, ⟨some 23, .extract (.tmp 18) 0, none⟩, ⟨some 24, .extract (.tmp 18) 1, none⟩, ⟨some 6, .assign (.tmp 23), none⟩, ⟨some 7, .assign (.tmp 24), none⟩])
         (.seq (.ops [⟨some 25, .move (.tmp 6), none⟩, ⟨some 4, .assign (.tmp 25), none⟩])
          (.ops [⟨some 26, .move (.tmp 7), none⟩, ⟨some 5, .assign (.tmp 26), none⟩])))))))
    (.seq (.ops [⟨some 27, .load 56 (.tmp 1), none⟩, ⟨some 28, .call ⟨.value (.func 166), #[.tmp 27], #[56]⟩, none⟩, ⟨some 8, .alloc 56, none⟩, ⟨none, .store 56 (.tmp 8) (.tmp 28), none⟩])
     (.seq (.ops [⟨some 29, .move (.tmp 4), none⟩, ⟨some 30, .fieldAddr 56 (.tmp 8) 4, none⟩, ⟨none, .store 54 (.tmp 30) (.tmp 29), none⟩])
      (.seq (.ops [⟨some 31, .load 56 (.tmp 8), none⟩, ⟨none, .store 56 (.tmp 2) (.tmp 31), none⟩, ⟨some 3, .assign (.const (.int .i64 0)), none⟩])
       .ret))))))), [.cell 2 56, .tmp 3], 32⟩
theorem f_spec_MergeScheme : isFn Go.Proofs.Try.prog 45 = some c_spec_MergeScheme := by kernel_rfl


set_option maxRecDepth 100000
set_option maxHeartbeats 16000000
set_option linter.unusedVariables false
attribute [-simp] List.getD_eq_getElem?_getD
attribute [-go_sem] confV

section
variable {p : Int} {n m f : Nat} {l o : List Int}
theorem mgAll_stop (h : PrOk p n l) (hn : ¬ mgIn l n < n) : mgAll p f l = l := by
  cases f with
  | zero => rfl
  | succ f => rw [mgAll, h.len, Nat.mul_div_cancel _ (by decide), if_neg hn]
theorem mgAll_go (h : PrOk p n l) (hn : mgIn l n < n) : mgAll p (f + 1) l = mgAll p f (mgOne p l n) := by
  rw [mgAll, h.len, Nat.mul_div_cancel _ (by decide), if_pos hn]
theorem mgJn_lt : mgIn l n < n → mgIn l n < mgJn l n (mgIn l n) ∧ mgJn l n (mgIn l n) < n := by
  intro h
  have key : ∀ (f i : Nat), i + f = n → mgI l n f i < n → mgJn l n (mgI l n f i) < n := by
    intro f
    induction f with
    | zero => intro i h1 h2; rw [mgI] at h2; omega
    | succ f ih =>
      intro i h1 h2
      by_cases hc : mgJn l n i < n
      · rw [mgI, if_pos hc] at h2 ⊢; exact hc
      · rw [mgI, if_neg hc] at h2 ⊢; exact ih (i + 1) (by omega) h2
  have h1 := key n 0 (by omega) h
  refine ⟨?_, h1⟩
  have := (mgJ_ge (l := l) (i := mgIn l n) (f := n - (mgIn l n + 1)) (j := mgIn l n + 1)).1
  unfold mgJn
  omega
theorem wkOneZ_ok (hp : 2 ≤ p ∧ p ≤ 5) (h : PrOk p n l) (hn : mgIn l n < n) : PrOk p (mgN p l n) (mgOne p l n) ∧ mgN p l n + 1 ≤ n := by
  obtain ⟨h1, h2⟩ := mgJn_lt hn
  have hg : Int.toNat (thirdV (prAt l (mgIn l n)) (prAt l (mgJn l n (mgIn l n)))) < 3 := by
    rcases thirdV_rng (prAt l (mgIn l n)) (prAt l (mgJn l n (mgIn l n))) with e | ⟨g, hg, e⟩ <;> rw [e] <;> simp <;> omega
  have hr := h.mraw hp h1 h2 hg
  refine ⟨hr.kept, ?_⟩
  have := keptN_le (mgRaw p l (mgIn l n) (mgJn l n (mgIn l n))) (n - 1)
  unfold mgN
  omega
end

def mgCode (p n m k : Int) (len : Nat) (l : List Int) : Int := if schemeOk p n m k len l then 0 else 1

/-- What holds between merges. -/
structure MG (p : Int) (FIN : List Int) (s0 s1 : Slot) (f m : Nat) (o : List Int) (L : List Slot) (q : Nat) (b : Bool) : Prop where
  w1 : 2 ≤ L.length
  w2 : gd L 0 = s0
  w3 : gd L 1 = s1
  w4 : q < L.length
  w5 : 2 ≤ q
  w6 : gd L q = .live ⟨u8s o, true⟩
  w7 : m ≤ 30
  w8 : PrOk p m o
  w9 : m ≤ f
  wa : mgAll p f o = FIN
  wb : b = false → FIN = o

section
variable {c : Cell} {rs : List (Nat × AObj)} {len : Nat} {l : List Int}
theorem implMerge_err (p n m k : Int) (hc : Sl 27 (u8s l) len c rs) (hl : l.length = len * 27) (hn : len ≤ 1048576) (hb : byteL l) (hok : schemeOk p n m k len l = false) :
    FSpec Try.prog 46 [.agg (tenC p n m k c)] (.tup [.agg (tenC 0 0 0 0 .nils), .c (.int .i64 (1))]) rs [] := by
  refine FSpec.of f_impl_MergeScheme (Nat.le_of_ble_eq_true rfl) fun G N hN hr hw => ?_
  simp only [c_impl_MergeScheme, List.length_cons, List.length_nil, List.replicate, List.cons_append, List.nil_append]
  repeat' (first | (with_reducible first | refine W1 ?_ | refine W2 ?_ | refine W3 ?_ | refine W4 mixed ?_ | refine W5 ?_ | refine W6 ?_ | refine W7 ?_ | refine W8 ?_ | refine W9 ?_ | refine V1 ?_ | refine V2 ?_ | refine V3 ?_ | refine V4 (by decide) ?_ | refine V5 ?_ | refine V6 ?_ | refine V7 ?_ | refine V8 ?_ | refine V9 ?_ | refine U1 ?_ | refine U2 ?_ | refine U3 ?_) | (with_reducible refine U4 ?_ ?_; next => first | omega | exact ⟨trivial, by omega⟩) | simp (maxSteps := 2000000) (discharger := first | omega | (simp (discharger := omega) only [Z1, Z2, Z3, Z4, Z5, Z6, Z7] <;> fail) | (simp (discharger := omega) only [Z3, Z8, Z2, Z4, Z1, Z7, Z5, Z6, Z9, Y1, Y2]; omega)) only [go_sem])
  refine call_ro (implIsScheme_spec p n m k hc hl (by omega) hb) (get_rd hr) ?_
  repeat' (first | (with_reducible first | refine W1 ?_ | refine W2 ?_ | refine W3 ?_ | refine W4 mixed ?_ | refine W5 ?_ | refine W6 ?_ | refine W7 ?_ | refine W8 ?_ | refine W9 ?_ | refine V1 ?_ | refine V2 ?_ | refine V3 ?_ | refine V4 (by decide) ?_ | refine V5 ?_ | refine V6 ?_ | refine V7 ?_ | refine V8 ?_ | refine V9 ?_ | refine U1 ?_ | refine U2 ?_ | refine U3 ?_) | (with_reducible refine U4 ?_ ?_; next => first | omega | exact ⟨trivial, by omega⟩) | ((with_reducible refine U5 _ rfl (fun hq => ?_) (fun hq => ?_)) <;> try (first | (cases hq; done) | exact absurd hq (by decide))) | ((with_reducible refine U6 (fun hq => ?_) (fun hq => ?_)) <;> try (first | (cases hq; done) | exact absurd hq (by decide))) | simp (maxSteps := 2000000) (discharger := first | omega | (simp (discharger := omega) only [Z1, Z2, Z3, Z4, Z5, Z6, Z7] <;> fail) | (simp (discharger := omega) only [Z3, Z8, Z2, Z4, Z1, Z7, Z5, Z6, Z9, Y1, Y2]; omega)) only [go_sem, hok])
  exact ret_none hN [.agg (tenC 0 0 0 0 .nils), .c (.int .i64 (1))] ⟨res_aggN (own := true) tyo_56 rfl rfl rfl rfl, rfl, trivial⟩ rfl rfl rfl (by simp)

theorem implMerge_ok (p n m k : Int) (hc : Sl 27 (u8s l) len c rs) (hl : l.length = len * 27) (hb : byteL l) (hok : schemeOk p n m k len l = true) {q : Nat} (hql : (mgAll p len l).length = q * 27) (x : Nat) (hx : ∀ p ∈ rs, p.1 ≠ x) :
    FSpec Try.prog 46 [.agg (tenC p n m k c)] (.tup [.agg (tenC p n m k (.slice x 0 q 27)), .c (.int .i64 (0))]) rs [(x, .live ⟨u8s (mgAll p len l), true⟩)] := by
  have hn := (sch_sides hok).2.2.2
  have hpr := scheme_nums hl hb hok
  have hp : 2 ≤ p ∧ p ≤ 5 := by
    have : isP p = true := by simp only [schemeOk, Bool.and_eq_true] at hok; exact hok.1.1.1.1.1
    simp [isP] at this; omega
  refine FSpec.of f_impl_MergeScheme (Nat.le_of_ble_eq_true rfl) fun G N hN hr hw => ?_
  simp only [c_impl_MergeScheme, List.length_cons, List.length_nil, List.replicate, List.cons_append, List.nil_append]
  have hfree := new_free (hw _ (List.mem_singleton.2 rfl)).2 hx
  repeat' (first | (with_reducible first | refine W1 ?_ | refine W2 ?_ | refine W3 ?_ | refine W4 mixed ?_ | refine W5 ?_ | refine W6 ?_ | refine W7 ?_ | refine W8 ?_ | refine W9 ?_ | refine V1 ?_ | refine V2 ?_ | refine V3 ?_ | refine V4 (by decide) ?_ | refine V5 ?_ | refine V6 ?_ | refine V7 ?_ | refine V8 ?_ | refine V9 ?_ | refine U1 ?_ | refine U2 ?_ | refine U3 ?_) | (with_reducible refine U4 ?_ ?_; next => first | omega | exact ⟨trivial, by omega⟩) | simp (maxSteps := 2000000) (discharger := first | omega | (simp (discharger := omega) only [Z1, Z2, Z3, Z4, Z5, Z6, Z7] <;> fail) | (simp (discharger := omega) only [Z3, Z8, Z2, Z4, Z1, Z7, Z5, Z6, Z9, Y1, Y2]; omega)) only [go_sem])
  refine call_ro (implIsScheme_spec p n m k hc hl (by omega) hb) (get_rd hr) ?_
  repeat' (first | (with_reducible first | refine W1 ?_ | refine W2 ?_ | refine W3 ?_ | refine W4 mixed ?_ | refine W5 ?_ | refine W6 ?_ | refine W7 ?_ | refine W8 ?_ | refine W9 ?_ | refine V1 ?_ | refine V2 ?_ | refine V3 ?_ | refine V4 (by decide) ?_ | refine V5 ?_ | refine V6 ?_ | refine V7 ?_ | refine V8 ?_ | refine V9 ?_ | refine U1 ?_ | refine U2 ?_ | refine U3 ?_) | (with_reducible refine U4 ?_ ?_; next => first | omega | exact ⟨trivial, by omega⟩) | ((with_reducible refine U5 _ rfl (fun hq => ?_) (fun hq => ?_)) <;> try (first | (cases hq; done) | exact absurd hq (by decide))) | ((with_reducible refine U6 (fun hq => ?_) (fun hq => ?_)) <;> try (first | (cases hq; done) | exact absurd hq (by decide))) | simp (maxSteps := 2000000) (discharger := first | omega | (simp (discharger := omega) only [Z1, Z2, Z3, Z4, Z5, Z6, Z7] <;> fail) | (simp (discharger := omega) only [Z3, Z8, Z2, Z4, Z1, Z7, Z5, Z6, Z9, Y1, Y2]; omega)) only [go_sem, hok])
  refine call_new1 (fun y hy => cloneP_spec hc hl (by omega) y hy) (get_rd hr) nxt_free ?_
  repeat' (first | (with_reducible first | refine W1 ?_ | refine W2 ?_ | refine W3 ?_ | refine W4 mixed ?_ | refine W5 ?_ | refine W6 ?_ | refine W7 ?_ | refine W8 ?_ | refine W9 ?_ | refine V1 ?_ | refine V2 ?_ | refine V3 ?_ | refine V4 (by decide) ?_ | refine V5 ?_ | refine V6 ?_ | refine V7 ?_ | refine V8 ?_ | refine V9 ?_ | refine U1 ?_ | refine U2 ?_ | refine U3 ?_) | (with_reducible refine U4 ?_ ?_; next => first | omega | exact ⟨trivial, by omega⟩) | simp (maxSteps := 2000000) (discharger := first | omega | (simp (discharger := omega) only [Z1, Z2, Z3, Z4, Z5, Z6, Z7] <;> fail) | (simp (discharger := omega) only [Z3, Z8, Z2, Z4, Z1, Z7, Z5, Z6, Z9, Y1, Y2]; omega)) only [go_sem])
  refine swp_for (fun (z : Nat × Nat × List Int × List Slot × Nat × Bool) => ([.any, .c (.ptr (nid N 0) 0), .c (.ptr (nid N 1) 0), .any, .c (.slice (nid N z.2.2.2.2.1) 0 z.2.1 27), .c (.bool z.2.2.2.2.2)] ++ List.replicate 18 .any)) (fun z => ⟨G, N, z.2.2.2.1⟩) (fun z => 2 * z.1 + z.2.2.2.2.2.toNat) (fun z => MG p (mgAll p len l) (.live ⟨tenC p n m k c, true⟩) (.live ⟨tenC 0 0 0 0 .nils, true⟩) z.1 z.2.1 z.2.2.1 z.2.2.2.1 z.2.2.2.2.1 z.2.2.2.2.2) (len, len, l, _, 2, true) ⟨by simp, rfl, rfl, by simp, by simp, rfl, hn, hpr, Nat.le_refl _, rfl, by simp⟩ rfl (by repeat' (first | exact trivial | exact .inl rfl | exact .inr rfl | refine ⟨?_, ?_⟩)) ?_
  rintro ⟨f, mm, o, L, qq, b⟩ hM
  dsimp only at hM
  obtain ⟨f1, f2, f3, f4, f5, f6, f7, f8, f9, fa, fb⟩ := id hM
  simp only [List.replicate, List.cons_append, List.nil_append]
  repeat' (first | (with_reducible first | refine W1 ?_ | refine W2 ?_ | refine W3 ?_ | refine W4 mixed ?_ | refine W5 ?_ | refine W6 ?_ | refine W7 ?_ | refine W8 ?_ | refine W9 ?_ | refine V1 ?_ | refine V2 ?_ | refine V3 ?_ | refine V4 (by decide) ?_ | refine V5 ?_ | refine V6 ?_ | refine V7 ?_ | refine V8 ?_ | refine V9 ?_ | refine U1 ?_ | refine U2 ?_ | refine U3 ?_) | (with_reducible refine U4 ?_ ?_; next => first | omega | exact ⟨trivial, by omega⟩) | simp (maxSteps := 2000000) (discharger := first | omega | (simp (discharger := omega) only [Z1, Z2, Z3, Z4, Z5, Z6, Z7] <;> fail) | (simp (discharger := omega) only [Z3, Z8, Z2, Z4, Z1, Z7, Z5, Z6, Z9, Y1, Y2]; omega)) only [go_sem])
  refine swp_cond _ rfl (fun hcd => ?_) (fun hcd => ?_)
  · subst hcd
    have hnk : qq ≠ L.length := by omega
    by_cases hfd : mgIn o mm < mm
    · obtain ⟨k1, k2⟩ := wkOneZ_ok hp f8 hfd
      obtain ⟨f', rfl⟩ : ∃ f', f = f' + 1 := ⟨f - 1, by omega⟩
      rw [mgAll_go f8 hfd] at fa
      have sp := fun y hy => mergeOnce_spec (k := nid N qq) (own := true) hp f8 (by omega) y hy
      simp only [if_pos hfd] at sp
      simp only [tenC] at f2
      repeat' (first | (with_reducible first | refine W1 ?_ | refine W2 ?_ | refine W3 ?_ | refine W4 mixed ?_ | refine W5 ?_ | refine W6 ?_ | refine W7 ?_ | refine W8 ?_ | refine W9 ?_ | refine V1 ?_ | refine V2 ?_ | refine V3 ?_ | refine V4 (by decide) ?_ | refine V5 ?_ | refine V6 ?_ | refine V7 ?_ | refine V8 ?_ | refine V9 ?_ | refine U1 ?_ | refine U2 ?_ | refine U3 ?_) | (with_reducible refine U4 ?_ ?_; next => first | omega | exact ⟨trivial, by omega⟩) | simp (maxSteps := 2000000) (discharger := first | omega | (simp (discharger := omega) only [Z1, Z2, Z3, Z4, Z5, Z6, Z7] <;> fail) | (simp (discharger := omega) only [Z3, Z8, Z2, Z4, Z1, Z7, Z5, Z6, Z9, Y1, Y2]; omega)) only [go_sem, f2])
      refine call_new1 (rs := [(nid N qq, ⟨u8s o, true⟩)]) (fun y hy => sp y (fun e => hy _ (List.mem_singleton.2 rfl) e.symm)) (rd1 f6) (AHeap.get_nxt _) ?_
      repeat' (first | (with_reducible first | refine W1 ?_ | refine W2 ?_ | refine W3 ?_ | refine W4 mixed ?_ | refine W5 ?_ | refine W6 ?_ | refine W7 ?_ | refine W8 ?_ | refine W9 ?_ | refine V1 ?_ | refine V2 ?_ | refine V3 ?_ | refine V4 (by decide) ?_ | refine V5 ?_ | refine V6 ?_ | refine V7 ?_ | refine V8 ?_ | refine V9 ?_ | refine U1 ?_ | refine U2 ?_ | refine U3 ?_) | (with_reducible refine U4 ?_ ?_; next => first | omega | exact ⟨trivial, by omega⟩) | simp (maxSteps := 2000000) (discharger := first | omega | (simp (discharger := omega) only [Z1, Z2, Z3, Z4, Z5, Z6, Z7] <;> fail) | (simp (discharger := omega) only [Z3, Z8, Z2, Z4, Z1, Z7, Z5, Z6, Z9, Y1, Y2]; omega)) only [go_sem])
      refine forK_same (f', mgN p o mm, mgOne p o mm, _, L.length, true) (by simp) ?_ rfl (by repeat' (first | exact trivial | exact .inl rfl | exact .inr rfl | refine ⟨?_, ?_⟩))
      dsimp only
      refine ⟨?_, ?_, ?_, ?_, ?_, ?_, ?_, k1, ?_, fa, by simp⟩
      all_goals try simp (maxSteps := 2000000) (discharger := first | omega | (simp (discharger := omega) only [Z1, Z2, Z3, Z4, Z5, Z6, Z7] <;> fail) | (simp (discharger := omega) only [Z3, Z8, Z2, Z4, Z1, Z7, Z5, Z6, Z9, Y1, Y2]; omega)) only [go_sem, f2, f3, f6, tenC]
      all_goals try omega
    · have sp := fun y hy => mergeOnce_spec (k := nid N qq) (own := true) hp f8 (by omega) y hy
      simp only [if_neg hfd] at sp
      rw [mgAll_stop f8 hfd] at fa
      simp only [tenC] at f2
      repeat' (first | (with_reducible first | refine W1 ?_ | refine W2 ?_ | refine W3 ?_ | refine W4 mixed ?_ | refine W5 ?_ | refine W6 ?_ | refine W7 ?_ | refine W8 ?_ | refine W9 ?_ | refine V1 ?_ | refine V2 ?_ | refine V3 ?_ | refine V4 (by decide) ?_ | refine V5 ?_ | refine V6 ?_ | refine V7 ?_ | refine V8 ?_ | refine V9 ?_ | refine U1 ?_ | refine U2 ?_ | refine U3 ?_) | (with_reducible refine U4 ?_ ?_; next => first | omega | exact ⟨trivial, by omega⟩) | simp (maxSteps := 2000000) (discharger := first | omega | (simp (discharger := omega) only [Z1, Z2, Z3, Z4, Z5, Z6, Z7] <;> fail) | (simp (discharger := omega) only [Z3, Z8, Z2, Z4, Z1, Z7, Z5, Z6, Z9, Y1, Y2]; omega)) only [go_sem, f2])
      refine call_ro (sp (nid N qq + 1) (by omega)) (rd1 f6) ?_
      repeat' (first | (with_reducible first | refine W1 ?_ | refine W2 ?_ | refine W3 ?_ | refine W4 mixed ?_ | refine W5 ?_ | refine W6 ?_ | refine W7 ?_ | refine W8 ?_ | refine W9 ?_ | refine V1 ?_ | refine V2 ?_ | refine V3 ?_ | refine V4 (by decide) ?_ | refine V5 ?_ | refine V6 ?_ | refine V7 ?_ | refine V8 ?_ | refine V9 ?_ | refine U1 ?_ | refine U2 ?_ | refine U3 ?_) | (with_reducible refine U4 ?_ ?_; next => first | omega | exact ⟨trivial, by omega⟩) | simp (maxSteps := 2000000) (discharger := first | omega | (simp (discharger := omega) only [Z1, Z2, Z3, Z4, Z5, Z6, Z7] <;> fail) | (simp (discharger := omega) only [Z3, Z8, Z2, Z4, Z1, Z7, Z5, Z6, Z9, Y1, Y2]; omega)) only [go_sem])
      refine forK_same (f, mm, o, _, qq, false) (by simp) ?_ rfl (by repeat' (first | exact trivial | exact .inl rfl | exact .inr rfl | refine ⟨?_, ?_⟩))
      dsimp only
      refine ⟨f1, f2, f3, f4, f5, f6, f7, f8, f9, ?_, fun _ => fa.symm⟩
      rw [mgAll_stop f8 hfd]
      exact fa
  · subst hcd
    have hF := fb rfl
    have hqq : q = mm := by rw [hF, f8.len] at hql; omega
    rw [hF, hqq]
    simp only [tenC] at f2 f3
    repeat' (first | (with_reducible first | refine W1 ?_ | refine W2 ?_ | refine W3 ?_ | refine W4 mixed ?_ | refine W5 ?_ | refine W6 ?_ | refine W7 ?_ | refine W8 ?_ | refine W9 ?_ | refine V1 ?_ | refine V2 ?_ | refine V3 ?_ | refine V4 (by decide) ?_ | refine V5 ?_ | refine V6 ?_ | refine V7 ?_ | refine V8 ?_ | refine V9 ?_ | refine U1 ?_ | refine U2 ?_ | refine U3 ?_) | (with_reducible refine U4 ?_ ?_; next => first | omega | exact ⟨trivial, by omega⟩) | simp (maxSteps := 2000000) (discharger := first | omega | (simp (discharger := omega) only [Z1, Z2, Z3, Z4, Z5, Z6, Z7] <;> fail) | (simp (discharger := omega) only [Z3, Z8, Z2, Z4, Z1, Z7, Z5, Z6, Z9, Y1, Y2]; omega)) only [go_sem, f2, f3])
    refine call_ro (with_specW p n m k (c := c) (rs := [(nid N qq, ⟨u8s o, true⟩)]) (List.mem_singleton.2 rfl)) (rd1 f6) ?_
    repeat' (first | (with_reducible first | refine W1 ?_ | refine W2 ?_ | refine W3 ?_ | refine W4 mixed ?_ | refine W5 ?_ | refine W6 ?_ | refine W7 ?_ | refine W8 ?_ | refine W9 ?_ | refine V1 ?_ | refine V2 ?_ | refine V3 ?_ | refine V4 (by decide) ?_ | refine V5 ?_ | refine V6 ?_ | refine V7 ?_ | refine V8 ?_ | refine V9 ?_ | refine U1 ?_ | refine U2 ?_ | refine U3 ?_) | (with_reducible refine U4 ?_ ?_; next => first | omega | exact ⟨trivial, by omega⟩) | simp (maxSteps := 2000000) (discharger := first | omega | (simp (discharger := omega) only [Z1, Z2, Z3, Z4, Z5, Z6, Z7] <;> fail) | (simp (discharger := omega) only [Z3, Z8, Z2, Z4, Z1, Z7, Z5, Z6, Z9, Y1, Y2]; omega)) only [go_sem, f3, tenC])
    refine ret_obj hN x qq _ [_, _] ⟨res_aggN (own := true) (cs := tenC p n m k (.slice (nid N qq) 0 mm 27)) tyo_56 rfl rfl ?_ rfl, rfl, trivial⟩ hfree ?_ (flat_u8s _) rfl ?_ ?_
    · simp (maxSteps := 2000000) (discharger := first | omega | (simp (discharger := omega) only [Z1, Z2, Z3, Z4, Z5, Z6, Z7] <;> fail) | (simp (discharger := omega) only [Z3, Z8, Z2, Z4, Z1, Z7, Z5, Z6, Z9, Y1, Y2]; omega)) only [go_sem, tenC]
    · simp (maxSteps := 2000000) (discharger := first | omega | (simp (discharger := omega) only [Z1, Z2, Z3, Z4, Z5, Z6, Z7] <;> fail) | (simp (discharger := omega) only [Z3, Z8, Z2, Z4, Z1, Z7, Z5, Z6, Z9, Y1, Y2]; omega)) only [go_sem, f6]
    · simp [AV.idsT, AV.ids1, tenC, Cell.ids]
    · simp [resOf, renT, ren1, tenC, Cell.mapIds]; try rfl

theorem specMerge_err (p n m k : Int) (hc : Sl 27 (u8s l) len c rs) (hl : l.length = len * 27) (hn : len ≤ 1048576) (hb : byteL l) (hok : schemeOk p n m k len l = false) :
    FSpec Try.prog 45 [.agg (tenC p n m k c)] (.tup [.agg (tenC 0 0 0 0 .nils), .c (.int .i64 (1))]) rs [] := by
  refine FSpec.of f_spec_MergeScheme (Nat.le_of_ble_eq_true rfl) fun G N hN hr hw => ?_
  simp only [c_spec_MergeScheme, List.length_cons, List.length_nil, List.replicate, List.cons_append, List.nil_append]
  repeat' (first | (with_reducible first | refine W1 ?_ | refine W2 ?_ | refine W3 ?_ | refine W4 mixed ?_ | refine W5 ?_ | refine W6 ?_ | refine W7 ?_ | refine W8 ?_ | refine W9 ?_ | refine V1 ?_ | refine V2 ?_ | refine V3 ?_ | refine V4 (by decide) ?_ | refine V5 ?_ | refine V6 ?_ | refine V7 ?_ | refine V8 ?_ | refine V9 ?_ | refine U1 ?_ | refine U2 ?_ | refine U3 ?_) | (with_reducible refine U4 ?_ ?_; next => first | omega | exact ⟨trivial, by omega⟩) | simp (maxSteps := 2000000) (discharger := first | omega | (simp (discharger := omega) only [Z1, Z2, Z3, Z4, Z5, Z6, Z7] <;> fail) | (simp (discharger := omega) only [Z3, Z8, Z2, Z4, Z1, Z7, Z5, Z6, Z9, Y1, Y2]; omega)) only [go_sem])
  refine call_ro (l01Is_spec p n m k hc hl (by omega) hb) (get_rd hr) ?_
  repeat' (first | (with_reducible first | refine W1 ?_ | refine W2 ?_ | refine W3 ?_ | refine W4 mixed ?_ | refine W5 ?_ | refine W6 ?_ | refine W7 ?_ | refine W8 ?_ | refine W9 ?_ | refine V1 ?_ | refine V2 ?_ | refine V3 ?_ | refine V4 (by decide) ?_ | refine V5 ?_ | refine V6 ?_ | refine V7 ?_ | refine V8 ?_ | refine V9 ?_ | refine U1 ?_ | refine U2 ?_ | refine U3 ?_) | (with_reducible refine U4 ?_ ?_; next => first | omega | exact ⟨trivial, by omega⟩) | ((with_reducible refine U5 _ rfl (fun hq => ?_) (fun hq => ?_)) <;> try (first | (cases hq; done) | exact absurd hq (by decide))) | ((with_reducible refine U6 (fun hq => ?_) (fun hq => ?_)) <;> try (first | (cases hq; done) | exact absurd hq (by decide))) | simp (maxSteps := 2000000) (discharger := first | omega | (simp (discharger := omega) only [Z1, Z2, Z3, Z4, Z5, Z6, Z7] <;> fail) | (simp (discharger := omega) only [Z3, Z8, Z2, Z4, Z1, Z7, Z5, Z6, Z9, Y1, Y2]; omega)) only [go_sem, hok])
  exact ret_none hN [.agg (tenC 0 0 0 0 .nils), .c (.int .i64 (1))] ⟨res_aggN (own := true) tyo_56 rfl rfl rfl rfl, rfl, trivial⟩ rfl rfl rfl (by simp)

theorem specMerge_ok (p n m k : Int) (hc : Sl 27 (u8s l) len c rs) (hcn : c ≠ .nils) (hl : l.length = len * 27) (hb : byteL l) (hok : schemeOk p n m k len l = true) {q : Nat} (hql : (mgAll p len l).length = q * 27) (x : Nat) (hx : ∀ p ∈ rs, p.1 ≠ x) :
    FSpec Try.prog 45 [.agg (tenC p n m k c)] (.tup [.agg (tenC p n m k (.slice x 0 q 27)), .c (.int .i64 (0))]) rs [(x, .live ⟨u8s (mgAll p len l), true⟩)] := by
  have hn := (sch_sides hok).2.2.2
  have hpr := scheme_nums hl hb hok
  have hp : 2 ≤ p ∧ p ≤ 5 := by
    have : isP p = true := by simp only [schemeOk, Bool.and_eq_true] at hok; exact hok.1.1.1.1.1
    simp [isP] at this; omega
  refine FSpec.of f_spec_MergeScheme (Nat.le_of_ble_eq_true rfl) fun G N hN hr hw => ?_
  simp only [c_spec_MergeScheme, List.length_cons, List.length_nil, List.replicate, List.cons_append, List.nil_append]
  have hfree := new_free (hw _ (List.mem_singleton.2 rfl)).2 hx
  rcases hc with ⟨e1, e2⟩ | ⟨kk, own, hlen'⟩
  · exact absurd rfl hcn
  have ⟨g2, g3⟩ := hr _ (List.mem_singleton.2 rfl)
  dsimp only at g2 g3
  have hc : Sl 27 (u8s l) len (.slice kk 0 len 27) [(kk, ⟨u8s l, own⟩)] := Sl.mk kk own hlen'
  have hsl : sub l 0 (len * 27) = l := sub_all hl
  repeat' (first | (with_reducible first | refine W1 ?_ | refine W2 ?_ | refine W3 ?_ | refine W4 mixed ?_ | refine W5 ?_ | refine W6 ?_ | refine W7 ?_ | refine W8 ?_ | refine W9 ?_ | refine V1 ?_ | refine V2 ?_ | refine V3 ?_ | refine V4 (by decide) ?_ | refine V5 ?_ | refine V6 ?_ | refine V7 ?_ | refine V8 ?_ | refine V9 ?_ | refine U1 ?_ | refine U2 ?_ | refine U3 ?_) | (with_reducible refine U4 ?_ ?_; next => first | omega | exact ⟨trivial, by omega⟩) | simp (maxSteps := 2000000) (discharger := first | omega | (simp (discharger := omega) only [Z1, Z2, Z3, Z4, Z5, Z6, Z7] <;> fail) | (simp (discharger := omega) only [Z3, Z8, Z2, Z4, Z1, Z7, Z5, Z6, Z9, Y1, Y2]; omega)) only [go_sem])
  refine call_ro (l01Is_spec p n m k hc hl (by omega) hb) (get_rd hr) ?_
  repeat' (first | (with_reducible first | refine W1 ?_ | refine W2 ?_ | refine W3 ?_ | refine W4 mixed ?_ | refine W5 ?_ | refine W6 ?_ | refine W7 ?_ | refine W8 ?_ | refine W9 ?_ | refine V1 ?_ | refine V2 ?_ | refine V3 ?_ | refine V4 (by decide) ?_ | refine V5 ?_ | refine V6 ?_ | refine V7 ?_ | refine V8 ?_ | refine V9 ?_ | refine U1 ?_ | refine U2 ?_ | refine U3 ?_) | (with_reducible refine U4 ?_ ?_; next => first | omega | exact ⟨trivial, by omega⟩) | ((with_reducible refine U5 _ rfl (fun hq => ?_) (fun hq => ?_)) <;> try (first | (cases hq; done) | exact absurd hq (by decide))) | ((with_reducible refine U6 (fun hq => ?_) (fun hq => ?_)) <;> try (first | (cases hq; done) | exact absurd hq (by decide))) | simp (maxSteps := 2000000) (discharger := first | omega | (simp (discharger := omega) only [Z1, Z2, Z3, Z4, Z5, Z6, Z7] <;> fail) | (simp (discharger := omega) only [Z3, Z8, Z2, Z4, Z1, Z7, Z5, Z6, Z9, Y1, Y2]; omega)) only [go_sem, hok, g2, hsl])
  refine swp_for (fun (z : Nat × Nat × List Int × List Slot × Nat × Bool) => ([.any, .c (.ptr (nid N 0) 0), .c (.ptr (nid N 1) 0), .any, .c (.slice (nid N z.2.2.2.2.1) 0 z.2.1 27), .c (.bool z.2.2.2.2.2)] ++ List.replicate 26 .any)) (fun z => ⟨G, N, z.2.2.2.1⟩) (fun z => 2 * z.1 + z.2.2.2.2.2.toNat) (fun z => MG p (mgAll p len l) (.live ⟨tenC p n m k (.slice kk 0 len 27), true⟩) (.live ⟨tenC 0 0 0 0 .nils, true⟩) z.1 z.2.1 z.2.2.1 z.2.2.2.1 z.2.2.2.2.1 z.2.2.2.2.2) (len, len, l, _, 3, true) ⟨by simp, rfl, rfl, by simp, by simp, rfl, hn, hpr, Nat.le_refl _, rfl, by simp⟩ rfl (by repeat' (first | exact trivial | exact .inl rfl | exact .inr rfl | refine ⟨?_, ?_⟩)) ?_
  rintro ⟨f, mm, o, L, qq, b⟩ hM
  dsimp only at hM
  obtain ⟨f1, f2, f3, f4, f5, f6, f7, f8, f9, fa, fb⟩ := id hM
  simp only [List.replicate, List.cons_append, List.nil_append]
  repeat' (first | (with_reducible first | refine W1 ?_ | refine W2 ?_ | refine W3 ?_ | refine W4 mixed ?_ | refine W5 ?_ | refine W6 ?_ | refine W7 ?_ | refine W8 ?_ | refine W9 ?_ | refine V1 ?_ | refine V2 ?_ | refine V3 ?_ | refine V4 (by decide) ?_ | refine V5 ?_ | refine V6 ?_ | refine V7 ?_ | refine V8 ?_ | refine V9 ?_ | refine U1 ?_ | refine U2 ?_ | refine U3 ?_) | (with_reducible refine U4 ?_ ?_; next => first | omega | exact ⟨trivial, by omega⟩) | simp (maxSteps := 2000000) (discharger := first | omega | (simp (discharger := omega) only [Z1, Z2, Z3, Z4, Z5, Z6, Z7] <;> fail) | (simp (discharger := omega) only [Z3, Z8, Z2, Z4, Z1, Z7, Z5, Z6, Z9, Y1, Y2]; omega)) only [go_sem])
  refine swp_cond _ rfl (fun hcd => ?_) (fun hcd => ?_)
  · subst hcd
    have hnk : qq ≠ L.length := by omega
    by_cases hfd : mgIn o mm < mm
    · obtain ⟨k1, k2⟩ := wkOneZ_ok hp f8 hfd
      obtain ⟨f', rfl⟩ : ∃ f', f = f' + 1 := ⟨f - 1, by omega⟩
      rw [mgAll_go f8 hfd] at fa
      have sp := fun y hy => l10Merge_spec (k := nid N qq) (own := true) hp f8 (by omega) y hy
      simp only [if_pos hfd] at sp
      simp only [tenC] at f2
      repeat' (first | (with_reducible first | refine W1 ?_ | refine W2 ?_ | refine W3 ?_ | refine W4 mixed ?_ | refine W5 ?_ | refine W6 ?_ | refine W7 ?_ | refine W8 ?_ | refine W9 ?_ | refine V1 ?_ | refine V2 ?_ | refine V3 ?_ | refine V4 (by decide) ?_ | refine V5 ?_ | refine V6 ?_ | refine V7 ?_ | refine V8 ?_ | refine V9 ?_ | refine U1 ?_ | refine U2 ?_ | refine U3 ?_) | (with_reducible refine U4 ?_ ?_; next => first | omega | exact ⟨trivial, by omega⟩) | simp (maxSteps := 2000000) (discharger := first | omega | (simp (discharger := omega) only [Z1, Z2, Z3, Z4, Z5, Z6, Z7] <;> fail) | (simp (discharger := omega) only [Z3, Z8, Z2, Z4, Z1, Z7, Z5, Z6, Z9, Y1, Y2]; omega)) only [go_sem, f2])
      refine call_new1 (rs := [(nid N qq, ⟨u8s o, true⟩)]) (fun y hy => sp y (fun e => hy _ (List.mem_singleton.2 rfl) e.symm)) (rd1 f6) (AHeap.get_nxt _) ?_
      repeat' (first | (with_reducible first | refine W1 ?_ | refine W2 ?_ | refine W3 ?_ | refine W4 mixed ?_ | refine W5 ?_ | refine W6 ?_ | refine W7 ?_ | refine W8 ?_ | refine W9 ?_ | refine V1 ?_ | refine V2 ?_ | refine V3 ?_ | refine V4 (by decide) ?_ | refine V5 ?_ | refine V6 ?_ | refine V7 ?_ | refine V8 ?_ | refine V9 ?_ | refine U1 ?_ | refine U2 ?_ | refine U3 ?_) | (with_reducible refine U4 ?_ ?_; next => first | omega | exact ⟨trivial, by omega⟩) | simp (maxSteps := 2000000) (discharger := first | omega | (simp (discharger := omega) only [Z1, Z2, Z3, Z4, Z5, Z6, Z7] <;> fail) | (simp (discharger := omega) only [Z3, Z8, Z2, Z4, Z1, Z7, Z5, Z6, Z9, Y1, Y2]; omega)) only [go_sem])
      refine forK_same (f', mgN p o mm, mgOne p o mm, _, L.length, true) (by simp) ?_ rfl (by repeat' (first | exact trivial | exact .inl rfl | exact .inr rfl | refine ⟨?_, ?_⟩))
      dsimp only
      refine ⟨?_, ?_, ?_, ?_, ?_, ?_, ?_, k1, ?_, fa, by simp⟩
      all_goals try simp (maxSteps := 2000000) (discharger := first | omega | (simp (discharger := omega) only [Z1, Z2, Z3, Z4, Z5, Z6, Z7] <;> fail) | (simp (discharger := omega) only [Z3, Z8, Z2, Z4, Z1, Z7, Z5, Z6, Z9, Y1, Y2]; omega)) only [go_sem, f2, f3, f6, tenC]
      all_goals try omega
    · have sp := fun y hy => l10Merge_spec (k := nid N qq) (own := true) hp f8 (by omega) y hy
      simp only [if_neg hfd] at sp
      rw [mgAll_stop f8 hfd] at fa
      simp only [tenC] at f2
      repeat' (first | (with_reducible first | refine W1 ?_ | refine W2 ?_ | refine W3 ?_ | refine W4 mixed ?_ | refine W5 ?_ | refine W6 ?_ | refine W7 ?_ | refine W8 ?_ | refine W9 ?_ | refine V1 ?_ | refine V2 ?_ | refine V3 ?_ | refine V4 (by decide) ?_ | refine V5 ?_ | refine V6 ?_ | refine V7 ?_ | refine V8 ?_ | refine V9 ?_ | refine U1 ?_ | refine U2 ?_ | refine U3 ?_) | (with_reducible refine U4 ?_ ?_; next => first | omega | exact ⟨trivial, by omega⟩) | simp (maxSteps := 2000000) (discharger := first | omega | (simp (discharger := omega) only [Z1, Z2, Z3, Z4, Z5, Z6, Z7] <;> fail) | (simp (discharger := omega) only [Z3, Z8, Z2, Z4, Z1, Z7, Z5, Z6, Z9, Y1, Y2]; omega)) only [go_sem, f2])
      refine call_ro (sp (nid N qq + 1) (by omega)) (rd1 f6) ?_
      repeat' (first | (with_reducible first | refine W1 ?_ | refine W2 ?_ | refine W3 ?_ | refine W4 mixed ?_ | refine W5 ?_ | refine W6 ?_ | refine W7 ?_ | refine W8 ?_ | refine W9 ?_ | refine V1 ?_ | refine V2 ?_ | refine V3 ?_ | refine V4 (by decide) ?_ | refine V5 ?_ | refine V6 ?_ | refine V7 ?_ | refine V8 ?_ | refine V9 ?_ | refine U1 ?_ | refine U2 ?_ | refine U3 ?_) | (with_reducible refine U4 ?_ ?_; next => first | omega | exact ⟨trivial, by omega⟩) | simp (maxSteps := 2000000) (discharger := first | omega | (simp (discharger := omega) only [Z1, Z2, Z3, Z4, Z5, Z6, Z7] <;> fail) | (simp (discharger := omega) only [Z3, Z8, Z2, Z4, Z1, Z7, Z5, Z6, Z9, Y1, Y2]; omega)) only [go_sem])
      refine forK_same (f, mm, o, _, qq, false) (by simp) ?_ rfl (by repeat' (first | exact trivial | exact .inl rfl | exact .inr rfl | refine ⟨?_, ?_⟩))
      dsimp only
      refine ⟨f1, f2, f3, f4, f5, f6, f7, f8, f9, ?_, fun _ => fa.symm⟩
      rw [mgAll_stop f8 hfd]
      exact fa
  · subst hcd
    have hF := fb rfl
    have hqq : q = mm := by rw [hF, f8.len] at hql; omega
    rw [hF, hqq]
    simp only [tenC] at f2 f3
    repeat' (first | (with_reducible first | refine W1 ?_ | refine W2 ?_ | refine W3 ?_ | refine W4 mixed ?_ | refine W5 ?_ | refine W6 ?_ | refine W7 ?_ | refine W8 ?_ | refine W9 ?_ | refine V1 ?_ | refine V2 ?_ | refine V3 ?_ | refine V4 (by decide) ?_ | refine V5 ?_ | refine V6 ?_ | refine V7 ?_ | refine V8 ?_ | refine V9 ?_ | refine U1 ?_ | refine U2 ?_ | refine U3 ?_) | (with_reducible refine U4 ?_ ?_; next => first | omega | exact ⟨trivial, by omega⟩) | simp (maxSteps := 2000000) (discharger := first | omega | (simp (discharger := omega) only [Z1, Z2, Z3, Z4, Z5, Z6, Z7] <;> fail) | (simp (discharger := omega) only [Z3, Z8, Z2, Z4, Z1, Z7, Z5, Z6, Z9, Y1, Y2]; omega)) only [go_sem, f2, f3])
    refine call_new1 (rs := []) (fun y _ => l01Empty_spec p n m k (.slice kk 0 len 27) y) (by simp) nxt_free ?_
    repeat' (first | (with_reducible first | refine W1 ?_ | refine W2 ?_ | refine W3 ?_ | refine W4 mixed ?_ | refine W5 ?_ | refine W6 ?_ | refine W7 ?_ | refine W8 ?_ | refine W9 ?_ | refine V1 ?_ | refine V2 ?_ | refine V3 ?_ | refine V4 (by decide) ?_ | refine V5 ?_ | refine V6 ?_ | refine V7 ?_ | refine V8 ?_ | refine V9 ?_ | refine U1 ?_ | refine U2 ?_ | refine U3 ?_) | (with_reducible refine U4 ?_ ?_; next => first | omega | exact ⟨trivial, by omega⟩) | simp (maxSteps := 2000000) (discharger := first | omega | (simp (discharger := omega) only [Z1, Z2, Z3, Z4, Z5, Z6, Z7] <;> fail) | (simp (discharger := omega) only [Z3, Z8, Z2, Z4, Z1, Z7, Z5, Z6, Z9, Y1, Y2]; omega)) only [go_sem, f3, tenC])
    refine ret_obj hN x qq _ [_, _] ⟨res_aggN (own := true) (cs := tenC p n m k (.slice (nid N qq) 0 mm 27)) tyo_56 rfl rfl ?_ rfl, rfl, trivial⟩ hfree ?_ (flat_u8s _) rfl ?_ ?_
    · simp (maxSteps := 2000000) (discharger := first | omega | (simp (discharger := omega) only [Z1, Z2, Z3, Z4, Z5, Z6, Z7] <;> fail) | (simp (discharger := omega) only [Z3, Z8, Z2, Z4, Z1, Z7, Z5, Z6, Z9, Y1, Y2]; omega)) only [go_sem, tenC]
    · simp (maxSteps := 2000000) (discharger := first | omega | (simp (discharger := omega) only [Z1, Z2, Z3, Z4, Z5, Z6, Z7] <;> fail) | (simp (discharger := omega) only [Z3, Z8, Z2, Z4, Z1, Z7, Z5, Z6, Z9, Y1, Y2]; omega)) only [go_sem, f6]
    · simp [AV.idsT, AV.ids1, tenC, Cell.ids]
    · simp [resOf, renT, ren1, tenC, Cell.mapIds]; try rfl
end
end Go.Proofs.Ytkalaahmbdimfaa
