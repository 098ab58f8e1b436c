/- Border schemes of schemes: both. -/
import Derived.Test.YtkalaahmbdimfaaB3
import Derived.Test.YtkalaahmbdimfaaN1
namespace Go.Proofs.Ytkalaahmbdimfaa
open Go Go.Abs
set_option maxRecDepth 100000
/- loop.example/g01262/spec.l08Constant -/
def c_spec_l08Constant : SFn := ⟨(.seq (.ops [⟨some 1, .box 162 (.tmp 0), none⟩, ⟨some 2, .alloc 155, none⟩])
 (.seq (.ops [⟨some 5, .build 155 #[], none⟩, ⟨some 3, .alloc 155, none⟩, ⟨none, .store 155 (.tmp 3) (.tmp 5), none⟩])
  (.seq (.seq (.ops [⟨some 4, .assign (.const (.int .i64 0)), none⟩])
    (.block 0 (.loop (.seq (.seq (.ops [⟨some 6, .move (.tmp 4), none⟩, ⟨some 7, .binOp .lss 3 (.tmp 6) (.const (.int .i64 9)) 3, none⟩])
        (.cond (.tmp 7) .skip
         (.exit 0)))
       (.seq (.block 1 (.opsD [⟨some 10, .move (.tmp 4), none⟩, ⟨some 11, .move (.tmp 4), none⟩, ⟨some 12, .indexAddr 162 (.tmp 1) (.tmp 11), none⟩, ⟨some 13, .load 5 (.tmp 12), none⟩, ⟨some 14, .indexAddr 155 (.tmp 3) (.tmp 10), none⟩, ⟨some 15, .indexAddr 153 (.tmp 14) (.const (.int .i64 0)), none⟩, ⟨none, .store 5 (.tmp 15) (.tmp 13), none⟩] []))
        (.ops [⟨some 8, .move (.tmp 4), none⟩, ⟨some 9, .binOp .add 3 (.tmp 8) (.const (.int .i64 1)) 3, none⟩, ⟨some 4, .assign (.tmp 9), none⟩]))))))
   (.seq (.ops [⟨some 16, .load 155 (.tmp 3), none⟩, ⟨none, .store 155 (.tmp 2) (.tmp 16), none⟩])
    .ret)))), [.cell 2 155], 17⟩
theorem f_spec_l08Constant : isFn Go.Proofs.Try.prog 345 = some c_spec_l08Constant := by kernel_rfl

/- loop.example/g01262/spec.l08Of -/
def c_spec_l08Of : SFn := ⟨(.seq (.ops [⟨some 1, .box 56 (.tmp 0), none⟩, ⟨some 2, .alloc 39, none⟩])
 (.seq (.ops [⟨some 6, .fieldAddr 56 (.tmp 1) 0, none⟩, ⟨some 7, .load 2 (.tmp 6), none⟩, ⟨some 8, .fieldAddr 56 (.tmp 1) 1, none⟩, ⟨some 9, .load 2 (.tmp 8), none⟩, ⟨some 10, .fieldAddr 56 (.tmp 1) 2, none⟩, ⟨some 11, .load 2 (.tmp 10), none⟩, ⟨some 12, .fieldAddr 56 (.tmp 1) 3, none⟩, ⟨some 13, .load 2 (.tmp 12), none⟩, ⟨some 14, .buildSlice 37 0 #[], none⟩, ⟨some 15, .build 39 #[(0, .tmp 7), (1, .tmp 9), (2, .tmp 11), (3, .tmp 13), (4, .tmp 14)], none⟩, ⟨some 3, .alloc 39, none⟩, ⟨none, .store 39 (.tmp 3) (.tmp 15), none⟩])
  (.seq (.seq (.ops [⟨some 4, .assign (.const (.int .i64 0)), none⟩])
    (.block 0 (.loop (.seq (.seq (.ops [⟨some 16, .move (.tmp 4), none⟩, ⟨some 17, .fieldAddr 56 (.tmp 1) 4, none⟩, ⟨some 18, .load 54 (.tmp 17), none⟩, ⟨some 19, .call ⟨.builtin .len, #[.tmp 18], #[54]⟩, none⟩, ⟨some 20, .binOp .lss 3 (.tmp 16) (.tmp 19) 3, none⟩])
        (.cond (.tmp 20) .skip
         (.exit 0)))
       (.seq (.block 1 (.seq (.ops [⟨some 23, .fieldAddr 56 (.tmp 1) 4, none⟩, ⟨some 24, .load 54 (.tmp 23), none⟩, ⟨some 25, .move (.tmp 4), none⟩, ⟨some 26, .indexAddr 54 (.tmp 24) (.tmp 25), none⟩, ⟨some 27, .load 166 (.tmp 26), none⟩, ⟨some 5, .alloc 166, none⟩, ⟨none, .store 166 (.tmp 5) (.tmp 27), none⟩])
          (.opsD [⟨some 28, .fieldAddr 39 (.tmp 3) 4, none⟩, ⟨some 29, .load 37 (.tmp 28), none⟩, ⟨some 30, .fieldAddr 166 (.tmp 5) 0, none⟩, ⟨some 31, .load 162 (.tmp 30), none⟩, ⟨some 32, .call ⟨.value (.func 345), #[.tmp 31], #[162]⟩, none⟩, ⟨some 33, .fieldAddr 166 (.tmp 5) 1, none⟩, ⟨some 34, .load 162 (.tmp 33), none⟩, ⟨some 35, .call ⟨.value (.func 345), #[.tmp 34], #[162]⟩, none⟩, ⟨some 36, .fieldAddr 166 (.tmp 5) 2, none⟩, ⟨some 37, .load 162 (.tmp 36), none⟩, ⟨some 38, .call ⟨.value (.func 345), #[.tmp 37], #[162]⟩, none⟩, ⟨some 39, .build 157 #[(0, .tmp 32), (1, .tmp 35), (2, .tmp 38)], none⟩, ⟨some 40, .buildSlice 37 1 #[(0, .tmp 39)], none⟩, ⟨some 41, .call ⟨.builtin .append, #[.tmp 29, .tmp 40], #[37, 37]⟩, none⟩, ⟨some 42, .fieldAddr 39 (.tmp 3) 4, none⟩, ⟨none, .store 37 (.tmp 42) (.tmp 41), none⟩] [(1, 3), (1, 4), (1, 6), (1, 7), (1, 9), (1, 10), (1, 12), (3, 6), (3, 9), (4, 6), (4, 9), (6, 9), (7, 9)])))
        (.ops [⟨some 21, .move (.tmp 4), none⟩, ⟨some 22, .binOp .add 3 (.tmp 21) (.const (.int .i64 1)) 3, none⟩, ⟨some 4, .assign (.tmp 22), none⟩]))))))
   (.seq (.ops [⟨some 43, .load 39 (.tmp 3), none⟩, ⟨none, .store 39 (.tmp 2) (.tmp 43), none⟩])
    .ret)))), [.cell 2 39], 44⟩
theorem f_spec_l08Of : isFn Go.Proofs.Try.prog 325 = some c_spec_l08Of := by kernel_rfl


set_option maxRecDepth 100000
set_option maxHeartbeats 8000000
set_option linter.unusedVariables false
attribute [-simp] List.getD_eq_getElem?_getD
attribute [-go_sem] confV

/-- The series of a form, up to a place. -/
def cstUp (f : List Int) (c : Nat) : List Int := (List.range c).foldl (fun o t => o.set (t * 4) (f.getD t 0)) (zeros 36)
theorem cstUp_succ (f : List Int) (c : Nat) : cstUp f (c + 1) = (cstUp f c).set (c * 4) (f.getD c 0) := by simp [cstUp, List.range_succ]
theorem cstUp_length (f : List Int) (c : Nat) : (cstUp f c).length = 36 := by
  induction c with
  | zero => rfl
  | succ c ih => rw [cstUp_succ, List.length_set, ih]

theorem l08Constant_spec {f : List Int} (hf : f.length = 9) (hb : byteL f) : FSpec Try.prog 345 [.agg (u8s f)] (.agg (u8s (cstUp f 9))) [] [] := by
  refine FSpec.of f_spec_l08Constant (Nat.le_of_ble_eq_true rfl) fun G N hN hr hw => ?_
  simp only [c_spec_l08Constant, List.length_cons, List.length_nil, List.replicate, List.cons_append, List.nil_append]
  repeat' (first | (with_reducible first | refine W1 ?_ | refine W2 ?_ | refine W3 ?_ | refine W4 mixed ?_ | refine W5 ?_ | refine W6 ?_ | refine W7 ?_ | refine W8 ?_ | refine W9 ?_ | refine V1 ?_ | refine V2 ?_ | refine V3 ?_ | refine V4 (by decide) ?_ | refine V5 ?_ | refine V6 ?_ | refine V7 ?_ | refine V8 ?_ | refine V9 ?_ | refine U1 ?_ | refine U2 ?_ | refine U3 ?_) | (with_reducible refine U4 ?_ ?_; next => first | omega | exact ⟨trivial, by omega⟩) | simp (maxSteps := 2000000) (discharger := first | omega | (simp (discharger := omega) only [Z1, Z2, Z3, Z4, Z5, Z6, Z7] <;> fail) | (simp (discharger := omega) only [Z3, Z8, Z2, Z4, Z1, Z7, Z5, Z6, Z9, Y1, Y2]; omega)) only [go_sem])
  refine swp_for (fun c : Nat => ([.any, .c (.ptr (nid N 0) 0), .c (.ptr (nid N 1) 0), .c (.ptr (nid N 2) 0), .c (.int .i64 ((c : Nat) : Int))] ++ List.replicate 12 .any)) (fun c => ⟨G, N, [.live ⟨u8s f, true⟩, .live ⟨u8s (zeros 36), true⟩, .live ⟨u8s (cstUp f c), true⟩]⟩) (fun c => 9 - c) (fun c => c ≤ 9) 0 (Nat.zero_le _) (by rfl) (by repeat' (first | exact trivial | exact .inl rfl | exact .inr rfl | refine ⟨?_, ?_⟩)) fun c hc => ?_
  have hcl := cstUp_length f c
  have hcs := cstUp_succ f c
  simp only [List.replicate, List.cons_append, List.nil_append]
  repeat' (first | (with_reducible first | refine W1 ?_ | refine W2 ?_ | refine W3 ?_ | refine W4 mixed ?_ | refine W5 ?_ | refine W6 ?_ | refine W7 ?_ | refine W8 ?_ | refine W9 ?_ | refine V1 ?_ | refine V2 ?_ | refine V3 ?_ | refine V4 (by decide) ?_ | refine V5 ?_ | refine V6 ?_ | refine V7 ?_ | refine V8 ?_ | refine V9 ?_ | refine U1 ?_ | refine U2 ?_ | refine U3 ?_) | (with_reducible refine U4 ?_ ?_; next => first | omega | exact ⟨trivial, by omega⟩) | simp (maxSteps := 2000000) (discharger := first | omega | (simp (discharger := omega) only [Z1, Z2, Z3, Z4, Z5, Z6, Z7] <;> fail) | (simp (discharger := omega) only [Z3, Z8, Z2, Z4, Z1, Z7, Z5, Z6, Z9, Y1, Y2]; omega)) only [go_sem])
  refine swp_cond _ rfl (fun h => ?_) (fun h => ?_)
  · have hlt : c < 9 := by simp at h; omega
    generalize cstUp f c = o at hcl hcs
    repeat' (first | (with_reducible first | refine W1 ?_ | refine W2 ?_ | refine W3 ?_ | refine W4 mixed ?_ | refine W5 ?_ | refine W6 ?_ | refine W7 ?_ | refine W8 ?_ | refine W9 ?_ | refine V1 ?_ | refine V2 ?_ | refine V3 ?_ | refine V4 (by decide) ?_ | refine V5 ?_ | refine V6 ?_ | refine V7 ?_ | refine V8 ?_ | refine V9 ?_ | refine U1 ?_ | refine U2 ?_ | refine U3 ?_) | (with_reducible refine U4 ?_ ?_; next => first | omega | exact ⟨trivial, by omega⟩) | simp (maxSteps := 2000000) (discharger := first | omega | (simp (discharger := omega) only [Z1, Z2, Z3, Z4, Z5, Z6, Z7] <;> fail) | (simp (discharger := omega) only [Z3, Z8, Z2, Z4, Z1, Z7, Z5, Z6, Z9, Y1, Y2]; omega)) only [go_sem])
    refine must_conf rfl ?_
    repeat' (first | (with_reducible first | refine W1 ?_ | refine W2 ?_ | refine W3 ?_ | refine W4 mixed ?_ | refine W5 ?_ | refine W6 ?_ | refine W7 ?_ | refine W8 ?_ | refine W9 ?_ | refine V1 ?_ | refine V2 ?_ | refine V3 ?_ | refine V4 (by decide) ?_ | refine V5 ?_ | refine V6 ?_ | refine V7 ?_ | refine V8 ?_ | refine V9 ?_ | refine U1 ?_ | refine U2 ?_ | refine U3 ?_) | (with_reducible refine U4 ?_ ?_; next => first | omega | exact ⟨trivial, by omega⟩) | simp (maxSteps := 2000000) (discharger := first | omega | (simp (discharger := omega) only [Z1, Z2, Z3, Z4, Z5, Z6, Z7] <;> fail) | (simp (discharger := omega) only [Z3, Z8, Z2, Z4, Z1, Z7, Z5, Z6, Z9, Y1, Y2]; omega)) only [go_sem])
    exact forK_same (c + 1) (by omega) (by omega) (by rw [hcs]) (by repeat' (first | exact trivial | exact .inl rfl | exact .inr rfl | refine ⟨?_, ?_⟩))
  · have hcc : c = 9 := by simp at h; omega
    subst hcc
    generalize cstUp f 9 = o at hcl
    repeat' (first | (with_reducible first | refine W1 ?_ | refine W2 ?_ | refine W3 ?_ | refine W4 mixed ?_ | refine W5 ?_ | refine W6 ?_ | refine W7 ?_ | refine W8 ?_ | refine W9 ?_ | refine V1 ?_ | refine V2 ?_ | refine V3 ?_ | refine V4 (by decide) ?_ | refine V5 ?_ | refine V6 ?_ | refine V7 ?_ | refine V8 ?_ | refine V9 ?_ | refine U1 ?_ | refine U2 ?_ | refine U3 ?_) | (with_reducible refine U4 ?_ ?_; next => first | omega | exact ⟨trivial, by omega⟩) | simp (maxSteps := 2000000) (discharger := first | omega | (simp (discharger := omega) only [Z1, Z2, Z3, Z4, Z5, Z6, Z7] <;> fail) | (simp (discharger := omega) only [Z3, Z8, Z2, Z4, Z1, Z7, Z5, Z6, Z9, Y1, Y2]; omega)) only [go_sem])
    refine ret_flat (cs := u8s o) hN ?_ (flat_u8s _) rfl
    exact res_aggN (own := true) tyo_155 rfl rfl rfl (by simp [u8s, hcl])
/-- A list of three series as a twig. -/
def twL (a b c : List Int) : List Int := putL (putL (putL (zeros 108) 0 a) 36 b) 72 c
theorem twL_length (a b c : List Int) : (twL a b c).length = 108 := by simp only [twL, putL_len, zeros_length]
theorem twL_put (a b c : List Int) : putL (zeros 108) (0 * 108) (twL a b c) = twL a b c := by rw [Nat.zero_mul, putL_all (by rw [twL_length, zeros_length])]
def brL (l : List Int) (n : Nat) : List Int := upTo (fun t => twL (cstUp (sub l (t * 27) 9) 9) (cstUp (sub l (t * 27 + 9) 9) 9) (cstUp (sub l (t * 27 + 18) 9) 9)) n
theorem brL_length (l : List Int) (n : Nat) : (brL l n).length = n * 108 := upTo_length (fun t => twL_length _ _ _) n
theorem brL_succ (l : List Int) (n : Nat) : brL l (n + 1) = brL l n ++ twL (cstUp (sub l (n * 27) 9) 9) (cstUp (sub l (n * 27 + 9) 9) 9) (cstUp (sub l (n * 27 + 18) 9) 9) := upTo_succ _ n
theorem subsub9 {l : List Int} {a : Nat} : sub (sub l a 27) 0 9 = sub l a 9 ∧ sub (sub l a 27) 9 9 = sub l (a + 9) 9 ∧ sub (sub l a 27) 18 9 = sub l (a + 18) 9 := by
  simp only [sub, List.drop_take, List.take_take, List.drop_drop, List.drop_zero]
  exact ⟨rfl, rfl, rfl⟩

theorem l08Of_spec {c : Cell} {rs : List (Nat × AObj)} {n : Nat} {l : List Int} (p i j k : Int) (hc : Sl 27 (u8s l) n c rs) (hl : l.length = n * 27) (hn : n ≤ 10000000000) (hb : byteL l) (x : Nat) (hx : ∀ p ∈ rs, p.1 ≠ x) :
    FSpec Try.prog 325 [.agg (tenC p i j k c)] (.agg (tenC p i j k (.slice x 0 n 108))) rs [(x, .live ⟨u8s (brL l n), true⟩)] := by
  refine FSpec.of f_spec_l08Of (Nat.le_of_ble_eq_true rfl) fun G N hN hr hw => ?_
  simp only [c_spec_l08Of, List.length_cons, List.length_nil, List.replicate, List.cons_append, List.nil_append]
  have hfree := new_free (hw _ (List.mem_singleton.2 rfl)).2 hx
  repeat' (first | (with_reducible first | refine W1 ?_ | refine W2 ?_ | refine W3 ?_ | refine W4 mixed ?_ | refine W5 ?_ | refine W6 ?_ | refine W7 ?_ | refine W8 ?_ | refine W9 ?_ | refine V1 ?_ | refine V2 ?_ | refine V3 ?_ | refine V4 (by decide) ?_ | refine V5 ?_ | refine V6 ?_ | refine V7 ?_ | refine V8 ?_ | refine V9 ?_ | refine U1 ?_ | refine U2 ?_ | refine U3 ?_) | (with_reducible refine U4 ?_ ?_; next => first | omega | exact ⟨trivial, by omega⟩) | simp (maxSteps := 2000000) (discharger := first | omega | (simp (discharger := omega) only [Z1, Z2, Z3, Z4, Z5, Z6, Z7] <;> fail) | (simp (discharger := omega) only [Z3, Z8, Z2, Z4, Z1, Z7, Z5, Z6, Z9, Y1, Y2]; omega)) only [go_sem])
  refine swp_for (fun (s : Nat × List Slot × Nat) => ([.any, .c (.ptr (nid N 0) 0), .c (.ptr (nid N 1) 0), .c (.ptr (nid N 3) 0), .c (.int .i64 ((s.1 : Nat) : Int))] ++ List.replicate 39 .any)) (fun s => ⟨G, N, s.2.1⟩) (fun s => n - s.1) (fun s => s.1 ≤ n ∧ MI 3 (.live ⟨tenC p i j k c, true⟩) (.live ⟨tenC 0 0 0 0 .nils, true⟩) (.live ⟨tenC p i j k (.slice (nid N s.2.2) 0 s.1 108), true⟩) (u8s (brL l s.1)) s.2.1 s.2.2)
    (0, _, 2) ⟨Nat.zero_le _, ⟨by simp, rfl, rfl, rfl, by simp, by simp, by simp, rfl⟩⟩ rfl (by repeat' (first | exact trivial | exact .inl rfl | exact .inr rfl | refine ⟨?_, ?_⟩)) ?_
  rintro ⟨t, L, m⟩ ⟨ht, hM⟩
  have hlt' := brL_length l t
  have hts := brL_succ l t
  have hend : t = n → brL l n = brL l t := fun e => by rw [e]
  dsimp only at hM ht
  generalize brL l t = o at hM hlt' hts hend
  obtain ⟨h1, h2, h3, h4, h5, h6, h7, h8⟩ := hM
  simp only [tenC] at h2 h3 h4
  simp only [List.replicate, List.cons_append, List.nil_append, tenC]
  repeat' (first | (with_reducible first | refine W1 ?_ | refine W2 ?_ | refine W3 ?_ | refine W4 mixed ?_ | refine W5 ?_ | refine W6 ?_ | refine W7 ?_ | refine W8 ?_ | refine W9 ?_ | refine V1 ?_ | refine V2 ?_ | refine V3 ?_ | refine V4 (by decide) ?_ | refine V5 ?_ | refine V6 ?_ | refine V7 ?_ | refine V8 ?_ | refine V9 ?_ | refine U1 ?_ | refine U2 ?_ | refine U3 ?_) | (with_reducible refine U4 ?_ ?_; next => first | omega | exact ⟨trivial, by omega⟩) | simp (maxSteps := 2000000) (discharger := first | omega | (simp (discharger := omega) only [Z1, Z2, Z3, Z4, Z5, Z6, Z7] <;> fail) | (simp (discharger := omega) only [Z3, Z8, Z2, Z4, Z1, Z7, Z5, Z6, Z9, Y1, Y2]; omega)) only [go_sem, h2, hc.len (P := Try.prog)])
  refine swp_cond _ rfl (fun h => ?_) (fun h => ?_)
  · have hlt : t < n := by simpa using h
    obtain ⟨k0, own, rfl, rfl, _⟩ := hc.some hlt
    have ⟨g2, g3⟩ := hr _ (List.mem_singleton.2 rfl)
    dsimp only at g2 g3
    have hql : (sub l (t * 27) 27).length = 27 := sub_length (by omega)
    obtain ⟨e0, e1, e2⟩ := subsub9 (l := l) (a := t * 27)
    have q0 : (sub l (t * 27) 9).length = 9 := sub_length (by omega)
    have q1 : (sub l (t * 27 + 9) 9).length = 9 := sub_length (by omega)
    have q2 : (sub l (t * 27 + 18) 9).length = 9 := sub_length (by omega)
    have b0 := hb.sub (t * 27) 9
    have b1 := hb.sub (t * 27 + 9) 9
    have b2 := hb.sub (t * 27 + 18) 9
    generalize sub l (t * 27) 9 = s0 at q0 b0 e0 hts
    generalize sub l (t * 27 + 9) 9 = s1 at q1 b1 e1 hts
    generalize sub l (t * 27 + 18) 9 = s2 at q2 b2 e2 hts
    have r0 := cstUp_length s0 9
    have r1 := cstUp_length s1 9
    have r2 := cstUp_length s2 9
    have kk0 := l08Constant_spec q0 b0
    have kk1 := l08Constant_spec q1 b1
    have kk2 := l08Constant_spec q2 b2
    generalize cstUp s0 9 = v0 at r0 kk0 hts
    generalize cstUp s1 9 = v1 at r1 kk1 hts
    generalize cstUp s2 9 = v2 at r2 kk2 hts
    repeat' (first | (with_reducible first | refine W1 ?_ | refine W2 ?_ | refine W3 ?_ | refine W4 mixed ?_ | refine W5 ?_ | refine W6 ?_ | refine W7 ?_ | refine W8 ?_ | refine W9 ?_ | refine V1 ?_ | refine V2 ?_ | refine V3 ?_ | refine V4 (by decide) ?_ | refine V5 ?_ | refine V6 ?_ | refine V7 ?_ | refine V8 ?_ | refine V9 ?_ | refine U1 ?_ | refine U2 ?_ | refine U3 ?_) | (with_reducible refine U4 ?_ ?_; next => first | omega | exact ⟨trivial, by omega⟩) | with_reducible refine call_pure (kk0) ?_ | with_reducible refine call_pure (kk1) ?_ | with_reducible refine call_pure (kk2) ?_ | simp (maxSteps := 2000000) (discharger := first | omega | (simp (discharger := omega) only [Z1, Z2, Z3, Z4, Z5, Z6, Z7] <;> fail) | (simp (discharger := omega) only [Z3, Z8, Z2, Z4, Z1, Z7, Z5, Z6, Z9, Y1, Y2]; omega)) only [go_sem, h2, h4, h8, g2, e0, e1, e2])
    refine must_confF [(1, 12)] rfl (by simp [confV, apart, notIn, lk, nid] <;> omega) ?_
    repeat' (first | (with_reducible first | refine W1 ?_ | refine W2 ?_ | refine W3 ?_ | refine W4 mixed ?_ | refine W5 ?_ | refine W6 ?_ | refine W7 ?_ | refine W8 ?_ | refine W9 ?_ | refine V1 ?_ | refine V2 ?_ | refine V3 ?_ | refine V4 (by decide) ?_ | refine V5 ?_ | refine V6 ?_ | refine V7 ?_ | refine V8 ?_ | refine V9 ?_ | refine U1 ?_ | refine U2 ?_ | refine U3 ?_) | (with_reducible refine U4 ?_ ?_; next => first | omega | exact ⟨trivial, by omega⟩) | simp (maxSteps := 2000000) (discharger := first | omega | (simp (discharger := omega) only [Z1, Z2, Z3, Z4, Z5, Z6, Z7] <;> fail) | (simp (discharger := omega) only [Z3, Z8, Z2, Z4, Z1, Z7, Z5, Z6, Z9, Y1, Y2]; omega)) only [go_sem, h2, h4, h8, g2])
    refine forK_same (t + 1, _, L.length + 2) (by dsimp only; omega) ⟨by dsimp only; omega, ?_⟩ rfl (by repeat' (first | exact trivial | exact .inl rfl | exact .inr rfl | refine ⟨?_, ?_⟩))
    dsimp only
    rw [hts]
    refine ⟨?_, ?_, ?_, ?_, ?_, ?_, ?_, ?_⟩
    all_goals try simp (maxSteps := 2000000) (discharger := first | omega | (simp (discharger := omega) only [Z1, Z2, Z3, Z4, Z5, Z6, Z7] <;> fail) | (simp (discharger := omega) only [Z3, Z8, Z2, Z4, Z1, Z7, Z5, Z6, Z9, Y1, Y2]; omega)) only [go_sem, h2, h3, h4]
    all_goals first | omega | rfl | exact congrArg (fun z => Slot.live ⟨u8s (o ++ z), true⟩) (twL_put _ _ _)
  · have hlt : t = n := by have : ¬ t < n := by simpa using h
                           omega
    rw [hend hlt]
    subst hlt
    repeat' (first | (with_reducible first | refine W1 ?_ | refine W2 ?_ | refine W3 ?_ | refine W4 mixed ?_ | refine W5 ?_ | refine W6 ?_ | refine W7 ?_ | refine W8 ?_ | refine W9 ?_ | refine V1 ?_ | refine V2 ?_ | refine V3 ?_ | refine V4 (by decide) ?_ | refine V5 ?_ | refine V6 ?_ | refine V7 ?_ | refine V8 ?_ | refine V9 ?_ | refine U1 ?_ | refine U2 ?_ | refine U3 ?_) | (with_reducible refine U4 ?_ ?_; next => first | omega | exact ⟨trivial, by omega⟩) | simp (maxSteps := 2000000) (discharger := first | omega | (simp (discharger := omega) only [Z1, Z2, Z3, Z4, Z5, Z6, Z7] <;> fail) | (simp (discharger := omega) only [Z3, Z8, Z2, Z4, Z1, Z7, Z5, Z6, Z9, Y1, Y2]; omega)) only [go_sem, h3, h4])
    refine ret_obj hN x m (u8s o) [_] ⟨res_aggN (own := true) (cs := tenC p i j k (.slice (nid N m) 0 t 108)) tyo_39 rfl rfl ?_ rfl, trivial⟩ hfree ?_ (flat_u8s _) rfl ?_ ?_
    · simp (maxSteps := 2000000) (discharger := first | omega | (simp (discharger := omega) only [Z1, Z2, Z3, Z4, Z5, Z6, Z7] <;> fail) | (simp (discharger := omega) only [Z3, Z8, Z2, Z4, Z1, Z7, Z5, Z6, Z9, Y1, Y2]; omega)) only [go_sem, tenC]
    · simp (maxSteps := 2000000) (discharger := first | omega | (simp (discharger := omega) only [Z1, Z2, Z3, Z4, Z5, Z6, Z7] <;> fail) | (simp (discharger := omega) only [Z3, Z8, Z2, Z4, Z1, Z7, Z5, Z6, Z9, Y1, Y2]; omega)) only [go_sem, h8]
    · simp [AV.idsT, AV.ids1, tenC, Cell.ids]
    · simp [resOf, renT, ren1, tenC, Cell.mapIds]

end Go.Proofs.Ytkalaahmbdimfaa
