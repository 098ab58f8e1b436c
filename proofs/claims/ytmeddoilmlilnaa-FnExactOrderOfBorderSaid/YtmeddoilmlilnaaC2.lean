/- Orders of border schemes: the program's. -/
import Derived.Test.YtmeddoilmlilnaaC1
namespace Go.Proofs.Ytmeddoilmlilnaa
open Go Go.Abs
set_option maxRecDepth 100000
/- loop.example/g01262/impl.order$1 -/
def c_impl_order_1 : SFn := ⟨(.seq (.ops [⟨some 3, .box 136 (.tmp 0), none⟩])
 (.seq (.ops [⟨some 7, .load 136 (.tmp 3), none⟩, ⟨some 8, .move (.const (.int .i64 0)), none⟩])
  (.block 0 (.loop (.seq (.ops [⟨some 9, .binOp .lss 3 (.tmp 8) (.const (.int .i64 10)) 3, none⟩])
     (.seq (.cond (.tmp 9) .skip
       (.exit 0))
      (.seq (.block 1 (.seq (.ops [⟨some 10, .move (.tmp 8), none⟩, ⟨some 11, .index 136 (.tmp 7) (.tmp 8), none⟩, ⟨some 5, .assign (.tmp 10), none⟩, ⟨some 6, .assign (.tmp 11), none⟩])
         (.seq (.ops [⟨some 12, .move (.tmp 6), none⟩, ⟨some 13, .binOp .neq 2 (.tmp 12) (.const (.int .i64 0)) 2, none⟩])
          (.cond (.tmp 13) (.ops [⟨some 14, .load 3 (.tmp 2), none⟩, ⟨some 15, .move (.tmp 5), none⟩, ⟨some 16, .call ⟨.builtin .min, #[.tmp 14, .tmp 15], #[3, 3]⟩, none⟩, ⟨none, .store 3 (.tmp 2) (.tmp 16), none⟩])
           .skip))))
       (.ops [⟨some 17, .binOp .add 3 (.tmp 8) (.const (.int .i64 1)) 3, none⟩, ⟨some 8, .move (.tmp 17), none⟩])))))))), [], 18⟩
theorem f_impl_order_1 : isFn Go.Proofs.Try.prog 198 = some c_impl_order_1 := by kernel_rfl

/- loop.example/g01262/impl.order -/
def c_impl_order : SFn := ⟨(.seq (.ops [⟨some 1, .box 67 (.tmp 0), none⟩, ⟨some 2, .assign (.const (.int .i64 0)), none⟩])
 (.seq (.ops [⟨some 3, .alloc 3, none⟩, ⟨none, .store 3 (.tmp 3) (.const (.int .i64 10)), none⟩])
  (.seq (.ops [⟨some 4, .load 67 (.tmp 1), none⟩, ⟨some 5, .makeFunc (.func 198) #[] #[.tmp 3], none⟩, ⟨some 6, .call ⟨.value (.func 149), #[.tmp 4, .tmp 5], #[67, 167]⟩, none⟩])
   (.seq (.ops [⟨some 7, .load 3 (.tmp 3), none⟩, ⟨some 2, .assign (.tmp 7), none⟩])
    .ret)))), [.tmp 2], 8⟩
theorem f_impl_order : isFn Go.Proofs.Try.prog 148 = some c_impl_order := by kernel_rfl

/- loop.example/g01262/impl.OrderOfBorder -/
def c_impl_OrderOfBorder : SFn := ⟨(.seq (.ops [⟨some 1, .box 67 (.tmp 0), none⟩, ⟨some 2, .assign (.const (.int .i64 0)), none⟩, ⟨some 3, .assign (.const (.int .i64 0)), none⟩])
 (.seq (.seq (.ops [⟨some 5, .load 67 (.tmp 1), none⟩, ⟨some 6, .call ⟨.value (.func 121), #[.tmp 5], #[67]⟩, none⟩, ⟨some 7, .unOp .not 4 (.tmp 6), none⟩])
   (.cond (.tmp 7) (.seq (.ops [⟨some 2, .assign (.const (.int .i64 0)), none⟩, ⟨some 3, .assign (.const (.int .i64 1)), none⟩])
     .ret)
    .skip))
  (.seq (.ops [⟨some 8, .load 67 (.tmp 1), none⟩, ⟨some 9, .call ⟨.value (.func 148), #[.tmp 8], #[67]⟩, none⟩, ⟨some 4, .assign (.tmp 9), none⟩])
   (.seq (.seq (.ops [⟨some 10, .move (.tmp 4), none⟩, ⟨some 11, .binOp .gtr 2 (.tmp 10) (.const (.int .i64 9)) 2, none⟩])
     (.cond (.tmp 11) (.seq (.ops [⟨some 2, .assign (.const (.int .i64 0)), none⟩, ⟨some 3, .assign (.const (.int .i64 4)), none⟩])
       .ret)
      .skip))
    (.seq (.ops [⟨some 12, .move (.tmp 4), none⟩, ⟨some 2, .assign (.tmp 12), none⟩, ⟨some 3, .assign (.const (.int .i64 0)), none⟩])
     .ret))))), [.tmp 2, .tmp 3], 13⟩
theorem f_impl_OrderOfBorder : isFn Go.Proofs.Try.prog 73 = some c_impl_OrderOfBorder := by kernel_rfl


set_option maxRecDepth 100000
set_option maxHeartbeats 8000000
set_option linter.unusedVariables false
attribute [-simp] List.getD_eq_getElem?_getD
attribute [-go_sem] confV

/-- The least place up to which numbers are 0. -/
def ordM (o : List Int) (v : Nat) : Nat → Nat
  | 0 => v
  | d + 1 => if o.getD d 0 ≠ 0 ∧ d < ordM o v d then d else ordM o v d
theorem ordM_spec (o : List Int) (v : Nat) : ∀ n, ordM o v n ≤ v ∧ (∀ e, e < n → e < ordM o v n → o.getD e 0 = 0) ∧ (ordM o v n = v ∨ (ordM o v n < n ∧ o.getD (ordM o v n) 0 ≠ 0))
  | 0 => ⟨Nat.le_refl _, fun e h => by omega, .inl rfl⟩
  | n + 1 => by
    obtain ⟨h1, h2, h3⟩ := ordM_spec o v n
    rw [ordM]
    split
    · rename_i h
      exact ⟨by omega, fun e g1 g2 => h2 e g2 (by omega), .inr ⟨by omega, h.1⟩⟩
    · rename_i h
      refine ⟨h1, fun e g1 g2 => ?_, ?_⟩
      · by_cases e' : e = n
        · subst e'
          exact Classical.byContradiction fun hn => h ⟨hn, g2⟩
        · exact h2 e (by omega) g2
      · rcases h3 with h3 | ⟨h3, h4⟩
        · exact .inl h3
        · exact .inr ⟨by omega, h4⟩

theorem order1_spec {o : List Int} (ho : o.length = 10) (r : Int) (kk v : Nat) (hv : v ≤ 10) : FSpec Try.prog 198 [.agg (i64s o), .c (.int .i64 r), .c (.ptr kk 0)] (.tup []) [(kk, ⟨[.int .i64 v], true⟩)] [(kk, .live ⟨[.int .i64 ((ordM o v 10 : Nat) : Int)], true⟩)] := by
  refine FSpec.of f_impl_order_1 (Nat.le_of_ble_eq_true rfl) fun G N hN hr hw => ?_
  simp only [c_impl_order_1, List.length_cons, List.length_nil, List.replicate, List.cons_append, List.nil_append]
  obtain ⟨hG, hlt⟩ := hr _ (List.mem_singleton.2 rfl)
  dsimp only at hG hlt
  have hld : ldn (i64s o) 0 10 = i64s o := by rw [← ho]; exact ldn_i64s
  repeat' (first | (with_reducible first | refine W1 ?_ | refine W2 ?_ | refine W3 ?_ | refine W4 mixed ?_ | refine W5 ?_ | refine W6 ?_ | refine W7 ?_ | refine W8 ?_ | refine W9 ?_ | refine V1 ?_ | refine V2 ?_ | refine V3 ?_ | refine V4 (by decide) ?_ | refine V5 ?_ | refine V6 ?_ | refine V7 ?_ | refine V8 ?_ | refine V9 ?_ | refine U1 ?_ | refine U2 ?_ | refine U3 ?_) | (with_reducible refine U4 ?_ ?_; next => first | omega | exact ⟨trivial, by omega⟩) | simp (maxSteps := 2000000) (discharger := first | omega | (simp (discharger := omega) only [Z1, Z2, Z3, Z4, Z5, Z6, Z7] <;> fail) | (simp (discharger := omega) only [Z3, Z8, Z2, Z4, Z1, Z7, Z5, Z6, Z9, Y1, Y2]; omega)) only [go_sem, hld])
  refine swp_for (fun (d : Nat) => ([.any, .any, .c (.ptr kk 0), .any, .any, .any, .any, .agg (i64s o), .c (.int .i64 ((d : Nat) : Int))] ++ List.replicate 9 .any)) (fun d => ⟨upd G kk (.live ⟨[.int .i64 ((ordM o v d : Nat) : Int)], true⟩), N, [.live ⟨i64s o, true⟩]⟩) (fun d => 10 - d) (fun d => d ≤ 10) 0 (Nat.zero_le _) (by rw [show ordM o v 0 = v from rfl, upd_self hG]) (by repeat' (first | exact trivial | exact .inl rfl | exact .inr rfl | refine ⟨?_, ?_⟩)) fun d hd => ?_
  have hM := ordM_spec o v d
  have hst : ordM o v (d + 1) = if o.getD d 0 ≠ 0 ∧ d < ordM o v d then d else ordM o v d := rfl
  have hend : d = 10 → ordM o v 10 = ordM o v d := fun e => by rw [e]
  simp only [List.replicate, List.cons_append, List.nil_append]
  repeat' (first | (with_reducible first | refine W1 ?_ | refine W2 ?_ | refine W3 ?_ | refine W4 mixed ?_ | refine W5 ?_ | refine W6 ?_ | refine W7 ?_ | refine W8 ?_ | refine W9 ?_ | refine V1 ?_ | refine V2 ?_ | refine V3 ?_ | refine V4 (by decide) ?_ | refine V5 ?_ | refine V6 ?_ | refine V7 ?_ | refine V8 ?_ | refine V9 ?_ | refine U1 ?_ | refine U2 ?_ | refine U3 ?_) | (with_reducible refine U4 ?_ ?_; next => first | omega | exact ⟨trivial, by omega⟩) | simp (maxSteps := 2000000) (discharger := first | omega | (simp (discharger := omega) only [Z1, Z2, Z3, Z4, Z5, Z6, Z7] <;> fail) | (simp (discharger := omega) only [Z3, Z8, Z2, Z4, Z1, Z7, Z5, Z6, Z9, Y1, Y2]; omega)) only [go_sem])
  refine swp_cond _ rfl (fun h => ?_) (fun h => ?_)
  · have hltd : d < 10 := by simp at h; omega
    generalize ordM o v d = a at hM hst
    repeat' (first | (with_reducible first | refine W1 ?_ | refine W2 ?_ | refine W3 ?_ | refine W4 mixed ?_ | refine W5 ?_ | refine W6 ?_ | refine W7 ?_ | refine W8 ?_ | refine W9 ?_ | refine V1 ?_ | refine V2 ?_ | refine V3 ?_ | refine V4 (by decide) ?_ | refine V5 ?_ | refine V6 ?_ | refine V7 ?_ | refine V8 ?_ | refine V9 ?_ | refine U1 ?_ | refine U2 ?_ | refine U3 ?_) | (with_reducible refine U4 ?_ ?_; next => first | omega | exact ⟨trivial, by omega⟩) | simp (maxSteps := 2000000) (discharger := first | omega | (simp (discharger := omega) only [Z1, Z2, Z3, Z4, Z5, Z6, Z7] <;> fail) | (simp (discharger := omega) only [Z3, Z8, Z2, Z4, Z1, Z7, Z5, Z6, Z9, Y1, Y2]; omega)) only [go_sem])
    refine swp_cond _ rfl (fun h => ?_) (fun h => ?_)
    · have hne : o.getD d 0 ≠ 0 := by simpa using h
      repeat' (first | (with_reducible first | refine W1 ?_ | refine W2 ?_ | refine W3 ?_ | refine W4 mixed ?_ | refine W5 ?_ | refine W6 ?_ | refine W7 ?_ | refine W8 ?_ | refine W9 ?_ | refine V1 ?_ | refine V2 ?_ | refine V3 ?_ | refine V4 (by decide) ?_ | refine V5 ?_ | refine V6 ?_ | refine V7 ?_ | refine V8 ?_ | refine V9 ?_ | refine U1 ?_ | refine U2 ?_ | refine U3 ?_) | (with_reducible refine U4 ?_ ?_; next => first | omega | exact ⟨trivial, by omega⟩) | simp (maxSteps := 2000000) (discharger := first | omega | (simp (discharger := omega) only [Z1, Z2, Z3, Z4, Z5, Z6, Z7] <;> fail) | (simp (discharger := omega) only [Z3, Z8, Z2, Z4, Z1, Z7, Z5, Z6, Z9, Y1, Y2]; omega)) only [go_sem, upd_same, upd_upd])
      refine forK_same (d + 1) (by omega) (by omega) ?_ (by repeat' (first | exact trivial | exact .inl rfl | exact .inr rfl | refine ⟨?_, ?_⟩))
      by_cases e : d < a
      · have e1 : ordM o v (d + 1) = d := by rw [hst, if_pos ⟨hne, e⟩]
        have e2 : (d : Int) < (a : Int) := by omega
        rw [e1, if_pos e2]
      · have e1 : ordM o v (d + 1) = a := by rw [hst, if_neg (fun h => e h.2)]
        have e2 : ¬ (d : Int) < (a : Int) := by omega
        rw [e1, if_neg e2]
    · have he : o.getD d 0 = 0 := by simpa using h
      repeat' (first | (with_reducible first | refine W1 ?_ | refine W2 ?_ | refine W3 ?_ | refine W4 mixed ?_ | refine W5 ?_ | refine W6 ?_ | refine W7 ?_ | refine W8 ?_ | refine W9 ?_ | refine V1 ?_ | refine V2 ?_ | refine V3 ?_ | refine V4 (by decide) ?_ | refine V5 ?_ | refine V6 ?_ | refine V7 ?_ | refine V8 ?_ | refine V9 ?_ | refine U1 ?_ | refine U2 ?_ | refine U3 ?_) | (with_reducible refine U4 ?_ ?_; next => first | omega | exact ⟨trivial, by omega⟩) | simp (maxSteps := 2000000) (discharger := first | omega | (simp (discharger := omega) only [Z1, Z2, Z3, Z4, Z5, Z6, Z7] <;> fail) | (simp (discharger := omega) only [Z3, Z8, Z2, Z4, Z1, Z7, Z5, Z6, Z9, Y1, Y2]; omega)) only [go_sem])
      exact forK_same (d + 1) (by omega) (by omega) (by rw [hst, if_neg (fun h => h.1 he)]) (by repeat' (first | exact trivial | exact .inl rfl | exact .inr rfl | refine ⟨?_, ?_⟩))
  · have hd10 : d = 10 := by simp at h; omega
    rw [hend hd10]
    generalize ordM o v d = a
    repeat' (first | (with_reducible first | refine W1 ?_ | refine W2 ?_ | refine W3 ?_ | refine W4 mixed ?_ | refine W5 ?_ | refine W6 ?_ | refine W7 ?_ | refine W8 ?_ | refine W9 ?_ | refine V1 ?_ | refine V2 ?_ | refine V3 ?_ | refine V4 (by decide) ?_ | refine V5 ?_ | refine V6 ?_ | refine V7 ?_ | refine V8 ?_ | refine V9 ?_ | refine U1 ?_ | refine U2 ?_ | refine U3 ?_) | (with_reducible refine U4 ?_ ?_; next => first | omega | exact ⟨trivial, by omega⟩) | simp (maxSteps := 2000000) (discharger := first | omega | (simp (discharger := omega) only [Z1, Z2, Z3, Z4, Z5, Z6, Z7] <;> fail) | (simp (discharger := omega) only [Z3, Z8, Z2, Z4, Z1, Z7, Z5, Z6, Z9, Y1, Y2]; omega)) only [go_sem])
    exact ret_writes hN (ws := [(kk, .live ⟨[.int .i64 (a : Int)], true⟩)]) (by simp only [List.mem_singleton]; rintro p rfl; exact ⟨hlt, _, _, rfl, fun c hc => by simp at hc; subst hc; rfl⟩) [] trivial rfl (.tup (by simp))

theorem pwL_len (p : Int) (l : List Int) (x y z n : Nat) : (pwL p l x y z n).length = 10 := by simp [pwL]
/-- What the least power says of the places that were looked at. -/
def OInv (p : Int) (l : List Int) (len X Y Z : Nat) (st : Cell) (x y z : Nat) : Prop := ∃ v : Nat, st = .int .i64 (v : Int) ∧ v ≤ 10 ∧ Done3 X Y Z (fun a b c => ∀ d, d < v → (coef l a b c d len).tmod p = 0) x y z ∧ (v < 10 → ∃ a b c, a < X ∧ b < Y ∧ c < Z ∧ (coef l a b c v len).tmod p ≠ 0)
theorem order_spec {c : Cell} {rs : List (Nat × AObj)} {len : Nat} {l : List Int} (p n m k : Int) {X Y Z : Nat} (hX : n * m = (X : Int)) (hY : m * k = (Y : Int)) (hZ : n * k = (Z : Int)) (hok : borderOk p n m k len l = true) (hc : Sl 108 (u8s l) len c rs) (hl : l.length = len * 108) (hb : byteL l) (v : Nat) (hv : v = ordV (nzD p m k l len X Y Z) 10 0) :
    FSpec Try.prog 148 [.agg (tenC p n m k c)] (.c (.int .i64 v)) rs [] := by
  refine FSpec.of f_impl_order (Nat.le_of_ble_eq_true rfl) fun G N hN hr hw => ?_
  simp only [c_impl_order, List.length_cons, List.length_nil, List.replicate, List.cons_append, List.nil_append]
  repeat' (first | (with_reducible first | refine W1 ?_ | refine W2 ?_ | refine W3 ?_ | refine W4 mixed ?_ | refine W5 ?_ | refine W6 ?_ | refine W7 ?_ | refine W8 ?_ | refine W9 ?_ | refine V1 ?_ | refine V2 ?_ | refine V3 ?_ | refine V4 (by decide) ?_ | refine V5 ?_ | refine V6 ?_ | refine V7 ?_ | refine V8 ?_ | refine V9 ?_ | refine U1 ?_ | refine U2 ?_ | refine U3 ?_) | (with_reducible refine U4 ?_ ?_; next => first | omega | exact ⟨trivial, by omega⟩) | simp (maxSteps := 2000000) (discharger := first | omega | (simp (discharger := omega) only [Z1, Z2, Z3, Z4, Z5, Z6, Z7] <;> fail) | (simp (discharger := omega) only [Z3, Z8, Z2, Z4, Z1, Z7, Z5, Z6, Z9, Y1, Y2]; omega)) only [go_sem])
  have hne : ∀ q ∈ rs ++ [], q.1 ≠ nid N 1 := fun q hq => by
    have := (hr q (by simpa using hq)).2
    unfold nid; omega
  have hE := eachPlace_spec p n m k hX hY hZ hok hc hl hb (f := 198) (caps := [(nid N 1, 0)]) (kk := nid N 1) (ext := []) (OInv p l len X Y Z) (s0 := .int .i64 10) (fin := .int .i64 v)
    ⟨10, rfl, Nat.le_refl _, Done3.zero, fun h => absurd h (by omega)⟩ (fun st x y z ⟨a, h, _⟩ => by subst h; rfl)
    (fun st x y z h1 h2 h3 ⟨a, ha, ha10, hD, hex⟩ => by
      subst ha
      refine ⟨_, order1_spec (pwL_len p l x y z len) _ _ a ha10, _, rfl, ?_, ?_, ?_⟩
      all_goals obtain ⟨g1, g2, g3⟩ := ordM_spec (pwL p l x y z len) a 10
      · omega
      · refine Done3.step (fun i j u e1 e2 e3 hbf d hd => hD i j u e1 e2 e3 hbf d (by omega)) ?_
        intro d hd
        have := g2 d (by omega) hd
        rwa [pwL_get (by omega)] at this
      · intro h10
        rcases g3 with g3 | ⟨g3, g4⟩
        · rw [g3]; exact hex (by omega)
        · rw [pwL_get g3] at g4
          exact ⟨x, y, z, h1, h2, h3, g4⟩)
    (fun st x y ⟨a, h1, h2, h3, h4⟩ => ⟨a, h1, h2, h3.row, h4⟩) (fun st x ⟨a, h1, h2, h3, h4⟩ => ⟨a, h1, h2, h3.plane, h4⟩)
    (fun st ⟨a, h1, h2, h3, h4⟩ => by
      subst h1
      have : a = v := by
        rw [hv]
        refine ordV_uniq (fun e he => ?_) (fun h10 => ?_) h2
        · rw [nzD, Bool.not_eq_false']
          exact allB_iff.2 fun i j u e1 e2 e3 => by
            have := h3.all i j u e1 e2 e3 e he
            simp [cfOk, this]
        · obtain ⟨i, j, u, e1, e2, e3, e4⟩ := h4 h10
          rw [nzD, Bool.not_eq_true']
          exact allB_no e1 e2 e3 (by simpa [cfOk] using e4)
      rw [this]) hne
  rw [show ptrs [AV.c (.ptr (nid N 1) 0)] = some [(nid N 1, 0)] from rfl]
  repeat' (first | (with_reducible first | refine W1 ?_ | refine W2 ?_ | refine W3 ?_ | refine W4 mixed ?_ | refine W5 ?_ | refine W6 ?_ | refine W7 ?_ | refine W8 ?_ | refine W9 ?_ | refine V1 ?_ | refine V2 ?_ | refine V3 ?_ | refine V4 (by decide) ?_ | refine V5 ?_ | refine V6 ?_ | refine V7 ?_ | refine V8 ?_ | refine V9 ?_ | refine U1 ?_ | refine U2 ?_ | refine U3 ?_) | (with_reducible refine U4 ?_ ?_; next => first | omega | exact ⟨trivial, by omega⟩) | simp (maxSteps := 2000000) (discharger := first | omega | (simp (discharger := omega) only [Z1, Z2, Z3, Z4, Z5, Z6, Z7] <;> fail) | (simp (discharger := omega) only [Z3, Z8, Z2, Z4, Z1, Z7, Z5, Z6, Z9, Y1, Y2]; omega)) only [go_sem])
  refine call_intro hE ?_ ?_ ?_
  · intro q hq
    rcases List.mem_append.1 hq with hq | hq
    · exact get_rd hr q hq
    · rw [List.mem_singleton] at hq
      subst hq
      rw [get_new]; rfl
  · intro q hq
    rw [List.mem_singleton] at hq
    subst hq
    exact .inl ⟨_, List.mem_append_right _ (List.mem_singleton.2 rfl)⟩
  repeat' (first | (with_reducible first | refine W1 ?_ | refine W2 ?_ | refine W3 ?_ | refine W4 mixed ?_ | refine W5 ?_ | refine W6 ?_ | refine W7 ?_ | refine W8 ?_ | refine W9 ?_ | refine V1 ?_ | refine V2 ?_ | refine V3 ?_ | refine V4 (by decide) ?_ | refine V5 ?_ | refine V6 ?_ | refine V7 ?_ | refine V8 ?_ | refine V9 ?_ | refine U1 ?_ | refine U2 ?_ | refine U3 ?_) | (with_reducible refine U4 ?_ ?_; next => first | omega | exact ⟨trivial, by omega⟩) | simp (maxSteps := 2000000) (discharger := first | omega | (simp (discharger := omega) only [Z1, Z2, Z3, Z4, Z5, Z6, Z7] <;> fail) | (simp (discharger := omega) only [Z3, Z8, Z2, Z4, Z1, Z7, Z5, Z6, Z9, Y1, Y2]; omega)) only [go_sem])
  exact ret_eq hN rfl rfl rfl

theorem implOrder_spec {cc : Cell} {rs : List (Nat × AObj)} {len : Nat} {l : List Int} (p n m k : Int) {X Y Z : Nat} (hX : n * m = (X : Int)) (hY : m * k = (Y : Int)) (hZ : n * k = (Z : Int)) (hc : Sl 108 (u8s l) len cc rs) (hl : l.length = len * 108) (hn : len ≤ 10000000000) (hb : byteL l) (hok : borderOk p n m k len l = true) (v : Nat) (hv : v = ordV (nzD p m k l len X Y Z) 10 0) :
    FSpec Try.prog 73 [.agg (tenC p n m k cc)] (.tup [.c (.int .i64 (if v < 10 then (v : Int) else 0)), .c (.int .i64 (if v < 10 then 0 else 4))]) rs [] := by
  have h10 := (ordV_spec (nzD p m k l len X Y Z) 10 0).2.2.2
  rw [← hv] at h10
  refine FSpec.of f_impl_OrderOfBorder (Nat.le_of_ble_eq_true rfl) fun G N hN hr hw => ?_
  simp only [c_impl_OrderOfBorder, List.length_cons, List.length_nil, List.replicate, List.cons_append, List.nil_append]
  repeat' (first | (with_reducible first | refine W1 ?_ | refine W2 ?_ | refine W3 ?_ | refine W4 mixed ?_ | refine W5 ?_ | refine W6 ?_ | refine W7 ?_ | refine W8 ?_ | refine W9 ?_ | refine V1 ?_ | refine V2 ?_ | refine V3 ?_ | refine V4 (by decide) ?_ | refine V5 ?_ | refine V6 ?_ | refine V7 ?_ | refine V8 ?_ | refine V9 ?_ | refine U1 ?_ | refine U2 ?_ | refine U3 ?_) | (with_reducible refine U4 ?_ ?_; next => first | omega | exact ⟨trivial, by omega⟩) | simp (maxSteps := 2000000) (discharger := first | omega | (simp (discharger := omega) only [Z1, Z2, Z3, Z4, Z5, Z6, Z7] <;> fail) | (simp (discharger := omega) only [Z3, Z8, Z2, Z4, Z1, Z7, Z5, Z6, Z9, Y1, Y2]; omega)) only [go_sem])
  refine call_ro (implIsBorder_spec p n m k hc hl hn hb) (get_rd hr) ?_
  repeat' (first | (with_reducible first | refine W1 ?_ | refine W2 ?_ | refine W3 ?_ | refine W4 mixed ?_ | refine W5 ?_ | refine W6 ?_ | refine W7 ?_ | refine W8 ?_ | refine W9 ?_ | refine V1 ?_ | refine V2 ?_ | refine V3 ?_ | refine V4 (by decide) ?_ | refine V5 ?_ | refine V6 ?_ | refine V7 ?_ | refine V8 ?_ | refine V9 ?_ | refine U1 ?_ | refine U2 ?_ | refine U3 ?_) | (with_reducible refine U4 ?_ ?_; next => first | omega | exact ⟨trivial, by omega⟩) | ((with_reducible refine U5 _ rfl (fun hq => ?_) (fun hq => ?_)) <;> try (first | (cases hq; done) | exact absurd hq (by decide))) | ((with_reducible refine U6 (fun hq => ?_) (fun hq => ?_)) <;> try (first | (cases hq; done) | exact absurd hq (by decide))) | simp (maxSteps := 2000000) (discharger := first | omega | (simp (discharger := omega) only [Z1, Z2, Z3, Z4, Z5, Z6, Z7] <;> fail) | (simp (discharger := omega) only [Z3, Z8, Z2, Z4, Z1, Z7, Z5, Z6, Z9, Y1, Y2]; omega)) only [go_sem, hok])
  refine call_ro (order_spec p n m k hX hY hZ hok hc hl hb v hv) (get_rd hr) ?_
  by_cases h : v < 10
  · have q : ¬ (9 : Int) < (v : Int) := by omega
    rw [if_pos h, if_pos h]
    repeat' (first | (with_reducible first | refine W1 ?_ | refine W2 ?_ | refine W3 ?_ | refine W4 mixed ?_ | refine W5 ?_ | refine W6 ?_ | refine W7 ?_ | refine W8 ?_ | refine W9 ?_ | refine V1 ?_ | refine V2 ?_ | refine V3 ?_ | refine V4 (by decide) ?_ | refine V5 ?_ | refine V6 ?_ | refine V7 ?_ | refine V8 ?_ | refine V9 ?_ | refine U1 ?_ | refine U2 ?_ | refine U3 ?_) | (with_reducible refine U4 ?_ ?_; next => first | omega | exact ⟨trivial, by omega⟩) | ((with_reducible refine U5 _ rfl (fun hq => ?_) (fun hq => ?_)) <;> try (first | (cases hq; done) | exact absurd hq (by decide))) | ((with_reducible refine U6 (fun hq => ?_) (fun hq => ?_)) <;> try (first | (cases hq; done) | exact absurd hq (by decide))) | simp (maxSteps := 2000000) (discharger := first | omega | (simp (discharger := omega) only [Z1, Z2, Z3, Z4, Z5, Z6, Z7] <;> fail) | (simp (discharger := omega) only [Z3, Z8, Z2, Z4, Z1, Z7, Z5, Z6, Z9, Y1, Y2]; omega)) only [go_sem, q, decide_false])
    exact ret_none hN [.c (.int .i64 v), .c (.int .i64 0)] ⟨rfl, rfl, trivial⟩ rfl rfl rfl (by simp)
  · have q : (9 : Int) < (v : Int) := by omega
    rw [if_neg h, if_neg h]
    repeat' (first | (with_reducible first | refine W1 ?_ | refine W2 ?_ | refine W3 ?_ | refine W4 mixed ?_ | refine W5 ?_ | refine W6 ?_ | refine W7 ?_ | refine W8 ?_ | refine W9 ?_ | refine V1 ?_ | refine V2 ?_ | refine V3 ?_ | refine V4 (by decide) ?_ | refine V5 ?_ | refine V6 ?_ | refine V7 ?_ | refine V8 ?_ | refine V9 ?_ | refine U1 ?_ | refine U2 ?_ | refine U3 ?_) | (with_reducible refine U4 ?_ ?_; next => first | omega | exact ⟨trivial, by omega⟩) | ((with_reducible refine U5 _ rfl (fun hq => ?_) (fun hq => ?_)) <;> try (first | (cases hq; done) | exact absurd hq (by decide))) | ((with_reducible refine U6 (fun hq => ?_) (fun hq => ?_)) <;> try (first | (cases hq; done) | exact absurd hq (by decide))) | simp (maxSteps := 2000000) (discharger := first | omega | (simp (discharger := omega) only [Z1, Z2, Z3, Z4, Z5, Z6, Z7] <;> fail) | (simp (discharger := omega) only [Z3, Z8, Z2, Z4, Z1, Z7, Z5, Z6, Z9, Y1, Y2]; omega)) only [go_sem, q, decide_true])
    exact ret_none hN [.c (.int .i64 0), .c (.int .i64 4)] ⟨rfl, rfl, trivial⟩ rfl rfl rfl (by simp)
theorem specOrder_err {cc : Cell} {rs : List (Nat × AObj)} {len : Nat} {l : List Int} (p n m k : Int) (hc : Sl 108 (u8s l) len cc rs) (hl : l.length = len * 108) (hn : len ≤ 10000000000) (hb : byteL l) (hok : borderOk p n m k len l = false) :
    FSpec Try.prog 72 [.agg (tenC p n m k cc)] (.tup [.c (.int .i64 0), .c (.int .i64 1)]) rs [] := by
  refine FSpec.of f_spec_OrderOfBorder (Nat.le_of_ble_eq_true rfl) fun G N hN hr hw => ?_
  simp only [c_spec_OrderOfBorder, List.length_cons, List.length_nil, List.replicate, List.cons_append, List.nil_append]
  repeat' (first | (with_reducible first | refine W1 ?_ | refine W2 ?_ | refine W3 ?_ | refine W4 mixed ?_ | refine W5 ?_ | refine W6 ?_ | refine W7 ?_ | refine W8 ?_ | refine W9 ?_ | refine V1 ?_ | refine V2 ?_ | refine V3 ?_ | refine V4 (by decide) ?_ | refine V5 ?_ | refine V6 ?_ | refine V7 ?_ | refine V8 ?_ | refine V9 ?_ | refine U1 ?_ | refine U2 ?_ | refine U3 ?_) | (with_reducible refine U4 ?_ ?_; next => first | omega | exact ⟨trivial, by omega⟩) | simp (maxSteps := 2000000) (discharger := first | omega | (simp (discharger := omega) only [Z1, Z2, Z3, Z4, Z5, Z6, Z7] <;> fail) | (simp (discharger := omega) only [Z3, Z8, Z2, Z4, Z1, Z7, Z5, Z6, Z9, Y1, Y2]; omega)) only [go_sem])
  refine call_ro (l08Is_spec p n m k hc hl hn hb) (get_rd hr) ?_
  repeat' (first | (with_reducible first | refine W1 ?_ | refine W2 ?_ | refine W3 ?_ | refine W4 mixed ?_ | refine W5 ?_ | refine W6 ?_ | refine W7 ?_ | refine W8 ?_ | refine W9 ?_ | refine V1 ?_ | refine V2 ?_ | refine V3 ?_ | refine V4 (by decide) ?_ | refine V5 ?_ | refine V6 ?_ | refine V7 ?_ | refine V8 ?_ | refine V9 ?_ | refine U1 ?_ | refine U2 ?_ | refine U3 ?_) | (with_reducible refine U4 ?_ ?_; next => first | omega | exact ⟨trivial, by omega⟩) | ((with_reducible refine U5 _ rfl (fun hq => ?_) (fun hq => ?_)) <;> try (first | (cases hq; done) | exact absurd hq (by decide))) | ((with_reducible refine U6 (fun hq => ?_) (fun hq => ?_)) <;> try (first | (cases hq; done) | exact absurd hq (by decide))) | simp (maxSteps := 2000000) (discharger := first | omega | (simp (discharger := omega) only [Z1, Z2, Z3, Z4, Z5, Z6, Z7] <;> fail) | (simp (discharger := omega) only [Z3, Z8, Z2, Z4, Z1, Z7, Z5, Z6, Z9, Y1, Y2]; omega)) only [go_sem, hok])
  exact ret_none hN [.c (.int .i64 0), .c (.int .i64 1)] ⟨rfl, rfl, trivial⟩ rfl rfl rfl (by simp)
theorem implOrder_err {cc : Cell} {rs : List (Nat × AObj)} {len : Nat} {l : List Int} (p n m k : Int) (hc : Sl 108 (u8s l) len cc rs) (hl : l.length = len * 108) (hn : len ≤ 10000000000) (hb : byteL l) (hok : borderOk p n m k len l = false) :
    FSpec Try.prog 73 [.agg (tenC p n m k cc)] (.tup [.c (.int .i64 0), .c (.int .i64 1)]) rs [] := by
  refine FSpec.of f_impl_OrderOfBorder (Nat.le_of_ble_eq_true rfl) fun G N hN hr hw => ?_
  simp only [c_impl_OrderOfBorder, List.length_cons, List.length_nil, List.replicate, List.cons_append, List.nil_append]
  repeat' (first | (with_reducible first | refine W1 ?_ | refine W2 ?_ | refine W3 ?_ | refine W4 mixed ?_ | refine W5 ?_ | refine W6 ?_ | refine W7 ?_ | refine W8 ?_ | refine W9 ?_ | refine V1 ?_ | refine V2 ?_ | refine V3 ?_ | refine V4 (by decide) ?_ | refine V5 ?_ | refine V6 ?_ | refine V7 ?_ | refine V8 ?_ | refine V9 ?_ | refine U1 ?_ | refine U2 ?_ | refine U3 ?_) | (with_reducible refine U4 ?_ ?_; next => first | omega | exact ⟨trivial, by omega⟩) | simp (maxSteps := 2000000) (discharger := first | omega | (simp (discharger := omega) only [Z1, Z2, Z3, Z4, Z5, Z6, Z7] <;> fail) | (simp (discharger := omega) only [Z3, Z8, Z2, Z4, Z1, Z7, Z5, Z6, Z9, Y1, Y2]; omega)) only [go_sem])
  refine call_ro (implIsBorder_spec p n m k hc hl hn hb) (get_rd hr) ?_
  repeat' (first | (with_reducible first | refine W1 ?_ | refine W2 ?_ | refine W3 ?_ | refine W4 mixed ?_ | refine W5 ?_ | refine W6 ?_ | refine W7 ?_ | refine W8 ?_ | refine W9 ?_ | refine V1 ?_ | refine V2 ?_ | refine V3 ?_ | refine V4 (by decide) ?_ | refine V5 ?_ | refine V6 ?_ | refine V7 ?_ | refine V8 ?_ | refine V9 ?_ | refine U1 ?_ | refine U2 ?_ | refine U3 ?_) | (with_reducible refine U4 ?_ ?_; next => first | omega | exact ⟨trivial, by omega⟩) | ((with_reducible refine U5 _ rfl (fun hq => ?_) (fun hq => ?_)) <;> try (first | (cases hq; done) | exact absurd hq (by decide))) | ((with_reducible refine U6 (fun hq => ?_) (fun hq => ?_)) <;> try (first | (cases hq; done) | exact absurd hq (by decide))) | simp (maxSteps := 2000000) (discharger := first | omega | (simp (discharger := omega) only [Z1, Z2, Z3, Z4, Z5, Z6, Z7] <;> fail) | (simp (discharger := omega) only [Z3, Z8, Z2, Z4, Z1, Z7, Z5, Z6, Z9, Y1, Y2]; omega)) only [go_sem, hok])
  exact ret_none hN [.c (.int .i64 0), .c (.int .i64 1)] ⟨rfl, rfl, trivial⟩ rfl rfl rfl (by simp)
end Go.Proofs.Ytmeddoilmlilnaa
