/- Stretched border schemes. -/
import Derived.Test.YtkalaahmbdimfaaB7
import Derived.Test.YtkalaahmbdimfaaB6
namespace Go.Proofs.Ytkalaahmbdimfaa
open Go Go.Abs
set_option maxRecDepth 100000
/- loop.example/g01262/impl.power -/
def c_impl_power : SFn := ⟨(.seq (.ops [⟨some 4, .assign (.const (.int .i64 0)), none⟩])
 (.seq (.ops [⟨some 5, .assign (.const (.int .i64 1)), none⟩])
  (.seq (.seq (.ops [⟨some 6, .move (.tmp 1), none⟩, ⟨some 7, .move (.const (.int .i64 0)), none⟩])
    (.block 0 (.loop (.seq (.ops [⟨some 8, .binOp .lss 2 (.tmp 7) (.tmp 6) 2, none⟩])
       (.seq (.cond (.tmp 8) .skip
         (.exit 0))
        (.seq (.block 1 (.ops [⟨some 9, .move (.tmp 5), none⟩, ⟨some 10, .move (.tmp 0), none⟩, ⟨some 11, .binOp .mul 2 (.tmp 9) (.tmp 10) 2, none⟩, ⟨some 5, .assign (.tmp 11), none⟩]))
         (.ops [⟨some 12, .binOp .add 2 (.tmp 7) (.const (.int .i64 1)) 2, none⟩, ⟨some 7, .move (.tmp 12), none⟩])))))))
   (.seq (.ops [⟨some 13, .move (.tmp 5), none⟩, ⟨some 4, .assign (.tmp 13), none⟩])
    .ret)))), [.tmp 4], 14⟩
theorem f_impl_power : isFn Go.Proofs.Try.prog 292 = some c_impl_power := by kernel_rfl


set_option maxRecDepth 100000
set_option maxHeartbeats 8000000
set_option linter.unusedVariables false
attribute [-simp] List.getD_eq_getElem?_getD
attribute [-go_sem] confV

def mapTo (f : Nat → Int) (n : Nat) : List Int := (List.range n).map f
theorem mapTo_length (f : Nat → Int) (n : Nat) : (mapTo f n).length = n := by simp [mapTo]
theorem mapTo_get {f : Nat → Int} {n j : Nat} (h : j < n) : (mapTo f n).getD j 0 = f j := by simp [mapTo, List.getD_eq_getElem?_getD, h]
theorem eq_mapTo {o : List Int} {n : Nat} {f : Nat → Int} (hl : o.length = n) (h : ∀ j, j < n → o.getD j 0 = f j) : o = mapTo f n := by
  apply List.ext_getElem?
  intro j
  by_cases hj : j < n
  · have := h j hj
    rw [List.getD_eq_getElem?_getD, List.getElem?_eq_getElem (by omega)] at this
    rw [List.getElem?_eq_getElem (by omega)]
    simp [mapTo, hj] at this ⊢
    exact this
  · rw [List.getElem?_eq_none (by omega), List.getElem?_eq_none (by simp [mapTo]; omega)]
theorem zeros_get (n j : Nat) : (zeros n).getD j 0 = 0 := by
  rw [List.getD_eq_getElem?_getD, zeros, List.getElem?_replicate]
  split <;> rfl
theorem getD_app {a b : List Int} {j : Nat} : (a ++ b).getD j 0 = if j < a.length then a.getD j 0 else b.getD (j - a.length) 0 := by
  simp only [List.getD_eq_getElem?_getD, List.getElem?_append]
  split <;> rfl
theorem twL_eq {a b c : List Int} (ha : a.length = 36) (hb : b.length = 36) (hc : c.length = 36) : twL a b c = a ++ b ++ c := by
  have z : (zeros 108).length = 108 := zeros_length _
  have A : putL (zeros 108) 0 a = a ++ (zeros 108).drop 36 := by rw [putL_eq (by omega), ha]; simp
  have B : putL (putL (zeros 108) 0 a) 36 b = a ++ b ++ (zeros 108).drop 72 := by
    rw [putL_eq (by rw [putL_len]; omega), A, hb, List.take_append_of_le_length (by omega), List.take_of_length_le (by omega), List.drop_append, List.drop_of_length_le (l := a) (by omega), ha, List.nil_append, List.drop_drop]
  rw [twL, putL_eq (by rw [putL_len, putL_len]; omega), B, hc, List.take_append_of_le_length (by rw [List.length_append]; omega), List.take_of_length_le (by rw [List.length_append]; omega), List.drop_of_length_le (by simp [ha, hb, zeros]), List.append_nil]
theorem twL_get {a b c : List Int} (ha : a.length = 36) (hb : b.length = 36) (hc : c.length = 36) (j : Nat) : (twL a b c).getD j 0 = if j < 36 then a.getD j 0 else if j < 72 then b.getD (j - 36) 0 else c.getD (j - 72) 0 := by
  rw [twL_eq ha hb hc, getD_app, List.length_append, ha, hb]
  by_cases h1 : j < 36
  · rw [if_pos (by omega), getD_app, ha, if_pos h1, if_pos h1]
  · by_cases h2 : j < 72
    · rw [if_pos (by omega), getD_app, ha, if_neg h1, if_neg h1, if_pos h2]
    · rw [if_neg (by omega), if_neg h1, if_neg h2]

theorem power_spec (v : Int) (d : Nat) (hv : 0 ≤ v ∧ v ≤ 4) (hd : d ≤ 4) : FSpec Try.prog 292 [.c (.int .i64 v), .c (.int .i64 ((d : Nat) : Int))] (.c (.int .i64 (v ^ d))) [] [] := by
  have bnd : ∀ e, e ≤ 4 → 0 ≤ v ^ e ∧ v ^ e ≤ 256 := by
    intro e he
    have h1 : 0 ≤ v ^ e := Int.pow_nonneg hv.1
    have hv' : v = 0 ∨ v = 1 ∨ v = 2 ∨ v = 3 ∨ v = 4 := by omega
    have he' : e = 0 ∨ e = 1 ∨ e = 2 ∨ e = 3 ∨ e = 4 := by omega
    rcases hv' with rfl | rfl | rfl | rfl | rfl <;> rcases he' with rfl | rfl | rfl | rfl | rfl <;> decide
  refine FSpec.of f_impl_power (Nat.le_of_ble_eq_true rfl) fun G N hN hr hw => ?_
  simp only [c_impl_power, List.length_cons, List.length_nil, List.replicate, List.cons_append, List.nil_append]
  repeat' (first | (with_reducible first | refine W1 ?_ | refine W2 ?_ | refine W3 ?_ | refine W4 mixed ?_ | refine W5 ?_ | refine W6 ?_ | refine W7 ?_ | refine W8 ?_ | refine W9 ?_ | refine V1 ?_ | refine V2 ?_ | refine V3 ?_ | refine V4 (by decide) ?_ | refine V5 ?_ | refine V6 ?_ | refine V7 ?_ | refine V8 ?_ | refine V9 ?_ | refine U1 ?_ | refine U2 ?_ | refine U3 ?_) | (with_reducible refine U4 ?_ ?_; next => first | omega | exact ⟨trivial, by omega⟩) | simp (maxSteps := 2000000) (discharger := first | omega | (simp (discharger := omega) only [Z1, Z2, Z3, Z4, Z5, Z6, Z7] <;> fail) | (simp (discharger := omega) only [Z3, Z8, Z2, Z4, Z1, Z7, Z5, Z6, Z9, Y1, Y2]; omega)) only [go_sem])
  refine swp_for (fun e : Nat => ([.c (.int .i64 (v)), .any, .any, .any, .any, .c (.int .i64 (v ^ e)), .c (.int .i64 ((d : Nat) : Int)), .c (.int .i64 ((e : Nat) : Int))] ++ List.replicate 6 .any)) (fun e => ⟨G, N, []⟩) (fun e => d - e) (fun e => e ≤ d) 0 (Nat.zero_le _) rfl (by rw [Int.pow_zero]; repeat' (first | exact trivial | exact .inl rfl | exact .inr rfl | refine ⟨?_, ?_⟩)) fun e he => ?_
  simp only [List.replicate, List.cons_append, List.nil_append]
  repeat' (first | (with_reducible first | refine W1 ?_ | refine W2 ?_ | refine W3 ?_ | refine W4 mixed ?_ | refine W5 ?_ | refine W6 ?_ | refine W7 ?_ | refine W8 ?_ | refine W9 ?_ | refine V1 ?_ | refine V2 ?_ | refine V3 ?_ | refine V4 (by decide) ?_ | refine V5 ?_ | refine V6 ?_ | refine V7 ?_ | refine V8 ?_ | refine V9 ?_ | refine U1 ?_ | refine U2 ?_ | refine U3 ?_) | (with_reducible refine U4 ?_ ?_; next => first | omega | exact ⟨trivial, by omega⟩) | simp (maxSteps := 2000000) (discharger := first | omega | (simp (discharger := omega) only [Z1, Z2, Z3, Z4, Z5, Z6, Z7] <;> fail) | (simp (discharger := omega) only [Z3, Z8, Z2, Z4, Z1, Z7, Z5, Z6, Z9, Y1, Y2]; omega)) only [go_sem])
  refine swp_cond _ rfl (fun h => ?_) (fun h => ?_)
  · have hlt : e < d := by simpa using h
    have b1 := bnd e (by omega)
    have b2 := bnd (e + 1) (by omega)
    rw [Int.pow_succ] at b2
    repeat' (first | (with_reducible first | refine W1 ?_ | refine W2 ?_ | refine W3 ?_ | refine W4 mixed ?_ | refine W5 ?_ | refine W6 ?_ | refine W7 ?_ | refine W8 ?_ | refine W9 ?_ | refine V1 ?_ | refine V2 ?_ | refine V3 ?_ | refine V4 (by decide) ?_ | refine V5 ?_ | refine V6 ?_ | refine V7 ?_ | refine V8 ?_ | refine V9 ?_ | refine U1 ?_ | refine U2 ?_ | refine U3 ?_) | (with_reducible refine U4 ?_ ?_; next => first | omega | exact ⟨trivial, by omega⟩) | simp (maxSteps := 2000000) (discharger := first | omega | (simp (discharger := omega) only [Z1, Z2, Z3, Z4, Z5, Z6, Z7] <;> fail) | (simp (discharger := omega) only [Z3, Z8, Z2, Z4, Z1, Z7, Z5, Z6, Z9, Y1, Y2]; omega)) only [go_sem])
    exact forK_same (e + 1) (by omega) (by omega) rfl (by rw [Int.pow_succ]; repeat' (first | exact trivial | exact .inl rfl | exact .inr rfl | refine ⟨?_, ?_⟩))
  · have hee : e = d := by have : ¬ e < d := by simpa using h
                           omega
    subst hee
    repeat' (first | (with_reducible first | refine W1 ?_ | refine W2 ?_ | refine W3 ?_ | refine W4 mixed ?_ | refine W5 ?_ | refine W6 ?_ | refine W7 ?_ | refine W8 ?_ | refine W9 ?_ | refine V1 ?_ | refine V2 ?_ | refine V3 ?_ | refine V4 (by decide) ?_ | refine V5 ?_ | refine V6 ?_ | refine V7 ?_ | refine V8 ?_ | refine V9 ?_ | refine U1 ?_ | refine U2 ?_ | refine U3 ?_) | (with_reducible refine U4 ?_ ?_; next => first | omega | exact ⟨trivial, by omega⟩) | simp (maxSteps := 2000000) (discharger := first | omega | (simp (discharger := omega) only [Z1, Z2, Z3, Z4, Z5, Z6, Z7] <;> fail) | (simp (discharger := omega) only [Z3, Z8, Z2, Z4, Z1, Z7, Z5, Z6, Z9, Y1, Y2]; omega)) only [go_sem])
    exact ret_eq hN rfl rfl rfl

/-- A power modulo p, made step by step. -/
def pwm (p v : Int) : Nat → Int
  | 0 => 1
  | n + 1 => (pwm p v n * v).tmod p
def pwmChk : Bool := [2, 3, 5].all fun p : Int => (List.range 5).all fun v => (List.range 5).all fun n => (List.range 4).all fun d => ((n : Int) * (v : Int) ^ d).tmod p == ((n : Int) * pwm p v d).tmod p
theorem pwmChk_true : pwmChk = true := by kernel_rfl
theorem pwm_eq {p v n : Int} {d : Nat} (hp : isP p = true) (hv : 0 ≤ v ∧ v ≤ 4) (hn : 0 ≤ n ∧ n ≤ 4) (hd : d < 4) : (n * v ^ d).tmod p = (n * pwm p v d).tmod p := by
  obtain ⟨v', rfl⟩ := Int.eq_ofNat_of_zero_le hv.1
  obtain ⟨n', rfl⟩ := Int.eq_ofNat_of_zero_le hn.1
  have h := pwmChk_true
  simp only [pwmChk, List.all_eq_true, List.mem_range, beq_iff_eq] at h
  refine h p ?_ v' (by omega) n' (by omega) d hd
  simp [isP] at hp ⊢
  omega
theorem pwm_rng {p v : Int} (hp : 2 ≤ p ∧ p ≤ 5) (hv : 0 ≤ v) (d : Nat) : 0 ≤ pwm p v d ∧ pwm p v d ≤ 4 := by
  cases d with
  | zero => simp [pwm]
  | succ d =>
    have ih := (pwm_rng hp hv d).1
    have := tmod_rng hp (Int.mul_nonneg ih hv)
    rw [pwm]; omega
def strV (p v : Int) (q : List Int) (j : Nat) : Int := (q.getD j 0 * v ^ (j % 4)).tmod p
def strS (p v : Int) (q : List Int) (j : Nat) : Int := (q.getD j 0 * pwm p v (j % 4)).tmod p

theorem str_eq {p v : Int} {q : List Int} (hp : isP p = true) (hv : 0 ≤ v ∧ v ≤ 4) (hql : q.length = 108) (hb : ∀ j, 0 ≤ q.getD j 0 ∧ q.getD j 0 ≤ 4) :
    twL (mapTo (strS p v (sub q 0 36)) 36) (mapTo (strS p v (sub q 36 36)) 36) (mapTo (strS p v (sub q 72 36)) 36) = mapTo (strV p v q) 108 := by
  refine eq_mapTo (twL_length _ _ _) fun j hj => ?_
  rw [twL_get (mapTo_length _ _) (mapTo_length _ _) (mapTo_length _ _)]
  split
  · rename_i h
    rw [mapTo_get h, strS, strV, sub_getD h, Nat.zero_add, pwm_eq hp hv (hb _) (by omega)]
  · split
    · rename_i h1 h2
      rw [mapTo_get (by omega), strS, strV, sub_getD (by omega), show 36 + (j - 36) = j from by omega, show (j - 36) % 4 = j % 4 from by omega, pwm_eq hp hv (hb _) (by omega)]
    · rename_i h1 h2
      rw [mapTo_get (by omega), strS, strV, sub_getD (by omega), show 72 + (j - 72) = j from by omega, show (j - 72) % 4 = j % 4 from by omega, pwm_eq hp hv (hb _) (by omega)]
/-- The twigs of a correct border scheme have numbers below 5. -/
theorem ser_small {p a : Int} {f : List Int} (hp : p ≤ 5) (hf : f.length = 36) (hb : byteL f) (h : serOk p a f = true) (j : Nat) : 0 ≤ f.getD j 0 ∧ f.getD j 0 ≤ 4 := by
  have h0 := hb.get j
  by_cases hj : j < 36
  · rw [serOk, Bool.and_eq_true, List.all_eq_true] at h
    have := h.1 j (List.mem_range.2 hj)
    rw [serIn, Bool.and_eq_true, decide_eq_true_eq] at this
    omega
  · rw [List.getD_eq_getElem?_getD, List.getElem?_eq_none (by omega)]; simp
theorem border_twig {p n m k : Int} {len t : Nat} {l : List Int} (h : borderOk p n m k len l = true) (ht : t < len) : twigOk p (n * m) (m * k) (n * k) (sub l (t * 108) 108) = true := by
  simp only [borderOk, Bool.and_eq_true, List.all_eq_true, List.mem_range] at h
  exact h.2 t ht
theorem twig_small {p a b c : Int} {q : List Int} (hp : p ≤ 5) (hql : q.length = 108) (hb : byteL q) (h : twigOk p a b c q = true) (j : Nat) : 0 ≤ q.getD j 0 ∧ q.getD j 0 ≤ 4 := by
  simp only [twigOk, Bool.and_eq_true] at h
  obtain ⟨⟨h0, h1⟩, h2⟩ := h
  by_cases e0 : j < 36
  · have := ser_small hp (sub_length (by omega)) (hb.sub 0 36) h0 j
    rwa [sub_getD e0, Nat.zero_add] at this
  · by_cases e1 : j < 72
    · have := ser_small hp (sub_length (by omega)) (hb.sub 36 36) h1 (j - 36)
      rwa [sub_getD (by omega), show 36 + (j - 36) = j from by omega] at this
    · by_cases e2 : j < 108
      · have := ser_small hp (sub_length (by omega)) (hb.sub 72 36) h2 (j - 72)
        rwa [sub_getD (by omega), show 72 + (j - 72) = j from by omega] at this
      · rw [List.getD_eq_getElem?_getD, List.getElem?_eq_none (by omega)]; simp

def strL (p v : Int) (l : List Int) (n : Nat) : List Int := upTo (fun t => mapTo (strV p v (sub l (t * 108) 108)) 108) n
theorem strL_length (p v : Int) (l : List Int) (n : Nat) : (strL p v l n).length = n * 108 := upTo_length (fun t => mapTo_length _ _) n
theorem strL_succ (p v : Int) (l : List Int) (n : Nat) : strL p v l (n + 1) = strL p v l n ++ mapTo (strV p v (sub l (n * 108) 108)) 108 := upTo_succ _ n
theorem put108 {v : List Int} (h : v.length = 108) : putL (zeros 108) (0 * 108) v = v := by rw [Nat.zero_mul, putL_all (by rw [h, zeros_length])]
def bdCode (p n m k : Int) (len : Nat) (l : List Int) (v lo hi : Int) : Int := if borderOk p n m k len l then (if lo ≤ v ∧ v ≤ hi then 0 else 2) else 1
theorem brL_zero : brL [] 0 = [] := rfl
theorem subsub36 {l : List Int} {a : Nat} : sub (sub l a 108) 0 36 = sub l a 36 ∧ sub (sub l a 108) 36 36 = sub l (a + 36) 36 ∧ sub (sub l a 108) 72 36 = sub l (a + 72) 36 := by
  simp only [sub, List.drop_take, List.take_take, List.drop_drop, List.drop_zero]
  exact ⟨rfl, rfl, rfl⟩

theorem ren1_id (v : AV) : ren1 id v = v := by
  cases v with
  | c x => simp [ren1, mapIds_id]
  | agg cs => simp [ren1, show Cell.mapIds id = id from funext mapIds_id]
  | tup vs => rfl
  | any => rfl
theorem renT_id (v : AV) : renT id v = v := by
  cases v with
  | tup vs => simp [renT, show ren1 id = id from funext ren1_id]
  | c x => simp [renT, ren1, mapIds_id]
  | agg cs => simp [renT, ren1, show Cell.mapIds id = id from funext mapIds_id]
  | any => rfl
/-- A value that names old objects. -/
theorem ret_sameV {P : Program} {G : Heap} {N : Nat} {L : List Slot} {T : List AV} (hN : ∀ k, N ≤ k → G k = .free) {rs : List ResultVar} {val : AV} (vs : List AV) (hr : resAll P T ⟨G, N, L⟩ rs vs) (he : resOf vs = val) (hp : plainT val = true) (hi : ∀ i ∈ val.idsT, i < N) :
    retS P rs G N val [] .ret T ⟨G, N, L⟩ := by
  refine ⟨vs, id, hr, fun _ _ => rfl, fun k o hk => .inl ⟨hk, ?_⟩, fun k hk => hk, fun k k' o o' _ _ _ _ hne => hne, ?_⟩
  · have hlt : k < N := by
      rcases Nat.lt_or_ge k N with h | h
      · exact h
      · have := hN k h
        simp only [putsG, List.foldl_nil] at hk
        rw [this] at hk; cases hk
    rw [get_old hlt]; exact hk
  · rw [he]
    have := Named.of (σ := id) (ok := fun i => (⟨G, N, L⟩ : AHeap).get (id i) ≠ .free → putsG G [] i ≠ .free) hp (fun i hh hne => by rw [id, get_old (hi i hh)] at hne; exact hne)
    rwa [renT_id] at this
theorem bdCode_wr {p n m k v lo : Int} {len : Nat} {l : List Int} : (if borderOk p n m k len l then (if lo ≤ v ∧ v ≤ wr .i64 (p - 1) then (0 : Int) else 2) else 1) = bdCode p n m k len l v lo (p - 1) := by
  rw [bdCode]
  cases h : borderOk p n m k len l with
  | false => rfl
  | true =>
    have := isPr (borderOk_sizes h).1
    rw [wr_i64 (by omega) (by omega)]
end Go.Proofs.Ytkalaahmbdimfaa
