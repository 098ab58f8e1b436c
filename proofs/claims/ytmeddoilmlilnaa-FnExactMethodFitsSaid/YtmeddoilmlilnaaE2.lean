/- A method's tensor: the reference's. -/
import Derived.Test.YtmeddoilmlilnaaE1
namespace Go.Proofs.Ytmeddoilmlilnaa
open Go Go.Abs
set_option maxRecDepth 100000
/- loop.example/g01262/spec.l09Tensor -/
def c_spec_l09Tensor : SFn := ⟨(.seq (.ops [⟨some 1, .box 39 (.tmp 0), none⟩, ⟨some 2, .alloc 56, none⟩])
 (.seq (.ops [⟨some 8, .fieldAddr 39 (.tmp 1) 0, none⟩, ⟨some 9, .load 2 (.tmp 8), none⟩, ⟨some 10, .fieldAddr 39 (.tmp 1) 1, none⟩, ⟨some 11, .load 2 (.tmp 10), none⟩, ⟨some 12, .fieldAddr 39 (.tmp 1) 2, none⟩, ⟨some 13, .load 2 (.tmp 12), none⟩, ⟨some 14, .fieldAddr 39 (.tmp 1) 3, none⟩, ⟨some 15, .load 2 (.tmp 14), none⟩, ⟨some 16, .call ⟨.value (.func 191), #[.tmp 9, .tmp 11, .tmp 13, .tmp 15], #[2, 2, 2, 2]⟩, none⟩, ⟨some 3, .alloc 56, none⟩, ⟨none, .store 56 (.tmp 3) (.tmp 16), none⟩])
  (.seq (.seq (.ops [⟨some 4, .assign (.const (.int .i64 0)), none⟩])
    (.block 0 (.loop (.seq (.seq (.ops [⟨some 17, .move (.tmp 4), none⟩, ⟨some 18, .fieldAddr 39 (.tmp 1) 4, none⟩, ⟨some 19, .load 29 (.tmp 18), none⟩, ⟨some 20, .call ⟨.builtin .len, #[.tmp 19], #[29]⟩, none⟩, ⟨some 21, .binOp .lss 3 (.tmp 17) (.tmp 20) 3, none⟩])
        (.cond (.tmp 21) .skip
         (.exit 0)))
       (.seq (.block 1 (.seq (.ops [⟨some 24, .fieldAddr 39 (.tmp 1) 4, none⟩, ⟨some 25, .load 29 (.tmp 24), none⟩, ⟨some 26, .move (.tmp 4), none⟩, ⟨some 27, .indexAddr 29 (.tmp 25) (.tmp 26), none⟩, ⟨some 28, .load 119 (.tmp 27), none⟩, ⟨some 5, .alloc 119, none⟩, ⟨none, .store 119 (.tmp 5) (.tmp 28), none⟩])
          (.seq (.ops [⟨some 6, .assign (.const (.int .i64 0)), none⟩])
           (.block 2 (.loop (.seq (.seq (.ops [⟨some 29, .move (.tmp 6), none⟩, ⟨some 30, .fieldAddr 56 (.tmp 3) 4, none⟩, ⟨some 31, .load 50 (.tmp 30), none⟩, ⟨some 32, .call ⟨.builtin .len, #[.tmp 31], #[50]⟩, none⟩, ⟨some 33, .binOp .lss 2 (.tmp 29) (.tmp 32) 2, none⟩])
               (.cond (.tmp 33) .skip
                (.exit 2)))
              (.seq (.block 3 (.seq (.opsD [⟨some 36, .move (.tmp 6), none⟩, ⟨some 37, .fieldAddr 39 (.tmp 1) 2, none⟩, ⟨some 38, .load 2 (.tmp 37), none⟩, ⟨some 39, .fieldAddr 39 (.tmp 1) 3, none⟩, ⟨some 40, .load 2 (.tmp 39), none⟩, ⟨some 41, .binOp .mul 2 (.tmp 38) (.tmp 40) 2, none⟩, ⟨some 42, .binOp .quo 2 (.tmp 36) (.tmp 41) 2, none⟩, ⟨some 43, .fieldAddr 119 (.tmp 5) 0, none⟩, ⟨some 44, .indexAddr 109 (.tmp 43) (.tmp 42), none⟩, ⟨some 45, .load 5 (.tmp 44), none⟩, ⟨some 46, .convert 5 2 (.tmp 45), none⟩, ⟨some 47, .move (.tmp 6), none⟩, ⟨some 48, .fieldAddr 39 (.tmp 1) 3, none⟩, ⟨some 49, .load 2 (.tmp 48), none⟩, ⟨some 50, .binOp .quo 2 (.tmp 47) (.tmp 49) 2, none⟩, ⟨some 51, .fieldAddr 39 (.tmp 1) 2, none⟩, ⟨some 52, .load 2 (.tmp 51), none⟩, ⟨some 53, .binOp .rem 2 (.tmp 50) (.tmp 52) 2, none⟩, ⟨some 54, .fieldAddr 119 (.tmp 5) 1, none⟩, ⟨some 55, .indexAddr 109 (.tmp 54) (.tmp 53), none⟩, ⟨some 56, .load 5 (.tmp 55), none⟩, ⟨some 57, .convert 5 2 (.tmp 56), none⟩, ⟨some 58, .binOp .mul 2 (.tmp 46) (.tmp 57) 2, none⟩, ⟨some 59, .move (.tmp 6), none⟩, ⟨some 60, .fieldAddr 39 (.tmp 1) 3, none⟩, ⟨some 61, .load 2 (.tmp 60), none⟩, ⟨some 62, .binOp .rem 2 (.tmp 59) (.tmp 61) 2, none⟩, ⟨some 63, .fieldAddr 119 (.tmp 5) 2, none⟩, ⟨some 64, .indexAddr 109 (.tmp 63) (.tmp 62), none⟩, ⟨some 65, .load 5 (.tmp 64), none⟩, ⟨some 66, .convert 5 2 (.tmp 65), none⟩, ⟨some 67, .binOp .mul 2 (.tmp 58) (.tmp 66) 2, none⟩, ⟨some 7, .assign (.tmp 67), none⟩] [(2, 4), (2, 13), (2, 16), (2, 20), (2, 25), (2, 29), (4, 13), (4, 16), (4, 20), (4, 25), (4, 29), (9, 13), (9, 16), (9, 20), (9, 25), (9, 29), (13, 16), (13, 25), (13, 29), (16, 25), (16, 29), (20, 25), (20, 29)])
                 (.opsD [⟨some 68, .fieldAddr 56 (.tmp 3) 4, none⟩, ⟨some 69, .load 50 (.tmp 68), none⟩, ⟨some 70, .move (.tmp 6), none⟩, ⟨some 71, .fieldAddr 56 (.tmp 3) 4, none⟩, ⟨some 72, .load 50 (.tmp 71), none⟩, ⟨some 73, .move (.tmp 6), none⟩, ⟨some 74, .indexAddr 50 (.tmp 72) (.tmp 73), none⟩, ⟨some 75, .load 2 (.tmp 74), none⟩, ⟨some 76, .move (.tmp 7), none⟩, ⟨some 77, .binOp .add 2 (.tmp 75) (.tmp 76) 2, none⟩, ⟨some 78, .fieldAddr 39 (.tmp 1) 0, none⟩, ⟨some 79, .load 2 (.tmp 78), none⟩, ⟨some 80, .binOp .rem 2 (.tmp 77) (.tmp 79) 2, none⟩, ⟨some 81, .indexAddr 50 (.tmp 69) (.tmp 70), none⟩, ⟨none, .store 2 (.tmp 81) (.tmp 80), none⟩] [(1, 4), (1, 7), (1, 11), (4, 11), (7, 11)])))
               (.ops [⟨some 34, .move (.tmp 6), none⟩, ⟨some 35, .binOp .add 2 (.tmp 34) (.const (.int .i64 1)) 2, none⟩, ⟨some 6, .assign (.tmp 35), none⟩]))))))))
        (.ops [⟨some 22, .move (.tmp 4), none⟩, ⟨some 23, .binOp .add 3 (.tmp 22) (.const (.int .i64 1)) 3, none⟩, ⟨some 4, .assign (.tmp 23), none⟩]))))))
   (.seq (.ops [⟨some 82, .load 56 (.tmp 3), none⟩, ⟨none, .store 56 (.tmp 2) (.tmp 82), none⟩])
    .ret)))), [.cell 2 56], 83⟩
theorem f_spec_l09Tensor : isFn Go.Proofs.Try.prog 130 = some c_spec_l09Tensor := by kernel_rfl


set_option maxRecDepth 100000
set_option maxHeartbeats 8000000
set_option linter.unusedVariables false
attribute [-simp] List.getD_eq_getElem?_getD
attribute [-go_sem] confV

theorem mod_acc {p a b : Int} (hp : 2 ≤ p) (ha : 0 ≤ a) (hb : 0 ≤ b) : (a.tmod p + b).tmod p = (a + b).tmod p := by
  rw [Int.tmod_eq_emod_of_nonneg ha, Int.tmod_eq_emod_of_nonneg (Int.add_nonneg (Int.emod_nonneg _ (by omega)) hb), Int.tmod_eq_emod_of_nonneg (Int.add_nonneg ha hb), Int.emod_add_emod]
theorem div_lt9 {x I M : Nat} (h : x < I * M) (hI : I ≤ 9) : x / M < 9 := by
  have : x / M < I := Nat.div_lt_of_lt_mul (by rw [Nat.mul_comm]; exact h)
  omega
/-- The place's number after the first products. -/
def sM (l : List Int) (J K x t : Nat) : Int := sumM l (x / (J * K)) (x / K % J) (x % K) t

theorem specTom_spec (p : Int) (I J K : Nat) {n : Nat} {c : Cell} {rs : List (Nat × AObj)} {l : List Int} (hp : 2 ≤ p ∧ p ≤ 5) (hI : 1 ≤ I ∧ I ≤ 9) (hJ : 1 ≤ J ∧ J ≤ 9) (hK : 1 ≤ K ∧ K ≤ 9) (hc : Sl 27 (u8s l) n c rs) (hl : l.length = n * 27) (hn : n ≤ 30) (hb : byteL l) (x : Nat) (hx : ∀ p ∈ rs, p.1 ≠ x) :
    FSpec Try.prog 130 [.agg (tenC p I J K c)] (.agg (tenC p I J K (.slice x 0 (I * J * K) 1))) rs [(x, .live ⟨i64s (tomL p l n I J K), true⟩)] := by
  have hlen : I * J * K ≤ 729 := by
    have := Nat.mul_le_mul (Nat.mul_le_mul hI.2 hJ.2) hK.2; omega
  have hJK : J * K ≤ 81 := Nat.mul_le_mul hJ.2 hK.2
  have hJK0 : 0 < J * K := Nat.mul_pos (by omega) (by omega)
  have eJK : (J : Int) * (K : Int) = ((J * K : Nat) : Int) := (Int.natCast_mul J K).symm
  refine FSpec.of f_spec_l09Tensor (Nat.le_of_ble_eq_true rfl) fun G N hN hr hw => ?_
  simp only [c_spec_l09Tensor, List.length_cons, List.length_nil, List.replicate, List.cons_append, List.nil_append]
  have hfree := new_free (hw _ (List.mem_singleton.2 rfl)).2 hx
  have okc : okV N 4 (.c c) := Sl.okc hc fun q hq => (hr q hq).2
  have okc' : ltIds (nid N 4) c := okc
  have okc4 : ∀ z ∈ tenC p I J K (.slice (nid N 2) 0 (I * J * K) 1), ltIds (nid N 4) z := ten_okc (okV_sl (by unfold nid; omega))
  repeat' (first | (with_reducible first | refine W1 ?_ | refine W2 ?_ | refine W3 ?_ | refine W4 mixed ?_ | refine W5 ?_ | refine W6 ?_ | refine W7 ?_ | refine W8 ?_ | refine W9 ?_ | refine V1 ?_ | refine V2 ?_ | refine V3 ?_ | refine V4 (by decide) ?_ | refine V5 ?_ | refine V6 ?_ | refine V7 ?_ | refine V8 ?_ | refine V9 ?_ | refine U1 ?_ | refine U2 ?_ | refine U3 ?_) | (with_reducible refine U4 ?_ ?_; next => first | omega | exact ⟨trivial, by omega⟩) | simp (maxSteps := 2000000) (discharger := first | omega | (simp (discharger := omega) only [Z1, Z2, Z3, Z4, Z5, Z6, Z7] <;> fail) | (simp (discharger := omega) only [Z3, Z8, Z2, Z4, Z1, Z7, Z5, Z6, Z9, Y1, Y2]; omega)) only [go_sem])
  refine call_new1 (rs := []) (fun y hy => l05Empty_spec p I J K (by omega) (by omega) (by omega) y) (by simp) nxt_free ?_
  repeat' (first | (with_reducible first | refine W1 ?_ | refine W2 ?_ | refine W3 ?_ | refine W4 mixed ?_ | refine W5 ?_ | refine W6 ?_ | refine W7 ?_ | refine W8 ?_ | refine W9 ?_ | refine V1 ?_ | refine V2 ?_ | refine V3 ?_ | refine V4 (by decide) ?_ | refine V5 ?_ | refine V6 ?_ | refine V7 ?_ | refine V8 ?_ | refine V9 ?_ | refine U1 ?_ | refine U2 ?_ | refine U3 ?_) | (with_reducible refine U4 ?_ ?_; next => first | omega | exact ⟨trivial, by omega⟩) | simp (maxSteps := 2000000) (discharger := first | omega | (simp (discharger := omega) only [Z1, Z2, Z3, Z4, Z5, Z6, Z7] <;> fail) | (simp (discharger := omega) only [Z3, Z8, Z2, Z4, Z1, Z7, Z5, Z6, Z9, Y1, Y2]; omega)) only [go_sem])
  refine swp_for (fun (s : Nat × List Int) => ([.any, .c (.ptr (nid N 0) 0), .c (.ptr (nid N 1) 0), .c (.ptr (nid N 3) 0), .c (.int .i64 ((s.1 : Nat) : Int))] ++ List.replicate 78 .any)) (fun s => ⟨G, N, [.live ⟨tenC p I J K c, true⟩, .live ⟨tenC 0 0 0 0 .nils, true⟩, .live ⟨i64s s.2, true⟩, .live ⟨tenC p I J K (.slice (nid N 2) 0 (I * J * K) 1), true⟩]⟩) (fun s => n - s.1) (fun s => s.1 ≤ n ∧ s.2.length = I * J * K ∧ ∀ y, y < I * J * K → s.2.getD y 0 = (sM l J K y s.1).tmod p) (0, List.replicate (I * J * K) 0) ⟨Nat.zero_le _, by simp, fun y hy => ?_⟩ rfl (by repeat' (first | exact trivial | exact .inl rfl | exact .inr rfl | refine ⟨?_, ?_⟩)) ?_
  · rw [List.getD_eq_getElem?_getD, List.getElem?_replicate, if_pos hy]; simp [sM, sumM]
  rintro ⟨t, o⟩ ⟨ht, hol, hoj⟩
  dsimp only at ht hol hoj
  simp only [List.replicate, List.cons_append, List.nil_append, tenC]
  repeat' (first | (with_reducible first | refine W1 ?_ | refine W2 ?_ | refine W3 ?_ | refine W4 mixed ?_ | refine W5 ?_ | refine W6 ?_ | refine W7 ?_ | refine W8 ?_ | refine W9 ?_ | refine V1 ?_ | refine V2 ?_ | refine V3 ?_ | refine V4 (by decide) ?_ | refine V5 ?_ | refine V6 ?_ | refine V7 ?_ | refine V8 ?_ | refine V9 ?_ | refine U1 ?_ | refine U2 ?_ | refine U3 ?_) | (with_reducible refine U4 ?_ ?_; next => first | omega | exact ⟨trivial, by omega⟩) | simp (maxSteps := 2000000) (discharger := first | omega | (simp (discharger := omega) only [Z1, Z2, Z3, Z4, Z5, Z6, Z7] <;> fail) | (simp (discharger := omega) only [Z3, Z8, Z2, Z4, Z1, Z7, Z5, Z6, Z9, Y1, Y2]; omega)) only [go_sem, hc.len (P := Try.prog)])
  refine swp_cond _ rfl (fun h => ?_) (fun h => ?_)
  · have hlt : t < n := by simpa using h
    obtain ⟨k0, own, rfl, rfl, _⟩ := hc.some hlt
    have ⟨g2, g3⟩ := hr _ (List.mem_singleton.2 rfl)
    dsimp only at g2 g3
    have hql : (sub l (t * 27) 27).length = 27 := sub_length (by omega)
    have hqb : byteL (sub l (t * 27) 27) := hb.sub _ _
    have hst : ∀ y, sM l J K y (t + 1) = sM l J K y t + trM (sub l (t * 27) 27) (y / (J * K)) (y / K % J) (y % K) := fun y => rfl
    have hsb : ∀ y, 0 ≤ sM l J K y t ∧ sM l J K y t ≤ t * 16581375 := fun y => sumM_bnd hb _ _ _ t
    generalize hqd : sub l (t * 27) 27 = q at hql hqb hst
    repeat' (first | (with_reducible first | refine W1 ?_ | refine W2 ?_ | refine W3 ?_ | refine W4 mixed ?_ | refine W5 ?_ | refine W6 ?_ | refine W7 ?_ | refine W8 ?_ | refine W9 ?_ | refine V1 ?_ | refine V2 ?_ | refine V3 ?_ | refine V4 (by decide) ?_ | refine V5 ?_ | refine V6 ?_ | refine V7 ?_ | refine V8 ?_ | refine V9 ?_ | refine U1 ?_ | refine U2 ?_ | refine U3 ?_) | (with_reducible refine U4 ?_ ?_; next => first | omega | exact ⟨trivial, by omega⟩) | simp (maxSteps := 2000000) (discharger := first | omega | (simp (discharger := omega) only [Z1, Z2, Z3, Z4, Z5, Z6, Z7] <;> fail) | (simp (discharger := omega) only [Z3, Z8, Z2, Z4, Z1, Z7, Z5, Z6, Z9, Y1, Y2]; omega)) only [go_sem, g2, hqd])
    refine swp_for (fun (s : Nat × List Int) => ([.any, .c (.ptr (nid N 0) 0), .c (.ptr (nid N 1) 0), .c (.ptr (nid N 3) 0), .c (.int .i64 ((t : Nat) : Int)), .c (.ptr (nid N 4) 0), .c (.int .i64 ((s.1 : Nat) : Int))] ++ List.replicate 76 .any)) (fun s => ⟨G, N, [.live ⟨tenC p I J K (.slice k0 0 n 27), true⟩, .live ⟨tenC 0 0 0 0 .nils, true⟩, .live ⟨i64s s.2, true⟩, .live ⟨tenC p I J K (.slice (nid N 2) 0 (I * J * K) 1), true⟩, .live ⟨u8s q, true⟩]⟩) (fun s => I * J * K - s.1) (fun s => s.1 ≤ I * J * K ∧ s.2.length = I * J * K ∧ ∀ y, y < I * J * K → s.2.getD y 0 = (sM l J K y (if y < s.1 then t + 1 else t)).tmod p) (0, o) ⟨Nat.zero_le _, hol, fun y hy => hoj y hy⟩ rfl (by repeat' (first | exact trivial | exact .inl rfl | exact .inr rfl | refine ⟨?_, ?_⟩)) ?_
    rintro ⟨e, o2⟩ ⟨he, hol2, hoj2⟩
    dsimp only at he hol2 hoj2
    simp only [List.replicate, List.cons_append, List.nil_append, tenC]
    repeat' (first | (with_reducible first | refine W1 ?_ | refine W2 ?_ | refine W3 ?_ | refine W4 mixed ?_ | refine W5 ?_ | refine W6 ?_ | refine W7 ?_ | refine W8 ?_ | refine W9 ?_ | refine V1 ?_ | refine V2 ?_ | refine V3 ?_ | refine V4 (by decide) ?_ | refine V5 ?_ | refine V6 ?_ | refine V7 ?_ | refine V8 ?_ | refine V9 ?_ | refine U1 ?_ | refine U2 ?_ | refine U3 ?_) | (with_reducible refine U4 ?_ ?_; next => first | omega | exact ⟨trivial, by omega⟩) | simp (maxSteps := 2000000) (discharger := first | omega | (simp (discharger := omega) only [Z1, Z2, Z3, Z4, Z5, Z6, Z7] <;> fail) | (simp (discharger := omega) only [Z3, Z8, Z2, Z4, Z1, Z7, Z5, Z6, Z9, Y1, Y2]; omega)) only [go_sem])
    refine swp_cond _ rfl (fun h => ?_) (fun h => ?_)
    · have hlte : e < I * J * K := Int.ofNat_lt.1 (of_decide_eq_true h)
      have hse := hst e
      have hsb2 := hsb e
      have hoe := hoj2 e hlte
      rw [if_neg (Nat.lt_irrefl _)] at hoe
      have q1 : Int.tdiv (e : Int) (((J * K : Nat) : Int)) = ((e / (J * K) : Nat) : Int) := rfl
      have q2 : Int.tdiv (e : Int) (K : Int) = ((e / K : Nat) : Int) := rfl
      have q3 : Int.tmod ((e / K : Nat) : Int) (J : Int) = ((e / K % J : Nat) : Int) := rfl
      have q4 : Int.tmod (e : Int) (K : Int) = ((e % K : Nat) : Int) := rfl
      have a1 : e / (J * K) < 9 := div_lt9 (by rw [← Nat.mul_assoc]; exact hlte) hI.2
      have a2 : e / K % J < 9 := by have := Nat.mod_lt (e / K) (show 0 < J by omega); omega
      have a3 : e % K < 9 := by have := Nat.mod_lt e (show 0 < K by omega); omega
      obtain ⟨p1, p2⟩ := trM_bnd hqb (e / (J * K)) (e / K % J) (e % K)
      have b1 := hqb.get (e / (J * K))
      have b2 := hqb.get (9 + e / K % J)
      have b3 := hqb.get (18 + e % K)
      have htr : q.getD (e / (J * K)) 0 * q.getD (9 + e / K % J) 0 * q.getD (18 + e % K) 0 = trM q (e / (J * K)) (e / K % J) (e % K) := rfl
      have hmd : 0 ≤ (sM l J K e t).tmod p ∧ (sM l J K e t).tmod p < p := ⟨Int.tmod_nonneg _ hsb2.1, Int.tmod_lt_of_pos _ (by omega)⟩
      have hacc := mod_acc hp.1 hsb2.1 p2.1
      rw [← hse] at hacc
      generalize e / (J * K) = a at q1 a1 b1 p1 p2 htr hacc
      generalize e / K % J = b at q3 a2 b2 p1 p2 htr hacc
      have hek : e / K ≤ 729 := Nat.le_trans (Nat.div_le_self _ _) (by omega)
      generalize e / K = w at q2 q3 hek
      generalize e % K = d at q4 a3 b3 p1 p2 htr hacc
      repeat' (first | (with_reducible first | refine W1 ?_ | refine W2 ?_ | refine W3 ?_ | refine W4 mixed ?_ | refine W5 ?_ | refine W6 ?_ | refine W7 ?_ | refine W8 ?_ | refine W9 ?_ | refine V1 ?_ | refine V2 ?_ | refine V3 ?_ | refine V4 (by decide) ?_ | refine V5 ?_ | refine V6 ?_ | refine V7 ?_ | refine V8 ?_ | refine V9 ?_ | refine U1 ?_ | refine U2 ?_ | refine U3 ?_) | (with_reducible refine U4 ?_ ?_; next => first | omega | exact ⟨trivial, by omega⟩) | simp (maxSteps := 2000000) (discharger := first | omega | (simp (discharger := omega) only [Z1, Z2, Z3, Z4, Z5, Z6, Z7] <;> fail) | (simp (discharger := omega) only [Z3, Z8, Z2, Z4, Z1, Z7, Z5, Z6, Z9, Y1, Y2]; omega)) only [go_sem, eJK, q1, q2, q3, q4, htr])
      refine must_conf rfl ?_
      repeat' (first | (with_reducible first | refine W1 ?_ | refine W2 ?_ | refine W3 ?_ | refine W4 mixed ?_ | refine W5 ?_ | refine W6 ?_ | refine W7 ?_ | refine W8 ?_ | refine W9 ?_ | refine V1 ?_ | refine V2 ?_ | refine V3 ?_ | refine V4 (by decide) ?_ | refine V5 ?_ | refine V6 ?_ | refine V7 ?_ | refine V8 ?_ | refine V9 ?_ | refine U1 ?_ | refine U2 ?_ | refine U3 ?_) | (with_reducible refine U4 ?_ ?_; next => first | omega | exact ⟨trivial, by omega⟩) | simp (maxSteps := 2000000) (discharger := first | omega | (simp (discharger := omega) only [Z1, Z2, Z3, Z4, Z5, Z6, Z7] <;> fail) | (simp (discharger := omega) only [Z3, Z8, Z2, Z4, Z1, Z7, Z5, Z6, Z9, Y1, Y2]; omega)) only [go_sem, hoe])
      refine must_confF [] rfl trivial ?_
      repeat' (first | (with_reducible first | refine W1 ?_ | refine W2 ?_ | refine W3 ?_ | refine W4 mixed ?_ | refine W5 ?_ | refine W6 ?_ | refine W7 ?_ | refine W8 ?_ | refine W9 ?_ | refine V1 ?_ | refine V2 ?_ | refine V3 ?_ | refine V4 (by decide) ?_ | refine V5 ?_ | refine V6 ?_ | refine V7 ?_ | refine V8 ?_ | refine V9 ?_ | refine U1 ?_ | refine U2 ?_ | refine U3 ?_) | (with_reducible refine U4 ?_ ?_; next => first | omega | exact ⟨trivial, by omega⟩) | simp (maxSteps := 2000000) (discharger := first | omega | (simp (discharger := omega) only [Z1, Z2, Z3, Z4, Z5, Z6, Z7] <;> fail) | (simp (discharger := omega) only [Z3, Z8, Z2, Z4, Z1, Z7, Z5, Z6, Z9, Y1, Y2]; omega)) only [go_sem])
      refine forK_same (e + 1, _) (by dsimp only; omega) ⟨by dsimp only; omega, ?_, ?_⟩ rfl (by repeat' (first | exact trivial | exact .inl rfl | exact .inr rfl | refine ⟨?_, ?_⟩))
      · simp [hol2]
      · intro y hy
        dsimp only
        rw [hacc]
        by_cases hye : y = e
        · subst hye
          rw [if_pos (by omega), List.getD_eq_getElem?_getD, List.getElem?_set, if_pos rfl, if_pos (by omega)]
          rfl
        · rw [List.getD_eq_getElem?_getD, List.getElem?_set_ne (by omega), ← List.getD_eq_getElem?_getD, hoj2 y hy]
          by_cases hlt2 : y < e
          · rw [if_pos hlt2, if_pos (by omega)]
          · rw [if_neg hlt2, if_neg (by omega)]
    · have hlt : e = I * J * K := by have : ¬ e < I * J * K := fun h' => of_decide_eq_false h (Int.ofNat_lt.2 h')
                                     omega
      subst hlt
      repeat' (first | (with_reducible first | refine W1 ?_ | refine W2 ?_ | refine W3 ?_ | refine W4 mixed ?_ | refine W5 ?_ | refine W6 ?_ | refine W7 ?_ | refine W8 ?_ | refine W9 ?_ | refine V1 ?_ | refine V2 ?_ | refine V3 ?_ | refine V4 (by decide) ?_ | refine V5 ?_ | refine V6 ?_ | refine V7 ?_ | refine V8 ?_ | refine V9 ?_ | refine U1 ?_ | refine U2 ?_ | refine U3 ?_) | (with_reducible refine U4 ?_ ?_; next => first | omega | exact ⟨trivial, by omega⟩) | simp (maxSteps := 2000000) (discharger := first | omega | (simp (discharger := omega) only [Z1, Z2, Z3, Z4, Z5, Z6, Z7] <;> fail) | (simp (discharger := omega) only [Z3, Z8, Z2, Z4, Z1, Z7, Z5, Z6, Z9, Y1, Y2]; omega)) only [go_sem])
      refine forK_drop (t + 1, o2) 4 (by dsimp only; omega) ⟨by dsimp only; omega, hol2, fun y hy => ?_⟩ rfl rfl (by simp) (fun j hj => ?_) ?_ ?_
      · have := hoj2 y hy
        rw [if_pos hy] at this; exact this
      · rcases j with _ | _ | _ | _ | j
        · rfl
        · rfl
        · rfl
        · rfl
        · omega
      · simp only [List.mem_cons, List.not_mem_nil, or_false]
        rintro t (rfl | rfl | rfl | rfl)
        · exact ten_okc okc'
        · exact okSl_flat (by intro z hz; simp only [tenC, List.mem_cons, List.not_mem_nil, or_false] at hz; rcases hz with rfl | rfl | rfl | rfl | rfl <;> rfl)
        · exact okSl_flat (flat_i64s _)
        · exact okc4
      · repeat' (first | exact trivial | exact .inl rfl | exact .inr ⟨rfl, okV_new (by decide)⟩ | exact .inr ⟨rfl, okV_int⟩ | exact .inr ⟨rfl, okV_bool⟩ | exact .inr ⟨rfl, by assumption⟩ | refine ⟨?_, ?_⟩)
  · have hlt : t = n := by have : ¬ t < n := by simpa using h
                           omega
    subst hlt
    have ho : o = tomL p l t I J K := eq_mapN hol hoj
    subst ho
    repeat' (first | (with_reducible first | refine W1 ?_ | refine W2 ?_ | refine W3 ?_ | refine W4 mixed ?_ | refine W5 ?_ | refine W6 ?_ | refine W7 ?_ | refine W8 ?_ | refine W9 ?_ | refine V1 ?_ | refine V2 ?_ | refine V3 ?_ | refine V4 (by decide) ?_ | refine V5 ?_ | refine V6 ?_ | refine V7 ?_ | refine V8 ?_ | refine V9 ?_ | refine U1 ?_ | refine U2 ?_ | refine U3 ?_) | (with_reducible refine U4 ?_ ?_; next => first | omega | exact ⟨trivial, by omega⟩) | simp (maxSteps := 2000000) (discharger := first | omega | (simp (discharger := omega) only [Z1, Z2, Z3, Z4, Z5, Z6, Z7] <;> fail) | (simp (discharger := omega) only [Z3, Z8, Z2, Z4, Z1, Z7, Z5, Z6, Z9, Y1, Y2]; omega)) only [go_sem])
    refine ret_obj hN x 2 _ [_] ⟨res_agg (own := true) (cs := tenC p I J K (.slice (nid N 2) 0 (I * J * K) 1)) tyo_56 rfl rfl ?_ rfl, trivial⟩ hfree rfl (flat_i64s _) rfl ?_ ?_
    · simp (maxSteps := 2000000) (discharger := first | omega | (simp (discharger := omega) only [Z1, Z2, Z3, Z4, Z5, Z6, Z7] <;> fail) | (simp (discharger := omega) only [Z3, Z8, Z2, Z4, Z1, Z7, Z5, Z6, Z9, Y1, Y2]; omega)) only [go_sem, tenC]
    · simp [AV.idsT, AV.ids1, tenC, Cell.ids]
    · simp [resOf, renT, ren1, tenC, Cell.mapIds]
end Go.Proofs.Ytmeddoilmlilnaa
