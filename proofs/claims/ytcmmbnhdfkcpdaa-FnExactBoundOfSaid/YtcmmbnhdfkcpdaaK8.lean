/- The three ranks of a tensor. -/
import Derived.Test.YtcmmbnhdfkcpdaaK7
import Derived.Test.YtcmmbnhdfkcpdaaK2
import Derived.Test.YtcmmbnhdfkcpdaaK3
namespace Go.Proofs.Ytcmmbnhdfkcpdaa
open Go Go.Abs
set_option maxRecDepth 100000
/- loop.example/g01262/impl.flattenRanks -/
def c_impl_flattenRanks : SFn := ⟨(.seq (.ops [⟨some 1, .box 28 (.tmp 0), none⟩, ⟨some 2, .assign (.const (.slice none 0 0)), none⟩])
 (.seq (.ops [⟨some 6, .buildSlice 22 0 #[], none⟩, ⟨some 3, .assign (.tmp 6), none⟩])
  (.seq (.seq (.ops [⟨some 7, .move (.const (.int .i64 0)), none⟩])
    (.block 0 (.loop (.seq (.ops [⟨some 8, .binOp .lss 2 (.tmp 7) (.const (.int .i64 3)) 2, none⟩])
       (.seq (.cond (.tmp 8) .skip
         (.exit 0))
        (.seq (.block 1 (.seq (.ops [⟨some 9, .move (.tmp 7), none⟩, ⟨some 4, .assign (.tmp 9), none⟩])
           (.seq (.ops [⟨some 10, .load 28 (.tmp 1), none⟩, ⟨some 11, .move (.tmp 4), none⟩, ⟨some 12, .call ⟨.value (.func 140), #[.tmp 10, .tmp 11], #[28, 2]⟩, none⟩, ⟨some 5, .alloc 28, none⟩, ⟨none, .store 28 (.tmp 5) (.tmp 12), none⟩])
            (.opsD [⟨some 13, .move (.tmp 3), none⟩, ⟨some 14, .fieldAddr 28 (.tmp 1) 0, none⟩, ⟨some 15, .load 2 (.tmp 14), none⟩, ⟨some 16, .fieldAddr 28 (.tmp 5) 4, none⟩, ⟨some 17, .load 22 (.tmp 16), none⟩, ⟨some 18, .fieldAddr 28 (.tmp 5) 2, none⟩, ⟨some 19, .load 2 (.tmp 18), none⟩, ⟨some 20, .fieldAddr 28 (.tmp 5) 3, none⟩, ⟨some 21, .load 2 (.tmp 20), none⟩, ⟨some 22, .binOp .mul 2 (.tmp 19) (.tmp 21) 2, none⟩, ⟨some 23, .call ⟨.value (.func 142), #[.tmp 17, .tmp 22], #[22, 2]⟩, none⟩, ⟨some 24, .call ⟨.value (.func 141), #[.tmp 15, .tmp 23], #[2, 78]⟩, none⟩, ⟨some 25, .buildSlice 22 1 #[(0, .tmp 24)], none⟩, ⟨some 26, .call ⟨.builtin .append, #[.tmp 13, .tmp 25], #[22, 22]⟩, none⟩, ⟨some 3, .assign (.tmp 26), none⟩] [(2, 4), (2, 6), (2, 8), (2, 10), (4, 6), (4, 8), (6, 8)]))))
         (.ops [⟨some 27, .binOp .add 2 (.tmp 7) (.const (.int .i64 1)) 2, none⟩, ⟨some 7, .move (.tmp 27), none⟩])))))))
   (.seq (.ops [⟨some 28, .move (.tmp 3), none⟩, ⟨some 2, .assign (.tmp 28), none⟩])
    .ret)))), [.tmp 2], 29⟩
theorem f_impl_flattenRanks : isFn Go.Proofs.Try.prog 73 = some c_impl_flattenRanks := by kernel_rfl


set_option maxRecDepth 100000
set_option maxHeartbeats 16000000
set_option linter.unusedVariables false
attribute [-simp] List.getD_eq_getElem?_getD
attribute [-go_sem] confV

def rkT (p : Int) (I J K : Nat) (l : List Int) : Nat → Nat
  | 0 => rankV p (partsL l (J * K) I) (J * K)
  | 1 => rankV p (partsL (turnL I J K l) (K * I) J) (K * I)
  | _ => rankV p (partsL (turnL J K I (turnL I J K l)) (I * J) K) (I * J)
def rkTs (p : Int) (I J K : Nat) (l : List Int) (i : Nat) : List Int := (List.range i).map fun t => ((rkT p I J K l t : Nat) : Int)
theorem rkTs_succ (p : Int) (I J K : Nat) (l : List Int) (i : Nat) : rkTs p I J K l (i + 1) = rkTs p I J K l i ++ [((rkT p I J K l i : Nat) : Int)] := by simp [rkTs, List.range_succ]
theorem rkTs_length (p : Int) (I J K : Nat) (l : List Int) (i : Nat) : (rkTs p I J K l i).length = i := by simp [rkTs]
theorem rd_rowsK {A : Heap} {N : Nat} {L : List Slot} {a w : Nat} {js : List Nat} {R : List (List Int)} (ha : gd L a = .live ⟨rowN N js w, true⟩) (hR : Abs.Rows L js R) : ∀ p ∈ (nid N a, (⟨rowC (js.map (nid N)) w, true⟩ : AObj)) :: rowsR (js.map (nid N)) R, (⟨A, N, L⟩ : AHeap).get p.1 = .live p.2 := by
  intro p hp
  rcases List.mem_cons.1 hp with rfl | hp
  · dsimp only; rw [get_new, ha, rowN_rowC]
  · obtain ⟨i, hi, rfl⟩ := rowsR_mem (by rw [List.length_map]; exact hR.len) p hp
    have hi' : i < js.length := by rw [hR.len]; exact hi
    have e : (js.map (nid N)).getD i 0 = nid N (js.getD i 0) := by
      simp [List.getD_eq_getElem?_getD, hi']
    dsimp only
    rw [e, get_new]
    exact hR.at_ i hi
theorem sides_bnd {J K : Nat} (hJ : 1 ≤ J ∧ J ≤ 9) (hK : 1 ≤ K ∧ K ≤ 9) : 1 ≤ J * K ∧ J * K ≤ 81 := ⟨Nat.mul_le_mul hJ.1 hK.1, Nat.mul_le_mul hJ.2 hK.2⟩
theorem rankV_le {p : Int} {w : Nat} {R : List (List Int)} (hp : 2 ≤ p) (h : RkOk p w R) : rankV p R w ≤ R.length := (rkL_ok hp h w).2.2
section
variable {c : Cell} {rs : List (Nat × AObj)} {l : List Int}
theorem flattenRanks_spec {p : Int} {I J K : Nat} (hP : isP p = true) (hI : 1 ≤ I ∧ I ≤ 9) (hJ : 1 ≤ J ∧ J ≤ 9) (hK : 1 ≤ K ∧ K ≤ 9) (hc : Sl 1 (i64s l) l.length c rs) (hl : l.length = I * J * K) (hn : ∀ j, 0 ≤ l.getD j 0 ∧ l.getD j 0 < p) (x : Nat) (hx : ∀ p ∈ rs, p.1 ≠ x) :
    FSpec Try.prog 73 [.agg (tenC p I J K c)] (.c (.slice x 0 3 1)) rs [(x, .live ⟨i64s (rkTs p I J K l 3), true⟩)] := by
  have hp : 2 ≤ p ∧ p ≤ 5 := by simp [isP] at hP; omega
  obtain ⟨bJK1, bJK2⟩ := sides_bnd hJ hK
  obtain ⟨bKI1, bKI2⟩ := sides_bnd hK hI
  obtain ⟨bIJ1, bIJ2⟩ := sides_bnd hI hJ
  have hl0 : l.length = I * (J * K) := by rw [hl, Nat.mul_assoc]
  have hpos : 1 * 1 ≤ I * (J * K) := Nat.mul_le_mul hI.1 bJK1
  have hbig : I * (J * K) ≤ 9 * 81 := Nat.mul_le_mul hI.2 bJK2
  refine FSpec.of f_impl_flattenRanks (Nat.le_of_ble_eq_true rfl) fun G N hN hr hw => ?_
  simp only [c_impl_flattenRanks, List.length_cons, List.length_nil, List.replicate, List.cons_append, List.nil_append]
  have hfree := new_free (hw _ (List.mem_singleton.2 rfl)).2 hx
  repeat' (first | (with_reducible first | refine W1 ?_ | refine W2 ?_ | refine W3 ?_ | refine W4 mixed ?_ | refine W5 ?_ | refine W6 ?_ | refine W7 ?_ | refine W8 ?_ | refine W9 ?_ | refine V1 ?_ | refine V2 ?_ | refine V3 ?_ | refine V4 (by decide) ?_ | refine V5 ?_ | refine V6 ?_ | refine V7 ?_ | refine V8 ?_ | refine V9 ?_ | refine U1 ?_ | refine U2 ?_ | refine U3 ?_) | (with_reducible refine U4 ?_ ?_; next => first | omega | exact ⟨trivial, by omega⟩) | simp (maxSteps := 2000000) (discharger := first | omega | (simp (discharger := omega) only [Z1, Z2, Z3, Z4, Z5, Z6, Z7] <;> fail) | (simp (discharger := omega) only [Z3, Z8, Z2, Z4, Z1, Z7, Z5, Z6, Z9, Y1, Y2]; omega)) only [go_sem])
  refine swp_for (fun (z : Nat × List Slot × Nat) => ([.any, .c (.ptr (nid N 0) 0), .any, .c (.slice (nid N z.2.2) 0 z.1 1), .any, .any, .any, .c (.int .i64 ((z.1 : Nat) : Int))] ++ List.replicate 21 .any)) (fun z => ⟨G, N, z.2.1⟩) (fun z => 3 - z.1) (fun z => z.1 ≤ 3 ∧ gd z.2.1 0 = .live ⟨tenC p I J K c, true⟩ ∧ 0 < z.2.2 ∧ z.2.2 < z.2.1.length ∧ gd z.2.1 z.2.2 = .live ⟨i64s (rkTs p I J K l z.1), true⟩) (0, _, 1) ⟨Nat.zero_le _, rfl, by simp, by simp, rfl⟩ rfl (by repeat' (first | exact trivial | exact .inl rfl | exact .inr rfl | refine ⟨?_, ?_⟩)) ?_
  rintro ⟨i, L, mm⟩ ⟨hi, f0, f1, f2, f3⟩
  dsimp only at hi f0 f1 f2 f3
  simp only [tenC] at f0
  have hst := rkTs_succ p I J K l i
  have hrl := rkTs_length p I J K l i
  simp only [List.replicate, List.cons_append, List.nil_append]
  repeat' (first | (with_reducible first | refine W1 ?_ | refine W2 ?_ | refine W3 ?_ | refine W4 mixed ?_ | refine W5 ?_ | refine W6 ?_ | refine W7 ?_ | refine W8 ?_ | refine W9 ?_ | refine V1 ?_ | refine V2 ?_ | refine V3 ?_ | refine V4 (by decide) ?_ | refine V5 ?_ | refine V6 ?_ | refine V7 ?_ | refine V8 ?_ | refine V9 ?_ | refine U1 ?_ | refine U2 ?_ | refine U3 ?_) | (with_reducible refine U4 ?_ ?_; next => first | omega | exact ⟨trivial, by omega⟩) | simp (maxSteps := 2000000) (discharger := first | omega | (simp (discharger := omega) only [Z1, Z2, Z3, Z4, Z5, Z6, Z7] <;> fail) | (simp (discharger := omega) only [Z3, Z8, Z2, Z4, Z1, Z7, Z5, Z6, Z9, Y1, Y2]; omega)) only [go_sem])
  refine swp_cond _ rfl (fun h => ?_) (fun h => ?_)
  · have hlt : i < 3 := by simp at h; omega
    clear h
    generalize rkTs p I J K l i = RR at f3 hst hrl
    have hcase : i = 0 ∨ i = 1 ∨ i = 2 := by omega
    rcases hcase with rfl | rfl | rfl
    · obtain rfl : RR = [] := List.length_eq_zero_iff.1 hrl
      repeat' (first | (with_reducible first | refine W1 ?_ | refine W2 ?_ | refine W3 ?_ | refine W4 mixed ?_ | refine W5 ?_ | refine W6 ?_ | refine W7 ?_ | refine W8 ?_ | refine W9 ?_ | refine V1 ?_ | refine V2 ?_ | refine V3 ?_ | refine V4 (by decide) ?_ | refine V5 ?_ | refine V6 ?_ | refine V7 ?_ | refine V8 ?_ | refine V9 ?_ | refine U1 ?_ | refine U2 ?_ | refine U3 ?_) | (with_reducible refine U4 ?_ ?_; next => first | omega | exact ⟨trivial, by omega⟩) | simp (maxSteps := 2000000) (discharger := first | omega | (simp (discharger := omega) only [Z1, Z2, Z3, Z4, Z5, Z6, Z7] <;> fail) | (simp (discharger := omega) only [Z3, Z8, Z2, Z4, Z1, Z7, Z5, Z6, Z9, Y1, Y2]; omega)) only [go_sem, f0])
      refine call_ro (turned0_spec hc (by omega)) (get_rd hr) ?_
      obtain ⟨k0, own, rfl, rfl, _⟩ := hc.some (i := 0) (by omega)
      have ⟨g2, g3⟩ := hr _ (List.mem_singleton.2 rfl)
      dsimp only at g2 g3
      have e1 : (J : Int) * (K : Int) = ((J * K : Nat) : Int) := rfl
      repeat' (first | (with_reducible first | refine W1 ?_ | refine W2 ?_ | refine W3 ?_ | refine W4 mixed ?_ | refine W5 ?_ | refine W6 ?_ | refine W7 ?_ | refine W8 ?_ | refine W9 ?_ | refine V1 ?_ | refine V2 ?_ | refine V3 ?_ | refine V4 (by decide) ?_ | refine V5 ?_ | refine V6 ?_ | refine V7 ?_ | refine V8 ?_ | refine V9 ?_ | refine U1 ?_ | refine U2 ?_ | refine U3 ?_) | (with_reducible refine U4 ?_ ?_; next => first | omega | exact ⟨trivial, by omega⟩) | simp (maxSteps := 2000000) (discharger := first | omega | (simp (discharger := omega) only [Z1, Z2, Z3, Z4, Z5, Z6, Z7] <;> fail) | (simp (discharger := omega) only [Z3, Z8, Z2, Z4, Z1, Z7, Z5, Z6, Z9, Y1, Y2]; omega)) only [go_sem, f0, e1])
      have hsl : ∀ s : Slot, (setAt L L.length s).length = L.length + 1 := fun s => by simp only [setAt_length]; omega
      have hok := partsL_ok hl0 hn
      have hrk := fun (a : Nat) (ks : List Nat) (hk : ks.length = I) => rank_spec (a := a) (own := true) hP hk (partsL_length l (J * K) I) (by omega) (by omega) (by omega) (by omega) hok
      have hrt : rkT p I J K l 0 = rankV p (partsL l (J * K) I) (J * K) := rfl
      have hrb := rankV_le hp.1 hok
      have hpl := partsL_length l (J * K) I
      rw [← hrt] at hrk hrb
      rw [hl0]
      refine call_rowsK (w := J * K) (R := partsL l (J * K) I) (rs := [(k0, ⟨i64s l, own⟩)]) (fun x ys hnd hyl hx => parted_spec hl0 (by omega) (by omega) (by omega) x ys hnd hyl hx) (get_rd hr) ?_
      rintro ws L' Jq ⟨⟨ids, hib, hid⟩, hput, hlen, hd, hrows, hlo, hold⟩
      simp only [hsl] at hlen hd hlo hold hib ⊢
      have hjq := hrows.len
      rw [hpl] at hjq hlen
      generalize rkT p I J K l 0 = rv at hrk hrb hst
      repeat' (first | (with_reducible first | refine W1 ?_ | refine W2 ?_ | refine W3 ?_ | refine W4 mixed ?_ | refine W5 ?_ | refine W6 ?_ | refine W7 ?_ | refine W8 ?_ | refine W9 ?_ | refine V1 ?_ | refine V2 ?_ | refine V3 ?_ | refine V4 (by decide) ?_ | refine V5 ?_ | refine V6 ?_ | refine V7 ?_ | refine V8 ?_ | refine V9 ?_ | refine U1 ?_ | refine U2 ?_ | refine U3 ?_) | (with_reducible refine U4 ?_ ?_; next => first | omega | exact ⟨trivial, by omega⟩) | simp (maxSteps := 2000000) (discharger := first | omega | (simp (discharger := omega) only [Z1, Z2, Z3, Z4, Z5, Z6, Z7] <;> fail) | (simp (discharger := omega) only [Z3, Z8, Z2, Z4, Z1, Z7, Z5, Z6, Z9, Y1, Y2]; omega)) only [go_sem, hput, hid])
      refine call_ro (hrk _ (Jq.map (nid N)) (by rw [List.length_map]; exact hjq)) (rd_rowsK hd hrows) ?_
      have q3 : gd L' mm = .live ⟨i64s [], true⟩ := (hold mm (by omega)).trans ((gd_setAt_ne' (by omega)).trans f3)
      have q0 := (hold 0 (by omega)).trans ((gd_setAt_ne' (by omega)).trans f0)
      repeat' (first | (with_reducible first | refine W1 ?_ | refine W2 ?_ | refine W3 ?_ | refine W4 mixed ?_ | refine W5 ?_ | refine W6 ?_ | refine W7 ?_ | refine W8 ?_ | refine W9 ?_ | refine V1 ?_ | refine V2 ?_ | refine V3 ?_ | refine V4 (by decide) ?_ | refine V5 ?_ | refine V6 ?_ | refine V7 ?_ | refine V8 ?_ | refine V9 ?_ | refine U1 ?_ | refine U2 ?_ | refine U3 ?_) | (with_reducible refine U4 ?_ ?_; next => first | omega | exact ⟨trivial, by omega⟩) | simp (maxSteps := 2000000) (discharger := first | omega | (simp (discharger := omega) only [Z1, Z2, Z3, Z4, Z5, Z6, Z7] <;> fail) | (simp (discharger := omega) only [Z3, Z8, Z2, Z4, Z1, Z7, Z5, Z6, Z9, Y1, Y2]; omega)) only [go_sem, q3])
      refine must_intro ?_ ?_
      · simp [confV, apart, notIn, lk, consF_rw]
        exact notIn_iff.2 fun hm => by have := hib _ hm; unfold nid at this; omega
      repeat' (first | (with_reducible first | refine W1 ?_ | refine W2 ?_ | refine W3 ?_ | refine W4 mixed ?_ | refine W5 ?_ | refine W6 ?_ | refine W7 ?_ | refine W8 ?_ | refine W9 ?_ | refine V1 ?_ | refine V2 ?_ | refine V3 ?_ | refine V4 (by decide) ?_ | refine V5 ?_ | refine V6 ?_ | refine V7 ?_ | refine V8 ?_ | refine V9 ?_ | refine U1 ?_ | refine U2 ?_ | refine U3 ?_) | (with_reducible refine U4 ?_ ?_; next => first | omega | exact ⟨trivial, by omega⟩) | simp (maxSteps := 2000000) (discharger := first | omega | (simp (discharger := omega) only [Z1, Z2, Z3, Z4, Z5, Z6, Z7] <;> fail) | (simp (discharger := omega) only [Z3, Z8, Z2, Z4, Z1, Z7, Z5, Z6, Z9, Y1, Y2]; omega)) only [go_sem])
      refine forK_same (0 + 1, _, L'.length + 1) (by dsimp only; omega) ⟨by dsimp only; omega, ?_, ?_, ?_, ?_⟩ rfl (by repeat' (first | exact trivial | exact .inl rfl | exact .inr rfl | refine ⟨?_, ?_⟩))
      · dsimp only
        rw [hl0] at q0
        simp (maxSteps := 2000000) (discharger := first | omega | (simp (discharger := omega) only [Z1, Z2, Z3, Z4, Z5, Z6, Z7] <;> fail) | (simp (discharger := omega) only [Z3, Z8, Z2, Z4, Z1, Z7, Z5, Z6, Z9, Y1, Y2]; omega)) only [go_sem, q0, tenC]
      · dsimp only; omega
      · dsimp only; simp only [setAt_length]; omega
      · dsimp only
        rw [hst, gd_setAt_same]
        simp [i64s, ldn]
    · obtain ⟨r0, rfl⟩ : ∃ r0, RR = [r0] := List.length_eq_one_iff.1 hrl
      repeat' (first | (with_reducible first | refine W1 ?_ | refine W2 ?_ | refine W3 ?_ | refine W4 mixed ?_ | refine W5 ?_ | refine W6 ?_ | refine W7 ?_ | refine W8 ?_ | refine W9 ?_ | refine V1 ?_ | refine V2 ?_ | refine V3 ?_ | refine V4 (by decide) ?_ | refine V5 ?_ | refine V6 ?_ | refine V7 ?_ | refine V8 ?_ | refine V9 ?_ | refine U1 ?_ | refine U2 ?_ | refine U3 ?_) | (with_reducible refine U4 ?_ ?_; next => first | omega | exact ⟨trivial, by omega⟩) | simp (maxSteps := 2000000) (discharger := first | omega | (simp (discharger := omega) only [Z1, Z2, Z3, Z4, Z5, Z6, Z7] <;> fail) | (simp (discharger := omega) only [Z3, Z8, Z2, Z4, Z1, Z7, Z5, Z6, Z9, Y1, Y2]; omega)) only [go_sem, f0])
      refine call_new1 (fun y hy => turned1_spec hp hI hJ hK hc hl hn y hy) (get_rd hr) nxt_free ?_
      obtain ⟨la, hla⟩ : ∃ la, turnL I J K l = la := ⟨_, rfl⟩
      have hll : la.length = J * (K * I) := by rw [← hla, turnL_length, Nat.mul_assoc]
      have hln : ∀ j, 0 ≤ la.getD j 0 ∧ la.getD j 0 < p := by rw [← hla]; exact turnL_rng hn
      have hbg : J * (K * I) ≤ 9 * 81 := Nat.mul_le_mul hJ.2 bKI2
      rw [hla, Nat.mul_assoc J K I]
      have e1 : (K : Int) * (I : Int) = ((K * I : Nat) : Int) := rfl
      repeat' (first | (with_reducible first | refine W1 ?_ | refine W2 ?_ | refine W3 ?_ | refine W4 mixed ?_ | refine W5 ?_ | refine W6 ?_ | refine W7 ?_ | refine W8 ?_ | refine W9 ?_ | refine V1 ?_ | refine V2 ?_ | refine V3 ?_ | refine V4 (by decide) ?_ | refine V5 ?_ | refine V6 ?_ | refine V7 ?_ | refine V8 ?_ | refine V9 ?_ | refine U1 ?_ | refine U2 ?_ | refine U3 ?_) | (with_reducible refine U4 ?_ ?_; next => first | omega | exact ⟨trivial, by omega⟩) | simp (maxSteps := 2000000) (discharger := first | omega | (simp (discharger := omega) only [Z1, Z2, Z3, Z4, Z5, Z6, Z7] <;> fail) | (simp (discharger := omega) only [Z3, Z8, Z2, Z4, Z1, Z7, Z5, Z6, Z9, Y1, Y2]; omega)) only [go_sem, f0, e1])
      have hsl : ∀ s s2 : Slot, (setAt (setAt L L.length s) (L.length + 1) s2).length = L.length + 2 := fun s s2 => by simp only [setAt_length]; omega
      have hok := partsL_ok hll hln
      have hrk := fun (a : Nat) (ks : List Nat) (hk : ks.length = J) => rank_spec (a := a) (own := true) hP hk (partsL_length la (K * I) J) (by omega) (by omega) (by omega) (by omega) hok
      have hrt : rkT p I J K l 1 = rankV p (partsL (turnL I J K l) (K * I) J) (K * I) := rfl
      have hrb := rankV_le hp.1 hok
      have hpl := partsL_length la (K * I) J
      rw [hla] at hrt
      rw [← hrt] at hrk hrb
      refine call_rowsK (w := K * I) (R := partsL la (K * I) J) (rs := [(nid N L.length, ⟨i64s la, true⟩)]) (fun x ys hnd hyl hx => parted_spec hll (by omega) (by omega) (by omega) x ys hnd hyl hx) (rd1 ?_) ?_
      · simp (maxSteps := 2000000) (discharger := first | omega | (simp (discharger := omega) only [Z1, Z2, Z3, Z4, Z5, Z6, Z7] <;> fail) | (simp (discharger := omega) only [Z3, Z8, Z2, Z4, Z1, Z7, Z5, Z6, Z9, Y1, Y2]; omega)) only [go_sem]
      rintro ws L' Jq ⟨⟨ids, hib, hid⟩, hput, hlen, hd, hrows, hlo, hold⟩
      simp only [hsl] at hlen hd hlo hold hib ⊢
      have hjq := hrows.len
      rw [hpl] at hjq hlen
      generalize rkT p I J K l 1 = rv at hrk hrb hst
      repeat' (first | (with_reducible first | refine W1 ?_ | refine W2 ?_ | refine W3 ?_ | refine W4 mixed ?_ | refine W5 ?_ | refine W6 ?_ | refine W7 ?_ | refine W8 ?_ | refine W9 ?_ | refine V1 ?_ | refine V2 ?_ | refine V3 ?_ | refine V4 (by decide) ?_ | refine V5 ?_ | refine V6 ?_ | refine V7 ?_ | refine V8 ?_ | refine V9 ?_ | refine U1 ?_ | refine U2 ?_ | refine U3 ?_) | (with_reducible refine U4 ?_ ?_; next => first | omega | exact ⟨trivial, by omega⟩) | simp (maxSteps := 2000000) (discharger := first | omega | (simp (discharger := omega) only [Z1, Z2, Z3, Z4, Z5, Z6, Z7] <;> fail) | (simp (discharger := omega) only [Z3, Z8, Z2, Z4, Z1, Z7, Z5, Z6, Z9, Y1, Y2]; omega)) only [go_sem, hput, hid])
      refine call_ro (hrk _ (Jq.map (nid N)) (by rw [List.length_map]; exact hjq)) (rd_rowsK hd hrows) ?_
      have q3 : gd L' mm = .live ⟨i64s [r0], true⟩ := (hold mm (by omega)).trans ((gd_setAt_ne' (by omega)).trans ((gd_setAt_ne' (by omega)).trans f3))
      have q0 := (hold 0 (by omega)).trans ((gd_setAt_ne' (by omega)).trans ((gd_setAt_ne' (by omega)).trans f0))
      repeat' (first | (with_reducible first | refine W1 ?_ | refine W2 ?_ | refine W3 ?_ | refine W4 mixed ?_ | refine W5 ?_ | refine W6 ?_ | refine W7 ?_ | refine W8 ?_ | refine W9 ?_ | refine V1 ?_ | refine V2 ?_ | refine V3 ?_ | refine V4 (by decide) ?_ | refine V5 ?_ | refine V6 ?_ | refine V7 ?_ | refine V8 ?_ | refine V9 ?_ | refine U1 ?_ | refine U2 ?_ | refine U3 ?_) | (with_reducible refine U4 ?_ ?_; next => first | omega | exact ⟨trivial, by omega⟩) | simp (maxSteps := 2000000) (discharger := first | omega | (simp (discharger := omega) only [Z1, Z2, Z3, Z4, Z5, Z6, Z7] <;> fail) | (simp (discharger := omega) only [Z3, Z8, Z2, Z4, Z1, Z7, Z5, Z6, Z9, Y1, Y2]; omega)) only [go_sem, q3])
      refine must_intro ?_ ?_
      · simp [confV, apart, notIn, lk, consF_rw]
        exact notIn_iff.2 fun hm => by have := hib _ hm; unfold nid at this; omega
      repeat' (first | (with_reducible first | refine W1 ?_ | refine W2 ?_ | refine W3 ?_ | refine W4 mixed ?_ | refine W5 ?_ | refine W6 ?_ | refine W7 ?_ | refine W8 ?_ | refine W9 ?_ | refine V1 ?_ | refine V2 ?_ | refine V3 ?_ | refine V4 (by decide) ?_ | refine V5 ?_ | refine V6 ?_ | refine V7 ?_ | refine V8 ?_ | refine V9 ?_ | refine U1 ?_ | refine U2 ?_ | refine U3 ?_) | (with_reducible refine U4 ?_ ?_; next => first | omega | exact ⟨trivial, by omega⟩) | simp (maxSteps := 2000000) (discharger := first | omega | (simp (discharger := omega) only [Z1, Z2, Z3, Z4, Z5, Z6, Z7] <;> fail) | (simp (discharger := omega) only [Z3, Z8, Z2, Z4, Z1, Z7, Z5, Z6, Z9, Y1, Y2]; omega)) only [go_sem])
      refine forK_same (1 + 1, _, L'.length + 1) (by dsimp only; omega) ⟨by dsimp only; omega, ?_, ?_, ?_, ?_⟩ rfl (by repeat' (first | exact trivial | exact .inl rfl | exact .inr rfl | refine ⟨?_, ?_⟩))
      · dsimp only
        simp (maxSteps := 2000000) (discharger := first | omega | (simp (discharger := omega) only [Z1, Z2, Z3, Z4, Z5, Z6, Z7] <;> fail) | (simp (discharger := omega) only [Z3, Z8, Z2, Z4, Z1, Z7, Z5, Z6, Z9, Y1, Y2]; omega)) only [go_sem, q0, tenC]
      · dsimp only; omega
      · dsimp only; simp only [setAt_length]; omega
      · dsimp only
        rw [hst, gd_setAt_same]
        simp [i64s, ldn]
    · obtain ⟨r0, r1, rfl⟩ : ∃ r0 r1, RR = [r0, r1] := by
        match RR, hrl with
        | [a, b], _ => exact ⟨a, b, rfl⟩
      repeat' (first | (with_reducible first | refine W1 ?_ | refine W2 ?_ | refine W3 ?_ | refine W4 mixed ?_ | refine W5 ?_ | refine W6 ?_ | refine W7 ?_ | refine W8 ?_ | refine W9 ?_ | refine V1 ?_ | refine V2 ?_ | refine V3 ?_ | refine V4 (by decide) ?_ | refine V5 ?_ | refine V6 ?_ | refine V7 ?_ | refine V8 ?_ | refine V9 ?_ | refine U1 ?_ | refine U2 ?_ | refine U3 ?_) | (with_reducible refine U4 ?_ ?_; next => first | omega | exact ⟨trivial, by omega⟩) | simp (maxSteps := 2000000) (discharger := first | omega | (simp (discharger := omega) only [Z1, Z2, Z3, Z4, Z5, Z6, Z7] <;> fail) | (simp (discharger := omega) only [Z3, Z8, Z2, Z4, Z1, Z7, Z5, Z6, Z9, Y1, Y2]; omega)) only [go_sem, f0])
      refine call_new1 (fun y hy => turned2_spec hp hI hJ hK hc hl hn y hy) (get_rd hr) nxt_free ?_
      obtain ⟨la, hla⟩ : ∃ la, turnL J K I (turnL I J K l) = la := ⟨_, rfl⟩
      have hll : la.length = K * (I * J) := by rw [← hla, turnL_length, Nat.mul_assoc]
      have hln : ∀ j, 0 ≤ la.getD j 0 ∧ la.getD j 0 < p := by rw [← hla]; exact turnL_rng (turnL_rng hn)
      have hbg : K * (I * J) ≤ 9 * 81 := Nat.mul_le_mul hK.2 bIJ2
      rw [hla, Nat.mul_assoc K I J]
      have e1 : (I : Int) * (J : Int) = ((I * J : Nat) : Int) := rfl
      repeat' (first | (with_reducible first | refine W1 ?_ | refine W2 ?_ | refine W3 ?_ | refine W4 mixed ?_ | refine W5 ?_ | refine W6 ?_ | refine W7 ?_ | refine W8 ?_ | refine W9 ?_ | refine V1 ?_ | refine V2 ?_ | refine V3 ?_ | refine V4 (by decide) ?_ | refine V5 ?_ | refine V6 ?_ | refine V7 ?_ | refine V8 ?_ | refine V9 ?_ | refine U1 ?_ | refine U2 ?_ | refine U3 ?_) | (with_reducible refine U4 ?_ ?_; next => first | omega | exact ⟨trivial, by omega⟩) | simp (maxSteps := 2000000) (discharger := first | omega | (simp (discharger := omega) only [Z1, Z2, Z3, Z4, Z5, Z6, Z7] <;> fail) | (simp (discharger := omega) only [Z3, Z8, Z2, Z4, Z1, Z7, Z5, Z6, Z9, Y1, Y2]; omega)) only [go_sem, f0, e1])
      have hsl : ∀ s s2 : Slot, (setAt (setAt L L.length s) (L.length + 1) s2).length = L.length + 2 := fun s s2 => by simp only [setAt_length]; omega
      have hok := partsL_ok hll hln
      have hrk := fun (a : Nat) (ks : List Nat) (hk : ks.length = K) => rank_spec (a := a) (own := true) hP hk (partsL_length la (I * J) K) (by omega) (by omega) (by omega) (by omega) hok
      have hrt : rkT p I J K l 2 = rankV p (partsL (turnL J K I (turnL I J K l)) (I * J) K) (I * J) := rfl
      have hrb := rankV_le hp.1 hok
      have hpl := partsL_length la (I * J) K
      rw [hla] at hrt
      rw [← hrt] at hrk hrb
      refine call_rowsK (w := I * J) (R := partsL la (I * J) K) (rs := [(nid N L.length, ⟨i64s la, true⟩)]) (fun x ys hnd hyl hx => parted_spec hll (by omega) (by omega) (by omega) x ys hnd hyl hx) (rd1 ?_) ?_
      · simp (maxSteps := 2000000) (discharger := first | omega | (simp (discharger := omega) only [Z1, Z2, Z3, Z4, Z5, Z6, Z7] <;> fail) | (simp (discharger := omega) only [Z3, Z8, Z2, Z4, Z1, Z7, Z5, Z6, Z9, Y1, Y2]; omega)) only [go_sem]
      rintro ws L' Jq ⟨⟨ids, hib, hid⟩, hput, hlen, hd, hrows, hlo, hold⟩
      simp only [hsl] at hlen hd hlo hold hib ⊢
      have hjq := hrows.len
      rw [hpl] at hjq hlen
      generalize rkT p I J K l 2 = rv at hrk hrb hst
      repeat' (first | (with_reducible first | refine W1 ?_ | refine W2 ?_ | refine W3 ?_ | refine W4 mixed ?_ | refine W5 ?_ | refine W6 ?_ | refine W7 ?_ | refine W8 ?_ | refine W9 ?_ | refine V1 ?_ | refine V2 ?_ | refine V3 ?_ | refine V4 (by decide) ?_ | refine V5 ?_ | refine V6 ?_ | refine V7 ?_ | refine V8 ?_ | refine V9 ?_ | refine U1 ?_ | refine U2 ?_ | refine U3 ?_) | (with_reducible refine U4 ?_ ?_; next => first | omega | exact ⟨trivial, by omega⟩) | simp (maxSteps := 2000000) (discharger := first | omega | (simp (discharger := omega) only [Z1, Z2, Z3, Z4, Z5, Z6, Z7] <;> fail) | (simp (discharger := omega) only [Z3, Z8, Z2, Z4, Z1, Z7, Z5, Z6, Z9, Y1, Y2]; omega)) only [go_sem, hput, hid])
      refine call_ro (hrk _ (Jq.map (nid N)) (by rw [List.length_map]; exact hjq)) (rd_rowsK hd hrows) ?_
      have q3 : gd L' mm = .live ⟨i64s [r0, r1], true⟩ := (hold mm (by omega)).trans ((gd_setAt_ne' (by omega)).trans ((gd_setAt_ne' (by omega)).trans f3))
      have q0 := (hold 0 (by omega)).trans ((gd_setAt_ne' (by omega)).trans ((gd_setAt_ne' (by omega)).trans f0))
      repeat' (first | (with_reducible first | refine W1 ?_ | refine W2 ?_ | refine W3 ?_ | refine W4 mixed ?_ | refine W5 ?_ | refine W6 ?_ | refine W7 ?_ | refine W8 ?_ | refine W9 ?_ | refine V1 ?_ | refine V2 ?_ | refine V3 ?_ | refine V4 (by decide) ?_ | refine V5 ?_ | refine V6 ?_ | refine V7 ?_ | refine V8 ?_ | refine V9 ?_ | refine U1 ?_ | refine U2 ?_ | refine U3 ?_) | (with_reducible refine U4 ?_ ?_; next => first | omega | exact ⟨trivial, by omega⟩) | simp (maxSteps := 2000000) (discharger := first | omega | (simp (discharger := omega) only [Z1, Z2, Z3, Z4, Z5, Z6, Z7] <;> fail) | (simp (discharger := omega) only [Z3, Z8, Z2, Z4, Z1, Z7, Z5, Z6, Z9, Y1, Y2]; omega)) only [go_sem, q3])
      refine must_intro ?_ ?_
      · simp [confV, apart, notIn, lk, consF_rw]
        exact notIn_iff.2 fun hm => by have := hib _ hm; unfold nid at this; omega
      repeat' (first | (with_reducible first | refine W1 ?_ | refine W2 ?_ | refine W3 ?_ | refine W4 mixed ?_ | refine W5 ?_ | refine W6 ?_ | refine W7 ?_ | refine W8 ?_ | refine W9 ?_ | refine V1 ?_ | refine V2 ?_ | refine V3 ?_ | refine V4 (by decide) ?_ | refine V5 ?_ | refine V6 ?_ | refine V7 ?_ | refine V8 ?_ | refine V9 ?_ | refine U1 ?_ | refine U2 ?_ | refine U3 ?_) | (with_reducible refine U4 ?_ ?_; next => first | omega | exact ⟨trivial, by omega⟩) | simp (maxSteps := 2000000) (discharger := first | omega | (simp (discharger := omega) only [Z1, Z2, Z3, Z4, Z5, Z6, Z7] <;> fail) | (simp (discharger := omega) only [Z3, Z8, Z2, Z4, Z1, Z7, Z5, Z6, Z9, Y1, Y2]; omega)) only [go_sem])
      refine forK_same (2 + 1, _, L'.length + 1) (by dsimp only; omega) ⟨by dsimp only; omega, ?_, ?_, ?_, ?_⟩ rfl (by repeat' (first | exact trivial | exact .inl rfl | exact .inr rfl | refine ⟨?_, ?_⟩))
      · dsimp only
        simp (maxSteps := 2000000) (discharger := first | omega | (simp (discharger := omega) only [Z1, Z2, Z3, Z4, Z5, Z6, Z7] <;> fail) | (simp (discharger := omega) only [Z3, Z8, Z2, Z4, Z1, Z7, Z5, Z6, Z9, Y1, Y2]; omega)) only [go_sem, q0, tenC]
      · dsimp only; omega
      · dsimp only; simp only [setAt_length]; omega
      · dsimp only
        rw [hst, gd_setAt_same]
        simp [i64s, ldn]
  · have hlt : i = 3 := by simp at h; omega
    subst hlt
    repeat' (first | (with_reducible first | refine W1 ?_ | refine W2 ?_ | refine W3 ?_ | refine W4 mixed ?_ | refine W5 ?_ | refine W6 ?_ | refine W7 ?_ | refine W8 ?_ | refine W9 ?_ | refine V1 ?_ | refine V2 ?_ | refine V3 ?_ | refine V4 (by decide) ?_ | refine V5 ?_ | refine V6 ?_ | refine V7 ?_ | refine V8 ?_ | refine V9 ?_ | refine U1 ?_ | refine U2 ?_ | refine U3 ?_) | (with_reducible refine U4 ?_ ?_; next => first | omega | exact ⟨trivial, by omega⟩) | simp (maxSteps := 2000000) (discharger := first | omega | (simp (discharger := omega) only [Z1, Z2, Z3, Z4, Z5, Z6, Z7] <;> fail) | (simp (discharger := omega) only [Z3, Z8, Z2, Z4, Z1, Z7, Z5, Z6, Z9, Y1, Y2]; omega)) only [go_sem])
    exact ret_slice hN x mm (i64s (rkTs p I J K l 3)) rfl hfree f3 (flat_i64s _)
end
end Go.Proofs.Ytcmmbnhdfkcpdaa
