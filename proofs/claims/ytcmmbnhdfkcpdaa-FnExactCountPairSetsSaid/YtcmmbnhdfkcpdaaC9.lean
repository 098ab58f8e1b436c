/- The search through sets of pairs, ours: one step's end. -/
import Derived.Test.YtcmmbnhdfkcpdaaZ3
import Derived.Test.YtcmmbnhdfkcpdaaGR
namespace Go.Proofs.Ytcmmbnhdfkcpdaa
open Go Go.Abs
set_option maxRecDepth 100000
/- loop.example/g01262/impl.CountPairSets$1 -/
def c_impl_CountPairSets_1 : SFn := ⟨(.seq (.seq (.ops [⟨some 11, .load 35 (.tmp 1), none⟩, ⟨some 12, .call ⟨.builtin .len, #[.tmp 11], #[35]⟩, none⟩, ⟨some 13, .load 2 (.tmp 2), none⟩, ⟨some 14, .binOp .eql 2 (.tmp 12) (.tmp 13) 2, none⟩])
  (.cond (.tmp 14) (.seq (.seq (.ops [⟨some 16, .load 41 (.tmp 3), none⟩, ⟨some 17, .load 35 (.tmp 1), none⟩, ⟨some 18, .call ⟨.value (.func 83), #[.tmp 16, .tmp 17], #[41, 35]⟩, none⟩, ⟨some 15, .move (.tmp 18), none⟩, ⟨some 19, .extract (.tmp 15) 0, none⟩, ⟨some 20, .extract (.tmp 15) 1, none⟩, ⟨some 8, .alloc 41, none⟩, ⟨none, .store 41 (.tmp 8) (.tmp 19), none⟩, ⟨some 9, .assign (.tmp 20), none⟩])
     (.seq (.ops [⟨some 21, .move (.tmp 9), none⟩])
      (.cond (.tmp 21) (.ops [⟨some 22, .load 2 (.tmp 4), none⟩, ⟨some 23, .binOp .add 2 (.tmp 22) (.const (.int .i64 1)) 2, none⟩, ⟨none, .store 2 (.tmp 4) (.tmp 23), none⟩])
       .skip)))
    .ret)
   .skip))
 (.seq (.ops [⟨some 24, .move (.tmp 0), none⟩, ⟨some 10, .assign (.tmp 24), none⟩])
  (.block 0 (.loop (.seq (.seq (.ops [⟨some 25, .move (.tmp 10), none⟩, ⟨some 26, .load 35 (.tmp 5), none⟩, ⟨some 27, .call ⟨.builtin .len, #[.tmp 26], #[35]⟩, none⟩, ⟨some 28, .binOp .lss 3 (.tmp 25) (.tmp 27) 3, none⟩])
      (.cond (.tmp 28) .skip
       (.exit 0)))
     (.seq (.block 1 (.seq (.opsD [⟨some 31, .load 35 (.tmp 1), none⟩, ⟨some 32, .load 35 (.tmp 5), none⟩, ⟨some 33, .move (.tmp 10), none⟩, ⟨some 34, .indexAddr 35 (.tmp 32) (.tmp 33), none⟩, ⟨some 35, .load 98 (.tmp 34), none⟩, ⟨some 36, .buildSlice 35 1 #[(0, .tmp 35)], none⟩, ⟨some 37, .call ⟨.builtin .append, #[.tmp 31, .tmp 36], #[35, 35]⟩, none⟩, ⟨none, .store 35 (.tmp 1) (.tmp 37), none⟩] [(0, 1), (0, 4), (0, 5)])
        (.seq (.ops [⟨some 38, .load 119 (.tmp 6), none⟩, ⟨some 39, .move (.tmp 10), none⟩, ⟨some 40, .binOp .add 3 (.tmp 39) (.const (.int .i64 1)) 3, none⟩, ⟨some 41, .call ⟨.value (.tmp 38), #[.tmp 40], #[3]⟩, none⟩])
         (.ops [⟨some 42, .load 35 (.tmp 1), none⟩, ⟨some 43, .load 35 (.tmp 1), none⟩, ⟨some 44, .call ⟨.builtin .len, #[.tmp 43], #[35]⟩, none⟩, ⟨some 45, .binOp .sub 3 (.tmp 44) (.const (.int .i64 1)) 3, none⟩, ⟨some 46, .slice 35 (.tmp 42) none (some (.tmp 45)) none, none⟩, ⟨none, .store 35 (.tmp 1) (.tmp 46), none⟩]))))
      (.ops [⟨some 29, .move (.tmp 10), none⟩, ⟨some 30, .binOp .add 3 (.tmp 29) (.const (.int .i64 1)) 3, none⟩, ⟨some 10, .assign (.tmp 30), none⟩]))))))), [], 47⟩
theorem f_impl_CountPairSets_1 : isFn Go.Proofs.Try.prog 102 = some c_impl_CountPairSets_1 := by kernel_rfl


set_option maxRecDepth 100000
set_option maxHeartbeats 16000000
set_option linter.unusedVariables false
attribute [-simp] List.getD_eq_getElem?_getD
attribute [-go_sem] confV

section
variable {P : Program} {G G' : Heap} {N : Nat} {L : List Slot} {T : List AV}
/-- Old objects written, one of them with the place of a new object of plain cells. -/
theorem ret_ptr (hN : ∀ k, N ≤ k → G k = .free) {F : Heap} {ws : List (Nat × Slot)} (hF : putsG G ws = F) {x j : Nat} {cs : List Cell} (hx : G x = .free) (hFx : F x = .live ⟨cs, true⟩) (hc : Abs.flat cs) (hL : gd L j = .live ⟨cs, true⟩)
    (hb : ∀ k, k ≠ x → ∀ o, F k = .live o → k < N ∧ (G k = .live o ∧ G' k = .live o ∨ G' k = .live ⟨o.cells.map (Cell.mapIds fun k => if k = x then nid N j else k), o.own⟩ ∧ ∀ c ∈ o.cells, ∀ i ∈ c.ids, F i ≠ .free)) (hn : ∀ k, G k ≠ .free → F k ≠ .free)
    {rs : List ResultVar} {val : AV} (vs : List AV) (hr : resAll P T ⟨G', N, L⟩ rs vs) (hv : NoIds val) (he : resOf vs = val) : retS P rs G N val ws .ret T ⟨G', N, L⟩ := by
  refine ⟨vs, fun k => if k = x then nid N j else k, hr, fun k hk => ?_, fun k o hk => ?_, fun k hk => by rw [hF]; exact hn k hk, fun k k' o o' hk hk' _ _ hne => ?_, by rw [he]; exact hv.named⟩
  · rw [if_neg (fun e => hk (by rw [e]; exact hx))]
  · rw [hF] at hk
    by_cases e : k = x
    · subst e
      rw [hFx] at hk
      cases hk
      right
      rw [if_pos rfl, get_new, map_flat hc]
      exact ⟨hL, fun c hcc i hi => by rw [hc c hcc] at hi; cases hi⟩
    · obtain ⟨h1, h2⟩ := hb k e o hk
      rcases h2 with ⟨h2, h3⟩ | ⟨h2, h3⟩
      · left; exact ⟨h2, by rw [get_old h1]; exact h3⟩
      · right
        rw [if_neg e, get_old h1]
        exact ⟨h2, fun c hcc i hi _ => by rw [hF]; exact h3 c hcc i hi⟩
  · rw [hF] at hk hk'
    by_cases e : k = x
    · by_cases e' : k' = x
      · exact absurd (e.trans e'.symm) hne
      · have := (hb k' e' o' hk').1
        rw [if_pos e, if_neg e']; unfold nid; omega
    · have := (hb k e o hk).1
      by_cases e' : k' = x
      · rw [if_neg e, if_pos e']; unfold nid; omega
      · rw [if_neg e, if_neg e']; exact hne
theorem ret_same0 (hN : ∀ k, N ≤ k → G k = .free) {k : Nat} {cs : List Cell} {own : Bool} (hk : k < N) (hg : G k = .live ⟨cs, own⟩) (hc : Abs.flat cs) {rs : List ResultVar} {val : AV} (vs : List AV) (hr : resAll P T ⟨G, N, L⟩ rs vs) (hp : plainT val = true) (hi : ∀ i ∈ val.idsT, G i ≠ .free) (he : resOf vs = renT id val) : retS P rs G N val [(k, .live ⟨cs, own⟩)] .ret T ⟨G, N, L⟩ := by
  have h := ret_upd0 (P := P) (T := T) (L := L) hN hk (by rw [hg]; simp) hc (own := own) (rs := rs) (val := val) vs (by rw [updF1 hg]; exact hr) hp hi he
  rwa [updF1 hg] at h
end
/-- The places of the search's variables. -/
structure SV where
  a15 : Nat
  a7 : Nat
  a13 : Nat
  a14 : Nat
  a10 : Nat
  a16 : Nat
  ka : Nat
def SV.fn (v : SV) : Cell := .fn 102 [(v.a15, 0), (v.a7, 0), (v.a13, 0), (v.a14, 0), (v.a10, 0), (v.a16, 0)]
/-- What the search reads. -/
def SV.rd (v : SV) (n m k q r : Nat) (al : List Int) (kl d : Nat) (li : List Int) (many : Int) : List (Nat × AObj) :=
  [(v.a15, ⟨[.slice kl 0 d 18], true⟩), (kl, ⟨u8s li, true⟩), (v.a7, ⟨[.int .i64 ((r : Nat) : Int)], true⟩), (v.a13, ⟨tenC 2 n m k .nils, true⟩), (v.a14, ⟨[.int .i64 many], true⟩), (v.a10, ⟨[.slice v.ka 0 q 18], true⟩), (v.ka, ⟨u8s al, true⟩), (v.a16, ⟨[v.fn], true⟩)]
theorem search_leaf {v : SV} {n m k q r kl : Nat} {al li g : List Int} {many : Int} {from_ : Nat} (hn : inSz n = true) (hm : inSz m = true) (hk : inSz k = true) (hr4 : r ≤ 4) (hl : li.length = r * 18) (hpl : pairsOk 2 ((n : Int) * m) ((m : Int) * k) r li = true) (hbl : byteL li) (hmany : 0 ≤ many ∧ many ≤ 100000000000) :
    FSpec Try.prog 102 [.c (.int .i64 ((from_ : Nat) : Int)), .c (.ptr v.a15 0), .c (.ptr v.a7 0), .c (.ptr v.a13 0), .c (.ptr v.a14 0), .c (.ptr v.a10 0), .c (.ptr v.a16 0)] (.tup []) (v.rd n m k q r al kl r li many) [(v.a14, .live ⟨[.int .i64 (many + setsV n m k q al false 0 r li from_)], true⟩)] := by
  have A := CpA.mk2 hn hm hk hl hpl hbl (by omega)
  obtain ⟨a15, a7, a13, a14, a10, a16, ka⟩ := v
  simp only [SV.rd, SV.fn]
  refine FSpec.of f_impl_CountPairSets_1 (Nat.le_of_ble_eq_true rfl) fun G N hN hr hw => ?_
  simp only [c_impl_CountPairSets_1, List.length_cons, List.length_nil, List.replicate, List.cons_append, List.nil_append]
  simp only [List.mem_cons, List.not_mem_nil, or_false, forall_eq_or_imp, forall_eq] at hr
  obtain ⟨⟨r1, s1⟩, ⟨r2, s2⟩, ⟨r3, s3⟩, ⟨r4, s4⟩, ⟨r5, s5⟩, ⟨r6, s6⟩, ⟨r7, s7⟩, ⟨r8, s8⟩⟩ := hr
  simp only [tenC] at r4
  have x0 : ((((r : Nat) : Int)) == ((r : Nat) : Int)) = true := by simp
  cases ho : cpOk 2 n m k r li with
  | false =>
    have hval : setsV n m k q al false 0 r li from_ = 0 := by rw [setsV, ho]; rfl
    rw [hval, Int.add_zero]
    repeat' (first | (with_reducible first | refine W1 ?_ | refine W2 ?_ | refine W3 ?_ | refine W4 mixed ?_ | refine W5 ?_ | refine W6 ?_ | refine W7 ?_ | refine W8 ?_ | refine W9 ?_ | refine V1 ?_ | refine V2 ?_ | refine V3 ?_ | refine V4 (by decide) ?_ | refine V5 ?_ | refine V6 ?_ | refine V7 ?_ | refine V8 ?_ | refine V9 ?_ | refine U1 ?_ | refine U2 ?_ | refine U3 ?_) | (with_reducible refine U4 ?_ ?_; next => first | omega | exact ⟨trivial, by omega⟩) | ((with_reducible refine U5 _ rfl (fun hq => ?_) (fun hq => ?_)) <;> try (first | (cases hq; done) | exact absurd hq (by decide))) | ((with_reducible refine U6 (fun hq => ?_) (fun hq => ?_)) <;> try (first | (cases hq; done) | exact absurd hq (by decide))) | simp (maxSteps := 2000000) (discharger := first | omega | (simp (discharger := omega) only [Z1, Z2, Z3, Z4, Z5, Z6, Z7] <;> fail) | (simp (discharger := omega) only [Z3, Z8, Z2, Z4, Z1, Z7, Z5, Z6, Z9, Y1, Y2]; omega)) only [go_sem, r1, r3, x0, r4])
    refine call_ro (implCp_no A (Sl.mk kl true (by rw [u8s_length]; exact hl)) ho) (by simp only [List.mem_singleton]; rintro p rfl; exact (get_old s2).trans r2) ?_
    repeat' (first | (with_reducible first | refine W1 ?_ | refine W2 ?_ | refine W3 ?_ | refine W4 mixed ?_ | refine W5 ?_ | refine W6 ?_ | refine W7 ?_ | refine W8 ?_ | refine W9 ?_ | refine V1 ?_ | refine V2 ?_ | refine V3 ?_ | refine V4 (by decide) ?_ | refine V5 ?_ | refine V6 ?_ | refine V7 ?_ | refine V8 ?_ | refine V9 ?_ | refine U1 ?_ | refine U2 ?_ | refine U3 ?_) | (with_reducible refine U4 ?_ ?_; next => first | omega | exact ⟨trivial, by omega⟩) | ((with_reducible refine U5 _ rfl (fun hq => ?_) (fun hq => ?_)) <;> try (first | (cases hq; done) | exact absurd hq (by decide))) | ((with_reducible refine U6 (fun hq => ?_) (fun hq => ?_)) <;> try (first | (cases hq; done) | exact absurd hq (by decide))) | simp (maxSteps := 2000000) (discharger := first | omega | (simp (discharger := omega) only [Z1, Z2, Z3, Z4, Z5, Z6, Z7] <;> fail) | (simp (discharger := omega) only [Z3, Z8, Z2, Z4, Z1, Z7, Z5, Z6, Z9, Y1, Y2]; omega)) only [go_sem])
    exact ret_same0 hN s5 r5 (show Abs.flat [.int .i64 many] from flat64 [many]) [] trivial rfl (by simp [AV.idsT]) rfl
  | true =>
    have hval : setsV n m k q al false 0 r li from_ = 1 := by rw [setsV, ho]; rfl
    rw [hval]
    repeat' (first | (with_reducible first | refine W1 ?_ | refine W2 ?_ | refine W3 ?_ | refine W4 mixed ?_ | refine W5 ?_ | refine W6 ?_ | refine W7 ?_ | refine W8 ?_ | refine W9 ?_ | refine V1 ?_ | refine V2 ?_ | refine V3 ?_ | refine V4 (by decide) ?_ | refine V5 ?_ | refine V6 ?_ | refine V7 ?_ | refine V8 ?_ | refine V9 ?_ | refine U1 ?_ | refine U2 ?_ | refine U3 ?_) | (with_reducible refine U4 ?_ ?_; next => first | omega | exact ⟨trivial, by omega⟩) | ((with_reducible refine U5 _ rfl (fun hq => ?_) (fun hq => ?_)) <;> try (first | (cases hq; done) | exact absurd hq (by decide))) | ((with_reducible refine U6 (fun hq => ?_) (fun hq => ?_)) <;> try (first | (cases hq; done) | exact absurd hq (by decide))) | simp (maxSteps := 2000000) (discharger := first | omega | (simp (discharger := omega) only [Z1, Z2, Z3, Z4, Z5, Z6, Z7] <;> fail) | (simp (discharger := omega) only [Z3, Z8, Z2, Z4, Z1, Z7, Z5, Z6, Z9, Y1, Y2]; omega)) only [go_sem, r1, r3, x0, r4])
    refine call_new1 (fun y hy => implCp_yes A (Sl.mk kl true (by rw [u8s_length]; exact hl)) ho y hy) (by simp only [List.mem_singleton]; rintro p rfl; exact (get_old s2).trans r2) nxt_free ?_
    repeat' (first | (with_reducible first | refine W1 ?_ | refine W2 ?_ | refine W3 ?_ | refine W4 mixed ?_ | refine W5 ?_ | refine W6 ?_ | refine W7 ?_ | refine W8 ?_ | refine W9 ?_ | refine V1 ?_ | refine V2 ?_ | refine V3 ?_ | refine V4 (by decide) ?_ | refine V5 ?_ | refine V6 ?_ | refine V7 ?_ | refine V8 ?_ | refine V9 ?_ | refine U1 ?_ | refine U2 ?_ | refine U3 ?_) | (with_reducible refine U4 ?_ ?_; next => first | omega | exact ⟨trivial, by omega⟩) | ((with_reducible refine U5 _ rfl (fun hq => ?_) (fun hq => ?_)) <;> try (first | (cases hq; done) | exact absurd hq (by decide))) | ((with_reducible refine U6 (fun hq => ?_) (fun hq => ?_)) <;> try (first | (cases hq; done) | exact absurd hq (by decide))) | simp (maxSteps := 2000000) (discharger := first | omega | (simp (discharger := omega) only [Z1, Z2, Z3, Z4, Z5, Z6, Z7] <;> fail) | (simp (discharger := omega) only [Z3, Z8, Z2, Z4, Z1, Z7, Z5, Z6, Z9, Y1, Y2]; omega)) only [go_sem, r5])
    exact ret_upd0 hN s5 (by rw [r5]; simp) (show Abs.flat [.int .i64 (many + 1)] from flat64 [many + 1]) [] trivial rfl (by simp [AV.idsT]) rfl
end Go.Proofs.Ytcmmbnhdfkcpdaa
