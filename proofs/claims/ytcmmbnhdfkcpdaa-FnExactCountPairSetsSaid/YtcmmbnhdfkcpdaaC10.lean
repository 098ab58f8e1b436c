/- The search through sets of pairs, ours. -/
import Derived.Test.YtcmmbnhdfkcpdaaC9
namespace Go.Proofs.Ytcmmbnhdfkcpdaa
open Go Go.Abs
set_option maxRecDepth 100000

set_option maxRecDepth 100000
set_option maxHeartbeats 16000000
set_option linter.unusedVariables false
attribute [-simp] List.getD_eq_getElem?_getD
attribute [-go_sem] confV

/-- The search's variables lie apart. -/
structure SV.nd (v : SV) (kl : Nat) : Prop where
  k15 : kl ≠ v.a15
  k14 : kl ≠ v.a14
  e : v.a14 ≠ v.a15
  s15 : v.a7 ≠ v.a15
  s14 : v.a7 ≠ v.a14
  sk : v.a7 ≠ kl
  t15 : v.a13 ≠ v.a15
  t14 : v.a13 ≠ v.a14
  tk : v.a13 ≠ kl
  l15 : v.a10 ≠ v.a15
  l14 : v.a10 ≠ v.a14
  lk : v.a10 ≠ kl
  d15 : v.ka ≠ v.a15
  d14 : v.ka ≠ v.a14
  dk : v.ka ≠ kl
  f15 : v.a16 ≠ v.a15
  f14 : v.a16 ≠ v.a14
  fk : v.a16 ≠ kl
def SV.av (v : SV) (i : Nat) : List AV := [.c (.int .i64 ((i : Nat) : Int)), .c (.ptr v.a15 0), .c (.ptr v.a7 0), .c (.ptr v.a13 0), .c (.ptr v.a14 0), .c (.ptr v.a10 0), .c (.ptr v.a16 0)]
theorem sub_pre {l l' : List Int} {w : Nat} (h : l.length = w) : sub (l ++ l') 0 w = l := by subst h; simp [sub]
theorem search_spec {v : SV} {n m k q r : Nat} {al : List Int} (hn : inSz n = true) (hm : inSz m = true) (hk : inSz k = true) (hr4 : r ≤ 4) (hq : q ≤ 64) (hal : al.length = q * 18) (hall : pairsOk 2 ((n : Int) * m) ((m : Int) * k) q al = true) (hba : byteL al) :
    ∀ (rest d : Nat) (li : List Int) (kl i : Nat) (many : Int), d + rest = r → i ≤ q → li.length = d * 18 → pairsOk 2 ((n : Int) * m) ((m : Int) * k) d li = true → byteL li → v.nd kl → 0 ≤ many ∧ many ≤ (5 - (rest : Int)) * 17179869184 →
    (rest = 0 ∨ q ≤ i → FSpec Try.prog 102 (v.av i) (.tup []) (v.rd n m k q r al kl d li many) [(v.a14, .live ⟨[.int .i64 (many + setsV n m k q al false rest d li i)], true⟩)]) ∧
    (rest ≠ 0 → i < q → ∀ x, (∀ p ∈ v.rd n m k q r al kl d li many, p.1 ≠ x) → FSpec Try.prog 102 (v.av i) (.tup []) (v.rd n m k q r al kl d li many) [(v.a14, .live ⟨[.int .i64 (many + setsV n m k q al false rest d li i)], true⟩), (v.a15, .live ⟨[.slice x 0 d 18], true⟩), (kl, .dead), (x, .live ⟨u8s (li ++ sub al ((q - 1) * 18) 18), true⟩)])
  | 0, d, li, kl, i, many, hdr, hiq, hl, hpl, hbl, hnd, hmany => by
    obtain rfl : d = r := by omega
    exact ⟨fun _ => search_leaf (g := []) hn hm hk hr4 hl hpl hbl (by omega), fun h => absurd rfl h⟩
  | rest + 1, d, li, kl, i, many, hdr, hiq, hl, hpl, hbl, hnd, hmany => by
    have IH := search_spec (v := v) hn hm hk hr4 hq hal hall hba rest
    have hB : ∀ j li', 0 ≤ setsV n m k q al false rest (d + 1) li' j ∧ setsV n m k q al false rest (d + 1) li' j ≤ 16777216 := fun j li' => by
      have h := setsV_rng n m k hq al false rest (d + 1) li' j
      have h3 : (64 : Int) ^ rest ≤ 64 ^ 4 := by
        have : rest = 0 ∨ rest = 1 ∨ rest = 2 ∨ rest = 3 := by omega
        rcases this with rfl | rfl | rfl | rfl <;> decide
      have h4 : (64 : Int) ^ 4 = 16777216 := by decide
      omega
    obtain ⟨f, hf⟩ : ∃ f : Nat → Int, (fun i => setsV n m k q al false rest (d + 1) (li ++ sub al (i * 18) 18) (i + 1)) = f := ⟨_, rfl⟩
    have hval : setsV n m k q al false (rest + 1) d li i = lpV f false (q - i) i 0 := by rw [setsV, hf]
    have hfj : ∀ j, setsV n m k q al false rest (d + 1) (li ++ sub al (j * 18) 18) (j + 1) = f j := fun j => by rw [← hf]
    have hfB : ∀ j, 0 ≤ f j ∧ f j ≤ 16777216 := fun j => by rw [← hf]; exact hB _ _
    rw [hval]
    clear hval hf hB
    have x0 : ((((d : Nat) : Int)) == ((r : Nat) : Int)) = false := by simp; omega
    obtain ⟨a15, a7, a13, a14, a10, a16, ka⟩ := v
    simp only [SV.rd, SV.fn, SV.av]
    constructor
    · intro hno
      have hqi : q ≤ i := by omega
      rw [show q - i = 0 from by omega, lpV, Int.add_zero]
      refine FSpec.of f_impl_CountPairSets_1 (Nat.le_of_ble_eq_true rfl) fun G N hN hr hw => ?_
      simp only [c_impl_CountPairSets_1, List.length_cons, List.length_nil, List.replicate, List.cons_append, List.nil_append]
      simp only [List.mem_cons, List.not_mem_nil, or_false, forall_eq_or_imp, forall_eq] at hr
      obtain ⟨⟨r1, s1⟩, ⟨r2, s2⟩, ⟨r3, s3⟩, ⟨r4, s4⟩, ⟨r5, s5⟩, ⟨r6, s6⟩, ⟨r7, s7⟩, ⟨r8, s8⟩⟩ := hr
      have x1 : decide (((i : Nat) : Int) < ((q : Nat) : Int)) = false := decide_eq_false (by omega)
      repeat' (first | (with_reducible first | refine W1 ?_ | refine W2 ?_ | refine W3 ?_ | refine W4 mixed ?_ | refine W5 ?_ | refine W6 ?_ | refine W7 ?_ | refine W8 ?_ | refine W9 ?_ | refine V1 ?_ | refine V2 ?_ | refine V3 ?_ | refine V4 (by decide) ?_ | refine V5 ?_ | refine V6 ?_ | refine V7 ?_ | refine V8 ?_ | refine V9 ?_ | refine U1 ?_ | refine U2 ?_ | refine U3 ?_) | (with_reducible refine U4 ?_ ?_; next => first | omega | exact ⟨trivial, by omega⟩) | ((with_reducible refine U5 _ rfl (fun hq => ?_) (fun hq => ?_)) <;> try (first | (cases hq; done) | exact absurd hq (by decide))) | ((with_reducible refine U6 (fun hq => ?_) (fun hq => ?_)) <;> try (first | (cases hq; done) | exact absurd hq (by decide))) | simp (maxSteps := 2000000) (discharger := first | omega | (simp (discharger := omega) only [Z1, Z2, Z3, Z4, Z5, Z6, Z7] <;> fail) | (simp (discharger := omega) only [Z3, Z8, Z2, Z4, Z1, Z7, Z5, Z6, Z9, Y1, Y2]; omega)) only [go_sem, r1, r3, x0])
      refine swp_rounds 1 ?_
      repeat' (first | (with_reducible first | refine W1 ?_ | refine W2 ?_ | refine W3 ?_ | refine W4 mixed ?_ | refine W5 ?_ | refine W6 ?_ | refine W7 ?_ | refine W8 ?_ | refine W9 ?_ | refine V1 ?_ | refine V2 ?_ | refine V3 ?_ | refine V4 (by decide) ?_ | refine V5 ?_ | refine V6 ?_ | refine V7 ?_ | refine V8 ?_ | refine V9 ?_ | refine U1 ?_ | refine U2 ?_ | refine U3 ?_) | (with_reducible refine U4 ?_ ?_; next => first | omega | exact ⟨trivial, by omega⟩) | ((with_reducible refine U5 _ rfl (fun hq => ?_) (fun hq => ?_)) <;> try (first | (cases hq; done) | exact absurd hq (by decide))) | ((with_reducible refine U6 (fun hq => ?_) (fun hq => ?_)) <;> try (first | (cases hq; done) | exact absurd hq (by decide))) | simp (maxSteps := 2000000) (discharger := first | omega | (simp (discharger := omega) only [Z1, Z2, Z3, Z4, Z5, Z6, Z7] <;> fail) | (simp (discharger := omega) only [Z3, Z8, Z2, Z4, Z1, Z7, Z5, Z6, Z9, Y1, Y2]; omega)) only [go_sem, r6, x1])
      exact ret_same0 hN s5 r5 (show Abs.flat [.int .i64 many] from flat64 [many]) [] trivial rfl (by simp [AV.idsT]) rfl
    · intro _ hiq' x hx
      refine FSpec.of f_impl_CountPairSets_1 (Nat.le_of_ble_eq_true rfl) fun G N hN hr hw => ?_
      simp only [c_impl_CountPairSets_1, List.length_cons, List.length_nil, List.replicate, List.cons_append, List.nil_append]
      simp only [List.mem_cons, List.not_mem_nil, or_false, forall_eq_or_imp, forall_eq] at hr
      obtain ⟨⟨r1, s1⟩, ⟨r2, s2⟩, ⟨r3, s3⟩, ⟨r4, s4⟩, ⟨r5, s5⟩, ⟨r6, s6⟩, ⟨r7, s7⟩, ⟨r8, s8⟩⟩ := hr
      repeat' (first | (with_reducible first | refine W1 ?_ | refine W2 ?_ | refine W3 ?_ | refine W4 mixed ?_ | refine W5 ?_ | refine W6 ?_ | refine W7 ?_ | refine W8 ?_ | refine W9 ?_ | refine V1 ?_ | refine V2 ?_ | refine V3 ?_ | refine V4 (by decide) ?_ | refine V5 ?_ | refine V6 ?_ | refine V7 ?_ | refine V8 ?_ | refine V9 ?_ | refine U1 ?_ | refine U2 ?_ | refine U3 ?_) | (with_reducible refine U4 ?_ ?_; next => first | omega | exact ⟨trivial, by omega⟩) | ((with_reducible refine U5 _ rfl (fun hq => ?_) (fun hq => ?_)) <;> try (first | (cases hq; done) | exact absurd hq (by decide))) | ((with_reducible refine U6 (fun hq => ?_) (fun hq => ?_)) <;> try (first | (cases hq; done) | exact absurd hq (by decide))) | simp (maxSteps := 2000000) (discharger := first | omega | (simp (discharger := omega) only [Z1, Z2, Z3, Z4, Z5, Z6, Z7] <;> fail) | (simp (discharger := omega) only [Z3, Z8, Z2, Z4, Z1, Z7, Z5, Z6, Z9, Y1, Y2]; omega)) only [go_sem, r1, r3, x0])
      have hinit : (∀ k', k' ≠ a15 → k' ≠ a14 → k' ≠ kl → G k' = G k') := fun _ _ _ _ => rfl
      refine swp_for (fun (z : Nat × Int × Heap × List Slot × Nat × List Int) => ([.any, .c (.ptr a15 0), .any, .any, .any, .c (.ptr a10 0), .c (.ptr a16 0), .any, .any, .any, .c (.int .i64 ((z.1 : Nat) : Int))] ++ List.replicate 36 .any)) (fun z => ⟨z.2.2.1, N, z.2.2.2.1⟩) (fun z => q - z.1) (fun z => i ≤ z.1 ∧ z.1 ≤ q ∧ 0 ≤ z.2.1 ∧ z.2.1 ≤ z.1 * 16777216 ∧ lpV f false (q - i) i 0 = lpV f false (q - z.1) z.1 z.2.1 ∧ (∀ k', k' ≠ a15 → k' ≠ a14 → k' ≠ kl → z.2.2.1 k' = G k') ∧ z.2.2.1 a14 = .live ⟨[.int .i64 (many + z.2.1)], true⟩ ∧
        ((z.1 = i ∧ z.2.2.1 a15 = .live ⟨[.slice kl 0 d 18], true⟩ ∧ z.2.2.1 kl = .live ⟨u8s li, true⟩) ∨ (i < z.1 ∧ z.2.2.1 a15 = .live ⟨[.slice (nid N z.2.2.2.2.1) 0 d 18], true⟩ ∧ z.2.2.1 kl = .dead ∧ z.2.2.2.2.1 < z.2.2.2.1.length ∧ gd z.2.2.2.1 z.2.2.2.2.1 = .live ⟨u8s (li ++ z.2.2.2.2.2), true⟩ ∧ (z.1 = q → z.2.2.2.2.2 = sub al ((q - 1) * 18) 18))))
        (i, 0, G, [], 0, []) ⟨Nat.le_refl _, hiq, by simp, by dsimp only; omega, rfl, hinit, by dsimp only; rw [Int.add_zero]; exact r5, .inl ⟨rfl, r1, r2⟩⟩ rfl (by repeat' (first | exact trivial | exact .inl rfl | exact .inr rfl | refine ⟨?_, ?_⟩)) ?_
      rintro ⟨j, s, G', L, c, gg⟩ ⟨hij, hjq, hs0, hsB, hlp, fr, m14, D⟩
      dsimp only at hij hjq hs0 hsB hlp fr m14 D
      simp only [List.replicate, List.cons_append, List.nil_append]
      have q10 := (fr a10 hnd.l15 hnd.l14 hnd.lk).trans r6
      have qka := (fr ka hnd.d15 hnd.d14 hnd.dk).trans r7
      by_cases hlt : j < q
      · have x1 : decide (((j : Nat) : Int) < ((q : Nat) : Int)) = true := decide_eq_true (by omega)
        rw [show q - j = (q - (j + 1)) + 1 from by omega, lpV, if_neg (by simp)] at hlp
        have hv : (sub al (j * 18) 18).length = 18 := sub_length (by omega)
        have hfv := hfj j
        have hfB' := hfB j
        have hl2 : (li ++ sub al (j * 18) 18).length = (d + 1) * 18 := by rw [List.length_append, hl, hv]; omega
        have hp2 := pairsOk_snoc hl hv hpl (pairsOk_at hall hlt)
        have hb2 : byteL (li ++ sub al (j * 18) 18) := fun z hz => by
          rcases List.mem_append.1 hz with hz | hz
          · exact hbl z hz
          · exact hba.sub _ _ z hz
        have n1 : ∀ b, a15 ≠ nid N b := fun b => by unfold nid; omega
        have n2 : ∀ b, kl ≠ nid N b := fun b => by unfold nid; omega
        have n3 : ∀ b, a10 ≠ nid N b := fun b => by unfold nid; omega
        have n4 : ∀ b, ka ≠ nid N b := fun b => by unfold nid; omega
        have n1' : ∀ b, nid N b ≠ a15 := fun b => (n1 b).symm
        have n2' : ∀ b, nid N b ≠ kl := fun b => (n2 b).symm
        have n3' : ∀ b, nid N b ≠ a10 := fun b => (n3 b).symm
        have n4' : ∀ b, nid N b ≠ ka := fun b => (n4 b).symm
        have w1 : a15 ≠ kl := hnd.k15.symm
        have w2 : a15 ≠ a10 := hnd.l15.symm
        have w3 : a15 ≠ ka := hnd.d15.symm
        have w4 : kl ≠ a10 := hnd.lk.symm
        have w5 : kl ≠ ka := hnd.dk.symm
        generalize hqd : sub al (j * 18) 18 = v at hv hl2 hp2 hb2 hfv
        rcases D with ⟨hj0, q15, qkl⟩ | ⟨hj0, q15, qkl, hcL, hgc, hgg⟩
        · have eu : upd G' kl .dead a15 = .live ⟨[.slice kl 0 d 18], true⟩ := by rw [upd_ne _ _ w1]; exact q15
          repeat' (first | (with_reducible first | refine W1 ?_ | refine W2 ?_ | refine W3 ?_ | refine W4 mixed ?_ | refine W5 ?_ | refine W6 ?_ | refine W7 ?_ | refine W8 ?_ | refine W9 ?_ | refine V1 ?_ | refine V2 ?_ | refine V3 ?_ | refine V4 (by decide) ?_ | refine V5 ?_ | refine V6 ?_ | refine V7 ?_ | refine V8 ?_ | refine V9 ?_ | refine U1 ?_ | refine U2 ?_ | refine U3 ?_) | (with_reducible refine U4 ?_ ?_; next => first | omega | exact ⟨trivial, by omega⟩) | ((with_reducible refine U5 _ rfl (fun hq => ?_) (fun hq => ?_)) <;> try (first | (cases hq; done) | exact absurd hq (by decide))) | ((with_reducible refine U6 (fun hq => ?_) (fun hq => ?_)) <;> try (first | (cases hq; done) | exact absurd hq (by decide))) | simp (maxSteps := 2000000) (discharger := first | omega | (simp (discharger := omega) only [Z1, Z2, Z3, Z4, Z5, Z6, Z7] <;> fail) | (simp (discharger := omega) only [Z3, Z8, Z2, Z4, Z1, Z7, Z5, Z6, Z9, Y1, Y2]; omega)) only [go_sem, q10, x1, q15, qkl, qka, hqd, eu])
          refine must_intro (by simp [confV, apart, notIn, lk, n1, n2, n3, n4, n1', n2', n3', n4', w1, w2, w3, w4, w5, w1.symm, w2.symm, w3.symm, w4.symm, w5.symm]) ?_
          clear n2' w2 w3 w4 w5
          obtain ⟨c2, hc2⟩ : ∃ c2, c2 = L.length + 1 := ⟨_, rfl⟩
          rw [← hc2]
          obtain ⟨L1, hL1⟩ : ∃ L1, L1 = setAt (setAt L L.length (.live ⟨u8s v, true⟩)) c2 (.live ⟨u8s (li ++ v), true⟩) := ⟨_, rfl⟩
          rw [← hL1]
          obtain ⟨G1, hG1⟩ : ∃ G1, G1 = upd (upd G' kl .dead) a15 (.live ⟨[.slice (nid N c2) 0 (d + 1) 18], true⟩) := ⟨_, rfl⟩
          rw [← hG1]
          have g15 : G1 a15 = .live ⟨[.slice (nid N c2) 0 (d + 1) 18], true⟩ := by rw [hG1, upd_same]
          have g14 : G1 a14 = .live ⟨[.int .i64 (many + s)], true⟩ := by rw [hG1, upd_ne _ _ hnd.e, upd_ne _ _ hnd.k14.symm]; exact m14
          have gkl : G1 kl = .dead := by rw [hG1, upd_ne _ _ hnd.k15, upd_same]
          have gfr : ∀ k', k' ≠ a15 → k' ≠ a14 → k' ≠ kl → G1 k' = G k' := fun k' h1 h2 h3 => by rw [hG1, upd_ne _ _ h1, upd_ne _ _ h3]; exact fr k' h1 h2 h3
          have gL : gd L1 c2 = .live ⟨u8s (li ++ v), true⟩ := by rw [hL1, gd_setAt_same]
          have gc : c2 < L1.length := by rw [hL1]; simp only [setAt_length]; omega
          have q16 := (gfr a16 hnd.f15 hnd.f14 hnd.fk).trans r8
          repeat' (first | (with_reducible first | refine W1 ?_ | refine W2 ?_ | refine W3 ?_ | refine W4 mixed ?_ | refine W5 ?_ | refine W6 ?_ | refine W7 ?_ | refine W8 ?_ | refine W9 ?_ | refine V1 ?_ | refine V2 ?_ | refine V3 ?_ | refine V4 (by decide) ?_ | refine V5 ?_ | refine V6 ?_ | refine V7 ?_ | refine V8 ?_ | refine V9 ?_ | refine U1 ?_ | refine U2 ?_ | refine U3 ?_) | (with_reducible refine U4 ?_ ?_; next => first | omega | exact ⟨trivial, by omega⟩) | simp (maxSteps := 2000000) (discharger := first | omega | (simp (discharger := omega) only [Z1, Z2, Z3, Z4, Z5, Z6, Z7] <;> fail) | (simp (discharger := omega) only [Z3, Z8, Z2, Z4, Z1, Z7, Z5, Z6, Z9, Y1, Y2]; omega)) only [go_sem, q16])
          have hndc : SV.nd ⟨a15, a7, a13, a14, a10, a16, ka⟩ (nid N c2) := by
            constructor
            · exact n1' c2
            · dsimp only; unfold nid; omega
            · exact hnd.e
            · exact hnd.s15
            · exact hnd.s14
            · dsimp only; unfold nid; omega
            · exact hnd.t15
            · exact hnd.t14
            · dsimp only; unfold nid; omega
            · exact hnd.l15
            · exact hnd.l14
            · exact n3 c2
            · exact hnd.d15
            · exact hnd.d14
            · exact n4 c2
            · exact hnd.f15
            · exact hnd.f14
            · dsimp only; unfold nid; omega
          obtain ⟨IA, IB⟩ := IH (d + 1) (li ++ v) (nid N c2) (j + 1) (many + s) (by omega) (by omega) hl2 hp2 hb2 hndc (by omega)
          simp only [SV.rd, SV.fn, SV.av] at IA IB
          rw [hfv] at IA IB
          have hrd : ∀ p ∈ ([(a15, ⟨[.slice (nid N c2) 0 (d + 1) 18], true⟩), (nid N c2, ⟨u8s (li ++ v), true⟩), (a7, ⟨[.int .i64 ((r : Nat) : Int)], true⟩), (a13, ⟨tenC 2 n m k .nils, true⟩), (a14, ⟨[.int .i64 (many + s)], true⟩), (a10, ⟨[.slice ka 0 q 18], true⟩), (ka, ⟨u8s al, true⟩), (a16, ⟨[.fn 102 [(a15, 0), (a7, 0), (a13, 0), (a14, 0), (a10, 0), (a16, 0)]], true⟩)] : List (Nat × AObj)), (⟨G1, N, L1⟩ : AHeap).get p.1 = .live p.2 := by
            simp only [List.mem_cons, List.not_mem_nil, or_false, forall_eq_or_imp, forall_eq]
            refine ⟨(get_old s1).trans g15, get_new.trans gL, (get_old s3).trans ((gfr _ hnd.s15 hnd.s14 hnd.sk).trans r3), (get_old s4).trans ((gfr _ hnd.t15 hnd.t14 hnd.tk).trans r4), (get_old s5).trans g14, (get_old s6).trans ((gfr _ hnd.l15 hnd.l14 hnd.lk).trans r6), (get_old s7).trans ((gfr _ hnd.d15 hnd.d14 hnd.dk).trans r7), (get_old s8).trans q16⟩
          have e1 : ((d + 1 : Nat) : Int) - 1 = ((d : Nat) : Int) := by omega
          by_cases hmv : rest = 0 ∨ q ≤ j + 1
          · refine call_intro (IA hmv) hrd (by simp only [List.mem_singleton]; rintro p rfl; exact .inl ⟨_, .tail _ (.tail _ (.tail _ (.tail _ (.head _))))⟩) ?_
            have e15 : upd G1 a14 (.live ⟨[.int .i64 (many + s + f j)], true⟩) a15 = .live ⟨[.slice (nid N c2) 0 (d + 1) 18], true⟩ := by rw [upd_ne _ _ hnd.e.symm]; exact g15
            repeat' (first | (with_reducible first | refine W1 ?_ | refine W2 ?_ | refine W3 ?_ | refine W4 mixed ?_ | refine W5 ?_ | refine W6 ?_ | refine W7 ?_ | refine W8 ?_ | refine W9 ?_ | refine V1 ?_ | refine V2 ?_ | refine V3 ?_ | refine V4 (by decide) ?_ | refine V5 ?_ | refine V6 ?_ | refine V7 ?_ | refine V8 ?_ | refine V9 ?_ | refine U1 ?_ | refine U2 ?_ | refine U3 ?_) | (with_reducible refine U4 ?_ ?_; next => first | omega | exact ⟨trivial, by omega⟩) | simp (maxSteps := 2000000) (discharger := first | omega | (simp (discharger := omega) only [Z1, Z2, Z3, Z4, Z5, Z6, Z7] <;> fail) | (simp (discharger := omega) only [Z3, Z8, Z2, Z4, Z1, Z7, Z5, Z6, Z9, Y1, Y2]; omega)) only [go_sem, e15, e1])
            refine forK_same (j + 1, s + f j, upd (upd G1 a14 (.live ⟨[.int .i64 (many + s + f j)], true⟩)) a15 (.live ⟨[.slice (nid N c2) 0 d 18], true⟩), L1, c2, v) (by dsimp only; omega) ⟨by dsimp only; omega, by dsimp only; omega, by dsimp only; omega, by dsimp only; omega, hlp, ?_, ?_, .inr ⟨by dsimp only; omega, ?_, ?_, gc, ?_, ?_⟩⟩ rfl (by repeat' (first | exact trivial | exact .inl rfl | exact .inr rfl | refine ⟨?_, ?_⟩))
            · intro k' h1 h2 h3
              dsimp only
              rw [upd_ne _ _ h1, upd_ne _ _ h2]
              exact gfr k' h1 h2 h3
            · dsimp only
              rw [upd_ne _ _ hnd.e, upd_same, Int.add_assoc]
            · dsimp only; rw [upd_same]
            · dsimp only
              rw [upd_ne _ _ hnd.k15, upd_ne _ _ hnd.k14]
              exact gkl
            · exact gL
            · intro hje
              dsimp only at hje ⊢
              rw [← hqd, show q - 1 = j from by omega]
          · have hx2 : ∀ p ∈ ([(a15, ⟨[.slice (nid N c2) 0 (d + 1) 18], true⟩), (nid N c2, ⟨u8s (li ++ v), true⟩), (a7, ⟨[.int .i64 ((r : Nat) : Int)], true⟩), (a13, ⟨tenC 2 n m k .nils, true⟩), (a14, ⟨[.int .i64 (many + s)], true⟩), (a10, ⟨[.slice ka 0 q 18], true⟩), (ka, ⟨u8s al, true⟩), (a16, ⟨[.fn 102 [(a15, 0), (a7, 0), (a13, 0), (a14, 0), (a10, 0), (a16, 0)]], true⟩)] : List (Nat × AObj)), p.1 ≠ nid N L1.length := by
              intro p hp e
              have := hrd p hp
              rw [e, get_new, gd_len (Nat.le_refl _)] at this
              cases this
            refine call_intro (IB (by omega) (by omega) (nid N L1.length) hx2) hrd (by
              intro p hp
              simp only [List.mem_cons, List.not_mem_nil, or_false] at hp
              rcases hp with rfl | rfl | rfl | rfl
              · exact .inl ⟨_, .tail _ (.tail _ (.tail _ (.tail _ (.head _))))⟩
              · exact .inl ⟨_, .head _⟩
              · exact .inl ⟨_, .tail _ (.head _)⟩
              · exact .inr (by dsimp only; rw [get_new, gd_len (Nat.le_refl _)])) ?_
            have e15 : upd (upd G1 a14 (.live ⟨[.int .i64 (many + s + f j)], true⟩)) a15 (.live ⟨[.slice (nid N L1.length) 0 (d + 1) 18], true⟩) a15 = .live ⟨[.slice (nid N L1.length) 0 (d + 1) 18], true⟩ := upd_same _ _ _
            repeat' (first | (with_reducible first | refine W1 ?_ | refine W2 ?_ | refine W3 ?_ | refine W4 mixed ?_ | refine W5 ?_ | refine W6 ?_ | refine W7 ?_ | refine W8 ?_ | refine W9 ?_ | refine V1 ?_ | refine V2 ?_ | refine V3 ?_ | refine V4 (by decide) ?_ | refine V5 ?_ | refine V6 ?_ | refine V7 ?_ | refine V8 ?_ | refine V9 ?_ | refine U1 ?_ | refine U2 ?_ | refine U3 ?_) | (with_reducible refine U4 ?_ ?_; next => first | omega | exact ⟨trivial, by omega⟩) | simp (maxSteps := 2000000) (discharger := first | omega | (simp (discharger := omega) only [Z1, Z2, Z3, Z4, Z5, Z6, Z7] <;> fail) | (simp (discharger := omega) only [Z3, Z8, Z2, Z4, Z1, Z7, Z5, Z6, Z9, Y1, Y2]; omega)) only [go_sem, e15, e1])
            refine forK_same (j + 1, s + f j, upd (upd (upd G1 a14 (.live ⟨[.int .i64 (many + s + f j)], true⟩)) a15 (.live ⟨[.slice (nid N L1.length) 0 (d + 1) 18], true⟩)) a15 (.live ⟨[.slice (nid N L1.length) 0 d 18], true⟩), setAt (setAt L1 c2 .dead) L1.length (.live ⟨u8s (li ++ v ++ sub al ((q - 1) * 18) 18), true⟩), L1.length, v ++ sub al ((q - 1) * 18) 18) (by dsimp only; omega) ⟨by dsimp only; omega, by dsimp only; omega, by dsimp only; omega, by dsimp only; omega, hlp, ?_, ?_, .inr ⟨by dsimp only; omega, ?_, ?_, ?_, ?_, ?_⟩⟩ rfl (by repeat' (first | exact trivial | exact .inl rfl | exact .inr rfl | refine ⟨?_, ?_⟩))
            · intro k' h1 h2 h3
              dsimp only
              rw [upd_ne _ _ h1, upd_ne _ _ h1, upd_ne _ _ h2]
              exact gfr k' h1 h2 h3
            · dsimp only
              rw [upd_ne _ _ hnd.e, upd_ne _ _ hnd.e, upd_same, Int.add_assoc]
            · dsimp only; rw [upd_same]
            · dsimp only
              rw [upd_ne _ _ hnd.k15, upd_ne _ _ hnd.k15, upd_ne _ _ hnd.k14]
              exact gkl
            · dsimp only; simp only [setAt_length]; omega
            · dsimp only
              rw [gd_setAt_same, List.append_assoc]
            · intro hje
              dsimp only at hje
              omega
        · have hcn : nid N c ≠ nid N L.length := by unfold nid; omega
          have hcn2 : nid N c ≠ nid N (L.length + 1) := by unfold nid; omega
          have hglen : (li ++ gg).length = d * 18 + gg.length := by rw [List.length_append, hl]
          repeat' (first | (with_reducible first | refine W1 ?_ | refine W2 ?_ | refine W3 ?_ | refine W4 mixed ?_ | refine W5 ?_ | refine W6 ?_ | refine W7 ?_ | refine W8 ?_ | refine W9 ?_ | refine V1 ?_ | refine V2 ?_ | refine V3 ?_ | refine V4 (by decide) ?_ | refine V5 ?_ | refine V6 ?_ | refine V7 ?_ | refine V8 ?_ | refine V9 ?_ | refine U1 ?_ | refine U2 ?_ | refine U3 ?_) | (with_reducible refine U4 ?_ ?_; next => first | omega | exact ⟨trivial, by omega⟩) | ((with_reducible refine U5 _ rfl (fun hq => ?_) (fun hq => ?_)) <;> try (first | (cases hq; done) | exact absurd hq (by decide))) | ((with_reducible refine U6 (fun hq => ?_) (fun hq => ?_)) <;> try (first | (cases hq; done) | exact absurd hq (by decide))) | simp (maxSteps := 2000000) (discharger := first | omega | (simp (discharger := omega) only [Z1, Z2, Z3, Z4, Z5, Z6, Z7] <;> fail) | (simp (discharger := omega) only [Z3, Z8, Z2, Z4, Z1, Z7, Z5, Z6, Z9, Y1, Y2]; omega)) only [go_sem, q10, x1, q15, hgc, qka, hqd])
          refine must_intro (by simp [confV, apart, notIn, lk, n1, n2, n3, n4, n1', n2', n3', n4', w1, w2, w3, w4, w5, w1.symm, w2.symm, w3.symm, w4.symm, w5.symm, hcn, hcn2]) ?_
          rw [sub_pre hl]
          clear n2' w2 w3 w4 w5 hcn hcn2
          obtain ⟨c2, hc2⟩ : ∃ c2, c2 = L.length + 1 := ⟨_, rfl⟩
          rw [← hc2]
          obtain ⟨L1, hL1⟩ : ∃ L1, L1 = setAt (setAt (setAt L L.length (.live ⟨u8s v, true⟩)) c .dead) c2 (.live ⟨u8s (li ++ v), true⟩) := ⟨_, rfl⟩
          rw [← hL1]
          obtain ⟨G1, hG1⟩ : ∃ G1, G1 = upd G' a15 (.live ⟨[.slice (nid N c2) 0 (d + 1) 18], true⟩) := ⟨_, rfl⟩
          rw [← hG1]
          have g15 : G1 a15 = .live ⟨[.slice (nid N c2) 0 (d + 1) 18], true⟩ := by rw [hG1, upd_same]
          have g14 : G1 a14 = .live ⟨[.int .i64 (many + s)], true⟩ := by rw [hG1, upd_ne _ _ hnd.e]; exact m14
          have gkl : G1 kl = .dead := by rw [hG1, upd_ne _ _ hnd.k15]; exact qkl
          have gfr : ∀ k', k' ≠ a15 → k' ≠ a14 → k' ≠ kl → G1 k' = G k' := fun k' h1 h2 h3 => by rw [hG1, upd_ne _ _ h1]; exact fr k' h1 h2 h3
          have gL : gd L1 c2 = .live ⟨u8s (li ++ v), true⟩ := by rw [hL1, gd_setAt_same]
          have gc : c2 < L1.length := by rw [hL1]; simp only [setAt_length]; omega
          have q16 := (gfr a16 hnd.f15 hnd.f14 hnd.fk).trans r8
          repeat' (first | (with_reducible first | refine W1 ?_ | refine W2 ?_ | refine W3 ?_ | refine W4 mixed ?_ | refine W5 ?_ | refine W6 ?_ | refine W7 ?_ | refine W8 ?_ | refine W9 ?_ | refine V1 ?_ | refine V2 ?_ | refine V3 ?_ | refine V4 (by decide) ?_ | refine V5 ?_ | refine V6 ?_ | refine V7 ?_ | refine V8 ?_ | refine V9 ?_ | refine U1 ?_ | refine U2 ?_ | refine U3 ?_) | (with_reducible refine U4 ?_ ?_; next => first | omega | exact ⟨trivial, by omega⟩) | simp (maxSteps := 2000000) (discharger := first | omega | (simp (discharger := omega) only [Z1, Z2, Z3, Z4, Z5, Z6, Z7] <;> fail) | (simp (discharger := omega) only [Z3, Z8, Z2, Z4, Z1, Z7, Z5, Z6, Z9, Y1, Y2]; omega)) only [go_sem, q16])
          have hndc : SV.nd ⟨a15, a7, a13, a14, a10, a16, ka⟩ (nid N c2) := by
            constructor
            · exact n1' c2
            · dsimp only; unfold nid; omega
            · exact hnd.e
            · exact hnd.s15
            · exact hnd.s14
            · dsimp only; unfold nid; omega
            · exact hnd.t15
            · exact hnd.t14
            · dsimp only; unfold nid; omega
            · exact hnd.l15
            · exact hnd.l14
            · exact n3 c2
            · exact hnd.d15
            · exact hnd.d14
            · exact n4 c2
            · exact hnd.f15
            · exact hnd.f14
            · dsimp only; unfold nid; omega
          obtain ⟨IA, IB⟩ := IH (d + 1) (li ++ v) (nid N c2) (j + 1) (many + s) (by omega) (by omega) hl2 hp2 hb2 hndc (by omega)
          simp only [SV.rd, SV.fn, SV.av] at IA IB
          rw [hfv] at IA IB
          have hrd : ∀ p ∈ ([(a15, ⟨[.slice (nid N c2) 0 (d + 1) 18], true⟩), (nid N c2, ⟨u8s (li ++ v), true⟩), (a7, ⟨[.int .i64 ((r : Nat) : Int)], true⟩), (a13, ⟨tenC 2 n m k .nils, true⟩), (a14, ⟨[.int .i64 (many + s)], true⟩), (a10, ⟨[.slice ka 0 q 18], true⟩), (ka, ⟨u8s al, true⟩), (a16, ⟨[.fn 102 [(a15, 0), (a7, 0), (a13, 0), (a14, 0), (a10, 0), (a16, 0)]], true⟩)] : List (Nat × AObj)), (⟨G1, N, L1⟩ : AHeap).get p.1 = .live p.2 := by
            simp only [List.mem_cons, List.not_mem_nil, or_false, forall_eq_or_imp, forall_eq]
            refine ⟨(get_old s1).trans g15, get_new.trans gL, (get_old s3).trans ((gfr _ hnd.s15 hnd.s14 hnd.sk).trans r3), (get_old s4).trans ((gfr _ hnd.t15 hnd.t14 hnd.tk).trans r4), (get_old s5).trans g14, (get_old s6).trans ((gfr _ hnd.l15 hnd.l14 hnd.lk).trans r6), (get_old s7).trans ((gfr _ hnd.d15 hnd.d14 hnd.dk).trans r7), (get_old s8).trans q16⟩
          have e1 : ((d + 1 : Nat) : Int) - 1 = ((d : Nat) : Int) := by omega
          by_cases hmv : rest = 0 ∨ q ≤ j + 1
          · refine call_intro (IA hmv) hrd (by simp only [List.mem_singleton]; rintro p rfl; exact .inl ⟨_, .tail _ (.tail _ (.tail _ (.tail _ (.head _))))⟩) ?_
            have e15 : upd G1 a14 (.live ⟨[.int .i64 (many + s + f j)], true⟩) a15 = .live ⟨[.slice (nid N c2) 0 (d + 1) 18], true⟩ := by rw [upd_ne _ _ hnd.e.symm]; exact g15
            repeat' (first | (with_reducible first | refine W1 ?_ | refine W2 ?_ | refine W3 ?_ | refine W4 mixed ?_ | refine W5 ?_ | refine W6 ?_ | refine W7 ?_ | refine W8 ?_ | refine W9 ?_ | refine V1 ?_ | refine V2 ?_ | refine V3 ?_ | refine V4 (by decide) ?_ | refine V5 ?_ | refine V6 ?_ | refine V7 ?_ | refine V8 ?_ | refine V9 ?_ | refine U1 ?_ | refine U2 ?_ | refine U3 ?_) | (with_reducible refine U4 ?_ ?_; next => first | omega | exact ⟨trivial, by omega⟩) | simp (maxSteps := 2000000) (discharger := first | omega | (simp (discharger := omega) only [Z1, Z2, Z3, Z4, Z5, Z6, Z7] <;> fail) | (simp (discharger := omega) only [Z3, Z8, Z2, Z4, Z1, Z7, Z5, Z6, Z9, Y1, Y2]; omega)) only [go_sem, e15, e1])
            refine forK_same (j + 1, s + f j, upd (upd G1 a14 (.live ⟨[.int .i64 (many + s + f j)], true⟩)) a15 (.live ⟨[.slice (nid N c2) 0 d 18], true⟩), L1, c2, v) (by dsimp only; omega) ⟨by dsimp only; omega, by dsimp only; omega, by dsimp only; omega, by dsimp only; omega, hlp, ?_, ?_, .inr ⟨by dsimp only; omega, ?_, ?_, gc, ?_, ?_⟩⟩ rfl (by repeat' (first | exact trivial | exact .inl rfl | exact .inr rfl | refine ⟨?_, ?_⟩))
            · intro k' h1 h2 h3
              dsimp only
              rw [upd_ne _ _ h1, upd_ne _ _ h2]
              exact gfr k' h1 h2 h3
            · dsimp only
              rw [upd_ne _ _ hnd.e, upd_same, Int.add_assoc]
            · dsimp only; rw [upd_same]
            · dsimp only
              rw [upd_ne _ _ hnd.k15, upd_ne _ _ hnd.k14]
              exact gkl
            · exact gL
            · intro hje
              dsimp only at hje ⊢
              rw [← hqd, show q - 1 = j from by omega]
          · have hx2 : ∀ p ∈ ([(a15, ⟨[.slice (nid N c2) 0 (d + 1) 18], true⟩), (nid N c2, ⟨u8s (li ++ v), true⟩), (a7, ⟨[.int .i64 ((r : Nat) : Int)], true⟩), (a13, ⟨tenC 2 n m k .nils, true⟩), (a14, ⟨[.int .i64 (many + s)], true⟩), (a10, ⟨[.slice ka 0 q 18], true⟩), (ka, ⟨u8s al, true⟩), (a16, ⟨[.fn 102 [(a15, 0), (a7, 0), (a13, 0), (a14, 0), (a10, 0), (a16, 0)]], true⟩)] : List (Nat × AObj)), p.1 ≠ nid N L1.length := by
              intro p hp e
              have := hrd p hp
              rw [e, get_new, gd_len (Nat.le_refl _)] at this
              cases this
            refine call_intro (IB (by omega) (by omega) (nid N L1.length) hx2) hrd (by
              intro p hp
              simp only [List.mem_cons, List.not_mem_nil, or_false] at hp
              rcases hp with rfl | rfl | rfl | rfl
              · exact .inl ⟨_, .tail _ (.tail _ (.tail _ (.tail _ (.head _))))⟩
              · exact .inl ⟨_, .head _⟩
              · exact .inl ⟨_, .tail _ (.head _)⟩
              · exact .inr (by dsimp only; rw [get_new, gd_len (Nat.le_refl _)])) ?_
            have e15 : upd (upd G1 a14 (.live ⟨[.int .i64 (many + s + f j)], true⟩)) a15 (.live ⟨[.slice (nid N L1.length) 0 (d + 1) 18], true⟩) a15 = .live ⟨[.slice (nid N L1.length) 0 (d + 1) 18], true⟩ := upd_same _ _ _
            repeat' (first | (with_reducible first | refine W1 ?_ | refine W2 ?_ | refine W3 ?_ | refine W4 mixed ?_ | refine W5 ?_ | refine W6 ?_ | refine W7 ?_ | refine W8 ?_ | refine W9 ?_ | refine V1 ?_ | refine V2 ?_ | refine V3 ?_ | refine V4 (by decide) ?_ | refine V5 ?_ | refine V6 ?_ | refine V7 ?_ | refine V8 ?_ | refine V9 ?_ | refine U1 ?_ | refine U2 ?_ | refine U3 ?_) | (with_reducible refine U4 ?_ ?_; next => first | omega | exact ⟨trivial, by omega⟩) | simp (maxSteps := 2000000) (discharger := first | omega | (simp (discharger := omega) only [Z1, Z2, Z3, Z4, Z5, Z6, Z7] <;> fail) | (simp (discharger := omega) only [Z3, Z8, Z2, Z4, Z1, Z7, Z5, Z6, Z9, Y1, Y2]; omega)) only [go_sem, e15, e1])
            refine forK_same (j + 1, s + f j, upd (upd (upd G1 a14 (.live ⟨[.int .i64 (many + s + f j)], true⟩)) a15 (.live ⟨[.slice (nid N L1.length) 0 (d + 1) 18], true⟩)) a15 (.live ⟨[.slice (nid N L1.length) 0 d 18], true⟩), setAt (setAt L1 c2 .dead) L1.length (.live ⟨u8s (li ++ v ++ sub al ((q - 1) * 18) 18), true⟩), L1.length, v ++ sub al ((q - 1) * 18) 18) (by dsimp only; omega) ⟨by dsimp only; omega, by dsimp only; omega, by dsimp only; omega, by dsimp only; omega, hlp, ?_, ?_, .inr ⟨by dsimp only; omega, ?_, ?_, ?_, ?_, ?_⟩⟩ rfl (by repeat' (first | exact trivial | exact .inl rfl | exact .inr rfl | refine ⟨?_, ?_⟩))
            · intro k' h1 h2 h3
              dsimp only
              rw [upd_ne _ _ h1, upd_ne _ _ h1, upd_ne _ _ h2]
              exact gfr k' h1 h2 h3
            · dsimp only
              rw [upd_ne _ _ hnd.e, upd_ne _ _ hnd.e, upd_same, Int.add_assoc]
            · dsimp only; rw [upd_same]
            · dsimp only
              rw [upd_ne _ _ hnd.k15, upd_ne _ _ hnd.k15, upd_ne _ _ hnd.k14]
              exact gkl
            · dsimp only; simp only [setAt_length]; omega
            · dsimp only
              rw [gd_setAt_same, List.append_assoc]
            · intro hje
              dsimp only at hje
              omega
      · have hje : j = q := by omega
        have x1 : decide (((j : Nat) : Int) < ((q : Nat) : Int)) = false := decide_eq_false (by omega)
        rw [hje, Nat.sub_self, lpV] at hlp
        rw [hlp] at hw ⊢
        rcases D with ⟨hj0, -⟩ | ⟨hj0, q15, qkl, hcL, hgc, hgg⟩
        · omega
        rw [hgg hje] at hgc
        repeat' (first | (with_reducible first | refine W1 ?_ | refine W2 ?_ | refine W3 ?_ | refine W4 mixed ?_ | refine W5 ?_ | refine W6 ?_ | refine W7 ?_ | refine W8 ?_ | refine W9 ?_ | refine V1 ?_ | refine V2 ?_ | refine V3 ?_ | refine V4 (by decide) ?_ | refine V5 ?_ | refine V6 ?_ | refine V7 ?_ | refine V8 ?_ | refine V9 ?_ | refine U1 ?_ | refine U2 ?_ | refine U3 ?_) | (with_reducible refine U4 ?_ ?_; next => first | omega | exact ⟨trivial, by omega⟩) | ((with_reducible refine U5 _ rfl (fun hq => ?_) (fun hq => ?_)) <;> try (first | (cases hq; done) | exact absurd hq (by decide))) | ((with_reducible refine U6 (fun hq => ?_) (fun hq => ?_)) <;> try (first | (cases hq; done) | exact absurd hq (by decide))) | simp (maxSteps := 2000000) (discharger := first | omega | (simp (discharger := omega) only [Z1, Z2, Z3, Z4, Z5, Z6, Z7] <;> fail) | (simp (discharger := omega) only [Z3, Z8, Z2, Z4, Z1, Z7, Z5, Z6, Z9, Y1, Y2]; omega)) only [go_sem, q10, x1])
        have hx15 : a15 ≠ x := hx _ (.head _)
        have hxkl : kl ≠ x := hx _ (.tail _ (.head _))
        have hx14 : a14 ≠ x := hx _ (.tail _ (.tail _ (.tail _ (.tail _ (.head _)))))
        have hfx : G x = .free := by
          rcases (hw (x, _) (.tail _ (.tail _ (.tail _ (.head _))))).2 with ⟨ob, hob⟩ | h
          · exact absurd rfl (hx _ hob)
          · exact h
        have hnf : ∀ k', k' ≠ a15 → k' ≠ a14 → k' ≠ kl → k' ≠ x → upd (upd (upd (upd G a14 (.live ⟨[.int .i64 (many + s)], true⟩)) a15 (.live ⟨[.slice x 0 d 18], true⟩)) kl .dead) x (.live ⟨u8s (li ++ sub al ((q - 1) * 18) 18), true⟩) k' = G k' := fun k' h1 h2 h3 h4 => by rw [upd_ne _ _ h4, upd_ne _ _ h3, upd_ne _ _ h1, upd_ne _ _ h2]
        refine ret_ptr hN (F := upd (upd (upd (upd G a14 (.live ⟨[.int .i64 (many + s)], true⟩)) a15 (.live ⟨[.slice x 0 d 18], true⟩)) kl .dead) x (.live ⟨u8s (li ++ sub al ((q - 1) * 18) 18), true⟩)) (x := x) (j := c) rfl hfx (upd_same _ _ _) (flat_u8s _) hgc ?_ ?_ [] trivial (.tup fun _ h => by cases h) rfl
        · intro k' hk' o ho
          by_cases e1 : k' = kl
          · rw [e1, upd_ne _ _ hxkl, upd_same] at ho; cases ho
          by_cases e2 : k' = a15
          · subst e2
            rw [upd_ne _ _ hx15, upd_ne _ _ hnd.k15.symm, upd_same] at ho
            cases ho
            refine ⟨s1, .inr ⟨?_, ?_⟩⟩
            · rw [q15]; simp [Cell.mapIds]
            · intro c' hc' i' hi'
              simp only [List.mem_singleton] at hc'
              subst hc'
              simp only [Cell.ids, List.mem_singleton] at hi'
              rw [hi', upd_same]
              simp
          by_cases e3 : k' = a14
          · subst e3
            rw [upd_ne _ _ hx14, upd_ne _ _ hnd.k14.symm, upd_ne _ _ hnd.e, upd_same] at ho
            cases ho
            refine ⟨s5, .inr ⟨?_, ?_⟩⟩
            · rw [m14]; simp [Cell.mapIds]
            · intro c' hc' i' hi'
              simp only [List.mem_singleton] at hc'
              subst hc'
              simp [Cell.ids] at hi'
          rw [hnf k' e2 e3 e1 hk'] at ho
          refine ⟨?_, .inl ⟨ho, (fr k' e2 e3 e1).trans ho⟩⟩
          rcases Nat.lt_or_ge k' N with h | h
          · exact h
          · rw [hN k' h] at ho; cases ho
        · intro k' hk'
          by_cases e4 : k' = x
          · rw [e4, upd_same]; simp
          by_cases e1 : k' = kl
          · rw [e1, upd_ne _ _ hxkl, upd_same]; simp
          by_cases e2 : k' = a15
          · rw [e2, upd_ne _ _ hx15, upd_ne _ _ hnd.k15.symm, upd_same]; simp
          by_cases e3 : k' = a14
          · rw [e3, upd_ne _ _ hx14, upd_ne _ _ hnd.k14.symm, upd_ne _ _ hnd.e, upd_same]; simp
          rw [hnf k' e2 e3 e1 e4]
          exact hk'
end Go.Proofs.Ytcmmbnhdfkcpdaa
