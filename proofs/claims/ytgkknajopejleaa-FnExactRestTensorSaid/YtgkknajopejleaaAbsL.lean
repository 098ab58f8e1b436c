/- A function's text in short: regions as plain lists of operations, their static looks taken once. -/
import Derived.Test.YtgkknajopejleaaAbsK
namespace Go.Abs
open Go.RowKit (Below)

inductive SCode where
  | skip
  | ops (l : List SOp)
  | opsD (l : List SOp) (U : List (Nat × Nat))
  | seq (a b : SCode)
  | cond (c : Operand) (a b : SCode)
  | block (id : Nat) (c : SCode)
  | loop (c : SCode)
  | exit (id : Nat)
  | ret

def unordP (ops : Array Oper) : List (Nat × Nat) :=
  let A := ancs ops.toList []
  ops.toList.zipIdx.flatMap fun x => (ops.toList.zipIdx.filter fun y => x.2 < y.2 && !quiet x.1.op && !quiet y.1.op && !(A.getD y.2 []).contains x.2).map fun y => (x.2, y.2)

def lower : Code → Option SCode
  | .skip => some .skip
  | .region _ ops draw =>
    match draw with
    | false => if guardsOk ops then some (.ops (prep ops)) else none
    | true => if guardsOk ops && regOrd ops (unordP ops) then some (.opsD (prep ops) (unordP ops)) else none
  | .seq a b => match lower a, lower b with | some x, some y => some (.seq x y) | _, _ => none
  | .cond c a b => match lower a, lower b with | some x, some y => some (.cond c x y) | _, _ => none
  | .block id c => match lower c with | some x => some (.block id x) | none => none
  | .loop c => match lower c with | some x => some (.loop x) | none => none
  | .exit id => some (.exit id)
  | .ret => some .ret
  | _ => none

def SWP (P : Program) (s : SCode) (K : Exit → List AV → AHeap → Prop) (T : List AV) (h : AHeap) : Prop := ∀ c, lower c = some s → AWP P c K T h

section
variable {P : Program} {K : Exit → List AV → AHeap → Prop} {T : List AV} {h : AHeap}

theorem lower_seq {c : Code} {x y : SCode} (hl : lower c = some (.seq x y)) : ∃ a b, c = .seq a b ∧ lower a = some x ∧ lower b = some y := by
  cases c <;> simp only [lower, reduceCtorEq] at hl
  case region => split at hl <;> split at hl <;> cases hl
  case seq a b =>
    split at hl
    · rename_i h1 h2; cases hl; exact ⟨a, b, rfl, h1, h2⟩
    · cases hl
  all_goals first | cases hl | (split at hl <;> cases hl)
theorem lower_cond {c : Code} {o : Operand} {x y : SCode} (hl : lower c = some (.cond o x y)) : ∃ a b, c = .cond o a b ∧ lower a = some x ∧ lower b = some y := by
  cases c <;> simp only [lower, reduceCtorEq] at hl
  case region => split at hl <;> split at hl <;> cases hl
  case cond o' a b =>
    split at hl
    · rename_i h1 h2; cases hl; exact ⟨a, b, rfl, h1, h2⟩
    · cases hl
  all_goals first | cases hl | (split at hl <;> cases hl)
theorem lower_block {c : Code} {id : Nat} {x : SCode} (hl : lower c = some (.block id x)) : ∃ a, c = .block id a ∧ lower a = some x := by
  cases c <;> simp only [lower, reduceCtorEq] at hl
  case region => split at hl <;> split at hl <;> cases hl
  case block id' a =>
    split at hl
    · rename_i h1; cases hl; exact ⟨a, rfl, h1⟩
    · cases hl
  all_goals first | cases hl | (split at hl <;> cases hl)
theorem lower_loop {c : Code} {x : SCode} (hl : lower c = some (.loop x)) : ∃ a, c = .loop a ∧ lower a = some x := by
  cases c <;> simp only [lower, reduceCtorEq] at hl
  case region => split at hl <;> split at hl <;> cases hl
  case loop a =>
    split at hl
    · rename_i h1; cases hl; exact ⟨a, rfl, h1⟩
    · cases hl
  all_goals first | cases hl | (split at hl <;> cases hl)
theorem lower_ops {c : Code} {l : List SOp} (hl : lower c = some (.ops l)) : ∃ id ops, c = .region id ops false ∧ guardsOk ops = true ∧ prep ops = l := by
  cases c <;> simp only [lower, reduceCtorEq] at hl
  case region id ops d =>
    split at hl
    · split at hl
      · rename_i hg; cases hl; exact ⟨id, ops, rfl, hg, rfl⟩
      · cases hl
    · split at hl <;> cases hl
  all_goals first | cases hl | (split at hl <;> cases hl)
theorem lower_opsD {c : Code} {l : List SOp} {U : List (Nat × Nat)} (hl : lower c = some (.opsD l U)) : ∃ id ops, c = .region id ops true ∧ guardsOk ops = true ∧ regOrd ops U = true ∧ prep ops = l := by
  cases c <;> simp only [lower, reduceCtorEq] at hl
  case region id ops d =>
    split at hl
    · split at hl <;> cases hl
    · split at hl
      · rename_i hg
        simp only [Bool.and_eq_true] at hg
        cases hl; exact ⟨id, ops, rfl, hg.1, hg.2, rfl⟩
      · cases hl
  all_goals first | cases hl | (split at hl <;> cases hl)
theorem lower_skip {c : Code} (hl : lower c = some .skip) : c = .skip := by
  cases c <;> simp only [lower, reduceCtorEq] at hl
  case skip => rfl
  case region => split at hl <;> split at hl <;> cases hl
  all_goals first | cases hl | (split at hl <;> cases hl)
theorem lower_exit {c : Code} {id : Nat} (hl : lower c = some (.exit id)) : c = .exit id := by
  cases c <;> simp only [lower, reduceCtorEq] at hl
  case exit => cases hl; rfl
  case region => split at hl <;> split at hl <;> cases hl
  all_goals first | cases hl | (split at hl <;> cases hl)
theorem lower_ret {c : Code} (hl : lower c = some .ret) : c = .ret := by
  cases c <;> simp only [lower, reduceCtorEq] at hl
  case ret => rfl
  case region => split at hl <;> split at hl <;> cases hl
  all_goals first | cases hl | (split at hl <;> cases hl)

/-! ### The rules -/
def seqS (P : Program) (y : SCode) (K : Exit → List AV → AHeap → Prop) : Exit → List AV → AHeap → Prop
  | .normal, T, h => SWP P y K T h
  | e, T, h => K e T h
theorem seqS_normal {y : SCode} (hy : SWP P y K T h) : seqS P y K .normal T h := hy
theorem seqS_exit {y : SCode} {id : Nat} (hy : K (.exit id) T h) : seqS P y K (.exit id) T h := hy
theorem seqS_ret {y : SCode} (hy : K .ret T h) : seqS P y K .ret T h := hy

theorem swp_skip (hk : K .normal T h) : SWP P .skip K T h := fun _ hl => by rw [lower_skip hl]; exact awp_skip hk
theorem swp_exit {id : Nat} (hk : K (.exit id) T h) : SWP P (.exit id) K T h := fun _ hl => by rw [lower_exit hl]; exact awp_exit hk
theorem swp_ret (hk : K .ret T h) : SWP P .ret K T h := fun _ hl => by rw [lower_ret hl]; exact awp_ret hk
theorem swp_seq {x y : SCode} (hx : SWP P x (seqS P y K) T h) : SWP P (.seq x y) K T h := by
  intro c hl
  obtain ⟨a, b, rfl, h1, h2⟩ := lower_seq hl
  refine awp_seq ((hx a h1).mono ?_)
  intro e T' h' hk
  cases e with
  | normal => exact hk b h2
  | _ => exact hk
theorem swp_block {id : Nat} {x : SCode} (hx : SWP P x (blockK id K) T h) : SWP P (.block id x) K T h := by
  intro c hl
  obtain ⟨a, rfl, h1⟩ := lower_block hl
  exact awp_block (hx a h1)
theorem swp_cond {o : Operand} {x y : SCode} (b : Bool) (hb : ev T o = .c (.bool b)) (h1 : b = true → SWP P x K T h) (h2 : b = false → SWP P y K T h) : SWP P (.cond o x y) K T h := by
  intro c hl
  obtain ⟨a, a', rfl, l1, l2⟩ := lower_cond hl
  exact awp_cond b hb (fun e => h1 e a l1) (fun e => h2 e a' l2)
theorem swp_loop {x : SCode} (I : Nat → List AV → AHeap → Prop) {n : Nat} (h0 : I n T h) (round : ∀ n T h, I n T h → SWP P x (loopK I n h K) T h) : SWP P (.loop x) K T h := by
  intro c hl
  obtain ⟨a, rfl, h1⟩ := lower_loop hl
  exact awp_loop I h0 fun n T h hi => round n T h hi a h1
theorem swp_ops {l : List SOp} (hv : opsV P 0 l T h [] fun T' h' _ => K .normal T' h') : SWP P (.ops l) K T h := by
  intro c hl
  obtain ⟨id, ops, rfl, h1, rfl⟩ := lower_ops hl
  exact awp_region h1 hv
theorem swp_opsD {l : List SOp} {U : List (Nat × Nat)} (hm : P.follows .mixedOrders = true) (hv : opsV P 0 l T h [] fun T' h' F => confV U F ∧ K .normal T' h') : SWP P (.opsD l U) K T h := by
  intro c hl
  obtain ⟨id, ops, rfl, h1, h2, rfl⟩ := lower_opsD hl
  exact awp_regionD U hm h1 h2 hv
theorem swp_forget {x : SCode} {T' : List AV} (hle : TLe T T') (hx : SWP P x K T' h) : SWP P x K T h := fun c hl => awp_forget hle (hx c hl)
theorem swp_mono {x : SCode} {K' : Exit → List AV → AHeap → Prop} (hx : SWP P x K T h) (hk : ∀ e T h, K e T h → K' e T h) : SWP P x K' T h := fun c hl => (hx c hl).mono hk
end

/-- A function in short. -/
structure SFn where
  code : SCode
  results : List ResultVar
  ntmps : Nat

def lowerF (fn : Func) : Option SFn :=
  match fn.body with
  | some c => match lower c with
    | some s => some ⟨s, fn.results.toList, fn.ntmps⟩
    | none => none
  | none => none

def isFn (P : Program) (f : FuncId) : Option SFn :=
  match P.funcs[f]? with
  | some fn => if callable P f then lowerF fn else none
  | none => none

def retS (P : Program) (rs : List ResultVar) (G : Heap) (N : Nat) (val : AV) (writes : List (Nat × Slot)) : Exit → List AV → AHeap → Prop
  | .normal, T, h => ∃ vs σ, resAll P T h rs vs ∧ Final G N h (resOf vs) val writes σ
  | .ret, T, h => ∃ vs σ, resAll P T h rs vs ∧ Final G N h (resOf vs) val writes σ
  | _, _, _ => False

theorem FSpec.of {P : Program} {f : FuncId} {sf : SFn} {args : List AV} {val : AV} {reads : List (Nat × AObj)} {writes : List (Nat × Slot)} (hf : isFn P f = some sf) (hn : args.length ≤ sf.ntmps)
    (H : ∀ (G : Heap) (N : Nat), (∀ k, N ≤ k → G k = .free) → (∀ p ∈ reads, G p.1 = .live p.2 ∧ p.1 < N) → (∀ p ∈ writes, p.1 < N ∧ ((∃ ob, (p.1, ob) ∈ reads) ∨ G p.1 = .free)) →
      SWP P sf.code (retS P sf.results G N val writes) (args ++ List.replicate (sf.ntmps - args.length) .any) ⟨G, N, []⟩) : FSpec P f args val reads writes := by
  unfold isFn at hf
  split at hf
  · rename_i fn hfn
    split at hf
    · rename_i hc
      unfold lowerF at hf
      split at hf
      · rename_i c hb
        split at hf
        · rename_i s hs
          cases hf
          refine FSpec.of_body hfn hb hc hn fun G N h1 h2 h3 => ?_
          refine AWP.mono (H G N h1 h2 h3 c hs) fun e T h hk => ?_
          cases e <;> exact hk
        · cases hf
      · cases hf
    · cases hf
  · cases hf
end Go.Abs
