/- Code over the abstract heap: what is to be shown of a function's text, and its contract from that. -/
import Derived.Test.YtgkknajopejleaaAbsI
set_option linter.unusedVariables false
namespace Go.Abs
open Go.RowKit (Below)

/-! ### A region's condition -/
structure SOp where
  dst : Option Tmp
  op : Op
  g : Option (Tmp × Bool)

def sop (ops : Array Oper) (o : Oper) : SOp := ⟨o.dst, o.op, o.guard.bind fun p => (dstOf ops p.1).map fun d => (d, p.2)⟩
def prep (ops : Array Oper) : List SOp := ops.toList.map (sop ops)
def guardsOk (ops : Array Oper) : Bool := ops.toList.all fun o => match o.guard with | none => true | some p => (dstOf ops p.1).isSome

def quiet : Op → Bool
  | .move _ | .assign _ | .pick .. | .build .. | .binOp .. | .unOp .. | .convert .. | .makeFunc .. | .fieldAddr .. | .indexAddr .. | .index .. | .extract .. => true
  | .call c => match c.callee with | .builtin .len => true | _ => false
  | _ => false

theorem binE_mono {P : Program} {op : BinOp} {t : TypeId} {a b : AV} {K K' : AV → Prop} (hm : ∀ v, K v → K' v) (h : binE P op t a b K) : binE P op t a b K' := by
  cases a with
  | c x =>
    cases b with
    | c y =>
      cases x <;> cases y <;> try exact h
      · cases op <;> simp only [binE] at h ⊢ <;> first | exact h | exact ⟨h.1, hm _ h.2⟩ | exact ⟨h.1, h.2.1, hm _ h.2.2⟩
      · cases op <;> simp only [binE] at h ⊢ <;> first | exact h | exact ⟨h.1, hm _ h.2⟩
    | _ => cases x <;> exact h
  | agg xs =>
    cases b with
    | agg ys => cases op <;> simp only [binE] at h ⊢ <;> first | exact h | exact ⟨h.1, h.2.1, h.2.2.1, hm _ h.2.2.2⟩
    | _ => exact h
  | _ => exact h

theorem opE_quiet {P : Program} {op : Op} {ρ : Operand → AV} {h : AHeap} {K : Kont} (hk : opE P op ρ h K) : opE P op ρ h fun v r w => (quiet op = true → r = [] ∧ w = []) ∧ K v r w := by
  by_cases hq : quiet op = true
  · have z : ∀ {p : Prop}, p → (quiet op = true → ([] : List (Nat × AObj)) = [] ∧ ([] : List (Nat × Slot)) = []) ∧ p := fun hp => ⟨fun _ => ⟨rfl, rfl⟩, hp⟩
    cases op with
    | move x => exact z hk
    | assign x => exact z hk
    | pick c a b => obtain ⟨t, h1, h2, h3⟩ := hk; exact ⟨t, h1, fun e => z (h2 e), fun e => z (h3 e)⟩
    | build t parts => obtain ⟨ti, cs, h1, h2, h3, h4⟩ := hk; exact ⟨ti, cs, h1, h2, h3, z h4⟩
    | binOp op t x y t' => exact binE_mono (op := op) (t := t) (a := ρ x) (b := ρ y) (K := fun v => K v [] []) (fun v hv => z hv) hk
    | unOp op t x =>
      cases op with
      | not => obtain ⟨b, h1, h2⟩ := hk; exact ⟨b, h1, z h2⟩
      | neg => obtain ⟨k, n, h1, h2⟩ := hk; exact ⟨k, n, h1, z h2⟩
      | _ => exact hk
    | convert s d x => obtain ⟨ti, ti', k, k', n, h1, h2, h3, h4, h5⟩ := hk; exact ⟨ti, ti', k, k', n, h1, h2, h3, h4, z h5⟩
    | makeFunc f first cap =>
      cases f with
      | func f => obtain ⟨h1, ps, h2, h3⟩ := hk; exact ⟨h1, ps, h2, z h3⟩
      | _ => exact hk
    | fieldAddr s x f => obtain ⟨ti, fs, off', sz, k, off, h1, h2, h3, h4, h5, h6⟩ := hk; exact ⟨ti, fs, off', sz, k, off, h1, h2, h3, h4, h5, z h6⟩
    | indexAddr t x ix =>
      obtain ⟨ti, ki, i, h1, h2, h3⟩ := hk
      refine ⟨ti, ki, i, h1, h2, ?_⟩
      split at h3
      · exact ⟨h3.1, h3.2.1, z h3.2.2⟩
      · exact ⟨h3.1, h3.2.1, h3.2.2.1, z h3.2.2.2⟩
      · exact h3
    | index t x ix =>
      obtain ⟨ti, ki, i, n, es, ea, cs, h1, h2, h3, h4, h5, h6, h7⟩ := hk
      refine ⟨ti, ki, i, n, es, ea, cs, h1, h2, h3, h4, h5, h6, ?_⟩
      split at h7
      · rename_i he; rw [if_pos he]; exact ⟨h7.1, z h7.2⟩
      · rename_i he; rw [if_neg he]; obtain ⟨c, h8, h9⟩ := h7; exact ⟨c, h8, z h9⟩
    | extract x i => obtain ⟨vs, v, h1, h2, h3⟩ := hk; exact ⟨vs, v, h1, h2, z h3⟩
    | call c =>
      have hc : c.callee = .builtin .len := by
        simp only [quiet] at hq
        split at hq
        · assumption
        · cases hq
      obtain ⟨callee, args, ats⟩ := c
      simp only at hc
      subst hc
      obtain ⟨t, x, ti, h1, h2, h3, h4⟩ := hk
      refine ⟨t, x, ti, h1, h2, h3, ?_⟩
      split at h4
      · exact z h4
      · exact z h4
      · exact z h4
      · exact z h4
      · exact h4
    | _ => simp [quiet] at hq
  · have e : (fun v r w => (quiet op = true → r = [] ∧ w = []) ∧ K v r w) = K := by
      funext v r w
      simp [hq]
    rw [e]; exact hk

abbrev Foot := List (Nat × List Nat × List Nat)
def consF (i : Nat) (rs : List (Nat × AObj)) (ws : List (Nat × Slot)) (F : Foot) : Foot :=
  match rs, ws with
  | [], [] => F
  | _, _ => (i, rs.map (·.1), ws.map (·.1)) :: F

def opsV (P : Program) : Nat → List SOp → List AV → AHeap → Foot → (List AV → AHeap → Foot → Prop) → Prop
  | _, [], T, h, F, K => K T h F
  | i, s :: rest, T, h, F, K =>
    match s.g with
    | none => opE P s.op (ev T) h fun v rs ws => opsV P (i + 1) rest (setT T s.dst v) (h.puts ws) (consF i rs ws F) K
    | some (d, want) => (∃ b, rd T d = .c (.bool b) ∧
      (b = want → opE P s.op (ev (T.set d (.c (.bool want)))) h fun v rs ws => opsV P (i + 1) rest (setT (T.set d (.c (.bool want))) s.dst v) (h.puts ws) (consF i rs ws F) K) ∧
      (b = (!want) → opsV P (i + 1) rest (setT (T.set d (.c (.bool !want))) s.dst (.tup [])) h F K)) ∨
      (rd T d = .tup [] ∧ opsV P (i + 1) rest (setT T s.dst (.tup [])) h F K)

def stOf (f : List (AV × List (Nat × AObj) × List (Nat × Slot))) (i : Nat) : St :=
  match f[i]? with
  | some x => ⟨x.1, x.2.1, x.2.2⟩
  | none => ⟨.any, [], []⟩

def footOf (i : Nat) (f : List (AV × List (Nat × AObj) × List (Nat × Slot))) : Foot → Foot :=
  fun F => (f.zipIdx i).foldl (fun F x => consF x.2 x.1.2.1 x.1.2.2 F) F

theorem set_self (T : List AV) (d : Nat) (v : AV) (h : rd T d = v) (hv : v ≠ .any) : T.set d v = T := by
  rw [rd_eq, List.getD_eq_getElem?_getD] at h
  apply List.ext_getElem?
  intro j
  rw [List.getElem?_set]
  split
  · rename_i e
    subst e
    split
    · rename_i hlt
      rw [List.getElem?_eq_getElem hlt] at h ⊢
      simpa using h.symm
    · rename_i hlt
      rw [List.getElem?_eq_none (by omega)]
  · rfl

/-- What the condition gives: the operations' values and footprints. -/
theorem opsV_run {P : Program} {ops : Array Oper} (hg : guardsOk ops = true) {K : List AV → AHeap → Foot → Prop} : ∀ (l : List Oper) (i : Nat) (T : List AV) (h : AHeap) (F : Foot), (∀ j, l[j]? = ops[i + j]?) → opsV P i (l.map (sop ops)) T h F K →
    ∃ (f : List (AV × List (Nat × AObj) × List (Nat × Slot))) (T' : List AV) (h' : AHeap), f.length = l.length ∧ K T' h' (footOf i f F) ∧ (∀ (j : Nat) o, l[j]? = some o → quiet o.op = true → (stOf f j).rs = [] ∧ (stOf f j).ws = []) ∧
      (∀ (j : Nat) o, l[j]? = some o → OkAt P ops o ((List.range j).foldl (fun T x => setT T (dstOf ops (i + x)) (stOf f x).val) T) ((List.range j).foldl (fun G x => putsG G (stOf f x).ws) h.get) (stOf f j)) ∧
      T' = (List.range l.length).foldl (fun T x => setT T (dstOf ops (i + x)) (stOf f x).val) T ∧ h'.get = (List.range l.length).foldl (fun G x => putsG G (stOf f x).ws) h.get
  | [], i, T, h, F, _, hv => ⟨[], T, h, rfl, hv, by simp, by simp, by simp, by simp⟩
  | o :: l, i, T, h, F, hl, hv => by
    have ho : ops[i]? = some o := by simpa using (hl 0).symm
    have hdst : dstOf ops i = o.dst := by unfold dstOf; rw [ho]; rfl
    have hl' : ∀ j, l[j]? = ops[i + 1 + j]? := fun j => by have := hl (j + 1); rw [show i + 1 + j = i + (j + 1) from by omega]; simpa using this
    have hmem : o ∈ ops.toList := by
      have := List.mem_of_getElem? (l := ops.toList) (a := o) (i := i) (by simpa using ho)
      exact this
    have glue : ∀ (v : AV) (rs : List (Nat × AObj)) (ws : List (Nat × Slot)) (h1 : AHeap), h1.get = putsG h.get ws → OkAt P ops o T h.get ⟨v, rs, ws⟩ → (quiet o.op = true → rs = [] ∧ ws = []) → opsV P (i + 1) (l.map (sop ops)) (setT T o.dst v) h1 (consF i rs ws F) K →
        ∃ (f : List (AV × List (Nat × AObj) × List (Nat × Slot))) (T' : List AV) (h' : AHeap), f.length = (o :: l).length ∧ K T' h' (footOf i f F) ∧ (∀ (j : Nat) o', (o :: l)[j]? = some o' → quiet o'.op = true → (stOf f j).rs = [] ∧ (stOf f j).ws = []) ∧
        (∀ (j : Nat) o', (o :: l)[j]? = some o' → OkAt P ops o' ((List.range j).foldl (fun T x => setT T (dstOf ops (i + x)) (stOf f x).val) T) ((List.range j).foldl (fun G x => putsG G (stOf f x).ws) h.get) (stOf f j)) ∧
        T' = (List.range (o :: l).length).foldl (fun T x => setT T (dstOf ops (i + x)) (stOf f x).val) T ∧ h'.get = (List.range (o :: l).length).foldl (fun G x => putsG G (stOf f x).ws) h.get := by
      intro v rs ws h1 hh1 hok hqt hv'
      obtain ⟨f, T', h', q1, q2, q6, q3, q4, q5⟩ := opsV_run hg l (i + 1) (setT T o.dst v) h1 (consF i rs ws F) hl' hv'
      have hs : ∀ x, stOf ((v, rs, ws) :: f) (x + 1) = stOf f x := fun x => by simp [stOf]
      have hs0 : stOf ((v, rs, ws) :: f) 0 = ⟨v, rs, ws⟩ := by simp [stOf]
      have eT : ∀ j, (List.range (j + 1)).foldl (fun T x => setT T (dstOf ops (i + x)) (stOf ((v, rs, ws) :: f) x).val) T = (List.range j).foldl (fun T x => setT T (dstOf ops (i + 1 + x)) (stOf f x).val) (setT T o.dst v) := by
        intro j
        rw [List.range_succ_eq_map, List.foldl_cons, List.foldl_map, hs0, Nat.add_zero, hdst]
        congr 1
        funext T x
        rw [hs, show i + (x + 1) = i + 1 + x from by omega]
      have eG : ∀ j, (List.range (j + 1)).foldl (fun G x => putsG G (stOf ((v, rs, ws) :: f) x).ws) h.get = (List.range j).foldl (fun G x => putsG G (stOf f x).ws) h1.get := by
        intro j
        rw [List.range_succ_eq_map, List.foldl_cons, List.foldl_map, hs0, hh1]
        rfl
      refine ⟨(v, rs, ws) :: f, T', h', by simp [q1], ?_, fun j o' hj hq => ?_, fun j o' hj => ?_, ?_, ?_⟩
      · have : footOf i ((v, rs, ws) :: f) F = footOf (i + 1) f (consF i rs ws F) := by simp [footOf, List.zipIdx_cons]
        rw [this]; exact q2
      · cases j with
        | zero => simp at hj; subst hj; rw [hs0]; exact hqt hq
        | succ j => rw [hs]; exact q6 j o' (by simpa using hj) hq
      · cases j with
        | zero => simp at hj; subst hj; rw [hs0]; simpa using hok
        | succ j =>
          rw [eT, eG, hs]
          exact q3 j o' (by simpa using hj)
      · rw [List.length_cons, eT]; exact q4
      · rw [List.length_cons, eG]; exact q5
    simp only [List.map_cons, opsV] at hv
    have hgo : ∀ j want, o.guard = some (j, want) → ∃ d, dstOf ops j = some d := by
      intro j want hgd
      unfold guardsOk at hg
      have := (List.all_eq_true.1 hg) o hmem
      rw [hgd] at this
      exact Option.isSome_iff_exists.1 this
    cases hgd : o.guard with
    | none =>
      simp only [sop, hgd, Option.bind_none] at hv
      obtain ⟨v, rs, ws, s1, s2, s3, s5, s4⟩ := opE_sound (o := o) (opE_quiet hv)
      exact glue v rs ws (h.puts ws) (AHeap.get_puts ws h) (.run (fun j want hh => by rw [hgd] at hh; cases hh) s1 s2 s3) s5 s4
    | some p =>
      obtain ⟨j, want⟩ := p
      obtain ⟨d, hd⟩ := hgo j want hgd
      simp only [sop, hgd, Option.bind_some, hd, Option.map_some] at hv
      rcases hv with ⟨b, hb, hv1, hv2⟩ | ⟨hb, hv2⟩
      rotate_left
      · exact glue (.tup []) [] [] h rfl (.skip j want d hgd hd (.inr hb) rfl rfl rfl) (fun _ => ⟨rfl, rfl⟩) hv2
      by_cases e : b = want
      · subst e
        have hset : T.set d (.c (.bool b)) = T := set_self T d _ hb (by simp)
        have hv1' := hv1 rfl
        rw [hset] at hv1'
        obtain ⟨v, rs, ws, s1, s2, s3, s5, s4⟩ := opE_sound (o := o) (opE_quiet hv1')
        exact glue v rs ws (h.puts ws) (AHeap.get_puts ws h) (.run (fun j' want' hh => by rw [hgd] at hh; cases hh; exact ⟨d, hd, hb⟩) s1 s2 s3) s5 s4
      · have e' : b = !want := by cases b <;> cases want <;> simp_all
        subst e'
        have hset : T.set d (.c (.bool !want)) = T := set_self T d _ hb (by simp)
        have hv2' := hv2 rfl
        rw [hset] at hv2'
        exact glue (.tup []) [] [] h rfl (.skip j want d hgd hd (.inl hb) rfl rfl rfl) (fun _ => ⟨rfl, rfl⟩) hv2'

/-! ### Code -/
def AWP (P : Program) (c : Code) (K : Exit → List AV → AHeap → Prop) (T : List AV) (h : AHeap) : Prop :=
  ∀ (B : Nat) (μ : LMap) (a : Act) (w : World), RepT μ T a → Rel B μ h.get w →
    c.wp P (fun e a' w' => ∃ μ' T' h', K e T' h' ∧ μ.le μ' ∧ RepT μ' T' a' ∧ Rel B μ' h'.get w' ∧ Below B w w') a w

section
variable {P : Program} {K : Exit → List AV → AHeap → Prop} {T : List AV} {h : AHeap}

theorem AWP.mono {c : Code} {K' : Exit → List AV → AHeap → Prop} (hc : AWP P c K T h) (hk : ∀ e T h, K e T h → K' e T h) : AWP P c K' T h :=
  fun B μ a w ht hr => wp_mono (hc B μ a w ht hr) fun e a' w' ⟨μ', T', h', h1, h2⟩ => ⟨μ', T', h', hk _ _ _ h1, h2⟩

theorem awp_skip (hk : K .normal T h) : AWP P .skip K T h :=
  fun _ μ _ w ht hr => wp_skip ⟨μ, T, h, hk, LMap.le_refl _, ht, hr, Below.refl _ _⟩
theorem awp_exit {id : Nat} (hk : K (.exit id) T h) : AWP P (.exit id) K T h :=
  fun _ μ _ w ht hr => wp_exit ⟨μ, T, h, hk, LMap.le_refl _, ht, hr, Below.refl _ _⟩
theorem awp_ret (hk : K .ret T h) : AWP P .ret K T h :=
  fun _ μ _ w ht hr => wp_ret ⟨μ, T, h, hk, LMap.le_refl _, ht, hr, Below.refl _ _⟩

def seqK (P : Program) (y : Code) (K : Exit → List AV → AHeap → Prop) : Exit → List AV → AHeap → Prop
  | .normal, T, h => AWP P y K T h
  | e, T, h => K e T h
theorem seqK_normal {y : Code} (hy : AWP P y K T h) : seqK P y K .normal T h := hy
theorem seqK_exit {y : Code} {id : Nat} (hy : K (.exit id) T h) : seqK P y K (.exit id) T h := hy
theorem seqK_ret {y : Code} (hy : K .ret T h) : seqK P y K .ret T h := hy

theorem awp_seq {x y : Code} (hx : AWP P x (seqK P y K) T h) : AWP P (.seq x y) K T h := by
  intro B μ a w ht hr
  refine wp_seq (wp_mono (hx B μ a w ht hr) ?_)
  rintro e a' w' ⟨μ', T', h', h1, h2, h3, h4, h5⟩
  cases e with
  | normal =>
    exact wp_mono (h1 B μ' a' w' h3 h4) fun e a2 w2 ⟨μ2, T2, h2', g1, g2, g3, g4, g5⟩ => ⟨μ2, T2, h2', g1, LMap.le_trans h2 g2, g3, g4, h5.trans g5⟩
  | _ => exact ⟨μ', T', h', h1, h2, h3, h4, h5⟩

def blockK (id : Nat) (K : Exit → List AV → AHeap → Prop) : Exit → List AV → AHeap → Prop
  | .exit id', T, h => if id' = id then K .normal T h else K (.exit id') T h
  | e, T, h => K e T h
theorem blockK_normal {id : Nat} (hy : K .normal T h) : blockK id K .normal T h := hy
theorem blockK_exit {id : Nat} (hy : K .normal T h) : blockK id K (.exit id) T h := by simp [blockK, hy]
theorem blockK_exit_ne {id id' : Nat} (hne : id' ≠ id) (hy : K (.exit id') T h) : blockK id K (.exit id') T h := by simp [blockK, hne, hy]
theorem blockK_ret {id : Nat} (hy : K .ret T h) : blockK id K .ret T h := hy

theorem awp_block {id : Nat} {c : Code} (hc : AWP P c (blockK id K) T h) : AWP P (.block id c) K T h := by
  intro B μ a w ht hr
  refine wp_block (wp_mono (hc B μ a w ht hr) ?_)
  rintro e a' w' ⟨μ', T', h', h1, h2⟩
  cases e with
  | exit id' =>
    simp only [Exit.inBlock]
    simp only [blockK] at h1
    split
    · rename_i hid; rw [if_pos hid] at h1; exact ⟨μ', T', h', h1, h2⟩
    · rename_i hid; rw [if_neg hid] at h1; exact ⟨μ', T', h', h1, h2⟩
  | _ => exact ⟨μ', T', h', h1, h2⟩

theorem awp_cond {c : Operand} {x y : Code} (b : Bool) (hb : ev T c = .c (.bool b)) (h1 : b = true → AWP P x K T h) (h2 : b = false → AWP P y K T h) : AWP P (.cond c x y) K T h := by
  intro B μ a w ht hr
  have := ht.ev c
  rw [hb] at this
  have hv : a.eval c = .bool b := this.c_inv
  cases b with
  | true => exact wp_cond hv (h1 rfl B μ a w ht hr)
  | false => exact wp_cond hv (h2 rfl B μ a w ht hr)

theorem foldl_range_congr {α : Type} (f g : α → Nat → α) : ∀ (n : Nat) (a : α), (∀ x, x < n → ∀ a, f a x = g a x) → (List.range n).foldl f a = (List.range n).foldl g a
  | 0, _, _ => rfl
  | n + 1, a, hfg => by
    rw [List.range_succ, List.foldl_append, List.foldl_append, foldl_range_congr f g n a fun x hx => hfg x (by omega)]
    simp [hfg n (by omega)]

theorem awp_region {id : Nat} {ops : Array Oper} (hg : guardsOk ops = true) (hv : opsV P 0 (prep ops) T h [] fun T' h' _ => K .normal T' h') : AWP P (.region id ops false) K T h := by
  intro B μ a w ht hr
  obtain ⟨f, T', h', q1, q2, _, q3, q4, q5⟩ := opsV_run hg ops.toList 0 T h [] (by simp) hv
  refine wp_region ?_
  rw [List.range_eq_range']
  have q1' : f.length = ops.size := by simpa using q1
  refine text_order (st := stOf f) (T0 := T) (G0 := h.get) (fun i o ho => ?_) ops.size 0 (by omega) μ a w (by simpa [TS] using ht) (by simpa [GS] using hr) (by simpa [GS] using h.fin) fun μ' a' w' g1 g2 g3 g4 => ⟨μ', T', h', q2, g1, ?_, ?_, g4⟩
  · have := q3 i o (by simpa using ho)
    simpa [TS, GS] using this
  · rw [q4]; simpa [TS] using g2
  · rw [q5]; simpa [GS] using g3
end
end Go.Abs
