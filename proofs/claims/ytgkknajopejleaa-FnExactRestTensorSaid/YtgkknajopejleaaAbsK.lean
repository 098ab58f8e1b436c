/- Regions that draw their order, loops, and a function's contract out of its text. -/
import Derived.Test.YtgkknajopejleaaAbsJ
namespace Go.Abs
open Go.RowKit (Below)

/-! ### Which operations wait for which -/
def addAll (s l : List Nat) : List Nat := l.foldl (fun s x => if s.contains x then s else x :: s) s
theorem mem_addAll : ∀ (l s : List Nat) {y : Nat}, y ∈ addAll s l → y ∈ s ∨ y ∈ l
  | [], _, _, h => .inl h
  | x :: l, s, y, h => by
    have := mem_addAll l (if s.contains x then s else x :: s) (y := y) h
    rcases this with h1 | h1
    · split at h1
      · exact .inl h1
      · rcases List.mem_cons.1 h1 with rfl | h2
        · exact .inr (by simp)
        · exact .inl h2
    · exact .inr (by simp [h1])

def ancOf (acc : List (List Nat)) (es : List Edge) : List Nat := es.foldl (fun s e => if Region.binds .any e then addAll s (e.on :: acc.getD e.on []) else s) []
def ancs : List Oper → List (List Nat) → List (List Nat)
  | [], acc => acc
  | o :: os, acc => ancs os (acc ++ [ancOf acc o.after.toList])

theorem mem_ancOf {acc : List (List Nat)} : ∀ (es : List Edge) (s : List Nat) {y : Nat}, y ∈ es.foldl (fun s e => if Region.binds .any e then addAll s (e.on :: acc.getD e.on []) else s) s →
    y ∈ s ∨ ∃ e ∈ es, Region.binds .any e = true ∧ (y = e.on ∨ y ∈ acc.getD e.on [])
  | [], _, _, h => .inl h
  | e :: es, s, y, h => by
    rcases mem_ancOf es _ h with h1 | ⟨e', he', hb, hy⟩
    · dsimp only at h1
      split at h1
      · rename_i hb
        rcases mem_addAll _ _ h1 with h2 | h2
        · exact .inl h2
        · exact .inr ⟨e, by simp, hb, by simpa using h2⟩
      · exact .inl h1
    · exact .inr ⟨e', by simp [he'], hb, hy⟩

theorem ancs_bef {ops : Array Oper} : ∀ (l : List Oper) (acc : List (List Nat)), (∀ j, l[j]? = ops[acc.length + j]?) → (∀ (i : Nat) s, acc[i]? = some s → ∀ y ∈ s, Bef ops i y) → ∀ (i : Nat) s, (ancs l acc)[i]? = some s → ∀ y ∈ s, Bef ops i y
  | [], _, _, h => h
  | o :: l, acc, hl, h => by
    refine ancs_bef l _ (fun j => by have := hl (j + 1); simp only [List.length_append, List.length_cons, List.length_nil]; rw [show acc.length + (0 + 1) + j = acc.length + (j + 1) from by omega]; simpa using this) ?_
    intro i s hs y hy
    rw [List.getElem?_append] at hs
    split at hs
    · exact h i s hs y hy
    · rename_i hi
      have hi' : i = acc.length := by
        have := (List.getElem?_eq_some_iff.1 hs).1
        simp at this; omega
      subst hi'
      simp at hs
      subst hs
      have ho : ops[acc.length]? = some o := by simpa using (hl 0).symm
      rcases mem_ancOf _ _ hy with h1 | ⟨e, he, hb, h2⟩
      · cases h1
      · have hedge : Bef ops acc.length e.on := .edge ho (by simpa using he) hb
        rcases h2 with rfl | h2
        · exact hedge
        · rw [List.getD_eq_getElem?_getD] at h2
          cases hq : acc[e.on]? with
          | none => rw [hq] at h2; cases h2
          | some s' => rw [hq] at h2; exact .trans hedge (h e.on s' hq y (by simpa using h2))

/-- The static look: edges point backwards; who names a slot and who writes it wait for one another; and of two operations that touch memory one waits for the other, or the pair is listed. -/
def regOrd (ops : Array Oper) (U : List (Nat × Nat)) : Bool :=
  let A := ancs ops.toList []
  (ops.toList.zipIdx.all fun x => x.1.after.toList.all fun e => !(Region.binds .any e) || e.on < x.2) &&
  (ops.toList.zipIdx.all fun x => ops.toList.zipIdx.all fun y => x.2 == y.2 ||
    (match y.1.dst with
     | none => true
     | some d => !((x.1.looksAt ops).contains d || x.1.dst == some d) || (if y.2 < x.2 then (A.getD x.2 []).contains y.2 else (A.getD y.2 []).contains x.2)) &&
    (!(x.2 < y.2) || quiet x.1.op || quiet y.1.op || U.contains (x.2, y.2) || (A.getD y.2 []).contains x.2))

theorem mem_zipIdx' {α : Type} {l : List α} {i : Nat} {x : α} (h : l[i]? = some x) : (x, i) ∈ l.zipIdx := by
  rw [List.mem_zipIdx_iff_getElem?]; simpa using h

def lk : Foot → Nat → List Nat × List Nat
  | [], _ => ([], [])
  | (k, r, w) :: F, i => if k = i then (r, w) else lk F i
def notIn (k : Nat) : List Nat → Prop
  | [] => True
  | x :: l => k ≠ x ∧ notIn k l
def apart : List Nat → List Nat → Prop
  | [], _ => True
  | k :: l, l' => notIn k l' ∧ apart l l'
def confV : List (Nat × Nat) → Foot → Prop
  | [], _ => True
  | (i, j) :: U, F => (apart (lk F i).2 (lk F j).1 ∧ apart (lk F i).2 (lk F j).2 ∧ apart (lk F i).1 (lk F j).2) ∧ confV U F

theorem notIn_iff {k : Nat} : ∀ {l : List Nat}, notIn k l ↔ k ∉ l
  | [] => by simp [notIn]
  | x :: l => by simp [notIn, notIn_iff]
theorem apart_iff : ∀ {l l' : List Nat}, apart l l' ↔ ∀ k ∈ l, k ∉ l'
  | [], l' => by simp [apart]
  | k :: l, l' => by simp [apart, notIn_iff, apart_iff]
theorem confV_mem : ∀ {U : List (Nat × Nat)} {F : Foot}, confV U F → ∀ {i j : Nat}, (i, j) ∈ U → apart (lk F i).2 (lk F j).1 ∧ apart (lk F i).2 (lk F j).2 ∧ apart (lk F i).1 (lk F j).2
  | [], _, _, _, _, h => by cases h
  | (a, b) :: U, F, h, i, j, hm => by
    rcases List.mem_cons.1 hm with hm | hm
    · cases hm; exact h.1
    · exact confV_mem h.2 hm

theorem lk_footOf : ∀ (f : List (AV × List (Nat × AObj) × List (Nat × Slot))) (i : Nat) (F : Foot), (∀ x ∈ F, x.1 < i) → ∀ j, i ≤ j → j < i + f.length →
    lk (footOf i f F) j = ((stOf f (j - i)).rs.map (·.1), (stOf f (j - i)).ws.map (·.1))
  | [], _, _, _, j, h1, h2 => by simp at h2; omega
  | (v, rs, ws) :: f, i, F, hF, j, h1, h2 => by
    have hlk : ∀ F' : Foot, (∀ x ∈ F', x.1 < i) → lk F' i = ([], []) := by
      intro F' h
      induction F' with
      | nil => rfl
      | cons x F' ih =>
        obtain ⟨k, r, w⟩ := x
        have := h (k, r, w) (by simp)
        simp only at this
        simp only [lk]
        rw [if_neg (by omega)]
        exact ih fun y hy => h y (by simp [hy])
    have hc : ∀ x ∈ consF i rs ws F, x.1 < i + 1 := by
      intro x hx
      unfold consF at hx
      split at hx
      · have := hF x hx; omega
      · rcases List.mem_cons.1 hx with rfl | hx
        · simp
        · have := hF x hx; omega
    have e : footOf i ((v, rs, ws) :: f) F = footOf (i + 1) f (consF i rs ws F) := by simp [footOf, List.zipIdx_cons]
    rw [e]
    by_cases hj : j = i
    · subst hj
      have keep : ∀ (f : List (AV × List (Nat × AObj) × List (Nat × Slot))) (i : Nat) (F : Foot), j < i → lk (footOf i f F) j = lk F j := by
        intro f
        induction f with
        | nil => intro i F _; rfl
        | cons x f ih =>
          intro i F hi
          obtain ⟨v, rs, ws⟩ := x
          have e : footOf i ((v, rs, ws) :: f) F = footOf (i + 1) f (consF i rs ws F) := by simp [footOf, List.zipIdx_cons]
          rw [e, ih (i + 1) _ (by omega)]
          unfold consF
          split
          · rfl
          · simp only [lk]; rw [if_neg (by omega)]
      rw [keep f (j + 1) _ (by omega)]
      simp only [Nat.sub_self, stOf, List.getElem?_cons_zero]
      unfold consF
      split
      · rw [hlk F hF]; rfl
      · simp [lk]
    · have := lk_footOf f (i + 1) (consF i rs ws F) hc j (by omega) (by simp at h2; omega)
      rw [this]
      have es : stOf ((v, rs, ws) :: f) (j - i) = stOf f (j - (i + 1)) := by
        rw [show j - i = (j - (i + 1)) + 1 from by omega]; simp [stOf]
      rw [es]

section
variable {P : Program} {K : Exit → List AV → AHeap → Prop} {T : List AV} {h : AHeap}

theorem awp_regionD {id : Nat} {ops : Array Oper} (U : List (Nat × Nat)) (hm : P.follows .mixedOrders = true) (hg : guardsOk ops = true) (ho : regOrd ops U = true)
    (hv : opsV P 0 (prep ops) T h [] fun T' h' F => confV U F ∧ K .normal T' h') : AWP P (.region id ops true) K T h := by
  intro B μ a w ht hr
  obtain ⟨f, T', h', q1, q2, q6, q3, q4, q5⟩ := opsV_run hg ops.toList 0 T h [] (by simp) hv
  have q1' : f.length = ops.size := by simpa using q1
  have hall : ∀ i o, ops[i]? = some o → OkAt P ops o (TS ops (stOf f) T (List.range i)) (GS (stOf f) h.get (List.range i)) (stOf f i) := fun i o ho => by
    have := q3 i o (by simpa using ho)
    simpa [TS, GS] using this
  have hord : Ordered ops (stOf f) := by
    unfold regOrd at ho
    simp only [Bool.and_eq_true, List.all_eq_true] at ho
    obtain ⟨ho1, ho2⟩ := ho
    have anc : ∀ i j, ((ancs ops.toList []).getD i []).contains j = true → Bef ops i j := by
      intro i j hc
      have hc' : j ∈ (ancs ops.toList []).getD i [] := by simpa using hc
      rw [List.getD_eq_getElem?_getD] at hc'
      cases hq : (ancs ops.toList [])[i]? with
      | none => rw [hq] at hc'; cases hc'
      | some s => rw [hq] at hc'; exact ancs_bef ops.toList [] (by simp) (by simp) i s hq j (by simpa using hc')
    refine ⟨fun i o hi e he hb => ?_, fun i j oi oj d hi hj hne hd hor => ?_, fun i j k hij hj hk => ?_⟩
    · have := ho1 (o, i) (mem_zipIdx' (by simpa using hi)) e (by simpa using he)
      simpa [hb] using this
    · have h1 := ho2 (oi, i) (mem_zipIdx' (by simpa using hi)) (oj, j) (mem_zipIdx' (by simpa using hj))
      simp only [hd] at h1
      have hne' : (i == j) = false := by simpa using hne
      have hcon : ((oi.looksAt ops).contains d || oi.dst == some d) = true := by
        rcases hor with h | h
        · simp [h]
        · simp [h]
      rw [hne', hcon] at h1
      simp only [Bool.false_or, Bool.not_true, Bool.and_eq_true] at h1
      obtain ⟨h1, _⟩ := h1
      constructor
      · intro hlt; rw [if_pos hlt] at h1; exact anc i j h1
      · intro hlt; rw [if_neg (by omega)] at h1; exact anc j i h1
    · have hi : i < ops.size := by omega
      have hio : ops[i]? = some ops[i] := Array.getElem?_eq_getElem hi
      have hjo : ops[j]? = some ops[j] := Array.getElem?_eq_getElem hj
      have h1 := ho2 (ops[i], i) (mem_zipIdx' (by simp [hio])) (ops[j], j) (mem_zipIdx' (by simp [hjo]))
      have hne' : (i == j) = false := by simp; omega
      rw [hne'] at h1
      simp only [Bool.false_or, Bool.and_eq_true] at h1
      have h2 := h1.2
      simp only [Bool.or_eq_true, hij, decide_true, Bool.not_true, Bool.false_eq_true, false_or] at h2
      have e1 := lk_footOf f 0 [] (by simp) i (by omega) (by omega)
      have e2 := lk_footOf f 0 [] (by simp) j (by omega) (by omega)
      simp only [Nat.sub_zero] at e1 e2
      rcases h2 with ((hq | hq) | hU) | hA
      · obtain ⟨r1, r2⟩ := q6 i _ (by simp [hio]) hq
        rw [r1, r2] at hk
        simp [ids, idsW] at hk
      · obtain ⟨r1, r2⟩ := q6 j _ (by simp [hjo]) hq
        rw [r1, r2] at hk
        simp [ids, idsW] at hk
      · exfalso
        obtain ⟨c1, c2, c3⟩ := confV_mem q2.1 (by simpa using hU : (i, j) ∈ U)
        rw [e1, e2] at c1 c2 c3
        rw [apart_iff] at c1 c2 c3
        rcases hk with ⟨k1, k2 | k2⟩ | ⟨k1, k2⟩
        · exact c1 k k1 k2
        · exact c2 k k1 k2
        · exact c3 k k1 k2
      · exact anc j i hA
  refine wp_region_any hm ?_
  have hsel : sel ops.size (Array.replicate ops.size false) = [] := by
    unfold sel
    refine List.filter_eq_nil_iff.2 fun i hi => ?_
    have : i < ops.size := by simpa using hi
    simp [this]
  have hunl : (unl ops.size (Array.replicate ops.size false)).length = ops.size := by
    unfold unl
    rw [List.filter_eq_self.2]
    · simp
    · intro i hi
      have : i < ops.size := by simpa using hi
      simp [this]
  refine any_order (st := stOf f) (T0 := T) (G0 := h.get) (B := B) hord hall (w0 := w) (μ0 := μ) h.fin (fun μ' a' w' g1 g2 g3 g4 => ⟨μ', T', h', q2.2, g1, ?_, ?_, g4⟩) ops.size _ μ a _ (by simp) hunl ?_ (by rw [hsel]; exact ht) (by rw [hsel]; exact hr.drew) (LMap.le_refl _) ((Below.refl _ _).drew)
  · intro i o hi hl
    have hi' : i < ops.size := by
      rcases Nat.lt_or_ge i ops.size with hh | hh
      · exact hh
      · rw [Array.getElem?_eq_none hh] at hi; cases hi
    simp [hi'] at hl
  · rw [q4]; simpa [TS] using g2
  · rw [q5]; simpa [GS] using g3

/-! ### Loops -/
theorem wp_loopN {c : Code} {Q : Exit → Act → World → Prop} (J : Nat → Act → World → Prop) (round : ∀ n a w, J n a w → c.wp P (Exit.then (fun a' w' => ∃ m, m < n ∧ J m a' w') Q) a w) : ∀ {n : Nat} {a : Act} {w : World}, J n a w → (Code.loop c).wp P Q a w := by
  have key : ∀ n a w, J n a w → ∀ (b : Frame) (k : List Item) (cs : List Frame), ∃ e a' w', Q e a' w' ∧ Arrives P (lone (b.at a (.code c :: .inLoop c :: k)) cs w) b k cs e a' w' := by
    intro n
    induction n using Nat.strongRecOn with
    | _ n ih =>
      intro a w hJ b k cs
      obtain ⟨e, a₁, w₁, hq, harr⟩ := round n a w hJ b (.inLoop c :: k) cs
      cases e with
      | normal =>
        obtain ⟨m, hm, hJ₁⟩ := hq
        obtain ⟨e₂, a₂, w₂, hq₂, harr₂⟩ := ih m hm a₁ w₁ hJ₁ b k cs
        exact ⟨e₂, a₂, w₂, hq₂, .of_steps (Steps.trans harr (.one step_inLoop)) harr₂⟩
      | exit id => exact ⟨_, a₁, w₁, hq, .pass (x := .inLoop c) rfl (fun _ _ => .inl (by simp)) harr⟩
      | goto l => exact ⟨_, a₁, w₁, hq, .pass (x := .inLoop c) rfl (fun _ _ => .inl (by simp)) harr⟩
      | ret => exact ⟨_, a₁, w₁, hq, .pass (x := .inLoop c) rfl (fun _ _ => .inl (by simp)) harr⟩
      | panic ch => exact ⟨_, a₁, w₁, hq, .pass (x := .inLoop c) rfl (fun _ _ => .inl (by simp)) harr⟩
      | outgrown => exact ⟨_, a₁, w₁, hq, .pass (x := .inLoop c) rfl (fun _ _ => .inl (by simp)) harr⟩
  intro n a w hJ b k cs
  obtain ⟨e, a', w', hq, harr⟩ := key n a w hJ b k cs
  exact ⟨e, a', w', hq, .of_steps (.one step_loop) harr⟩

/-- The end of a round: a relation with a smaller measure, some things forgotten. -/
def loopK (I : Nat → List AV → AHeap → Prop) (n : Nat) (h : AHeap) (K : Exit → List AV → AHeap → Prop) : Exit → List AV → AHeap → Prop
  | .normal, T', h' => ∃ m T'' h'', m < n ∧ I m T'' h'' ∧ Weak h T' h' T'' h''
  | e, T', h' => K e T' h'
theorem loopK_exit {I : Nat → List AV → AHeap → Prop} {n : Nat} {h0 : AHeap} {id : Nat} (hy : K (.exit id) T h) : loopK I n h0 K (.exit id) T h := hy
theorem loopK_ret {I : Nat → List AV → AHeap → Prop} {n : Nat} {h0 : AHeap} (hy : K .ret T h) : loopK I n h0 K .ret T h := hy

theorem awp_loop {c : Code} (I : Nat → List AV → AHeap → Prop) {n : Nat} (h0 : I n T h) (round : ∀ n T h, I n T h → AWP P c (loopK I n h K) T h) : AWP P (.loop c) K T h := by
  intro B μ a w ht hr
  refine wp_loopN (fun n a' w' => ∃ μ' T' h', I n T' h' ∧ μ.le μ' ∧ RepT μ' T' a' ∧ Rel B μ' h'.get w' ∧ Below B w w') ?_ (n := n) ⟨μ, T, h, h0, LMap.le_refl _, ht, hr, Below.refl _ _⟩
  rintro n a' w' ⟨μ', T', h', i1, i2, i3, i4, i5⟩
  refine wp_mono (round n T' h' i1 B μ' a' w' i3 i4) ?_
  rintro e a2 w2 ⟨μ2, T2, h2, g1, g2, g3, g4, g5⟩
  cases e with
  | normal =>
    obtain ⟨m, T3, h3, k1, k2, k3⟩ := g1
    obtain ⟨μ3, l1, l2, l3⟩ := k3 B μ' μ2 w' w2 a2 i4 g2 g3 g4
    exact ⟨m, k1, μ3, T3, h3, k2, LMap.le_trans i2 l1, l2, l3, i5.trans g5⟩
  | _ => exact ⟨μ2, T2, h2, g1, LMap.le_trans i2 g2, g3, g4, i5.trans g5⟩

/-- Slots may be forgotten at any place. -/
def TLe : List AV → List AV → Prop
  | [], [] => True
  | a :: as, b :: bs => (b = .any ∨ b = a) ∧ TLe as bs
  | _, _ => False
theorem TLe.rep {μ : LMap} {T T' : List AV} {a : Act} (hl : TLe T T') (ht : RepT μ T a) : RepT μ T' a := by
  have len : ∀ {T T' : List AV}, TLe T T' → T.length = T'.length := by
    intro T
    induction T with
    | nil => intro T' h; cases T' with
      | nil => rfl
      | cons => exact h.elim
    | cons a T ih => intro T' h; cases T' with
      | nil => exact h.elim
      | cons b T' => simp [ih h.2]
  have get : ∀ {T T' : List AV}, TLe T T' → ∀ (i : Nat) b, T'[i]? = some b → b = .any ∨ T[i]? = some b := by
    intro T
    induction T with
    | nil => intro T' h i b hb; cases T' with
      | nil => simp at hb
      | cons => exact h.elim
    | cons a T ih => intro T' h i b hb; cases T' with
      | nil => exact h.elim
      | cons c T' =>
        cases i with
        | zero => simp at hb; subst hb; rcases h.1 with h1 | h1
                  · exact .inl h1
                  · exact .inr (by simp [h1])
        | succ i => simpa using ih h.2 i b (by simpa using hb)
  refine ⟨ht.defers, ht.size.trans (len hl), fun i b hb => ?_⟩
  rcases get hl i b hb with rfl | h'
  · have hi : i < a.tmps.size := by
      rw [ht.size, len hl]; exact (List.getElem?_eq_some_iff.1 hb).1
    exact ⟨a.tmps[i], Array.getElem?_eq_getElem hi, .any⟩
  · exact ht.get i b h'
theorem awp_forget {c : Code} {T' : List AV} (hl : TLe T T') (hc : AWP P c K T' h) : AWP P c K T h := fun B μ a w ht hr => hc B μ a w (hl.rep ht) hr
end

/-! ### A contract -/
/-- One result. -/
def resOne (P : Program) (T : List AV) (h : AHeap) : ResultVar → AV → Prop
  | .tmp t, v => v = rd T t
  | .cell a t, v => ∃ ti k off ob, tyOf P t = some ti ∧ rd T a = .c (.ptr k off) ∧ h.get k = .live ob ∧
      (if ti.agg then off + ti.size ≤ ob.cells.length ∧ v = .agg ((ob.cells.drop off).take ti.size) else ∃ c, ob.cells[off]? = some c ∧ v = .c c)
def resAll (P : Program) (T : List AV) (h : AHeap) : List ResultVar → List AV → Prop
  | [], [] => True
  | r :: rs, v :: vs => resOne P T h r v ∧ resAll P T h rs vs
  | _, _ => False
def resOf : List AV → AV
  | [v] => v
  | vs => .tup vs

def resSem (tmps : Array Value) : ResultVar → Sem Value
  | .tmp t => pure (tmps.getD t undef)
  | .cell a t => do loadVar t (← asAddr (tmps.getD a undef))

theorem resOne_rep {P : Program} {μ : LMap} {B : Nat} {T : List AV} {h : AHeap} {a : Act} {w : World} (ht : RepT μ T a) (hR : Rel B μ h.get w) {r : ResultVar} {v : AV} (hr : resOne P T h r v) :
    ∃ u, (resSem a.tmps r).run P w = .ok u w ∧ RepV μ v u := by
  cases r with
  | tmp t =>
    simp only [resOne] at hr
    subst hr
    exact ⟨_, rfl, ht.ev (.tmp t)⟩
  | cell x t =>
    obtain ⟨ti, k, off, ob, h1, h2, h3, h4⟩ := hr
    have hv := ht.ev (.tmp x)
    simp only [ev, h2] at hv
    obtain ⟨l, hl, he⟩ := hv.c_inv
    simp only [Act.eval] at he
    have hrun := run_loadVar_obj hR h3 hl (off := off) h1
    have hA : (asAddr (a.tmps.getD x undef)).run P w = .ok ⟨l.b, l.base + off, none⟩ w := by rw [he]; rfl
    cases hag : ti.agg with
    | true =>
      rw [hag] at h4 hrun
      simp only [if_true] at h4 hrun
      obtain ⟨vs, g1, g2⟩ := hrun h4.1
      refine ⟨_, ?_, by rw [h4.2]; exact .agg g2⟩
      simp only [resSem, Sem.run_bind, hA, Result.andThen_ok, g1]
    | false =>
      rw [hag] at h4 hrun
      simp only [Bool.false_eq_true, if_false] at h4 hrun
      obtain ⟨c, g0, g1⟩ := h4
      obtain ⟨u, g2, g3⟩ := hrun c g0
      refine ⟨u, ?_, by rw [g1]; exact .c g3⟩
      simp only [resSem, Sem.run_bind, hA, Result.andThen_ok, g2]

theorem resAll_rep {P : Program} {μ : LMap} {B : Nat} {T : List AV} {h : AHeap} {a : Act} {w : World} (ht : RepT μ T a) (hR : Rel B μ h.get w) : ∀ {rs : List ResultVar} {vs : List AV}, resAll P T h rs vs →
    ∃ us : List Value, (rs.mapM (resSem a.tmps)).run P w = .ok us w ∧ vs.length = us.length ∧ ∀ (i : Nat) v u, vs[i]? = some v → us[i]? = some u → RepV μ v u
  | [], [], _ => ⟨[], by simp, rfl, by simp⟩
  | r :: rs, v :: vs, hr => by
    obtain ⟨u, h1, h2⟩ := resOne_rep ht hR hr.1
    obtain ⟨us, h3, h4, h5⟩ := resAll_rep ht hR hr.2
    refine ⟨u :: us, by simp only [List.mapM_cons, Sem.run_bind, h1, h3, Result.andThen_ok, Sem.run_pure], by simp [h4], fun i x y hx hy => ?_⟩
    cases i with
    | zero => simp at hx hy; subst hx hy; exact h2
    | succ i => exact h5 i x y (by simpa using hx) (by simpa using hy)
  | [], _ :: _, h => h.elim
  | _ :: _, [], h => h.elim

/-- How what a body leaves is what a contract says: 'ren': the objects that it hands out, by the caller's names and its own places. -/
structure Final (G : Heap) (N : Nat) (h : AHeap) (r : AV) (val : AV) (writes : List (Nat × Slot)) (σ : Nat → Nat) : Prop where
  keep : ∀ k, G k ≠ .free → σ k = k
  obj : ∀ k o, putsG G writes k = .live o → (G k = .live o ∧ h.get k = .live o) ∨
    (h.get (σ k) = .live ⟨o.cells.map (Cell.mapIds σ), o.own⟩ ∧ ∀ c ∈ o.cells, ∀ i ∈ c.ids, h.get (σ i) ≠ .free → putsG G writes i ≠ .free)
  nofree : ∀ k, G k ≠ .free → putsG G writes k ≠ .free
  inj : ∀ k k' o o', putsG G writes k = .live o → putsG G writes k' = .live o' → o.own = true → o'.own = true → k ≠ k' → σ k ≠ σ k'
  val : Named σ (fun i => h.get (σ i) ≠ .free → putsG G writes i ≠ .free) val r

def retK (P : Program) (fn : Func) (G : Heap) (N : Nat) (val : AV) (writes : List (Nat × Slot)) : Exit → List AV → AHeap → Prop
  | .normal, T, h => ∃ vs σ, resAll P T h fn.results.toList vs ∧ Final G N h (resOf vs) val writes σ
  | .ret, T, h => ∃ vs σ, resAll P T h fn.results.toList vs ∧ Final G N h (resOf vs) val writes σ
  | _, _, _ => False

theorem FSpec.of_body {P : Program} {f : FuncId} {fn : Func} {c : Code} {args : List AV} {val : AV} {reads : List (Nat × AObj)} {writes : List (Nat × Slot)} (hf : P.funcs[f]? = some fn) (hb : fn.body = some c) (hc : callable P f = true) (hn : args.length ≤ fn.ntmps)
    (H : ∀ (G : Heap) (N : Nat), (∀ k, N ≤ k → G k = .free) → (∀ p ∈ reads, G p.1 = .live p.2 ∧ p.1 < N) → (∀ p ∈ writes, p.1 < N ∧ ((∃ ob, (p.1, ob) ∈ reads) ∨ G p.1 = .free)) →
      AWP P c (retK P fn G N val writes) (args ++ List.replicate (fn.ntmps - args.length) .any) ⟨G, N, []⟩) : FSpec P f args val reads writes := by
  refine ⟨hc, fun B μ G w vs hR hfin hreads hwrites hargs => ?_⟩
  obtain ⟨M, hM⟩ := hfin
  obtain ⟨M2, hM2⟩ : ∃ M2, ∀ p ∈ writes, p.1 < M2 := by
    clear H hwrites
    induction writes with
    | nil => exact ⟨0, by simp⟩
    | cons p ws ih =>
      obtain ⟨m, hm⟩ := ih
      exact ⟨max m (p.1 + 1), fun q hq => by
        rcases List.mem_cons.1 hq with rfl | hq
        · omega
        · have := hm q hq; omega⟩
  have hlt : ∀ p ∈ reads, p.1 < max M M2 := by
    intro p hp
    rcases Nat.lt_or_ge p.1 M with h1 | h1
    · omega
    · have := hM p.1 h1; rw [hreads p hp] at this; cases this
  have hget : (⟨G, max M M2, []⟩ : AHeap).get = G := by
    funext k
    simp only [AHeap.get]
    split
    · rfl
    · rw [hM k (by omega)]; simp
  have hlen : ∀ {as : List AV} {vs : List Value}, RepVs μ as vs → as.length = vs.length := by
    intro as
    induction as with
    | nil => intro vs h; cases vs with
      | nil => rfl
      | cons => exact h.elim
    | cons a as ih => intro vs h; cases vs with
      | nil => exact h.elim
      | cons v vs => simp [ih h.2]
  have hgetA : ∀ {as : List AV} {vs : List Value}, RepVs μ as vs → ∀ (i : Nat) a, as[i]? = some a → ∃ v, vs[i]? = some v ∧ RepV μ a v := by
    intro as
    induction as with
    | nil => intro vs _ i a h; simp at h
    | cons a as ih => intro vs h i x hx; cases vs with
      | nil => exact h.elim
      | cons v vs =>
        cases i with
        | zero => simp at hx; subst hx; exact ⟨v, rfl, h.1⟩
        | succ i => simpa using ih h.2 i x (by simpa using hx)
  have hal := hlen hargs
  refine calls_of_wp hf hb ?_
  have hT : RepT μ (args ++ List.replicate (fn.ntmps - args.length) .any) { tmps := vs.toArray ++ Array.replicate (fn.ntmps - vs.toArray.size) undef, defers := [] } := by
    refine ⟨rfl, by simp; omega, fun i x hx => ?_⟩
    rw [List.getElem?_append] at hx
    split at hx
    · rename_i hi
      obtain ⟨v, hv, hr⟩ := hgetA hargs i x hx
      refine ⟨v, ?_, hr⟩
      rw [Array.getElem?_append_left (by simp; omega)]
      simpa using hv
    · rename_i hi
      rw [List.getElem?_replicate] at hx
      split at hx
      · rename_i hi2
        simp at hx; subst hx
        have hi3 : i < (vs.toArray ++ Array.replicate (fn.ntmps - vs.toArray.size) undef).size := by simp; omega
        exact ⟨_, Array.getElem?_eq_getElem hi3, .any⟩
      · cases hx
  have hW := H G (max M M2) (fun k hk => hM k (by omega)) (fun p hp => ⟨hreads p hp, hlt p hp⟩) (fun p hp => ⟨by have := hM2 p hp; omega, hwrites p hp⟩) B μ _ w hT (by rw [hget]; exact hR)
  refine wp_mono hW ?_
  rintro e a' w' ⟨μ', T', h', h1, h2, h3, h4, h5⟩
  have fin : (∃ vs σ, resAll P T' h' fn.results.toList vs ∧ Final G (max M M2) h' (resOf vs) val writes σ) → a'.defers = [] ∧ ∃ v, (results fn a'.tmps).run P w' = .ok v w' ∧
      ∃ v2 μ2, Ending.returned v = .returned v2 ∧ μ.le μ2 ∧ RepV μ2 val v2 ∧ Rel B μ2 (putsG G writes) w' ∧ Below B w w' := by
    rintro ⟨as, σ, g1, g2⟩
    obtain ⟨us, r1, r2, r3⟩ := resAll_rep h3 h4 g1
    obtain ⟨μ2, m1, m2, m3⟩ := hR.restrict h4 h2 σ (fun k hk => ⟨g2.nofree k hk, g2.keep k hk⟩) g2.obj g2.inj
    have hrun : (results fn a'.tmps).run P w' = .ok (if h : us.toArray.size = 1 then us.toArray[0] else .tuple us.toArray) w' := by
      unfold results
      simp only [Sem.run_bind]
      rw [Array.mapM_eq_mapM_toList]
      simp only [Sem.run_map]
      show Result.andThen (Result.andThen ((fn.results.toList.mapM (resSem a'.tmps)).run P w') _) _ = _
      rw [r1]
      rfl
    have hrep : RepV μ' (resOf as) (if h : us.toArray.size = 1 then us.toArray[0] else .tuple us.toArray) := by
      match as, us, r2, r3 with
      | [], [], _, _ => exact .tup rfl (by simp)
      | [a], [u], _, r3 => exact r3 0 a u rfl rfl
      | a :: b :: as, u :: v :: us, r2, r3 =>
        have : ¬ (u :: v :: us).toArray.size = 1 := by simp
        rw [dif_neg this]
        exact .tup r2 r3
      | [], _ :: _, r2, _ => simp at r2
      | _ :: _, [], r2, _ => simp at r2
      | [_], _ :: _ :: _, r2, _ => simp at r2
      | _ :: _ :: _, [_], r2, _ => simp at r2
    exact ⟨h3.defers, _, hrun, _, μ2, rfl, m1, m3 _ _ _ g2.val hrep, m2, h5⟩
  cases e with
  | normal => exact fin h1
  | ret => exact fin h1
  | _ => exact h1.elim
end Go.Abs
