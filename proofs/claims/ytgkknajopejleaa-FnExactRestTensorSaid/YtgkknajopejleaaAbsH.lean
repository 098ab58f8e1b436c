/- A region of operations: in the order of the text, and in whatever order its edges allow. -/
import Derived.Test.YtgkknajopejleaaAbsG
namespace Go.Abs
open Go.RowKit (Below)

structure St where
  val : AV
  rs : List (Nat × AObj)
  ws : List (Nat × Slot)

def dstOf (ops : Array Oper) (j : Nat) : Option Tmp := (ops[j]?).bind (·.dst)
def TS (ops : Array Oper) (st : Nat → St) (T0 : List AV) (L : List Nat) : List AV := L.foldl (fun T i => setT T (dstOf ops i) (st i).val) T0
def GS (st : Nat → St) (G0 : Heap) (L : List Nat) : Heap := L.foldl (fun G i => putsG G (st i).ws) G0

inductive OkAt (P : Program) (ops : Array Oper) (o : Oper) (T : List AV) (G : Heap) (s : St) : Prop
  | run : (∀ j want, o.guard = some (j, want) → ∃ d, dstOf ops j = some d ∧ rd T d = .c (.bool want)) → OpS P o (ev T) s.val s.rs s.ws → (∀ p ∈ s.rs, G p.1 = .live p.2) →
      (∀ p ∈ s.ws, (∃ ob, (p.1, ob) ∈ s.rs) ∨ G p.1 = .free) → OkAt P ops o T G s
  | skip : ∀ j want d, o.guard = some (j, want) → dstOf ops j = some d → (rd T d = .c (.bool (!want)) ∨ rd T d = .tup []) → s.val = .tup [] → s.rs = [] → s.ws = [] → OkAt P ops o T G s

section
variable {P : Program} {ops : Array Oper} {Q : Exit → Act → World → Prop}

theorem yielded_of {μ : LMap} {T : List AV} {a : Act} (hT : RepT μ T a) {j d : Nat} {b : Bool} (hd : dstOf ops j = some d) (h : rd T d = .c (.bool b)) : yielded ops a.tmps j = some b := by
  have hlt : T[d]? = some (.c (.bool b)) := by
    rw [rd_eq, List.getD_eq_getElem?_getD] at h
    cases ht : T[d]? with
    | none => rw [ht] at h; simp at h
    | some y => rw [ht] at h; simpa using h
  obtain ⟨v, hv, hr⟩ := hT.get d _ hlt
  have : v = .bool b := hr.c_inv
  subst this
  unfold yielded
  unfold dstOf at hd
  rw [hd]
  simp [hv]

theorem tup0_inv {μ : LMap} {v : Value} (h : RepV μ (.tup []) v) : v = undef := by
  cases h with
  | @tup as vs hl _ =>
    cases vs with
    | nil => rfl
    | cons _ _ => simp at hl
theorem yielded_undef {μ : LMap} {T : List AV} {a : Act} (hT : RepT μ T a) {j d : Nat} (hd : dstOf ops j = some d) (h : rd T d = .tup []) : yielded ops a.tmps j = none := by
  have hlt : T[d]? = some (.tup []) := by
    rw [rd_eq, List.getD_eq_getElem?_getD] at h
    cases ht : T[d]? with
    | none => rw [ht] at h; simp at h
    | some y => rw [ht] at h; simpa using h
  obtain ⟨v, hv, hr⟩ := hT.get d _ hlt
  have := tup0_inv hr
  subst this
  unfold yielded
  unfold dstOf at hd
  rw [hd]
  simp [hv, undef]

theorem okAt_step {o : Oper} {T T' : List AV} {G G' : Heap} {s : St} (hok : OkAt P ops o T G s) {i : Nat} (hi : ops[i]? = some o) (hagree : ∀ t ∈ o.looksAt ops, rd T' t = rd T t)
    (hagreeG : ∀ k, (k ∈ s.rs.map (·.1) ∨ k ∈ s.ws.map (·.1)) → G' k = G k) {μ : LMap} {a : Act} {w : World} {B : Nat} (hT : RepT μ T' a) (hR : Rel B μ G' w) (hfin : ∃ M, ∀ k, M ≤ k → G' k = .free) {K : Act → World → Prop}
    (hK : ∀ v μ' w', μ.le μ' → RepV μ' s.val v → Rel B μ' (putsG G' s.ws) w' → Below B w w' → K (a.put o.dst v) w') : wpOp P ops Q i K a w := by
  unfold wpOp
  rw [hi]
  simp only
  have looks : ∀ j want d, o.guard = some (j, want) → dstOf ops j = some d → rd T' d = rd T d := by
    intro j want d hg hd
    refine hagree d ?_
    unfold Oper.looksAt
    unfold dstOf at hd
    rw [hg]
    simp only [hd]
    exact List.mem_append_right _ (by simp)
  cases hok with
  | run hg hs hr hw =>
    have hwanted : Region.wanted o (yielded ops a.tmps) = true := by
      unfold Region.wanted
      cases hgd : o.guard with
      | none => rfl
      | some p =>
        obtain ⟨j, want⟩ := p
        obtain ⟨d, hd, hrd⟩ := hg j want hgd
        simp only
        rw [yielded_of hT hd (by rw [looks j want d hgd hd]; exact hrd)]
        simp
    rw [hwanted, if_pos rfl]
    left
    refine hs B μ G' w a K Q hR hfin (fun p hp => ?_) (fun p hp => ?_) (fun x hx => ?_) (fun v μ' w' h1 h2 h3 h4 => hK v μ' w' h1 h2 h3 h4)
    · rw [hagreeG p.1 (.inl (List.mem_map_of_mem hp))]; exact hr p hp
    · rcases hw p hp with h | h
      · exact .inl h
      · right; rw [hagreeG p.1 (.inr (List.mem_map_of_mem hp))]; exact h
    · have := hT.ev x
      cases x with
      | tmp t =>
        have ht : t ∈ o.looksAt ops := by
          unfold Oper.looksAt
          exact List.mem_append_left _ (List.mem_filterMap.2 ⟨.tmp t, by simpa using hx, rfl⟩)
        simp only [ev] at this ⊢
        rw [← hagree t ht]; exact this
      | const v => exact this
      | global g => exact this
      | func f => exact this
  | skip j want d hg hd hrd hv hr hw =>
    have hwanted : Region.wanted o (yielded ops a.tmps) = false := by
      unfold Region.wanted
      rw [hg]
      simp only
      rcases hrd with hrd | hrd
      · rw [yielded_of hT hd (by rw [looks j want d hg hd]; exact hrd)]
        cases want <;> rfl
      · rw [yielded_undef hT hd (by rw [looks j want d hg hd]; exact hrd)]
        rfl
    rw [hwanted, if_neg (by simp)]
    refine hK undef μ w (LMap.le_refl _) (by rw [hv]; exact RepV.tup (as := []) (vs := []) rfl (by simp)) ?_ (Below.refl _ _)
    rw [hw]; exact hR

theorem fin_putsG : ∀ (ws : List (Nat × Slot)) {G : Heap}, (∃ M, ∀ k, M ≤ k → G k = .free) → ∃ M, ∀ k, M ≤ k → putsG G ws k = .free
  | [], _, h => h
  | (k, s) :: ws, G, ⟨M, h⟩ => by
    refine fin_putsG ws (G := upd G k s) ⟨max M (k + 1), fun j hj => ?_⟩
    rw [upd_ne _ _ (by omega)]
    exact h j (by omega)

/-! ### In the order of the text -/
theorem text_order {st : Nat → St} {T0 : List AV} {G0 : Heap} {B : Nat} (hall : ∀ i o, ops[i]? = some o → OkAt P ops o (TS ops st T0 (List.range i)) (GS st G0 (List.range i)) (st i)) :
    ∀ (k i : Nat), i + k = ops.size → ∀ (μ : LMap) (a : Act) (w : World), RepT μ (TS ops st T0 (List.range i)) a → Rel B μ (GS st G0 (List.range i)) w → (∃ M, ∀ k, M ≤ k → GS st G0 (List.range i) k = .free) →
    (∀ μ' a' w', μ.le μ' → RepT μ' (TS ops st T0 (List.range ops.size)) a' → Rel B μ' (GS st G0 (List.range ops.size)) w' → Below B w w' → Q .normal a' w') → wpOps P ops Q (List.range' i k) a w := by
  intro k
  induction k with
  | zero =>
    intro i hi μ a w hT hR _ hQ
    rw [show i = ops.size from by omega] at hT hR
    exact hQ μ a w (LMap.le_refl _) hT hR (Below.refl _ _)
  | succ k ih =>
    intro i hi μ a w hT hR hfin hQ
    have hlt : i < ops.size := by omega
    have ho : ops[i]? = some ops[i] := Array.getElem?_eq_getElem hlt
    rw [List.range'_succ, wpOps_cons]
    refine okAt_step (hall i _ ho) ho (fun _ _ => rfl) (fun _ _ => rfl) hT hR hfin fun v μ' w' h1 h2 h3 h4 => ?_
    have eT : TS ops st T0 (List.range (i + 1)) = setT (TS ops st T0 (List.range i)) ops[i].dst (st i).val := by
      simp only [TS, List.range_succ, List.foldl_append, List.foldl_cons, List.foldl_nil]
      have : dstOf ops i = ops[i].dst := by unfold dstOf; rw [ho]; rfl
      rw [this]
    have eG : GS st G0 (List.range (i + 1)) = putsG (GS st G0 (List.range i)) (st i).ws := by
      simp only [GS, List.range_succ, List.foldl_append, List.foldl_cons, List.foldl_nil]
    refine ih (i + 1) (by omega) μ' _ w' (by rw [eT]; exact (hT.mono h1).put _ h2) (by rw [eG]; exact h3) (by rw [eG]; exact fin_putsG _ hfin) fun μ2 a2 w2 g1 g2 g3 g4 => hQ μ2 a2 w2 (LMap.le_trans h1 g1) g2 g3 (h4.trans g4)

/-! ### In any order -/
inductive Bef (ops : Array Oper) : Nat → Nat → Prop
  | edge {i : Nat} {o : Oper} {e : Edge} : ops[i]? = some o → e ∈ o.after → Region.binds .any e = true → Bef ops i e.on
  | trans {i m j : Nat} : Bef ops i m → Bef ops m j → Bef ops i j

def ids (l : List (Nat × AObj)) : List Nat := l.map (·.1)
def idsW (l : List (Nat × Slot)) : List Nat := l.map (·.1)

structure Ordered (ops : Array Oper) (st : Nat → St) : Prop where
  back : ∀ i o, ops[i]? = some o → ∀ e ∈ o.after, Region.binds .any e = true → e.on < i
  temps : ∀ i j oi oj d, ops[i]? = some oi → ops[j]? = some oj → i ≠ j → oj.dst = some d → (d ∈ oi.looksAt ops ∨ oi.dst = some d) → (j < i → Bef ops i j) ∧ (i < j → Bef ops j i)
  heap : ∀ i j k, i < j → j < ops.size → ((k ∈ idsW (st i).ws ∧ (k ∈ ids (st j).rs ∨ k ∈ idsW (st j).ws)) ∨ (k ∈ ids (st i).rs ∧ k ∈ idsW (st j).ws)) → Bef ops j i

def closedE (ops : Array Oper) (listed : Array Bool) : Prop := ∀ i o, ops[i]? = some o → listed.getD i false = true → ∀ e ∈ o.after, Region.binds .any e = true → listed.getD e.on false = true

theorem closed_bef {listed : Array Bool} (hc : closedE ops listed) {i j : Nat} (h : Bef ops i j) : listed.getD i false = true → listed.getD j false = true := by
  induction h with
  | edge ho he hb => exact fun hi => hc _ _ ho hi _ he hb
  | trans _ _ h1 h2 => exact fun hi => h2 (h1 hi)

/-- All that stands before an operation that is ready has been listed. -/
theorem ready_bef {listed : Array Bool} (hc : closedE ops listed) {i : Nat} (hr : i ∈ Region.ready .any ops listed) : ∀ {x j : Nat}, Bef ops x j → x = i → listed.getD j false = true := by
  obtain ⟨_, o, ho, hall⟩ := mem_ready.1 hr
  intro x j h
  induction h with
  | edge ho' he hb => intro hx; subst hx; rw [ho] at ho'; cases ho'; exact hall _ he hb
  | trans h1 h2 ih1 _ => intro hx; exact closed_bef hc h2 (ih1 hx)

theorem length_setT (T : List AV) (d : Option Tmp) (v : AV) : (setT T d v).length = T.length := by cases d <;> simp [setT]
theorem rd_setT_ne (T : List AV) (d : Option Tmp) (v : AV) {t : Nat} (h : d ≠ some t) : rd (setT T d v) t = rd T t := by
  cases d with
  | none => rfl
  | some d =>
    have : d ≠ t := fun e => h (by rw [e])
    simp only [setT, rd_eq, List.getD_eq_getElem?_getD]
    rw [List.getElem?_set_ne this]
theorem rd_setT_same (T T' : List AV) (v : AV) (t : Nat) (h : T.length = T'.length) : rd (setT T (some t) v) t = rd (setT T' (some t) v) t := by
  simp only [setT, rd_eq, List.getD_eq_getElem?_getD, List.getElem?_set, if_true, h]

theorem rd_TS_filter (st : Nat → St) (t : Nat) : ∀ (L : List Nat) (T T' : List AV), T.length = T'.length → rd T t = rd T' t → rd (TS ops st T L) t = rd (TS ops st T' (L.filter fun i => dstOf ops i == some t)) t
  | [], _, _, _, h => h
  | i :: L, T, T', hl, h => by
    simp only [TS, List.foldl_cons, List.filter_cons]
    split
    · rename_i hd
      have hd' : dstOf ops i = some t := by simpa using hd
      simp only [List.foldl_cons]
      refine rd_TS_filter st t L _ _ (by simp [length_setT, hl]) ?_
      rw [hd']; exact rd_setT_same _ _ _ _ hl
    · rename_i hd
      have hd' : dstOf ops i ≠ some t := by simpa using hd
      refine rd_TS_filter st t L _ _ (by simp [length_setT, hl]) ?_
      rw [rd_setT_ne _ _ _ hd']; exact h

theorem putsG_out : ∀ (ws : List (Nat × Slot)) (G : Heap) {k : Nat}, k ∉ idsW ws → putsG G ws k = G k
  | [], _, _, _ => rfl
  | (j, s) :: ws, G, k, h => by
    simp only [idsW, List.map_cons, List.mem_cons, not_or] at h
    show putsG (upd G j s) ws k = G k
    rw [putsG_out ws _ h.2, upd_ne _ _ h.1]
theorem putsG_in : ∀ (ws : List (Nat × Slot)) (G G' : Heap) {k : Nat}, k ∈ idsW ws → putsG G ws k = putsG G' ws k
  | [], _, _, _, h => by simp [idsW] at h
  | (j, s) :: ws, G, G', k, h => by
    show putsG (upd G j s) ws k = putsG (upd G' j s) ws k
    by_cases hk : k ∈ idsW ws
    · exact putsG_in ws _ _ hk
    · rw [putsG_out ws _ hk, putsG_out ws _ hk]
      simp only [idsW, List.map_cons, List.mem_cons] at h
      rcases h with h | h
      · subst h; simp
      · exact absurd h hk

theorem GS_filter (st : Nat → St) (k : Nat) : ∀ (L : List Nat) (G G' : Heap), G k = G' k → GS st G L k = GS st G' (L.filter fun i => (idsW (st i).ws).contains k) k
  | [], _, _, h => h
  | i :: L, G, G', h => by
    simp only [GS, List.foldl_cons, List.filter_cons]
    split
    · rename_i hd
      simp only [List.foldl_cons]
      exact GS_filter st k L _ _ (putsG_in _ _ _ (by simpa using hd))
    · rename_i hd
      refine GS_filter st k L _ _ ?_
      rw [putsG_out _ _ (by simpa using hd)]; exact h

theorem setT_comm (T : List AV) {d d' : Option Tmp} (v v' : AV) (h : ∀ x, d = some x → d' ≠ some x) : setT (setT T d v) d' v' = setT (setT T d' v') d v := by
  cases d with
  | none => rfl
  | some x =>
    cases d' with
    | none => rfl
    | some y =>
      have : x ≠ y := fun e => h x rfl (by rw [e])
      simp only [setT]
      exact List.set_comm _ _ this
theorem TS_late (st : Nat → St) (d : Option Tmp) (v : AV) : ∀ (L : List Nat) (T : List AV), (∀ j ∈ L, ∀ x, d = some x → dstOf ops j ≠ some x) → TS ops st (setT T d v) L = setT (TS ops st T L) d v
  | [], _, _ => rfl
  | j :: L, T, h => by
    simp only [TS, List.foldl_cons]
    rw [setT_comm _ _ _ (h j (by simp))]
    exact TS_late st d v L _ (fun i hi => h i (by simp [hi]))
theorem putsG_comm (ws ws' : List (Nat × Slot)) (G : Heap) (h : ∀ k, k ∈ idsW ws → k ∉ idsW ws') : putsG (putsG G ws) ws' = putsG (putsG G ws') ws := by
  funext k
  by_cases h1 : k ∈ idsW ws
  · rw [putsG_out ws' _ (h k h1)]
    exact putsG_in ws _ _ h1
  · rw [putsG_out ws _ h1]
    by_cases h2 : k ∈ idsW ws'
    · exact putsG_in ws' _ _ h2
    · rw [putsG_out ws' _ h2, putsG_out ws' _ h2, putsG_out ws _ h1]
theorem GS_late (st : Nat → St) (ws : List (Nat × Slot)) : ∀ (L : List Nat) (G : Heap), (∀ j ∈ L, ∀ k, k ∈ idsW ws → k ∉ idsW (st j).ws) → GS st (putsG G ws) L = putsG (GS st G L) ws
  | [], _, _ => rfl
  | j :: L, G, h => by
    simp only [GS, List.foldl_cons]
    rw [putsG_comm _ _ _ (h j (by simp))]
    exact GS_late st ws L _ (fun i hi => h i (by simp [hi]))

def sel (n : Nat) (listed : Array Bool) : List Nat := (List.range n).filter fun i => listed.getD i false
def unl (n : Nat) (listed : Array Bool) : List Nat := (List.range n).filter fun i => !listed.getD i false

theorem range_split {n i : Nat} (h : i < n) : List.range n = List.range i ++ i :: List.range' (i + 1) (n - (i + 1)) := by
  have : n = i + (1 + (n - (i + 1))) := by omega
  conv => lhs; rw [this, List.range_eq_range', ← List.range'_append_1]
  rw [List.range_eq_range', Nat.zero_add, Nat.add_comm 1 (n - (i + 1)), List.range'_succ]

theorem filter_range_lt {n i : Nat} (h : i ≤ n) (p : Nat → Bool) : (List.range n).filter (fun j => decide (j < i) && p j) = (List.range i).filter p := by
  have e : n = i + (n - i) := by omega
  rw [e, List.range_eq_range', ← List.range'_append_1, List.filter_append]
  have h1 : (List.range' 0 i).filter (fun j => decide (j < i) && p j) = (List.range' 0 i).filter p := by
    refine List.filter_congr fun j hj => ?_
    have : j < i := by simp [List.mem_range'_1] at hj; omega
    simp [this]
  have h2 : (List.range' (0 + i) (n - i)).filter (fun j => decide (j < i) && p j) = [] := by
    refine List.filter_eq_nil_iff.2 fun j hj => ?_
    have : ¬ j < i := by simp [List.mem_range'_1] at hj; omega
    simp [this]
  rw [h1, h2, List.append_nil, List.range_eq_range']

theorem getD_false_of_true {listed : Array Bool} {i : Nat} (h : listed.getD i true = false) : i < listed.size ∧ listed.getD i false = false := by
  rcases Nat.lt_or_ge i listed.size with hl | hl
  · simp [hl] at h ⊢
    exact h
  · simp [Array.getElem?_eq_none hl] at h

theorem any_order {st : Nat → St} {T0 : List AV} {G0 : Heap} {B : Nat} (hord : Ordered ops st) (hall : ∀ i o, ops[i]? = some o → OkAt P ops o (TS ops st T0 (List.range i)) (GS st G0 (List.range i)) (st i)) {w0 : World} {μ0 : LMap}
    (hfin : ∃ M, ∀ k, M ≤ k → G0 k = .free)
    (hQ : ∀ μ' a' w', μ0.le μ' → RepT μ' (TS ops st T0 (List.range ops.size)) a' → Rel B μ' (GS st G0 (List.range ops.size)) w' → Below B w0 w' → Q .normal a' w') :
    ∀ (fuel : Nat) (listed : Array Bool) (μ : LMap) (a : Act) (w : World), listed.size = ops.size → (unl ops.size listed).length = fuel → closedE ops listed → RepT μ (TS ops st T0 (sel ops.size listed)) a → Rel B μ (GS st G0 (sel ops.size listed)) w →
    μ0.le μ → Below B w0 w → wpAny P .any ops Q fuel listed a w := by
  intro fuel
  induction fuel with
  | zero =>
    intro listed μ a w hsz hu hc hT hR hle hb
    have hnil : unl ops.size listed = [] := List.length_eq_zero_iff.1 hu
    have hsel : sel ops.size listed = List.range ops.size := by
      unfold sel
      refine List.filter_eq_self.2 fun i hi => ?_
      unfold unl at hnil
      have := (List.filter_eq_nil_iff.1 hnil) i hi
      simpa using this
    rw [hsel] at hT hR
    refine ⟨?_, hQ μ a w hle hT hR hb⟩
    cases hr : Region.ready .any ops listed with
    | nil => rfl
    | cons i is =>
      have hi : i ∈ Region.ready .any ops listed := by rw [hr]; simp
      obtain ⟨h0, o, ho, _⟩ := mem_ready.1 hi
      have hlt : i < ops.size := by
        rcases Nat.lt_or_ge i ops.size with h | h
        · exact h
        · rw [Array.getElem?_eq_none h] at ho; cases ho
      obtain ⟨h1, h2⟩ := getD_false_of_true h0
      have : i ∈ sel ops.size listed := by rw [hsel]; simpa using hlt
      unfold sel at this
      simp only [List.mem_filter] at this
      rw [h2] at this
      cases this.2
  | succ fuel ih =>
    intro listed μ a w hsz hu hc hT hR hle hb
    refine ⟨fun hnil => ?_, fun i hi => ?_⟩
    · -- something is ready
      exfalso
      have hne : unl ops.size listed ≠ [] := by intro h; rw [h] at hu; simp at hu
      have hex : ∃ i, i < ops.size ∧ listed.getD i false = false := by
        cases hq : unl ops.size listed with
        | nil => exact absurd hq hne
        | cons i is =>
          have : i ∈ unl ops.size listed := by rw [hq]; simp
          unfold unl at this
          simp only [List.mem_filter, List.mem_range] at this
          exact ⟨i, this.1, by simpa using this.2⟩
      have key : ∀ n i, i < n → i < ops.size → listed.getD i false = false → False := by
        intro n
        induction n with
        | zero => intro i h; omega
        | succ n ihn =>
          intro i hin his hl
          have hsz' : i < listed.size := by omega
          have : i ∈ Region.ready .any ops listed := by
            refine mem_ready.2 ⟨by simp [hsz'] at hl ⊢; exact hl, ops[i], Array.getElem?_eq_getElem his, fun e he hbe => ?_⟩
            have hlt := hord.back i _ (Array.getElem?_eq_getElem his) e he hbe
            cases hle' : listed.getD e.on false with
            | true => rfl
            | false => exact (ihn e.on (by omega) (by omega) hle').elim
          rw [hnil] at this; cases this
      obtain ⟨i, h1, h2⟩ := hex
      exact key (i + 1) i (by omega) h1 h2
    · obtain ⟨h0, o, ho, hedges⟩ := mem_ready.1 hi
      obtain ⟨hil, hif⟩ := getD_false_of_true h0
      have his : i < ops.size := by omega
      have bef1 : ∀ j, Bef ops i j → listed.getD j false = true := fun j h => ready_bef hc hi h rfl
      have bef2 : ∀ j, listed.getD j false = true → ¬ Bef ops j i := fun j hj h => by
        have := closed_bef hc h hj
        rw [hif] at this; cases this
      have agree : ∀ t ∈ o.looksAt ops, rd (TS ops st T0 (sel ops.size listed)) t = rd (TS ops st T0 (List.range i)) t := by
        intro t ht
        rw [rd_TS_filter st t _ T0 T0 rfl rfl, rd_TS_filter st t (List.range i) T0 T0 rfl rfl]
        congr 2
        unfold sel
        rw [List.filter_filter, ← filter_range_lt (Nat.le_of_lt his) (fun j => dstOf ops j == some t)]
        refine List.filter_congr fun j hj => ?_
        cases hd : (dstOf ops j == some t) with
        | false => simp
        | true =>
          have hd' : dstOf ops j = some t := by simpa using hd
          simp only [Bool.true_and, Bool.and_true]
          unfold dstOf at hd'
          cases hoj : ops[j]? with
          | none => rw [hoj] at hd'; cases hd'
          | some oj =>
            rw [hoj] at hd'
            simp only [Option.bind_some] at hd'
            by_cases hji : j = i
            · subst hji; simp [hif]
            · obtain ⟨c1, c2⟩ := hord.temps i j o oj t ho hoj (fun e => hji e.symm) hd' (.inl ht)
              rcases Nat.lt_or_ge j i with hlt | hge
              · rw [bef1 j (c1 hlt)]; simp [hlt]
              · have hlt : i < j := by omega
                have : listed.getD j false = false := by
                  cases hq : listed.getD j false with
                  | false => rfl
                  | true => exact absurd (c2 hlt) (bef2 j hq)
                rw [this]; simp; omega
      have agreeG : ∀ k, (k ∈ (st i).rs.map (·.1) ∨ k ∈ (st i).ws.map (·.1)) → GS st G0 (sel ops.size listed) k = GS st G0 (List.range i) k := by
        intro k hk
        rw [GS_filter st k _ G0 G0 rfl, GS_filter st k (List.range i) G0 G0 rfl]
        congr 1
        unfold sel
        rw [List.filter_filter, ← filter_range_lt (Nat.le_of_lt his) (fun j => (idsW (st j).ws).contains k)]
        refine List.filter_congr fun j hj => ?_
        cases hd : (idsW (st j).ws).contains k with
        | false => simp
        | true =>
          have hd' : k ∈ idsW (st j).ws := by simpa using hd
          simp only [Bool.true_and, Bool.and_true]
          have hjs : j < ops.size := by simpa using hj
          by_cases hji : j = i
          · subst hji; simp [hif]
          · rcases Nat.lt_or_ge j i with hlt | hge
            · have := hord.heap j i k hlt his (.inl ⟨hd', hk⟩)
              rw [bef1 j this]; simp [hlt]
            · have hlt : i < j := by omega
              have : listed.getD j false = false := by
                cases hq : listed.getD j false with
                | false => rfl
                | true =>
                  refine absurd (hord.heap i j k hlt hjs ?_) (bef2 j hq)
                  rcases hk with hk | hk
                  · exact .inr ⟨hk, hd'⟩
                  · exact .inl ⟨hk, .inr hd'⟩
              rw [this]; simp; omega
      have hfinS : ∃ M, ∀ k, M ≤ k → GS st G0 (sel ops.size listed) k = .free := by
        have : ∀ (L : List Nat) (G : Heap), (∃ M, ∀ k, M ≤ k → G k = .free) → ∃ M, ∀ k, M ≤ k → GS st G L k = .free := by
          intro L
          induction L with
          | nil => exact fun G h => h
          | cons j L ihL => exact fun G h => ihL _ (fin_putsG _ h)
        exact this _ _ hfin
      refine okAt_step (hall i o ho) ho agree agreeG hT hR hfinS fun v μ' w' g1 g2 g3 g4 => ?_
      -- the new state
      have hsel1 : sel ops.size listed = (List.range i).filter (fun i => listed.getD i false) ++ (List.range' (i + 1) (ops.size - (i + 1))).filter (fun i => listed.getD i false) := by
        unfold sel
        rw [range_split his, List.filter_append, List.filter_cons, hif]
        simp
      have hset : ∀ j, j ≠ i → (listed.setIfInBounds i true).getD j false = listed.getD j false := fun j hj => getD_set_ne false (fun e => hj e.symm)
      have hset1 : (listed.setIfInBounds i true).getD i false = true := by simp [hil]
      have hf1 : (List.range i).filter (fun j => (listed.setIfInBounds i true).getD j false) = (List.range i).filter (fun i => listed.getD i false) :=
        List.filter_congr fun j hj => hset j (by simp at hj; omega)
      have hf2 : (List.range' (i + 1) (ops.size - (i + 1))).filter (fun j => (listed.setIfInBounds i true).getD j false) = (List.range' (i + 1) (ops.size - (i + 1))).filter (fun i => listed.getD i false) :=
        List.filter_congr fun j hj => hset j (by simp [List.mem_range'_1] at hj; omega)
      have hsel2 : sel ops.size (listed.setIfInBounds i true) = (List.range i).filter (fun i => listed.getD i false) ++ i :: (List.range' (i + 1) (ops.size - (i + 1))).filter (fun i => listed.getD i false) := by
        unfold sel
        rw [range_split his, List.filter_append, List.filter_cons, hset1, hf1, hf2]
        simp
      have hdst : dstOf ops i = o.dst := by unfold dstOf; rw [ho]; rfl
      have late : ∀ j ∈ (List.range' (i + 1) (ops.size - (i + 1))).filter (fun i => listed.getD i false), i < j ∧ j < ops.size ∧ ¬ Bef ops j i := by
        intro j hj
        simp only [List.mem_filter, List.mem_range'_1] at hj
        exact ⟨by omega, by omega, bef2 j hj.2⟩
      have eT : TS ops st T0 (sel ops.size (listed.setIfInBounds i true)) = setT (TS ops st T0 (sel ops.size listed)) o.dst (st i).val := by
        rw [hsel1, hsel2]
        simp only [TS, List.foldl_append, List.foldl_cons, hdst]
        refine TS_late st o.dst (st i).val _ _ fun j hj x hx hx' => ?_
        obtain ⟨l1, l2, l3⟩ := late j hj
        have hoj : ops[j]? = some ops[j] := Array.getElem?_eq_getElem l2
        unfold dstOf at hx'
        rw [hoj] at hx'
        exact l3 ((hord.temps i j o _ x ho hoj (by omega) hx' (.inr hx)).2 l1)
      have eG : GS st G0 (sel ops.size (listed.setIfInBounds i true)) = putsG (GS st G0 (sel ops.size listed)) (st i).ws := by
        rw [hsel1, hsel2]
        simp only [GS, List.foldl_append, List.foldl_cons]
        refine GS_late st (st i).ws _ _ fun j hj k hk hk' => ?_
        obtain ⟨l1, l2, l3⟩ := late j hj
        exact l3 (hord.heap i j k l1 l2 (.inl ⟨hk, .inr hk'⟩))
      refine ih (listed.setIfInBounds i true) μ' _ w' (by simp [hsz]) ?_ ?_ (by rw [eT]; exact (hT.mono g1).put _ g2) (by rw [eG]; exact g3) (LMap.le_trans hle g1) (hb.trans g4)
      · -- one less to come
        have hu1 : unl ops.size listed = (List.range i).filter (fun i => !listed.getD i false) ++ i :: (List.range' (i + 1) (ops.size - (i + 1))).filter (fun i => !listed.getD i false) := by
          unfold unl
          rw [range_split his, List.filter_append, List.filter_cons, hif]
          simp
        have hu2 : unl ops.size (listed.setIfInBounds i true) = (List.range i).filter (fun i => !listed.getD i false) ++ (List.range' (i + 1) (ops.size - (i + 1))).filter (fun i => !listed.getD i false) := by
          unfold unl
          rw [range_split his, List.filter_append, List.filter_cons, hset1]
          simp only [Bool.not_true, Bool.false_eq_true, if_false]
          congr 1
          · exact List.filter_congr fun j hj => by rw [hset j (by simp at hj; omega)]
          · exact List.filter_congr fun j hj => by rw [hset j (by simp [List.mem_range'_1] at hj; omega)]
        rw [hu1] at hu
        rw [hu2]
        simp at hu ⊢
        omega
      · intro j oj hoj hj e he hbe
        by_cases hji : j = i
        · subst hji
          rw [ho] at hoj; cases hoj
          exact getD_set_true (hedges e he hbe)
        · rw [hset j hji] at hj
          exact getD_set_true (hc j oj hoj hj e he hbe)
end
end Go.Abs
