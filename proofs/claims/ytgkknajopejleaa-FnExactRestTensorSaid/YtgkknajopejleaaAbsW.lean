/- A loop round by round; new slots forgotten at a round's end. -/
import Derived.Test.YtgkknajopejleaaAbsV
import Derived.LoopN
namespace Go.Abs
open Go.RowKit (Below)
set_option linter.unusedVariables false
section
variable {P : Program}
def rndK (R : List AV → AHeap → Prop) (K : Exit → List AV → AHeap → Prop) : Exit → List AV → AHeap → Prop
  | .normal, T, h => R T h
  | e, T, h => K e T h
def sRounds (P : Program) (x : SCode) (K : Exit → List AV → AHeap → Prop) : Nat → List AV → AHeap → Prop
  | 0, _, _ => False
  | n + 1, T, h => SWP P x (rndK (sRounds P x K n) K) T h
theorem rndK_exit {R : List AV → AHeap → Prop} {K : Exit → List AV → AHeap → Prop} {id : Nat} {T : List AV} {h : AHeap} (hy : K (.exit id) T h) : rndK R K (.exit id) T h := hy
theorem rndK_ret {R : List AV → AHeap → Prop} {K : Exit → List AV → AHeap → Prop} {T : List AV} {h : AHeap} (hy : K .ret T h) : rndK R K .ret T h := hy
theorem rndK_normal {x : SCode} {K : Exit → List AV → AHeap → Prop} {n : Nat} {T : List AV} {h : AHeap} (hy : SWP P x (rndK (sRounds P x K n) K) T h) : rndK (sRounds P x K (n + 1)) K .normal T h := hy
theorem swp_rounds {x : SCode} {K : Exit → List AV → AHeap → Prop} {T : List AV} {h : AHeap} (n : Nat) (hx : SWP P x (rndK (sRounds P x K n) K) T h) : SWP P (.loop x) K T h := by
  intro c hl
  obtain ⟨a, rfl, h1⟩ := lower_loop hl
  have key : ∀ (n : Nat) (T : List AV) (h : AHeap), sRounds P x K n T h → ∀ (B : Nat) (μ0 μ : LMap) (b : Act) (w0 w : World), μ0.le μ → RepT μ T b → Rel B μ h.get w → Below B w0 w →
      Code.rounds P a (fun e a' w' => ∃ μ' T' h', K e T' h' ∧ μ0.le μ' ∧ RepT μ' T' a' ∧ Rel B μ' h'.get w' ∧ Below B w0 w') n b w := by
    intro n
    induction n with
    | zero => intro T h hs; exact hs.elim
    | succ n ih =>
      intro T h hs B μ0 μ b w0 w hle ht hr hb
      rw [rounds_succ]
      refine wp_mono (hs a h1 B μ b w ht hr) ?_
      rintro e a' w' ⟨μ', T', h', g1, g2, g3, g4, g5⟩
      cases e with
      | normal => exact ih T' h' g1 B μ0 μ' a' w0 w' (LMap.le_trans hle g2) g3 g4 (hb.trans g5)
      | _ => exact ⟨μ', T', h', g1, LMap.le_trans hle g2, g3, g4, hb.trans g5⟩
  intro B μ b w ht hr
  exact wp_loop_rounds (n + 1) (key (n + 1) T h hx B μ μ b w w (LMap.le_refl _) ht hr (Below.refl _ _))

def okSl (N m : Nat) : Slot → Prop
  | .dead => True
  | .live o => ∀ c ∈ o.cells, ltIds (nid N m) c
  | .free => False
def okV (N m : Nat) : AV → Prop
  | .c x => ltIds (nid N m) x
  | .agg xs => ∀ x ∈ xs, ltIds (nid N m) x
  | _ => False
def TDrop (N m : Nat) : List AV → List AV → Prop
  | [], [] => True
  | a :: as, b :: bs => (b = .any ∨ (b = a ∧ okV N m a)) ∧ TDrop N m as bs
  | _, _ => False
@[go_sem] theorem consF_rw {i : Nat} {rs : List (Nat × AObj)} {w : Nat × Slot} {ws : List (Nat × Slot)} {F : Foot} : consF i rs (w :: ws) F = (i, rs.map (·.1), w.1 :: ws.map (·.1)) :: F := by cases rs <;> rfl
theorem gdk1 {L L' : List Slot} (h0 : gd L 0 = gd L' 0) : ∀ j, j < 1 → gd L j = gd L' j
  | 0, _ => h0
  | j + 1, h => by omega
theorem gdk2 {L L' : List Slot} (h0 : gd L 0 = gd L' 0) (h1 : gd L 1 = gd L' 1) : ∀ j, j < 2 → gd L j = gd L' j
  | 0, _ => h0
  | 1, _ => h1
  | j + 2, h => by omega
theorem gdk3 {L L' : List Slot} (h0 : gd L 0 = gd L' 0) (h1 : gd L 1 = gd L' 1) (h2 : gd L 2 = gd L' 2) : ∀ j, j < 3 → gd L j = gd L' j
  | 0, _ => h0
  | 1, _ => h1
  | 2, _ => h2
  | j + 3, h => by omega
theorem okSl_flat {N m : Nat} {cs : List Cell} {own : Bool} (h : flat cs) : okSl N m (.live ⟨cs, own⟩) := fun c hc i hi => by rw [h c hc] at hi; cases hi
theorem okV_flat {N m : Nat} {cs : List Cell} (h : flat cs) : okV N m (.agg cs) := fun c hc i hi => by rw [h c hc] at hi; cases hi
theorem okV_new {N m j off : Nat} (h : j < m) : okV N m (.c (.ptr (nid N j) off)) := fun i hi => by simp [Cell.ids] at hi; subst hi; unfold nid; omega
theorem okV_int {N m : Nat} {k : IntKind} {n : Int} : okV N m (.c (.int k n)) := fun i hi => by simp [Cell.ids] at hi
theorem okV_bool {N m : Nat} {b : Bool} : okV N m (.c (.bool b)) := fun i hi => by simp [Cell.ids] at hi
theorem okV_nils {N m : Nat} : okV N m (.c .nils) := fun i hi => by simp [Cell.ids] at hi
theorem okV_sl {N m k off len es : Nat} (h : k < nid N m) : okV N m (.c (.slice k off len es)) := fun i hi => by simp [Cell.ids] at hi; subst hi; exact h
theorem renS_range {N m k : Nat} (h : k < nid N m) : renS N (List.range m) k = k := by
  unfold renS
  split
  · rfl
  · unfold nid at h ⊢
    rw [List.getD_eq_getElem?_getD, List.getElem?_range (by omega)]
    simp; omega
theorem mapIds_same {σ : Nat → Nat} {c : Cell} (h : ∀ i ∈ c.ids, σ i = i) : c.mapIds σ = c := by
  cases c <;> simp_all [Cell.mapIds, Cell.ids]
  case fn f caps =>
    conv => rhs; rw [← List.map_id caps]
    exact List.map_congr_left fun q hq => by
      have := h q.1 q.2 hq
      simp [this]
theorem forK_drop {σ : Type} {S : σ → List AV} {H : σ → AHeap} {mea : σ → Nat} {Inv : σ → Prop} {K : Exit → List AV → AHeap → Prop} {T : List AV} {A : Heap} {N : Nat} {L L' L'' : List Slot} {s : σ} (s' : σ) (m : Nat) (h1 : mea s' < mea s) (h2 : Inv s') (h3 : H s' = ⟨A, N, L''⟩)
    (hm : L''.length = m) (hL : L.length ≤ m) (hg : ∀ j, j < m → gd L' j = gd L'' j) (hc : ∀ t ∈ L'', okSl N m t) (hT : TDrop N m T (S s')) : forK S H mea Inv ⟨A, N, L⟩ s K .normal T ⟨A, N, L'⟩ := by
  refine forK_ren s' (List.range m) h1 h2 h3 (fun j hj => List.getElem?_range (by omega)) List.nodup_range (fun k _ => .inl rfl) ?_ ?_
  · have idc : ∀ c : Cell, ltIds (nid N m) c → RenC N (List.range m) c = c := fun c hcl => mapIds_same fun i hi => renS_range (hcl i hi)
    have gen : ∀ (p : List Nat) (M : List Slot), p.length = M.length → (∀ (j : Nat) (x : Nat) (t : Slot), p[j]? = some x → M[j]? = some t → gd L' x = t ∧ okSl N m t) → RenL N (List.range m) L' p M := by
      intro p
      induction p with
      | nil => intro M hl _; cases M with
        | nil => trivial
        | cons => simp at hl
      | cons x p ih =>
        intro M hl hall
        cases M with
        | nil => simp at hl
        | cons t M =>
          refine ⟨?_, ih M (by simpa using hl) fun j y u hy hu => hall (j + 1) y u (by simpa using hy) (by simpa using hu)⟩
          obtain ⟨e, ho⟩ := hall 0 x t rfl rfl
          rw [e]
          cases t with
          | free => exact ho.elim
          | dead => trivial
          | live o =>
            refine ⟨?_, by rw [List.length_range]; exact ho⟩
            have : o.cells.map (RenC N (List.range m)) = o.cells := by
              conv => rhs; rw [← List.map_id o.cells]
              exact List.map_congr_left fun c hc' => idc c (ho c hc')
            rw [this]
    refine gen _ _ (by simp [hm]) fun j x t hx ht => ?_
    have hj : j < m := by rw [← hm]; exact (List.getElem?_eq_some_iff.1 ht).1
    rw [List.getElem?_range hj] at hx
    cases hx
    refine ⟨?_, hc t (List.mem_of_getElem? ht)⟩
    rw [hg _ hj, gd_eq, List.getD_eq_getElem?_getD, ht]; rfl
  · generalize S s' = T2 at hT
    induction T generalizing T2 with
    | nil => cases T2 with
      | nil => trivial
      | cons => exact hT.elim
    | cons a T ih =>
      cases T2 with
      | nil => exact hT.elim
      | cons b T2 =>
        refine ⟨?_, ih T2 hT.2⟩
        rcases hT.1 with rfl | ⟨rfl, ho⟩
        · cases a <;> trivial
        · cases b with
          | c x => exact ⟨(mapIds_same fun i hi => renS_range (ho i hi)).symm, by rw [List.length_range]; exact ho⟩
          | agg xs =>
            refine ⟨?_, by rw [List.length_range]; exact ho⟩
            conv => lhs; rw [← List.map_id xs]
            exact List.map_congr_left fun c hc' => (mapIds_same fun i hi => renS_range (ho c hc' i hi)).symm
          | tup => exact ho.elim
          | any => exact ho.elim
end
end Go.Abs
