/- Arguments that hold slices, opened: an abstract heap of objects that are only read. -/
import Derived.Test.YtgkknajopejleaaAbsS
import Derived.OpenShut
import Derived.ChangeArms
import Derived.Carry
namespace Go.Abs
open Go.RowKit (Below)
set_option linter.unusedVariables false

def flS (r : TypeId → Option (List TypeId)) (sz : TypeId → Nat) : Nat → List Field → Option (List TypeId)
  | _, [] => some []
  | off, f :: fs => match r f.type with
    | some ts => if f.offset = off ∧ ts.length = sz f.type then (flS r sz (off + ts.length) fs).map (ts ++ ·) else none
    | none => none
/-- The types of the cells of a value, for what is laid out one after the other. -/
def fl (P : Program) : Nat → TypeId → Option (List TypeId)
  | 0, _ => none
  | d + 1, t => match P.underlying t with
    | some (.struct fs) => match flS (fl P d) P.cellsOf 0 fs.toList with
      | some ts => if ts.length = P.cellsOf t then some ts else none
      | none => none
    | some (.array n e) => match fl P d e with
      | some ts => if ts.length = P.cellsOf e ∧ n * ts.length = P.cellsOf t then some (List.replicate n ts).flatten else none
      | none => none
    | some (.int _) => some [t]
    | some .bool => some [t]
    | some .string => some [t]
    | some (.slice _) => some [t]
    | _ => none

section
variable {H : Type} {enc : TypeId × Value → H} {P : Program} {w : World}
/-- A cell that can be read as of a type. -/
def Rd1 (enc : TypeId × Value → H) (P : Program) (w : World) (u : TypeId) (v : Value) : Prop := ∃ m y, DataW.trod enc P w 0 (fun _ => true) true m u [v] = some y

theorem rep_get {α : Type} (ts : List α) : ∀ (n i : Nat) (u : α), (List.replicate n ts).flatten[i]? = some u → ∃ q r, q < n ∧ i = q * ts.length + r ∧ r < ts.length ∧ ts[r]? = some u
  | 0, i, u, h => by simp at h
  | n + 1, i, u, h => by
    rw [List.replicate_succ, List.flatten_cons] at h
    by_cases hi : i < ts.length
    · rw [List.getElem?_append_left hi] at h
      exact ⟨0, i, by omega, by omega, hi, h⟩
    · rw [List.getElem?_append_right (by omega)] at h
      obtain ⟨q, r, h1, h2, h3, h4⟩ := rep_get ts n _ u h
      exact ⟨q + 1, r, by omega, by rw [Nat.succ_mul]; omega, h3, h4⟩

theorem flS_read {r : TypeId → Option (List TypeId)} {cs : List Value} (hr : ∀ (t : TypeId) (ts : List TypeId), r t = some ts → ∀ {fuel : Nat} {ds : List Value} {x}, DataW.trod enc P w 0 (fun _ => true) true fuel t ds = some x → ds.length = ts.length ∧ ∀ (i : Nat) (u : TypeId), ts[i]? = some u → ∃ v, ds[i]? = some v ∧ Rd1 enc P w u v) :
    ∀ (fs : List Field) (off : Nat) (ts : List TypeId), flS r P.cellsOf off fs = some ts → (∀ f ∈ fs, ∃ m y, DataW.trod enc P w 0 (fun _ => true) true m f.type ((cs.drop f.offset).take (P.cellsOf f.type)) = some y) →
      ∀ (i : Nat) (u : TypeId), ts[i]? = some u → ∃ v, cs[off + i]? = some v ∧ Rd1 enc P w u v
  | [], off, ts, h, _, i, u, hu => by simp [flS] at h; subst h; simp at hu
  | f :: fs, off, ts, h, hf, i, u, hu => by
    simp only [flS] at h
    split at h
    · rename_i us hus
      split at h
      · rename_i hc
        rw [Option.map_eq_some_iff] at h
        obtain ⟨rest, hrest, rfl⟩ := h
        obtain ⟨m, y, hy⟩ := hf f (by simp)
        have h1 := hr _ _ hus hy
        by_cases hi : i < us.length
        · rw [List.getElem?_append_left hi] at hu
          obtain ⟨v, hv, hR⟩ := h1.2 i u hu
          refine ⟨v, ?_, hR⟩
          rw [List.getElem?_take_of_lt (by omega), List.getElem?_drop, hc.1] at hv
          exact hv
        · rw [List.getElem?_append_right (by omega)] at hu
          obtain ⟨v, hv, hR⟩ := flS_read hr fs _ rest hrest (fun g hg => hf g (by simp [hg])) _ u hu
          refine ⟨v, ?_, hR⟩
          rw [← hv]
          congr 1
          omega
      · cases h
    · cases h

theorem trod_fl : ∀ (d : Nat) (t : TypeId) (ts : List TypeId), fl P d t = some ts → ∀ {fuel : Nat} {cs : List Value} {x}, DataW.trod enc P w 0 (fun _ => true) true fuel t cs = some x →
    cs.length = ts.length ∧ ∀ (i : Nat) (u : TypeId), ts[i]? = some u → ∃ v, cs[i]? = some v ∧ Rd1 enc P w u v
  | 0, t, ts, h, _, _, _, _ => by cases h
  | d + 1, t, ts, h, fuel, cs, x, hx => by
    have one : ∀ {v : Value}, ts = [t] → cs = [v] → cs.length = ts.length ∧ ∀ (i : Nat) (u : TypeId), ts[i]? = some u → ∃ v, cs[i]? = some v ∧ Rd1 enc P w u v := by
      rintro v rfl rfl
      refine ⟨rfl, fun i u hu => ?_⟩
      match i, hu with
      | 0, hu => simp at hu; subst hu; exact ⟨v, rfl, _, _, hx⟩
      | i + 1, hu => simp at hu
    simp only [fl] at h
    split at h
    · rename_i fs hut
      split at h
      · rename_i us hus
        split at h
        · rename_i hlen
          cases h
          obtain ⟨xs, n, rfl, rfl, hl, hn, hf⟩ := DataW.trod_struct hut hx
          refine ⟨by omega, fun i u hu => ?_⟩
          have := flS_read (cs := cs) (fun t ts h => trod_fl d t ts h) fs.toList 0 ts hus (fun f hfm => ?_) i u hu
          · simpa using this
          · obtain ⟨j, hj⟩ := List.getElem?_of_mem hfm
            have hj' : fs[j]? = some f := by simpa using hj
            have hlt : j < xs.length := by rw [hn]; exact (Array.getElem?_eq_some_iff.1 hj').1
            exact ⟨n, xs[j], (hf j f hj').trans (List.getElem?_eq_getElem hlt)⟩
        · cases h
      · cases h
    · rename_i n e hut
      split at h
      · rename_i us hus
        split at h
        · rename_i hlen
          cases h
          obtain ⟨xs, m, rfl, rfl, hl, hn, hf⟩ := DataW.trod_array hut hx
          refine ⟨by simp [hl, hlen.2], fun i u hu => ?_⟩
          obtain ⟨q, r, h1, rfl, h3, h4⟩ := rep_get us n i u hu
          have h5 := hf q h1
          rw [List.getElem?_eq_getElem (by omega)] at h5
          obtain ⟨v, hv, hR⟩ := (trod_fl d e us hus h5).2 r u h4
          refine ⟨v, ?_, hR⟩
          rw [List.getElem?_take_of_lt (by omega), List.getElem?_drop] at hv
          rw [hlen.1]
          exact hv
        · cases h
      · cases h
    · rename_i k hut
      obtain ⟨n, rfl, _⟩ := DataW.trod_int hut hx
      exact one (by simpa using h.symm) rfl
    · rename_i hut
      have : ∃ b, cs = [.bool b] := by
        cases fuel with
        | zero => simp [DataW.trod] at hx
        | succ n =>
          unfold DataW.trod at hx
          rw [hut] at hx
          split at hx <;> simp_all
      obtain ⟨b, rfl⟩ := this
      exact one (by simpa using h.symm) rfl
    · rename_i hut
      obtain ⟨s, rfl, _⟩ := DataW.trod_string hut hx
      exact one (by simpa using h.symm) rfl
    · rename_i e hut
      rcases DataW.trod_slice hut hx with ⟨rfl, _⟩ | ⟨a, len, cap, _, _, _, _, rfl, _⟩
      · exact one (by simpa using h.symm) rfl
      · exact one (by simpa using h.symm) rfl
    · cases h

/-- The types whose cells are opened: numbers, truth values, texts, slices of such. -/
def good (P : Program) : Nat → TypeId → Bool
  | 0, _ => false
  | d + 1, u => match P.underlying u with
    | some (.int _) => true
    | some .bool => true
    | some .string => true
    | some (.slice e) => match fl P 10 e with
      | some ts => decide (0 < ts.length) && decide (ts.length = P.cellsOf e) && ts.all (good P d)
      | none => false
    | _ => false

/-- A cell holds what its type says. -/
def OkC (P : Program) (G : Heap) : Nat → TypeId → Cell → Prop
  | 0, _, _ => False
  | d + 1, u, c => match P.underlying u with
    | some (.int k) => ∃ n, c = .int k n ∧ (Lit.int k n).wf = true
    | some .bool => ∃ b, c = .bool b
    | some .string => ∃ s : ByteArray, c = .str s ∧ s.size ≤ maxLen
    | some (.slice e) => c = .nils ∨ ∃ k len cells ts, c = .slice k 0 len (P.cellsOf e) ∧ G k = .live ⟨cells, false⟩ ∧ len ≤ maxLen ∧ fl P 10 e = some ts ∧ ts.length = P.cellsOf e ∧ cells.length = len * P.cellsOf e ∧
        ∀ i j x, i < len → ∀ u', ts[j]? = some u' → cells[i * P.cellsOf e + j]? = some x → OkC P G d u' x
    | _ => False

def HLe (G G' : Heap) : Prop := ∀ k o, G k = .live o → G' k = .live o
theorem HLe.refl (G : Heap) : HLe G G := fun _ _ h => h
theorem HLe.trans {A B C : Heap} (h : HLe A B) (h' : HLe B C) : HLe A C := fun k o e => h' k o (h k o e)

theorem OkC.mono {G G' : Heap} (h : HLe G G') : ∀ (d : Nat) (u : TypeId) (c : Cell), OkC P G d u c → OkC P G' d u c
  | 0, _, _, h0 => h0
  | d + 1, u, c, h0 => by
    simp only [OkC] at h0 ⊢
    split at h0
    · exact h0
    · exact h0
    · exact h0
    · rcases h0 with rfl | ⟨k, len, cells, ts, h1, h2, h3, h4, h5, h6, h7⟩
      · exact .inl rfl
      · exact .inr ⟨k, len, cells, ts, h1, h _ _ h2, h3, h4, h5, h6, fun i j x hi u' hu' hx => OkC.mono h d u' x (h7 i j x hi u' hu' hx)⟩
    · exact h0

theorem add_add (a : Addr) (m n : Nat) : (a.add m).add n = a.add (m + n) := by
  unfold Addr.add
  split <;> split <;> split <;> simp_all <;> omega

theorem cell_inv {a : Addr} {v : Value} (h : w.cell? a = some v) : ∃ c elem fz, w.heap[a.block]? = some (.cells c elem fz) ∧ a.spot = none ∧ c[a.off]? = some v := by
  unfold World.cell? at h
  split at h
  · rename_i c elem fz hb
    split at h
    · cases h
    · rename_i hs
      exact ⟨c, elem, fz, hb, by simpa using hs, h⟩
  · cases h
theorem cell_add {a : Addr} {q : Nat} {v : Value} (hs : a.spot = none) (h : w.cell? (a.add q) = some v) : ∃ c elem fz, w.heap[a.block]? = some (.cells c elem fz) ∧ c[a.off + q]? = some v := by
  obtain ⟨c, elem, fz, h1, h2, h3⟩ := cell_inv h
  unfold Addr.add at h1 h3
  split at h1
  · subst_vars; exact ⟨c, elem, fz, h1, by simpa using h3⟩
  · rename_i hq
    rw [if_neg hq] at h3
    exact ⟨c, elem, fz, h1, h3⟩

/-- What opening gives. -/
def Opened (P : Program) (w : World) (μ : LMap) (G : Heap) (Q : LMap → Heap → Prop) : Prop :=
  ∃ μ' G', μ.le μ' ∧ HLe G G' ∧ Rel w.heap.size μ' G' w ∧ (∃ M, ∀ k, M ≤ k → G' k = .free) ∧ Q μ' G'

theorem openMany {d : Nat} (hone : ∀ u v, good P d u = true → Rd1 enc P w u v → ∀ μ G, Rel w.heap.size μ G w → (∃ M, ∀ k, M ≤ k → G k = .free) → Opened P w μ G fun μ' G' => ∃ x, OkC P G' d u x ∧ RepC μ' x v) :
    ∀ (us : List TypeId) (vs : List Value), us.length = vs.length → (∀ (i : Nat) (u : TypeId) (v : Value), us[i]? = some u → vs[i]? = some v → good P d u = true ∧ Rd1 enc P w u v) → ∀ μ G, Rel w.heap.size μ G w → (∃ M, ∀ k, M ≤ k → G k = .free) →
      Opened P w μ G fun μ' G' => ∃ xs : List Cell, xs.length = us.length ∧ (∀ (i : Nat) (u : TypeId) (x : Cell), us[i]? = some u → xs[i]? = some x → OkC P G' d u x) ∧ RepCs μ' xs vs
  | [], [], _, _, μ, G, hR, hM => ⟨μ, G, LMap.le_refl μ, HLe.refl G, hR, hM, [], rfl, by simp, trivial⟩
  | u :: us, v :: vs, hl, h, μ, G, hR, hM => by
    have h0 := h 0 u v rfl rfl
    obtain ⟨μ1, G1, l1, g1, R1, M1, x, o1, p1⟩ := hone u v h0.1 h0.2 μ G hR hM
    obtain ⟨μ2, G2, l2, g2, R2, M2, xs, o2, o3, p2⟩ := openMany hone us vs (by simpa using hl) (fun i u v hu hv => h (i + 1) u v (by simpa using hu) (by simpa using hv)) μ1 G1 R1 M1
    refine ⟨μ2, G2, LMap.le_trans l1 l2, g1.trans g2, R2, M2, x :: xs, by simp [o2], ?_, p1.mono l2, p2⟩
    intro i u' x' hu hx
    match i, hu, hx with
    | 0, hu, hx => simp at hu hx; subst hu; subst hx; exact OkC.mono g2 _ _ _ o1
    | i + 1, hu, hx => exact o3 i u' x' (by simpa using hu) (by simpa using hx)
  | [], _ :: _, h, _, _, _, _, _ => by simp at h
  | _ :: _, [], h, _, _, _, _, _ => by simp at h

/-- One object more that is only read. -/
theorem Rel.read {B : Nat} {μ : LMap} {A : Heap} {w : World} (h : Rel B μ A w) {k : Nat} (hk : A k = .free) {l : Loc} {cells : List Cell} (ho : ObjAt μ B w l ⟨cells, false⟩) : Rel B (upd μ k (some l)) (upd A k (.live ⟨cells, false⟩)) w := by
  have hμ := h.free k hk
  have hle := LMap.le_upd (l := l) hμ
  refine ⟨fun j hj => ?_, fun j o hj => ?_, fun j j' o o' l1 l2 hj hj' e1 e2 h1 h2 r1 r2 hne => ?_, h.size⟩
  · by_cases e : j = k
    · subst e; simp at hj
    · rw [upd_ne _ _ e] at hj ⊢; exact h.free j hj
  · by_cases e : j = k
    · subst e
      simp at hj
      subst hj
      exact ⟨l, by simp, ho.mono hle (fun _ => rfl)⟩
    · rw [upd_ne _ _ e] at hj ⊢
      obtain ⟨l', h1, h2⟩ := h.obj j o hj
      exact ⟨l', h1, h2.mono hle (fun _ => rfl)⟩
  · by_cases e : j = k
    · subst e; simp at hj; subst hj; cases e1
    · by_cases e' : j' = k
      · subst e'; simp at hj'; subst hj'; cases e2
      · rw [upd_ne _ _ e] at hj h1
        rw [upd_ne _ _ e'] at hj' h2
        exact h.inj j j' o o' l1 l2 hj hj' e1 e2 h1 h2 r1 r2 hne
theorem HLe_upd {A : Heap} {k : Nat} {s : Slot} (hk : A k = .free) : HLe A (upd A k s) := by
  intro j o hj
  by_cases e : j = k
  · subst e; rw [hk] at hj; cases hj
  · rw [upd_ne _ _ e]; exact hj

theorem open1 : ∀ (d : Nat) (u : TypeId) (v : Value), good P d u = true → Rd1 enc P w u v → ∀ μ G, Rel w.heap.size μ G w → (∃ M, ∀ k, M ≤ k → G k = .free) → Opened P w μ G fun μ' G' => ∃ x, OkC P G' d u x ∧ RepC μ' x v
  | 0, _, _, h, _, _, _, _, _ => by cases h
  | d + 1, u, v, hg, ⟨m, y, hy⟩, μ, G, hR, hM => by
    have stay : ∀ x, OkC P G (d + 1) u x → RepC μ x v → Opened P w μ G fun μ' G' => ∃ x, OkC P G' (d + 1) u x ∧ RepC μ' x v := fun x h1 h2 => ⟨μ, G, LMap.le_refl μ, HLe.refl G, hR, hM, x, h1, h2⟩
    simp only [good] at hg
    split at hg
    · rename_i k hu
      obtain ⟨n, hn, _, hw⟩ := DataW.trod_int hu hy
      simp at hn; subst hn
      exact stay (.int k n) (by simp only [OkC, hu]; exact ⟨n, rfl, hw⟩) rfl
    · rename_i hu
      have : ∃ b, v = .bool b := by
        cases m with
        | zero => simp [DataW.trod] at hy
        | succ n =>
          unfold DataW.trod at hy
          rw [hu] at hy
          split at hy <;> simp_all
      obtain ⟨b, rfl⟩ := this
      exact stay (.bool b) (by simp only [OkC, hu]; exact ⟨b, rfl⟩) rfl
    · rename_i hu
      obtain ⟨s, hs, _, hw⟩ := DataW.trod_string hu hy
      simp at hs; subst hs
      exact stay (.str s) (by simp only [OkC, hu]; exact ⟨s, rfl, hw⟩) rfl
    · rename_i e hu
      split at hg
      · rename_i ts hts
        simp only [Bool.and_eq_true, decide_eq_true_eq] at hg
        obtain ⟨⟨h0, hc⟩, hall⟩ := hg
        rcases DataW.trod_slice hu hy with ⟨hv, _⟩ | ⟨a, len, cap, elems, rest, n, _, hv, _, _, hle, hmax, hlen, hel, hsp, _⟩
        · simp at hv; subst hv
          exact stay .nils (by simp only [OkC, hu]; exact .inl trivial) rfl
        · simp at hv; subst hv
          have hsp := hsp rfl
          -- each place can be read
          have each : ∀ i, i < cap → ∀ j u', ts[j]? = some u' → ∃ v', w.cell? (a.add (i * P.cellsOf e + j)) = some v' ∧ Rd1 enc P w u' v' := by
            intro i hi j u' hu'
            have hb : ∃ y, (w.cells? 0 (a.add (i * P.cellsOf e)) (P.cellsOf e)).bind (DataW.trod enc P w 0 (fun _ => true) true n e) = some y := by
              by_cases hi' : i < len
              · exact ⟨elems[i], by rw [hel i hi', List.getElem?_eq_getElem]⟩
              · have := hsp.2 (i - len) (by omega)
                rw [show len + (i - len) = i by omega] at this
                exact ⟨rest[i - len]'(by omega), by rw [this, List.getElem?_eq_getElem]⟩
            obtain ⟨y', hy'⟩ := hb
            rw [Option.bind_eq_some_iff] at hy'
            obtain ⟨cs', hcs, ht⟩ := hy'
            obtain ⟨v', hv', hR'⟩ := (trod_fl 10 e ts hts ht).2 j u' hu'
            have hj : j < P.cellsOf e := by rw [← hc]; exact (List.getElem?_eq_some_iff.1 hu').1
            refine ⟨v', ?_, hR'⟩
            rw [← add_add, (World.cells?_some hcs).2.2 j hj, hv']
          obtain ⟨M, hM'⟩ := hM
          have hfree := hM' M (Nat.le_refl _)
          by_cases hcap : cap = 0
          · have hl0 : len = 0 := by omega
            subst hcap; subst hl0
            refine ⟨_, _, LMap.le_upd (hR.free _ hfree), HLe_upd hfree, hR.read hfree (l := ⟨0, 0, 0, false⟩) (cells := []) (by simp [ObjAt]), ⟨M + 1, fun k hk => by rw [upd_ne _ _ (by omega)]; exact hM' k (by omega)⟩, .slice M 0 0 (P.cellsOf e), ?_, ?_⟩
            · simp only [OkC, hu]
              exact .inr ⟨M, 0, [], ts, rfl, by simp, Nat.zero_le _, hts, hc, by simp, fun i _ _ hi => by omega⟩
            · exact ⟨⟨0, 0, 0, false⟩, some a, 0, by simp, rfl, Nat.le_refl _, .inl ⟨rfl, rfl⟩⟩
          · -- the block
            have hfirst := each 0 (by omega) 0 ts[0] (List.getElem?_eq_getElem h0)
            obtain ⟨v0, hv0, _⟩ := hfirst
            have hv0' : w.cell? a = some v0 := by simpa [Addr.add] using hv0
            obtain ⟨c, elem, fz, hblk, hspot, _⟩ := cell_inv hv0'
            have hcell : ∀ i, i < cap → ∀ j u', ts[j]? = some u' → ∃ v', c[a.off + (i * P.cellsOf e + j)]? = some v' ∧ Rd1 enc P w u' v' := by
              intro i hi j u' hu'
              obtain ⟨v', h1, h2⟩ := each i hi j u' hu'
              obtain ⟨c', _, _, h3, h4⟩ := cell_add hspot h1
              rw [hblk] at h3
              cases h3
              exact ⟨v', h4, h2⟩
            have hbound : a.off + cap * P.cellsOf e ≤ c.size := by
              obtain ⟨v', h1, _⟩ := hcell (cap - 1) (by omega) (ts.length - 1) (ts[ts.length - 1]'(by omega)) (List.getElem?_eq_getElem _)
              have := (Array.getElem?_eq_some_iff.1 h1).1
              have e1 : cap * P.cellsOf e = (cap - 1) * P.cellsOf e + P.cellsOf e := by
                rw [← Nat.succ_mul]; congr 1; omega
              omega
            have hblt : a.block < w.heap.size := (Array.getElem?_eq_some_iff.1 hblk).1
            -- the elements' cells
            have hpos : 0 < P.cellsOf e := by omega
            have hq : ∀ q, q < len * P.cellsOf e → ∃ u' v', (List.replicate len ts).flatten[q]? = some u' ∧ c[a.off + q]? = some v' ∧ Rd1 enc P w u' v' ∧ good P d u' = true := by
              intro q hq
              have hlt : q < (List.replicate len ts).flatten.length := by simp [hc]; exact hq
              obtain ⟨i, j, h1, h2, h3, h4⟩ := rep_get ts len q _ (List.getElem?_eq_getElem hlt)
              obtain ⟨v', h5, h6⟩ := hcell i (by omega) j _ h4
              refine ⟨_, v', List.getElem?_eq_getElem hlt, by rw [h2, hc]; exact h5, h6, ?_⟩
              exact List.all_eq_true.1 hall _ (List.mem_of_getElem? h4)
            have hsize : a.off + len * P.cellsOf e ≤ c.size := Nat.le_trans (Nat.add_le_add_left (Nat.mul_le_mul_right _ hle) _) hbound
            let vs := (c.toList.drop a.off).take (len * P.cellsOf e)
            have hvs : ∀ q, q < len * P.cellsOf e → vs[q]? = c[a.off + q]? := by
              intro q hq
              simp only [vs]
              rw [List.getElem?_take_of_lt hq, List.getElem?_drop, Array.getElem?_toList]
            have hvl : vs.length = len * P.cellsOf e := by simp only [vs, List.length_take, List.length_drop, Array.length_toList]; omega
            obtain ⟨μ1, G1, l1, g1, R1, ⟨M1, hM1⟩, xs, o1, o2, p1⟩ := openMany (open1 d) (List.replicate len ts).flatten vs (by simp [hvl, hc]) (fun i u' v' hu' hv' => by
              have hi : i < len * P.cellsOf e := by rw [← hvl]; exact (List.getElem?_eq_some_iff.1 hv').1
              obtain ⟨u2, v2, h1, h2, h3, h4⟩ := hq i hi
              rw [hu'] at h1; cases h1
              rw [hvs i hi, h2] at hv'; cases hv'
              exact ⟨h4, h3⟩) μ G hR ⟨M, hM'⟩
            have hxl : xs.length = len * P.cellsOf e := by rw [o1]; simp [hc]
            have hfree1 := hM1 M1 (Nat.le_refl _)
            refine ⟨_, _, LMap.le_trans l1 (LMap.le_upd (R1.free _ hfree1)), g1.trans (HLe_upd hfree1), R1.read hfree1 (l := ⟨a.block, a.off, c.size, true⟩) (cells := xs) ?_, ⟨M1 + 1, fun k hk => by rw [upd_ne _ _ (by omega)]; exact hM1 k (by omega)⟩, .slice M1 0 len (P.cellsOf e), ?_, ?_⟩
            · simp only [ObjAt, if_true]
              refine ⟨c, elem, fz, hblk, rfl, fun j x hx => ?_, by simpa using hblt⟩
              obtain ⟨v', h1, h2⟩ := p1.get j x hx
              have hj : j < len * P.cellsOf e := by rw [← hvl]; exact (List.getElem?_eq_some_iff.1 h1).1
              exact ⟨v', by rw [← hvs j hj]; exact h1, h2⟩
            · simp only [OkC, hu]
              refine .inr ⟨M1, len, xs, ts, rfl, by simp, by omega, hts, hc, hxl, fun i j x hi u' hu' hx => ?_⟩
              refine OkC.mono (HLe_upd hfree1) _ _ _ (o2 (i * P.cellsOf e + j) u' x ?_ hx)
              have hj : j < ts.length := (List.getElem?_eq_some_iff.1 hu').1
              have hlt : i * P.cellsOf e + j < (List.replicate len ts).flatten.length := by
                simp
                have := Nat.mul_le_mul_right (P.cellsOf e) (Nat.succ_le_of_lt hi)
                rw [Nat.succ_mul] at this
                rw [hc]; omega
              obtain ⟨q, r, h1, h2, h3, h4⟩ := rep_get ts len _ _ (List.getElem?_eq_getElem hlt)
              have : q = i ∧ r = j := by
                rw [hc] at h2 h3
                have e1 : (i * P.cellsOf e + j) / P.cellsOf e = i := by rw [Nat.mul_comm, Nat.mul_add_div hpos, Nat.div_eq_of_lt (by omega)]; omega
                have e2 : (q * P.cellsOf e + r) / P.cellsOf e = q := by rw [Nat.mul_comm, Nat.mul_add_div hpos, Nat.div_eq_of_lt (by omega)]; omega
                have : i = q := by rw [← e1, h2, e2]
                subst this; omega
              rw [List.getElem?_eq_getElem hlt, ← h4, this.2, hu']
            · exact ⟨⟨a.block, a.off, c.size, true⟩, some a, cap, by simp, rfl, hle, .inr ⟨a.off, by cases a; simp at hspot; subst hspot; rfl, rfl, hbound, .inr (by simp)⟩⟩
      · cases hg
    · cases hg
end
end Go.Abs
