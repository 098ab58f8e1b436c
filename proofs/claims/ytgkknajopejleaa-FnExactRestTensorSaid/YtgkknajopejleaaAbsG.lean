/- Parts of slices; all operations together. -/
import Derived.Test.YtgkknajopejleaaAbsF
namespace Go.Abs
open Go.RowKit (Below)

section
variable {P : Program} {o : Oper} {ρ : Operand → AV} {h : AHeap} {K : Kont}

theorem run_bound {w : World} {k : IntKind} {i : Int} {y : Nat} {code : BoundsCode} (h0 : 0 ≤ i) (h1 : i ≤ y) : (Instr.sliceBound (.int k i) y code).run P w = .ok i.toNat w := by
  simp [Instr.sliceBound, asIntOf, h0, h1]

theorem opt_rep {μ : LMap} {a : Act} {x : Option Operand} {k : IntKind} {i : Int} {d : AV} (hops : ∀ y ∈ x, RepV μ (ρ y) (a.eval y)) (h : (x.map ρ).getD d = .c (.int k i)) : (∃ y, x = some y ∧ a.eval y = .int k i) ∨ (x = none ∧ d = .c (.int k i)) := by
  cases x with
  | none => exact .inr ⟨rfl, h⟩
  | some y =>
    refine .inl ⟨y, rfl, ?_⟩
    have := hops y rfl
    simp only [Option.map_some, Option.getD_some] at h
    rw [h] at this
    exact this.c_inv

theorem snd_slice {t : TypeId} {x : Operand} {lo hi mx : Option Operand} (ho : o.op = .slice t x lo hi mx) (hk : sliceE P t (ρ x) (lo.map ρ) (hi.map ρ) (mx.map ρ) h K) : Snd P o ρ h K := by
  obtain ⟨ti, ht, hk⟩ := hk
  obtain ⟨_, _, _, _, _, _, _, _, _, _, hkd'⟩ := tyOf_spec ht
  have hox : x ∈ o.op.operands := by simp [ho, Op.operands]
  have holo : ∀ y ∈ lo, y ∈ o.op.operands := by intro y hy; cases hy; simp [ho, Op.operands]
  have hohi : ∀ y ∈ hi, y ∈ o.op.operands := by intro y hy; cases hy; simp [ho, Op.operands]
  have homx : ∀ y ∈ mx, y ∈ o.op.operands := by intro y hy; cases hy; simp [ho, Op.operands]
  have hex : ∀ (a : Act) (w : World) (e : TypeId), P.underlying t = some (.slice e) → (execOp a.eval o).run P w = ((Instr.slice t (a.eval x) (lo.map a.eval) (hi.map a.eval) (mx.map a.eval)).run P w).andThen fun v w' => .ok (.value v) w' := by
    intro a w e hu
    simp [execOp, ho, Instr.sliceAt, run_underlying hu]
  split at hk
  · -- a part of a slice
    rename_i es eb ez k off len es2 hkd hx hmx
    obtain ⟨rfl, kl, kh, l, r, hl, hr, h0, h1, h2, hK⟩ := hk
    have hmx' : mx = none := by cases mx <;> simp_all
    subst hmx'
    rw [hkd'] at hkd
    obtain ⟨e, ie, z, hu, hie, hes, _⟩ := kind_slice hkd
    refine Snd.pure hK fun μ w a hops => ?_
    have hv := hops x hox
    rw [hx] at hv
    obtain ⟨lc, p, cap, hlc, he, hcap, hcase⟩ := hv.c_inv
    obtain ⟨l', rfl⟩ := Int.eq_ofNat_of_zero_le h0
    obtain ⟨r', rfl⟩ := Int.eq_ofNat_of_zero_le (Int.le_trans h0 h1)
    have hlo : ∀ (y : Nat) (code : BoundsCode), l' ≤ y → ((match lo.map a.eval with | some v => Instr.sliceBound v y code | none => pure 0) : Sem Nat).run P w = .ok l' w := by
      intro y code hy
      rcases opt_rep (fun y hy => hops y (holo y hy)) hl with ⟨q, rfl, hq⟩ | ⟨rfl, hq⟩
      · simp only [Option.map_some, hq]
        have := run_bound (P := P) (w := w) (k := kl) (i := (l' : Int)) (y := y) (code := code) (by omega) (by omega)
        simpa using this
      · simp only [AV.c.injEq, Cell.int.injEq] at hq
        have : l' = 0 := by omega
        subst this; rfl
    have hhi : ((match hi.map a.eval with | some v => Instr.sliceBound v cap .sliceAcap | none => pure len) : Sem Nat).run P w = .ok r' w := by
      rcases opt_rep (fun y hy => hops y (hohi y hy)) hr with ⟨q, rfl, hq⟩ | ⟨rfl, hq⟩
      · simp only [Option.map_some, hq]
        have := run_bound (P := P) (w := w) (k := kh) (i := (r' : Int)) (y := cap) (code := .sliceAcap) (by omega) (by omega)
        simpa using this
      · simp only [AV.c.injEq, Cell.int.injEq] at hq
        have : len = r' := by omega
        subst this; rfl
    have hb : (Instr.sliceBounds true len cap (lo.map a.eval) (hi.map a.eval) none).run P w = .ok (l', r', cap) w := by
      have h3 := hlo r' .sliceB (by omega)
      cases hhi' : hi.map a.eval with
      | none =>
        rw [hhi'] at hhi
        simp only [Sem.run_pure] at hhi
        have hlr : len = r' := by injection hhi
        subst hlr
        cases hlo2 : lo.map a.eval with
        | none =>
          rw [hlo2] at h3
          simp only [Sem.run_pure] at h3
          have : 0 = l' := by injection h3
          subst this
          simp [Instr.sliceBounds]
        | some v2 =>
          rw [hlo2] at h3
          simp only at h3
          simp [Instr.sliceBounds, h3]
      | some v =>
        rw [hhi'] at hhi
        simp only at hhi
        cases hlo2 : lo.map a.eval with
        | none =>
          rw [hlo2] at h3
          simp only [Sem.run_pure] at h3
          have : 0 = l' := by injection h3
          subst this
          simp [Instr.sliceBounds, hhi]
        | some v2 =>
          rw [hlo2] at h3
          simp only at h3
          simp [Instr.sliceBounds, hhi, h3]
    have hsl : (execOp a.eval o).run P w = .ok (.value (.slice (if cap = l' then p else p.map (·.add (l' * es2))) (r' - l') (cap - l'))) w := by
      rw [hex a w e hu, he]
      simp [Instr.slice, run_underlying hu, hb, sizeOf, typeInfo, hie, hes]
    have ht : ((r' : Int) - (l' : Int)).toNat = r' - l' := by omega
    refine ⟨_, hsl, .c ⟨lc, if cap = l' then p else p.map (·.add (l' * es2)), cap - l', hlc, by rw [ht], by rw [ht]; omega, ?_⟩⟩
    rw [ht]
    rcases hcase with ⟨hl0, hc0⟩ | ⟨y, rfl, hreal, hfit, hy⟩
    · exact .inl ⟨by omega, by omega⟩
    · by_cases hcl : cap = l'
      · subst hcl
        exact .inr ⟨y, by simp, hreal, by simp; omega, .inl (by omega)⟩
      · refine .inr ⟨y + l' * es2, by simp [hcl, Addr.add_lit], hreal, ?_, ?_⟩
        · have : l' * es2 + (cap - l') * es2 = cap * es2 := by rw [← Nat.add_mul]; congr 1; omega
          omega
        · rcases hy with h4 | h4
          · left; omega
          · right; simp; omega
  · -- of nil
    rename_i es eb ez hkd hx hmx
    obtain ⟨kl, kh, hl, hr, hK⟩ := hk
    have hmx' : mx = none := by cases mx <;> simp_all
    subst hmx'
    rw [hkd'] at hkd
    obtain ⟨e, ie, z, hu, hie, hes, _⟩ := kind_slice hkd
    refine Snd.pure hK fun μ w a hops => ?_
    have hv := hops x hox
    rw [hx] at hv
    have he : a.eval x = .slice none 0 0 := hv.c_inv
    refine ⟨.slice none 0 0, ?_, .c rfl⟩
    rw [hex a w e hu, he]
    rcases opt_rep (fun y hy => hops y (holo y hy)) hl with ⟨q, rfl, hq⟩ | ⟨rfl, hq⟩ <;> rcases opt_rep (fun y hy => hops y (hohi y hy)) hr with ⟨q', rfl, hq'⟩ | ⟨rfl, hq'⟩ <;>
      simp [Instr.slice, run_underlying hu, Instr.sliceBounds, Instr.sliceBound, asIntOf, sizeOf, typeInfo, *]
  · -- s[:0:0]
    rename_i es eb ez k off len es2 kk hkd hx hmx
    obtain ⟨rfl, hl, hr, hK⟩ := hk
    rw [hkd'] at hkd
    obtain ⟨e, ie, z, hu, hie, hes, _⟩ := kind_slice hkd
    refine ⟨_, [], [(h.nxt, .live ⟨[], true⟩)], ?_, by simp, fun p hp => by simp at hp; subst hp; exact .inr h.get_nxt, hK⟩
    intro B μ G w a next Q hR _ _ hw hops hn
    have hfree : G h.nxt = .free := by
      rcases hw _ (List.mem_singleton.2 rfl) with ⟨ob, hob⟩ | hf
      · cases hob
      · exact hf
    have hv := hops x hox
    rw [hx] at hv
    obtain ⟨lc, p, cap, hlc, he, hcap, hcase⟩ := hv.c_inv
    have hm : ∃ y, mx = some y ∧ a.eval y = .int kk 0 := by
      cases mx with
      | none => simp at hmx
      | some y =>
        simp only [Option.map_some, Option.some.injEq] at hmx
        have := hops y (homx y rfl)
        rw [hmx] at this
        exact ⟨y, rfl, this.c_inv⟩
    obtain ⟨ym, rfl, hym⟩ := hm
    have hh : ∃ y, hi = some y ∧ a.eval y = .int .i64 0 := by
      cases hi with
      | none => simp at hr
      | some y =>
        simp only [Option.map_some, Option.some.injEq] at hr
        have := hops y (hohi y rfl)
        rw [hr] at this
        exact ⟨y, rfl, this.c_inv⟩
    obtain ⟨yh, rfl, hyh⟩ := hh
    have hrun : (execOp a.eval o).run P w = .ok (.value (.slice p 0 0)) w := by
      rw [hex a w e hu, he]
      rcases opt_rep (fun y hy => hops y (holo y hy)) hl with ⟨q, rfl, hq⟩ | ⟨rfl, hq⟩ <;>
        simp [Instr.slice, run_underlying hu, Instr.sliceBounds, Instr.sliceBound, asIntOf, sizeOf, typeInfo, *]
    refine wp_value hrun (hn _ _ w (LMap.le_upd (hR.free _ hfree)) (.c ⟨_, p, 0, upd_same _ _ _, rfl, Nat.le_refl _, .inl ⟨rfl, rfl⟩⟩) (hR.phantom hfree) (Below.refl _ _))
  · -- nil[:0:0]
    rename_i es eb ez kk hkd hx hmx
    obtain ⟨hl, hr, hK⟩ := hk
    rw [hkd'] at hkd
    obtain ⟨e, ie, z, hu, hie, hes, _⟩ := kind_slice hkd
    refine Snd.pure hK fun μ w a hops => ?_
    have hv := hops x hox
    rw [hx] at hv
    have he : a.eval x = .slice none 0 0 := hv.c_inv
    have hm : ∃ y, mx = some y ∧ a.eval y = .int kk 0 := by
      cases mx with
      | none => simp at hmx
      | some y =>
        simp only [Option.map_some, Option.some.injEq] at hmx
        have := hops y (homx y rfl)
        rw [hmx] at this
        exact ⟨y, rfl, this.c_inv⟩
    obtain ⟨ym, rfl, hym⟩ := hm
    have hh : ∃ y, hi = some y ∧ a.eval y = .int .i64 0 := by
      cases hi with
      | none => simp at hr
      | some y =>
        simp only [Option.map_some, Option.some.injEq] at hr
        have := hops y (hohi y rfl)
        rw [hr] at this
        exact ⟨y, rfl, this.c_inv⟩
    obtain ⟨yh, rfl, hyh⟩ := hh
    refine ⟨.slice none 0 0, ?_, .c rfl⟩
    rw [hex a w e hu, he]
    rcases opt_rep (fun y hy => hops y (holo y hy)) hl with ⟨q, rfl, hq⟩ | ⟨rfl, hq⟩ <;>
      simp [Instr.slice, run_underlying hu, Instr.sliceBounds, Instr.sliceBound, asIntOf, sizeOf, typeInfo, *]
  · -- of an array
    rename_i n es ea k off hkd hx hmx
    obtain ⟨hl, hr, ob, hob, hle, hpos, hK⟩ := hk
    have hmx' : mx = none := by cases mx <;> simp_all
    have hlo' : lo = none := by cases lo <;> simp_all
    have hhi' : hi = none := by cases hi <;> simp_all
    subst hmx' hlo' hhi'
    rw [hkd'] at hkd
    obtain ⟨e, ie, _, hu, hie, hes, _⟩ := kind_array hkd
    refine ⟨_, [(k, ob)], [], ?_, fun p hp => by simp at hp; subst hp; exact hob, by simp, hK⟩
    intro B μ G w a next Q hR _ hreads _ hops hn
    have hG := hreads (k, ob) (by simp)
    have hv := hops x hox
    rw [hx] at hv
    obtain ⟨l, hl2, he⟩ := hv.c_inv
    obtain ⟨l', hl', hat⟩ := hR.obj k ob hG
    simp only at hl2
    rw [hl2] at hl'; cases hl'
    have hreal : l.real = true := by
      cases hr' : l.real with
      | true => rfl
      | false =>
        simp only [ObjAt, hr', Bool.false_eq_true, if_false] at hat
        rw [hat] at hle; simp at hle; omega
    simp only [ObjAt, hreal, if_true] at hat
    obtain ⟨C, elem, fz, h1, h2, h3, _⟩ := hat
    have hfit : l.base + off + n * es ≤ l.E := by
      obtain ⟨v, hv2, _⟩ := h3 (off + n * es - 1) ob.cells[off + n * es - 1] (List.getElem?_eq_getElem (by omega))
      have := (Array.getElem?_eq_some_iff.1 hv2).1
      omega
    have hrun : (execOp a.eval o).run P w = .ok (.value (.slice (some ⟨l.b, l.base + off, none⟩) n n)) w := by
      simp [execOp, ho, Instr.sliceAt, run_underlying hu, he, Instr.sureAddr, Instr.sliceBounds, sizeOf, typeInfo, hie, Addr.add]
    exact wp_value hrun (hn _ μ w (LMap.le_refl _) (.c ⟨l, _, n, hl2, rfl, Nat.le_refl _, .inr ⟨_, rfl, hreal, hfit, .inr rfl⟩⟩) hR (Below.refl _ _))
  · exact hk.elim

/-- **Every operation.** -/
theorem opE_sound (hk : opE P o.op ρ h K) : Snd P o ρ h K := by
  unfold opE at hk
  split at hk
  case h_1 x ho => exact snd_move (.inl ho) hk
  case h_2 x ho => exact snd_move (.inr ho) hk
  case h_3 c a b ho => obtain ⟨t, h1, h2, h3⟩ := hk; exact snd_pick ho h1 h2 h3
  case h_4 e ho => obtain ⟨ti, h1, h2⟩ := hk; exact snd_alloc ho h1 h2
  case h_5 t x ho => obtain ⟨cs, h1, h2⟩ := hk; exact snd_box ho h1 h2
  case h_6 t parts ho => obtain ⟨ti, cs, h1, h2, h3, h4⟩ := hk; exact snd_build ho h1 h2 h3 h4
  case h_7 t len parts ho => obtain ⟨ti, es, eb, ez, cs, h1, h2, h3, h4, h5, h6⟩ := hk; exact snd_buildSlice ho h1 h2 h3 h4 h5 h6
  case h_8 t x ho =>
    obtain ⟨ti, k, off, ob, h1, h2, h3, h4⟩ := hk
    cases hA : ti.agg with
    | true => rw [hA] at h4; simp only [if_true] at h4; exact snd_load (val := .agg ((ob.cells.drop off).take ti.size)) ho h1 h2 h3 (by rw [hA]; exact ⟨h4.1, rfl⟩) h4.2
    | false => rw [hA] at h4; simp only [Bool.false_eq_true, if_false] at h4; obtain ⟨c, h5, h6⟩ := h4; exact snd_load (val := .c c) ho h1 h2 h3 (by rw [hA]; exact ⟨c, h5, rfl⟩) h6
  case h_9 t a x ho => obtain ⟨ti, k, off, ob, cs, h1, h2, h3, h4, h5, h6, h7, h8⟩ := hk; exact snd_store ho h1 h2 h3 h4 h5 h6 h7 h8
  case h_10 op t x y t' ho => exact snd_binE ho hk
  case h_11 t x ho => obtain ⟨b, h1, h2⟩ := hk; exact snd_unNot ho h1 h2
  case h_12 t x ho => obtain ⟨k, n, h1, h2⟩ := hk; exact snd_unNeg ho h1 h2
  case h_13 s t x ho => obtain ⟨ti, ti', k, k', n, h1, h2, h3, h4, h5⟩ := hk; exact snd_convert ho h1 h2 h3 h4 h5
  case h_14 f first captured ho => obtain ⟨h1, ps, h2, h3⟩ := hk; exact snd_makeFunc ho h1 h2 h3
  case h_15 t l c ho => obtain ⟨ti, es, eb, ez, kl, kc, m, n, h1, h2, h3, h4, h5, h6, h7, h8, h9, h10⟩ := hk; exact snd_makeSlice ho h1 h2 h3 h4 h5 h6 h7 h8 h9 h10
  case h_16 t x lo hi mx ho => exact snd_slice ho hk
  case h_17 s x f ho => obtain ⟨ti, fs, off', sz, k, off, h1, h2, h3, h4, h5, h6⟩ := hk; exact snd_fieldAddr ho h1 h2 h3 h4 h5 h6
  case h_18 t x ix ho =>
    obtain ⟨ti, ki, i, h1, h2, h3⟩ := hk
    split at h3
    · rename_i n es ea k off hkd hx; exact snd_indexArr ho h1 hkd hx h2 h3.1 h3.2.1 h3.2.2
    · rename_i es eb ez k off len es2 hkd hx; obtain ⟨rfl, h3⟩ := h3; exact snd_indexSl ho h1 hkd hx h2 h3.1 h3.2.1 h3.2.2
    · exact h3.elim
  case h_19 t x ix ho =>
    obtain ⟨ti, ki, i, n, es, ea, cs, h1, h2, h3, h4, h5, h6, h7⟩ := hk
    cases hA : ea with
    | true => rw [hA] at h7; simp only [if_true] at h7; exact snd_index (val := .agg ((cs.drop (i.toNat * es)).take es)) ho h1 h2 h3 h4 h5 h6 (by rw [hA]; exact ⟨h7.1, rfl⟩) h7.2
    | false => rw [hA] at h7; simp only [Bool.false_eq_true, if_false] at h7; obtain ⟨c, h8, h9⟩ := h7; exact snd_index (val := .c c) ho h1 h2 h3 h4 h5 h6 (by rw [hA]; exact ⟨c, h8, rfl⟩) h9
  case h_20 x i ho => obtain ⟨vs, v, h1, h2, h3⟩ := hk; exact snd_extract ho h1 h2 h3
  case h_21 c ho =>
    split at hk
    · rename_i f hc; obtain ⟨g, caps, h1, h2⟩ := hk; exact snd_call ho hc h1 h2
    · rename_i hc; obtain ⟨t, x, ti, h1, h2, h3, h4⟩ := hk; exact snd_len ho hc h1 h2 h3 h4
    · rename_i hc; obtain ⟨t, tx, s, x, h1, h2, h3⟩ := hk; exact snd_append ho hc h1 h2 h3
    · rename_i hc; obtain ⟨x, y, k, m, n, h1, h2, h3, h4⟩ := hk; exact snd_max ho hc h1 h2 h3 h4
    · rename_i hc; obtain ⟨x, y, k, m, n, h1, h2, h3, h4⟩ := hk; exact snd_min ho hc h1 h2 h3 h4
    · exact hk.elim
  case h_22 => exact hk.elim
end
end Go.Abs
