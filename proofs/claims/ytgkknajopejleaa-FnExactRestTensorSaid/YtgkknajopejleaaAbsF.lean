/- Made slices, parts of slices, appends; and all operations together. -/
import Derived.Test.YtgkknajopejleaaAbsE
import Derived.Laws.AppendOwn
namespace Go.Abs
open Go.RowKit (Below)

section
variable {P : Program} {o : Oper} {ρ : Operand → AV} {h : AHeap} {K : Kont}

theorem Snd.mono {K' : Kont} (hs : Snd P o ρ h K) (hk : ∀ a b c, K a b c → K' a b c) : Snd P o ρ h K' :=
  let ⟨v, r, w, h1, h2, h3, h4⟩ := hs; ⟨v, r, w, h1, h2, h3, hk _ _ _ h4⟩

theorem snd_makeSlice {t : TypeId} {l c : Operand} (ho : o.op = .makeSlice t l c) {ti : TyI} (ht : tyOf P t = some ti) {es eb : Nat} {ez : List Cell} (hkd : ti.kind = .slice es eb ez) (hez : ez.length = es) {kl kc : IntKind} {m n : Int} (hl : ρ l = .c (.int kl m)) (hc : ρ c = .c (.int kc n))
    (h0 : 0 ≤ m) (h1 : m ≤ n) (h2 : n * eb ≤ 70368744177664) (h3 : n ≤ 70368744177664) (hk : K (.c (.slice h.nxt 0 m.toNat es)) [] [(h.nxt, .live ⟨(List.replicate n.toNat ez).flatten, true⟩)]) : Snd P o ρ h K := by
  obtain ⟨i, d, z0, hi, hd, hz0, hzc0, hsz, _, hag, hkd'⟩ := tyOf_spec ht
  rw [hkd'] at hkd
  obtain ⟨e, ie, z, hu, hie, hes, heb, hz, hzc⟩ := kind_slice hkd
  obtain ⟨m', rfl⟩ := Int.eq_ofNat_of_zero_le h0
  obtain ⟨n', rfl⟩ := Int.eq_ofNat_of_zero_le (Int.le_trans h0 h1)
  refine snd_new hk fun μ w a hops => ?_
  have hv1 := hops l (by simp [ho, Op.operands])
  rw [hl] at hv1
  have e1 : a.eval l = .int kl (m' : Int) := hv1.c_inv
  have hv2 := hops c (by simp [ho, Op.operands])
  rw [hc] at hv2
  have e2 : a.eval c = .int kc (n' : Int) := hv2.c_inv
  have hzr := cellsOfL_rep (μ := μ) hzc
  have hzl : z.cells.size = es := by have := hzr.length; simp at this; omega
  have hrep := replicate_flatten_get hzr n'
  have w1 : IntKind.i64.wrap (m' : Int) = m' := IntWalk.i64_in _ (by omega)
  have w2 : IntKind.i64.wrap (n' : Int) = n' := IntWalk.i64_in _ (by omega)
  have hb : ¬ (281474976710656 < (ie.bytes : Int) * (n' : Int)) := by rw [heb, Int.mul_comm]; omega
  have hn0 : ¬ ((n' : Int) < 0) := by omega
  have hm0 : ¬ ((m' : Int) < 0) := by omega
  have hmn : ¬ (n' < m') := by omega
  refine ⟨.slice (some ⟨w.heap.size, 0, none⟩) m' n', ((Array.range (n' * z.cells.size)).map (z.cells[· % z.cells.size]!)), e, ?_, fun j x hx => by
    obtain ⟨v, hv, hr⟩ := hrep.get j x (by simpa using hx)
    exact ⟨v, by rw [← Array.getElem?_toList]; exact hv, hr⟩, .c ⟨_, some ⟨w.heap.size, 0, none⟩, n', upd_same _ _ _, rfl, by simp; omega, .inr ⟨0, rfl, rfl, ?_, .inr rfl⟩⟩⟩
  · by_cases hz0 : n' * ie.size = 0
    · have e0 : ∀ g : Nat → Value, (Array.range 0).map g = #[] := fun _ => by apply Array.eq_empty_of_size_eq_zero; simp
      have hz0' : n' * z.cells.size = 0 := by rw [hzl, ← hes]; exact hz0
      rw [hz0', e0]
      simp [execOp, ho, e1, e2, Instr.makeSlice, asInt, asIntOf, run_underlying hu, typeInfo, hie, w1, w2, hb, hn0, hm0, hmn, sizeOf, hz0, e0, newRow]
    · have : n' * z.cells.size = n' * ie.size := by rw [hzl, hes]
      rw [this]
      simp [execOp, ho, e1, e2, Instr.makeSlice, asInt, asIntOf, run_underlying hu, typeInfo, hie, w1, w2, hb, hn0, hm0, hmn, sizeOf, hz0, zeroValue, hz, newRow]
  · simp [hzl]

theorem run_append_room_row (w : World) (t tx ty e : TypeId) (i : TypeInfo) (ht : P.underlying t = some (.slice e)) (hi : P.info? e = some i) (g off sLen sCap : Nat) (x : Value) (n : Nat) (news : List Value) (hs : Src P i.size tx x n news w)
    (hroom : sLen + n ≤ sCap) (cur : Array Value) (el : TypeId) (hg : w.heap[g]? = some (.cells cur el (0, 0))) (hfit : off + sLen * i.size + news.length ≤ cur.size) :
    (Builtin.append_ #[t, tx] ty #[.slice (some ⟨g, off, none⟩) sLen sCap, x]).run P w = .ok (.slice (some ⟨g, off, none⟩) (sLen + n) sCap) (w.setRow g (cur.toList.take (off + sLen * i.size) ++ news ++ cur.toList.drop (off + sLen * i.size + news.length)).toArray) := by
  have hst := run_storeCells_at P g (off + sLen * i.size) el news 0 cur w hg (by simpa using hfit) hs.one
  simp only [Nat.add_zero] at hst
  rcases hs.kind with ⟨e', hk⟩ | hk <;> simp [Builtin.append_, run_underlying ht, run_underlying hk, sizeOf, typeInfo, hi, hs.len, hroom, hs.cells, Addr.add_lit, hst]

/-- What is appended, in the world. -/
theorem src_of {μ : LMap} {B : Nat} {G : Heap} {w : World} (hR : Rel B μ G w) {tx : TypeId} {e' : TypeId} (hk : P.underlying tx = some (.slice e')) {es : Nat} {x : AV} {v : Value} (hv : RepV μ x v) {m : Nat} {news : List Cell} {rs : List (Nat × AObj)}
    (hsrc : srcE h es x fun m' news' rs' => m' = m ∧ news' = news ∧ rs' = rs) (hrs : ∀ p ∈ rs, G p.1 = .live p.2) (hh : ∀ p ∈ rs, h.get p.1 = .live p.2) :
    ∃ vs : List Value, Src P es tx v m vs w ∧ RepCs μ news vs := by
  unfold srcE at hsrc
  split at hsrc
  · obtain ⟨rfl, rfl, rfl⟩ := hsrc
    have : v = .slice none 0 0 := hv.c_inv
    subst this
    exact ⟨[], Src.ofNil w hk 0, trivial⟩
  · rename_i k off len es'
    obtain ⟨ob, hob, hle, rfl, rfl, rfl⟩ := hsrc
    obtain ⟨l, p, cap, hl, rfl, hcap, hc⟩ := hv.c_inv
    have hG := hrs (k, ob) (by simp)
    obtain ⟨l', hl', hat⟩ := hR.obj k ob hG
    rw [hl] at hl'; cases hl'
    by_cases h0 : len = 0
    · subst h0
      refine ⟨[], ?_, by simp [RepCs]⟩
      cases p with
      | none => exact Src.ofNil w hk cap
      | some a => exact Src.ofSlice w hk a 0 cap [] (by simp) (by simp) (by simp)
    · rcases hc with ⟨h1, _⟩ | ⟨y, rfl, hr, hfit, hy⟩
      · exact absurd h1 h0
      · rcases hy with hy | rfl
        · exact absurd hy h0
        · simp only [ObjAt, hr, if_true] at hat
          obtain ⟨C, elem, fz, h1, h2, h3, _⟩ := hat
          obtain ⟨hreps, hlen⟩ := reps_of_obj h3 off (len * es) hle
          refine ⟨_, Src.ofSlice w hk _ len cap _ hlen (fun j u hu => ?_) hreps.oneCell, hreps⟩
          simp only [List.getElem?_take, List.getElem?_drop] at hu
          split at hu
          · rw [Addr.add_lit]
            simpa [World.cell?, h1] using hu
          · cases hu
  · exact hsrc.elim

theorem srcE_elim {es : Nat} {x : AV} {F : Nat → List Cell → List (Nat × AObj) → Prop} (hs : srcE h es x F) : ∃ m news rs, F m news rs ∧ (srcE h es x fun m' news' rs' => m' = m ∧ news' = news ∧ rs' = rs) ∧ (∀ p ∈ rs, h.get p.1 = .live p.2) := by
  unfold srcE at hs ⊢
  split at hs
  · exact ⟨_, _, _, hs, ⟨rfl, rfl, rfl⟩, by simp⟩
  · obtain ⟨ob, h1, h2, h3⟩ := hs
    exact ⟨_, _, _, h3, ⟨ob, h1, h2, rfl, rfl, rfl⟩, by simp; exact h1⟩
  · exact hs.elim

theorem below_setRow {B : Nat} {w : World} {b : Nat} (c : Array Value) (hb : B ≤ b) : Below B w (w.setRow b c) :=
  ⟨rfl, rfl, rfl, by simp, fun j hj => setRow_other w _ _ _ (by omega)⟩

theorem snd_append {c : Call} (ho : o.op = .call c) (hc : c.callee = .builtin .append) {t tx : TypeId} {s x : Operand} (hat : c.argTypes = #[t, tx]) (hax : c.args = #[s, x]) (hk : appendE P t tx (ρ s) (ρ x) h K) : Snd P o ρ h K := by
  obtain ⟨ti, es, eb, ez, ti', es', eb', ez', ht, hkd, htx, hkdx, hez, hsrc⟩ := hk
  obtain ⟨_, _, _, _, _, _, _, _, _, _, hkd'⟩ := tyOf_spec ht
  rw [hkd'] at hkd
  obtain ⟨e, ie, z, hu, hie, hes, heb, hz, hzc⟩ := kind_slice hkd
  obtain ⟨_, _, _, _, _, _, _, _, _, _, hkdx'⟩ := tyOf_spec htx
  rw [hkdx'] at hkdx
  obtain ⟨e', _, _, hux, _⟩ := kind_slice hkdx
  obtain ⟨m, news, rs, hK, hsrc', hrs⟩ := srcE_elim hsrc
  have hops' : s ∈ o.op.operands ∧ x ∈ o.op.operands := by simp [ho, Op.operands, Call.operands, hc, hax]
  have hex : ∀ (a : Act) (w : World), (execOp a.eval o).run P w = ((Builtin.append_ #[t, tx] o.type #[a.eval s, a.eval x]).run P w).andThen fun v w' => .ok (.value v) w' := by
    intro a w
    simp [execOp, ho, resolve, hc, hat, hax, invoke, builtin]
  have hzl : ∀ μ : LMap, z.cells.size = es := fun μ => by have := (cellsOfL_rep (μ := μ) hzc).length; simp at this; omega
  -- growing
  have grow : ∀ {B : Nat} {μ : LMap} {G : Heap} {w : World}, Rel B μ G w → G h.nxt = .free → ∀ (base : Option Addr) (sLen sCap : Nat) (olds news : List Value) (ocs ncs : List Cell) (vx : Value),
      (Builtin.firstCells ie.size sLen (.slice base sLen sCap)).run P w.drew = .ok olds.toArray w.drew → RepCs μ ocs olds → olds.length = sLen * es → Src P es tx vx m news w → RepCs μ ncs news → sCap < sLen + m →
      (sLen + m) * eb ≤ 70368744177664 → sLen + m ≤ 70368744177664 →
      ∃ v μ' w', (Builtin.append_ #[t, tx] o.type #[.slice base sLen sCap, vx]).run P w = .ok v w' ∧ μ.le μ' ∧ RepV μ' (.c (.slice h.nxt 0 (sLen + m) es)) v ∧ Rel B μ' (upd G h.nxt (.live ⟨ocs ++ ncs, true⟩)) w' ∧ Below B w w' := by
    intro B μ G w hR hfree base sLen sCap olds news ocs ncs vx hold hro hol hs hrn hg hb1 hb2
    have hgc := grownCap_ge w (sLen + m) sCap e
    have hfit := growslice_fits (need := sLen + m) (old := sCap) (bytes := ie.bytes) hg (by rw [heb]; omega)
    have hrun := run_append_grow_src (P := P) w t tx o.type e ie z hu hie hz base sLen sCap olds hold vx m news (by rw [hes]; exact hs) hg (by omega) hfit
    have hC : ((olds ++ news).toArray ++ Builtin.zeroCells z.cells (grownCap w (sLen + m) sCap e - (sLen + m))).size = grownCap w (sLen + m) sCap e * es := by
      have h1 := hs.newsLen
      simp only [Array.size_append, size_zeroCells, hzl μ]
      simp only [List.size_toArray, List.length_append, hol, h1]
      rw [← Nat.add_mul, ← Nat.add_mul]
      congr 1; omega
    have hR' := hR.drew.alloc hfree ((olds ++ news).toArray ++ Builtin.zeroCells z.cells (grownCap w (sLen + m) sCap e - (sLen + m))) e (ocs ++ ncs) (fun j y hy => by
      obtain ⟨u, hu', hr⟩ := (hro.append hrn).get j y hy
      refine ⟨u, ?_, hr⟩
      have hlt : j < (olds ++ news).length := (List.getElem?_eq_some_iff.1 hu').1
      rw [Array.getElem?_append_left (by simpa using hlt)]
      simpa using hu')
    refine ⟨_, _, _, hrun, LMap.le_upd (hR.free _ hfree), .c ⟨_, some ⟨w.heap.size, 0, none⟩, grownCap w (sLen + m) sCap e, upd_same _ _ _, rfl, hgc, .inr ⟨0, rfl, rfl, Nat.le_of_eq (by simp [hC]), .inr rfl⟩⟩, hR', ?_⟩
    exact ((Below.refl _ _).drew).alloc hR.size _
  -- nothing appended to an empty slice that has no room: a phantom
  have none' : ∀ {B : Nat} {μ : LMap} {G : Heap} {w : World}, Rel B μ G w → G h.nxt = .free → ∀ (base : Option Addr) (vx : Value), Src P es tx vx 0 [] w →
      ∃ v μ' w', (Builtin.append_ #[t, tx] o.type #[.slice base 0 0, vx]).run P w = .ok v w' ∧ μ.le μ' ∧ RepV μ' (.c (.slice h.nxt 0 0 es)) v ∧ Rel B μ' (upd G h.nxt (.live ⟨[], true⟩)) w' ∧ Below B w w' := by
    intro B μ G w hR hfree base vx hs
    refine ⟨_, _, w, run_append_nothing w t tx o.type e ie hu hie base 0 0 (Nat.le_refl _) vx (by rw [hes]; exact hs), LMap.le_upd (hR.free _ hfree), .c ⟨_, base, 0, upd_same _ _ _, rfl, Nat.le_refl _, .inl ⟨rfl, rfl⟩⟩, hR.phantom hfree, Below.refl _ _⟩
  split at hK
  · -- onto nil
    rename_i hs
    obtain ⟨hb1, hb2, hK⟩ := hK
    refine ⟨_, rs, [(h.nxt, .live ⟨news, true⟩)], ?_, hrs, fun p hp => by simp at hp; subst hp; exact .inr h.get_nxt, hK⟩
    intro B μ G w a next Q hR _ hreads hw hops hn
    have hfree : G h.nxt = .free := by
      rcases hw _ (List.mem_singleton.2 rfl) with ⟨ob, hob⟩ | hf
      · exact absurd (hrs _ hob) (by rw [h.get_nxt]; simp)
      · exact hf
    have h1 := hops s hops'.1
    rw [hs] at h1
    have e1 : a.eval s = .slice none 0 0 := h1.c_inv
    obtain ⟨vs, hSrc, hrep⟩ := src_of hR hux (hops x hops'.2) hsrc' hreads hrs
    rcases Nat.eq_zero_or_pos m with hm | hm
    · subst hm
      have hvs : vs = [] := by have := hSrc.newsLen; simpa using this
      subst hvs
      have hnews : news = [] := by
        have := hrep.length; simpa using this
      subst hnews
      obtain ⟨v, μ', w', h2, h3, h4, h5, h6⟩ := none' hR hfree none _ hSrc
      exact wp_value (by rw [hex, e1, h2]; rfl) (hn v μ' w' h3 h4 h5 h6)
    · obtain ⟨v, μ', w', h2, h3, h4, h5, h6⟩ := grow hR hfree none 0 0 [] vs [] news _ (by simp [Builtin.firstCells]) trivial (by simp) hSrc hrep (by omega) (by simpa using hb1) (by simpa using hb2)
      exact wp_value (by rw [hex, e1, h2]; rfl) (hn v μ' w' h3 (by simpa using h4) (by simpa [putsG] using h5) h6)
  · -- onto a slice of one's own
    rename_i k off len es2 hs
    obtain ⟨rfl, hb1, hb2, ob, hob, hown, hle, hK⟩ := hK
    refine ⟨_, (k, ob) :: rs, _, ?_, fun p hp => by
      rcases List.mem_cons.1 hp with rfl | hp
      · exact hob
      · exact hrs p hp, fun p hp => by
      simp at hp
      rcases hp with rfl | rfl
      · exact .inl ⟨ob, by simp⟩
      · exact .inr h.get_nxt, hK⟩
    intro B μ G w a next Q hR _ hreads hw hops hn
    have hG := hreads (k, ob) (by simp)
    simp only at hG
    have hfree : G h.nxt = .free := by
      rcases hw (h.nxt, .live ⟨(ob.cells.drop off).take (len * es2) ++ news, true⟩) (by simp) with ⟨ob2, hob2⟩ | hf
      · have : h.get h.nxt = .live ob2 := by
          rcases List.mem_cons.1 hob2 with hq | hq
          · have e1 : h.nxt = k := congrArg Prod.fst hq
            have e2 : ob2 = ob := congrArg Prod.snd hq
            rw [e1, e2]; exact hob
          · exact hrs _ hq
        rw [h.get_nxt] at this; cases this
      · exact hf
    have hne : h.nxt ≠ k := fun e => by rw [e, hG] at hfree; cases hfree
    have h1 := hops s hops'.1
    rw [hs] at h1
    obtain ⟨l, p, cap, hl, e1, hcap, hcase⟩ := h1.c_inv
    obtain ⟨vs, hSrc, hrep⟩ := src_of hR hux (hops x hops'.2) hsrc' (fun p hp => hreads p (by simp [hp])) hrs
    have hRk : Rel B μ (upd G k .dead) w := hR.kill (by rw [hG]; simp)
    have hfree' : upd G k .dead h.nxt = .free := by rw [upd_ne _ _ hne]; exact hfree
    have hnl := hSrc.newsLen
    rcases hcase with ⟨hl0, hc0⟩ | ⟨y, hp, hr, hfit, hy⟩
    · subst hl0; subst hc0
      rcases Nat.eq_zero_or_pos m with hm | hm
      · subst hm
        have hvs : vs = [] := by simpa using hnl
        subst hvs
        have hnews : news = [] := by have := hrep.length; simpa using this
        subst hnews
        obtain ⟨v, μ', w', h2, h3, h4, h5, h6⟩ := none' hRk hfree' p _ hSrc
        refine wp_value (by rw [hex, e1, h2]; rfl) (hn v μ' w' h3 h4 ?_ h6)
        simpa [putsG] using h5
      · obtain ⟨v, μ', w', h2, h3, h4, h5, h6⟩ := grow hRk hfree' p 0 0 [] vs [] news _ (by cases p <;> simp [Builtin.firstCells, loadCells, loadCellsFrom]) trivial (by simp) hSrc hrep (by omega) hb1 hb2
        refine wp_value (by rw [hex, e1, h2]; rfl) (hn v μ' w' h3 h4 ?_ h6)
        simpa [putsG] using h5
    · subst hp
      obtain ⟨l', hl', hat'⟩ := hR.obj k ob hG
      rw [hl] at hl'; cases hl'
      simp only [ObjAt, hr, hown, if_true] at hat'
      obtain ⟨C, elem, fz, g1, g2, g3, rfl, g5⟩ := hat'
      -- what the slice held
      have hold : ∃ olds : List Value, olds = (C.toList.drop y).take (len * es2) ∧ RepCs μ ((ob.cells.drop off).take (len * es2)) olds ∧ olds.length = len * es2 := by
        rcases hy with h0 | h0
        · subst h0
          exact ⟨[], by simp, by simp [RepCs], by simp⟩
        · subst h0
          obtain ⟨a1, a2⟩ := reps_of_obj g3 off (len * es2) hle
          exact ⟨_, rfl, a1, a2⟩
      obtain ⟨olds, hod, hro, hol⟩ := hold
      by_cases hroom : len + m ≤ cap
      · have hfit2 : y + (len + m) * es2 ≤ C.size := by
          have : (len + m) * es2 ≤ cap * es2 := Nat.mul_le_mul_right _ hroom
          omega
        have hfit3 : y + len * ie.size + vs.length ≤ C.size := by rw [hes, hnl, Nat.add_assoc, ← Nat.add_mul]; exact hfit2
        have hrun := run_append_room_row (P := P) w t tx o.type e ie hu hie l.b y len cap _ m vs (by rw [hes]; exact hSrc) hroom C elem g1 hfit3
        have hRn := hR.rename hG hown hl hr hfree y ((ob.cells.drop off).take (len * es2)) (fun c' elem' fz' hh j u hu' => by
          rw [g1] at hh
          simp only [Option.some.injEq, Go.Obj.cells.injEq] at hh
          obtain ⟨rfl, _, _⟩ := hh
          obtain ⟨v, hv, hrv⟩ := hro.get j u hu'
          refine ⟨v, ?_, hrv⟩
          rw [hod, List.getElem?_take, List.getElem?_drop] at hv
          split at hv
          · simpa using hv
          · cases hv)
        have hnxt : upd (upd G k .dead) h.nxt (.live ⟨(ob.cells.drop off).take (len * es2), true⟩) h.nxt = .live ⟨(ob.cells.drop off).take (len * es2), true⟩ := upd_same _ _ _
        have hle' : μ.le (upd μ h.nxt (some ⟨l.b, y, l.E, true⟩)) := LMap.le_upd (hR.free _ hfree)
        have hRw := hRn.write hnxt rfl (upd_same _ _ _) rfl (C.toList.take (y + len * ie.size) ++ vs ++ C.toList.drop (y + len * ie.size + vs.length)).toArray
          (by simp; omega) ((ob.cells.drop off).take (len * es2) ++ news) (fun j u hu' => by
            simp only
            have hrep2 := (hro.append hrep).mono hle'
            obtain ⟨v, hv, hrv⟩ := hrep2.get j u hu'
            refine ⟨v, ?_, hrv⟩
            have hj : j < (olds ++ vs).length := (List.getElem?_eq_some_iff.1 hv).1
            simp only [List.length_append, hol, hnl] at hj
            simp only [List.getElem?_toArray, List.append_assoc]
            rw [List.getElem?_append] at hv ⊢
            have ht' : (C.toList.take (y + len * ie.size)).length = y + len * es2 := by rw [hes]; simp; rw [hes] at hfit3; omega
            rw [ht']
            split at hv
            · rename_i hj2
              rw [hol] at hj2
              rw [if_pos (by omega), List.getElem?_take, if_pos (by rw [hes]; omega)]
              rw [hod, List.getElem?_take, List.getElem?_drop, if_pos hj2] at hv
              exact hv
            · rename_i hj2
              rw [hol] at hj2
              rw [if_neg (by omega), List.getElem?_append, if_pos (by rw [hnl]; omega)]
              rw [hol] at hv
              rw [show y + j - (y + len * es2) = j - len * es2 from by omega]
              exact hv)
        have hE : upd (upd (upd G k .dead) h.nxt (.live ⟨(ob.cells.drop off).take (len * es2), true⟩)) h.nxt (.live ⟨(ob.cells.drop off).take (len * es2) ++ news, true⟩) = putsG G [(k, .dead), (h.nxt, .live ⟨(ob.cells.drop off).take (len * es2) ++ news, true⟩)] := by
          funext j
          simp only [putsG, List.foldl_cons, List.foldl_nil]
          by_cases ej : j = h.nxt
          · subst ej; simp
          · rw [upd_ne _ _ ej, upd_ne _ _ ej, upd_ne _ _ ej]
        rw [hE] at hRw
        refine wp_value (by rw [hex, e1, hrun]; rfl) (hn _ _ _ hle' ?_ hRw (below_setRow _ g5))
        exact .c ⟨_, some ⟨l.b, y, none⟩, cap, upd_same _ _ _, rfl, hroom, .inr ⟨y, rfl, rfl, hfit, .inr rfl⟩⟩
      · have hfc : (Builtin.firstCells ie.size len (.slice (some ⟨l.b, y, none⟩) len cap)).run P w.drew = .ok olds.toArray w.drew := by
          refine run_firstCells_some (P := P) w.drew ie.size len _ len cap olds (by rw [hes]; exact hol) (fun j u hu' => ?_)
          rw [hod, List.getElem?_take, List.getElem?_drop] at hu'
          split at hu'
          · rw [Addr.add_lit, World.cell?_drew]
            simpa [World.cell?, g1] using hu'
          · cases hu'
        obtain ⟨v, μ', w', h2, h3, h4, h5, h6⟩ := grow hRk hfree' _ len cap olds vs _ news _ hfc hro hol hSrc hrep (by omega) hb1 hb2
        refine wp_value (by rw [hex, e1, h2]; rfl) (hn v μ' w' h3 h4 ?_ h6)
        simpa [putsG] using h5
  · exact hK.elim
end
end Go.Abs
