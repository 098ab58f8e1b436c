/- An answer that names an old object that was written. -/
import Derived.Test.YtcmmbnhdfkcpdaaF3
namespace Go.Proofs.Ytcmmbnhdfkcpdaa
open Go Go.Abs
set_option maxRecDepth 100000

set_option maxRecDepth 100000
set_option maxHeartbeats 8000000
set_option linter.unusedVariables false
attribute [-simp] List.getD_eq_getElem?_getD
attribute [-go_sem] confV

theorem ren1_idF (v : AV) : ren1 id v = v := by
  cases v with
  | c x => simp [ren1, mapIds_id]
  | agg cs => simp [ren1, show Cell.mapIds id = id from funext mapIds_id]
  | tup vs => rfl
  | any => rfl
theorem renT_idF (v : AV) : renT id v = v := by
  cases v with
  | tup vs => simp [renT, show ren1 id = id from funext ren1_idF]
  | c x => simp [renT, ren1, mapIds_id]
  | agg cs => simp [renT, ren1, show Cell.mapIds id = id from funext mapIds_id]
  | any => rfl
theorem ret_writesV {P : Program} {G : Heap} {N : Nat} {L : List Slot} {T : List AV} (hN : ∀ k, N ≤ k → G k = .free) {ws : List (Nat × Slot)} (hw : ∀ p ∈ ws, p.1 < N ∧ ∃ cs own, p.2 = .live ⟨cs, own⟩ ∧ flat cs) {rs : List ResultVar} {val : AV} (vs : List AV) (hr : resAll P T ⟨putsG G ws, N, L⟩ rs vs) (he : resOf vs = val) (hp : plainT val = true) (hi : ∀ i ∈ val.idsT, i < N) :
    retS P rs G N val ws .ret T ⟨putsG G ws, N, L⟩ := by
  subst he
  have out : ∀ k, N ≤ k → putsG G ws k = .free := by
    intro k hk
    rcases putsG_cases ws G k with h | ⟨p, h1, h2, h3⟩
    · rw [h]; exact hN k hk
    · have := (hw p h1).1; omega
  refine ⟨vs, id, hr, fun _ _ => rfl, fun k o hk => ?_, fun k hk => ?_, fun k k' o o' _ _ _ _ hne => hne, ?_⟩
  · have hlt : k < N := by
      rcases Nat.lt_or_ge k N with h | h
      · exact h
      · rw [out k h] at hk; cases hk
    rcases putsG_cases ws G k with h | ⟨p, h1, h2, h3⟩
    · left; exact ⟨by rw [← h]; exact hk, by rw [get_old hlt]; exact hk⟩
    · right
      obtain ⟨_, cs, own, e1, e2⟩ := hw p h1
      rw [h3, e1] at hk
      cases hk
      refine ⟨?_, fun c hc i hi => by rw [e2 c hc] at hi; cases hi⟩
      rw [id, get_old hlt, map_flat e2, h3, e1]
  · rcases putsG_cases ws G k with h | ⟨p, h1, h2, h3⟩
    · rw [h]; exact hk
    · obtain ⟨_, cs, own, e1, e2⟩ := hw p h1
      rw [h3, e1]; simp
  · have := Named.of (σ := id) (ok := fun i => (⟨putsG G ws, N, L⟩ : AHeap).get (id i) ≠ .free → putsG G ws i ≠ .free) hp (fun i hh hne => by rw [id, get_old (hi i hh)] at hne; exact hne)
    rwa [renT_idF] at this
end Go.Proofs.Ytcmmbnhdfkcpdaa
