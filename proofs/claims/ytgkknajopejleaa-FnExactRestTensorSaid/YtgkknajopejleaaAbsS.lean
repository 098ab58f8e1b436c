/- Lists of bytes within objects. -/
import Derived.Test.YtgkknajopejleaaAbsR
namespace Go.Abs

def sub (l : List Int) (off n : Nat) : List Int := (l.drop off).take n
theorem sub_length {l : List Int} {off n : Nat} (h : off + n ≤ l.length) : (sub l off n).length = n := by simp [sub]; omega
@[go_sem] theorem ldn_u8s {l : List Int} {off n : Nat} : ldn (u8s l) off n = u8s (sub l off n) := by simp [ldn, u8s, sub, List.map_take, List.map_drop]
theorem sub_getD {l : List Int} {off n j : Nat} (h : j < n) : (sub l off n).getD j 0 = l.getD (off + j) 0 := by
  simp only [sub, List.getD_eq_getElem?_getD, List.getElem?_take, List.getElem?_drop, h, if_true]
theorem take_sub {l : List Int} {off n : Nat} : l.take (off + n) = l.take off ++ sub l off n := by
  rw [sub, List.take_add]
theorem take_sub_eq {a b : List Int} {off n : Nat} (h : a.take off = b.take off) (hs : sub a off n = sub b off n) : a.take (off + n) = b.take (off + n) := by
  rw [take_sub, take_sub, h, hs]
/-- k, k + 1, .. as bytes. -/
def marks8 (k : Int) (n : Nat) : List Int := (List.range n).map fun t => wr .u8 (k + (t : Nat))
theorem marks8_length (k : Int) (n : Nat) : (marks8 k n).length = n := by simp [marks8]
theorem marks8_get {k : Int} {n i : Nat} (h : i < n) : (marks8 k n).getD i 0 = wr .u8 (k + (i : Nat)) := by
  simp [marks8, List.getD_eq_getElem?_getD, h]
theorem Sl.of8 {es k n : Nat} {own : Bool} {l : List Int} (h : l.length = n * es) : Sl es (u8s l) n (.slice k 0 n es) [(k, ⟨u8s l, own⟩)] := Sl.mk k own (by simp [u8s, h])
theorem Sl.nil8 {es : Nat} : Sl es (u8s []) 0 .nils [] := Sl.nil rfl rfl
theorem SlW.of8 {es k n : Nat} {l l' : List Int} (h : l.length = n * es) : SlW es (u8s l) (u8s l') n (.slice k 0 n es) [(k, ⟨u8s l, true⟩)] [(k, .live ⟨u8s l', true⟩)] := SlW.mk k (by simp [u8s, h])
theorem SlW.nil8 {es : Nat} : SlW es (u8s []) (u8s []) 0 .nils [] [] := SlW.nil rfl rfl rfl
attribute [go_sem] true_and and_true
def zeros (n : Nat) : List Int := List.replicate n 0
@[go_sem] theorem zeros_length (n : Nat) : (zeros n).length = n := by simp [zeros]
/-- A list with a part written anew. -/
def putL (o : List Int) (i : Nat) : List Int → List Int
  | [] => o
  | x :: v => putL (o.set i x) (i + 1) v
@[go_sem] theorem putL_len : ∀ {v o : List Int} {i : Nat}, (putL o i v).length = o.length
  | [], _, _ => rfl
  | x :: v, o, i => by rw [putL, putL_len, List.length_set]
theorem putL_eq : ∀ {v o : List Int} {i : Nat}, i + v.length ≤ o.length → putL o i v = o.take i ++ v ++ o.drop (i + v.length)
  | [], o, i, _ => by simp [putL]
  | x :: v, o, i, h => by
    simp only [List.length_cons] at h
    rw [putL, putL_eq (by rw [List.length_set]; omega), List.take_succ_eq_append_getElem (by rw [List.length_set]; omega)]
    simp only [List.getElem_set_self, List.length_cons]
    rw [List.drop_set_of_lt (by omega), show i + 1 + v.length = i + (v.length + 1) from by omega, List.take_set_of_le (Nat.le_refl i)]
    simp
@[go_sem] theorem splice_putL {o v : List Int} {i : Nat} (h : i + v.length ≤ o.length) : splice (u8s o) i (u8s v) = u8s (putL o i v) := by
  rw [putL_eq h]
  simp [splice, u8s, List.map_take, List.map_drop]
@[go_sem] theorem u8s_app (l l' : List Int) : u8s l ++ u8s l' = u8s (l ++ l') := u8s_append l l'
@[go_sem] theorem rep_zeros (n m : Nat) : (List.replicate n (u8s (zeros m))).flatten = u8s (zeros (n * m)) := by
  induction n with
  | zero => simp [zeros, u8s]
  | succ n ih =>
    rw [List.replicate_succ, List.flatten_cons, ih, u8s_append]
    congr 1
    simp only [zeros, List.replicate_append_replicate, Nat.succ_mul]
    rw [Nat.add_comm]
end Go.Abs
