/- Texts that are put together and taken apart: plain facts on lists of bytes. -/
import Derived.Test.YtjddbhhbmfcepaaDoorGSplit
import Derived.Test.YtjddbhhbmfcepaaDoorGJoin
import Derived.Test.YtjddbhhbmfcepaaDoorLShape
namespace Go.Proofs.YtjddbhhbmfcepaaDoor.P
open Go.RowKit Go.Proofs.YtjddbhhbmfcepaaDoorW.PrintWords Go.Proofs.YtjddbhhbmfcepaaDoorW.PrintLast Go.Proofs.YtjddbhhbmfcepaaDoorW.PrintMore
set_option linter.unusedVariables false
/-- A string of these bytes. -/
def bs (l : List UInt8) : ByteArray := ⟨l.toArray⟩
theorem bs_data (l : List UInt8) : (bs l).data.toList = l := by simp [bs]
theorem bs_toList (l : List UInt8) : (bs l).toList = l := by rw [toList_data, bs_data]
theorem bs_size (l : List UInt8) : (bs l).size = l.length := by rw [size_data, bs_data]
theorem bs_of (s : ByteArray) : bs s.data.toList = s := data_inj (bs_data _)
theorem bs_inj {a b : List UInt8} (h : bs a = bs b) : a = b := by rw [← bs_data a, ← bs_data b, h]
theorem map_bs (l : List ByteArray) : (l.map (·.data.toList)).map bs = l := by
  rw [List.map_map]
  have : (bs ∘ fun x : ByteArray => x.data.toList) = id := by funext x; exact bs_of x
  rw [this, List.map_id]
theorem data_append (a b : ByteArray) : (a ++ b).data.toList = a.data.toList ++ b.data.toList := by simp
theorem bs_append (a b : List UInt8) : bs a ++ bs b = bs (a ++ b) := data_inj (by rw [data_append, bs_data, bs_data, bs_data])

theorem split_miss {s sep : List UInt8} (h : Lib.index s sep = -1) : Lib.split s sep = [s] := by
  unfold Lib.split
  rw [Lib.count_miss h]
  rfl
theorem split_hit {s sep : List UInt8} (hs : sep ≠ []) {i : Nat} (h : Lib.index s sep = i) : Lib.split s sep = s.take i :: Lib.split (s.drop (i + sep.length)) sep := by
  unfold Lib.split
  rw [Lib.count_hit hs h, Nat.add_comm 1]
  show (if Lib.index s sep == -1 then [s] else s.take ((Lib.index s sep).toNat + 0) :: Lib.splitK sep 0 _ (s.drop ((Lib.index s sep).toNat + sep.length))) = _
  rw [h, if_neg (by simp)]
  simp
theorem splitS_is (s sep : ByteArray) (h : s.size < 4294967281) (h1 : 1 ≤ sep.size) : strings_Split.f s sep = some ((Lib.split s.data.toList sep.data.toList).map bs) := by
  unfold strings_Split.f
  rw [if_pos ⟨h, h1⟩]
  have := Lib.splitB_data sep 0 (Lib.countB s sep) s
  rw [show Lib.split s.data.toList sep.data.toList = Lib.splitK sep.data.toList 0 (Lib.countB s sep) s.data.toList from rfl, ← this, map_bs]
theorem index_free {x r sep : List UInt8} {c : UInt8} {t : List UInt8} (hs : sep = c :: t) (hx : c ∉ x) : Lib.index (x ++ sep ++ r) sep = x.length := by
  refine Lib.index_first (by simp) ?_ ?_
  · unfold Lib.occAt
    rw [List.append_assoc, List.drop_left]
    exact List.isPrefixOf_iff_prefix.2 (List.prefix_append _ _)
  · intro j hj
    cases ho : Lib.occAt (x ++ sep ++ r) sep j with
    | false => rfl
    | true =>
      have := Lib.occAt_head hs ho
      rw [List.append_assoc, List.getElem?_append_left hj, List.getElem?_eq_getElem hj] at this
      exact absurd (by rw [← Option.some.inj this]; exact List.getElem_mem hj) hx
theorem index_none {x sep : List UInt8} {c : UInt8} {t : List UInt8} (hs : sep = c :: t) (hx : c ∉ x) : Lib.index x sep = -1 := by
  refine Lib.index_none fun j hj => ?_
  cases ho : Lib.occAt x sep j with
  | false => rfl
  | true =>
    have := Lib.occAt_head hs ho
    obtain ⟨hlt, hj⟩ := List.getElem?_eq_some_iff.1 this
    exact absurd (by rw [← hj]; exact List.getElem_mem hlt) hx
/-- What is put together of parts without the separator's first byte is taken apart into these parts. -/
theorem split_join {sep : List UInt8} {c : UInt8} {t : List UInt8} (hs : sep = c :: t) : ∀ (x : List UInt8) (xs : List (List UInt8)), (∀ y ∈ x :: xs, c ∉ y) → Lib.split (Lib.join (x :: xs) sep) sep = x :: xs
  | x, [], h => by rw [Lib.join_one]; exact split_miss (index_none hs (h x (by simp)))
  | x, y :: ys, h => by
    have e : Lib.join (x :: y :: ys) sep = x ++ sep ++ Lib.join (y :: ys) sep := by
      rw [Lib.join_cons, Lib.join_cons]
      simp [Lib.joinTail]
    have hne : sep ≠ [] := by rw [hs]; simp
    rw [e, split_hit hne (index_free hs (h x (by simp)))]
    have e1 : (x ++ sep ++ Lib.join (y :: ys) sep).take x.length = x := by rw [List.append_assoc, List.take_left]
    have e2 : (x ++ sep ++ Lib.join (y :: ys) sep).drop (x.length + sep.length) = Lib.join (y :: ys) sep := by
      rw [← List.length_append, List.drop_left]
    rw [e1, e2, split_join hs y ys (fun z hz => h z (by simp [hz]))]
theorem split_le (sep : List UInt8) (hs : sep ≠ []) : ∀ (n : Nat) (s : List UInt8), s.length ≤ n → ∀ p ∈ Lib.split s sep, p.length ≤ s.length := by
  intro n
  induction n with
  | zero =>
    intro s hn p hp
    by_cases hi : Lib.index s sep = -1
    · rw [split_miss hi] at hp
      rw [List.mem_singleton.1 hp]
      exact Nat.le_refl _
    · have h0 := Lib.index_ge s sep
      obtain ⟨i, hi'⟩ : ∃ i : Nat, Lib.index s sep = i := ⟨(Lib.index s sep).toNat, by omega⟩
      have : s = [] := List.length_eq_zero_iff.1 (by omega)
      have hd := Lib.drop_shorter (s := s) hs (by rw [hi']; simp)
      rw [this] at hd
      simp at hd
  | succ n ih =>
    intro s hn p hp
    by_cases hi : Lib.index s sep = -1
    · rw [split_miss hi] at hp
      rw [List.mem_singleton.1 hp]
      exact Nat.le_refl _
    · have h0 := Lib.index_ge s sep
      obtain ⟨i, hi'⟩ : ∃ i : Nat, Lib.index s sep = i := ⟨(Lib.index s sep).toNat, by omega⟩
      have hd := Lib.drop_shorter (s := s) hs (by rw [hi']; simp)
      rw [split_hit hs hi'] at hp
      rw [hi', Int.toNat_natCast] at hd
      rcases List.mem_cons.1 hp with rfl | hp
      · exact List.length_take_le' _ _
      · exact Nat.le_trans (ih _ (by omega) p hp) (by omega)
theorem split_count (sep : List UInt8) (hs : sep ≠ []) : ∀ (n : Nat) (s : List UInt8), s.length ≤ n → (Lib.split s sep).length ≤ s.length + 1 := by
  intro n
  induction n with
  | zero =>
    intro s hn
    have : s = [] := List.length_eq_zero_iff.1 (by omega)
    subst this
    by_cases hi : Lib.index [] sep = -1
    · rw [split_miss hi]; simp
    · have h0 := Lib.index_ge [] sep
      obtain ⟨i, hi'⟩ : ∃ i : Nat, Lib.index [] sep = i := ⟨(Lib.index [] sep).toNat, by omega⟩
      have hd := Lib.drop_shorter (s := []) hs (by rw [hi']; simp)
      simp at hd
  | succ n ih =>
    intro s hn
    by_cases hi : Lib.index s sep = -1
    · rw [split_miss hi]; simp
    · have h0 := Lib.index_ge s sep
      obtain ⟨i, hi'⟩ : ∃ i : Nat, Lib.index s sep = i := ⟨(Lib.index s sep).toNat, by omega⟩
      have hd := Lib.drop_shorter (s := s) hs (by rw [hi']; simp)
      rw [hi', Int.toNat_natCast] at hd
      rw [split_hit hs hi', List.length_cons]
      have := ih _ (show (s.drop (i + sep.length)).length ≤ n by omega)
      omega
theorem join_le (xs : List (List UInt8)) (sep : List UInt8) (m : Nat) (h : ∀ x ∈ xs, x.length ≤ m) : (Lib.join xs sep).length ≤ xs.length * (m + sep.length) := by
  cases xs with
  | nil => simp [Lib.join_nil]
  | cons x r =>
    rw [Lib.join_length]
    have hl : ∀ l : List (List UInt8), (∀ x ∈ l, x.length ≤ m) → Lib.lens l ≤ l.length * m := by
      intro l
      induction l with
      | nil => intro _; simp [Lib.lens]
      | cons y l ih =>
        intro hy
        have h1 := ih (fun x hx => hy x (by simp [hx]))
        have h2 := hy y (by simp)
        unfold Lib.lens at h1 ⊢
        simp only [List.map_cons, List.sum_cons, List.length_cons, Nat.add_mul, Nat.one_mul]
        omega
    have h3 := hl (x :: r) h
    simp only [List.length_cons, Nat.add_mul, Nat.mul_add, Nat.one_mul] at h3 ⊢
    rw [Nat.mul_comm sep.length]
    omega
end Go.Proofs.YtjddbhhbmfcepaaDoor.P
