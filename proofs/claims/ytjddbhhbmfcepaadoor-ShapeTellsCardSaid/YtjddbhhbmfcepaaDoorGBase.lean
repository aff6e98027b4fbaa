/- What is kept of the world for the library's searches: the variable bytealg.MaxLen reads as an int. -/
import Derived.Test.YtjddbhhbmfcepaaDoorPx0
namespace Go.Proofs.YtjddbhhbmfcepaaDoor.P
open Go.RowKit
def Good (w : World) : Prop := ∃ m : Int, w.cell? ⟨0, 0, none⟩ = some (.int .i64 m)
theorem Good.below {w W : World} (h : Good w) (hb : Below w.heap.size w W) : Good W := by
  obtain ⟨m, hm⟩ := h
  exact ⟨m, (hb.cell (p := ⟨0, 0, none⟩) (World.block_lt_of_cell? w _ hm)).trans hm⟩
theorem addr_plain {w : World} {ad : Addr} {v : Value} (h : w.cell? ad = some v) : ad = ⟨ad.block, ad.off, none⟩ := by
  obtain ⟨b, o, s⟩ := ad
  unfold World.cell? at h
  dsimp only at h
  split at h
  · cases s with
    | none => rfl
    | some x => simp at h
  · cases h
theorem toList_data (s : ByteArray) : s.toList = s.data.toList := by
  obtain ⟨⟨l⟩⟩ := s
  exact ByteArray.toList_mk l
theorem data_inj {s t : ByteArray} (h : s.data.toList = t.data.toList) : s = t := by
  obtain ⟨⟨l⟩⟩ := s
  obtain ⟨⟨m⟩⟩ := t
  simp at h
  rw [h]
theorem toList_inj {s t : ByteArray} : s.toList = t.toList ↔ s = t :=
  ⟨fun h => data_inj (by rw [← toList_data, ← toList_data, h]), fun h => by rw [h]⟩
theorem size_data (s : ByteArray) : s.size = s.data.toList.length := by
  rw [Array.length_toList]; rfl
theorem toList_isEmpty (s : ByteArray) : s.toList.isEmpty = decide (s.size = 0) := by
  rw [toList_data, size_data]
  cases s.data.toList <;> simp
theorem toList_beq_nil (s : ByteArray) : (s.toList == ([] : List UInt8)) = decide (s.size = 0) := by
  rw [toList_data, size_data]
  cases s.data.toList <;> simp
theorem toList_eq_nil (s : ByteArray) : s.toList = ([] : List UInt8) ↔ s.size = 0 := by
  rw [toList_data, size_data]
  cases s.data.toList <;> simp
end Go.Proofs.YtjddbhhbmfcepaaDoor.P
